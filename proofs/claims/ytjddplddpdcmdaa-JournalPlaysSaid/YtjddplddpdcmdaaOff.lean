/- What a call that writes into some blocks leaves alone. -/
import Derived.Test.YtjddplddpdcmdaaMem
import Derived.Maps.AppendAt
import Derived.OwnWalk
namespace Go.Proofs.Ytjddplddpdcmdaa
open Go.RowKit
set_option linter.unusedVariables false
set_option linter.unusedSimpArgs false

/-- of the blocks that were there only those of S may have turned -/
structure Off (S : Nat → Prop) (w w' : World) : Prop where
  os : w'.os = w.os
  tape : w'.tape = w.tape
  output : w'.output = w.output
  size : w.heap.size ≤ w'.heap.size
  block : ∀ i, i < w.heap.size → ¬ S i → w'.heap[i]? = w.heap[i]?
section
variable {S T : Nat → Prop} {a b c w w' : World}
theorem Off.refl (S : Nat → Prop) (w : World) : Off S w w := ⟨rfl, rfl, rfl, Nat.le_refl _, fun _ _ _ => rfl⟩
theorem Off.mono (h : Off S a b) (hs : ∀ i, S i → T i ∨ a.heap.size ≤ i) : Off T a b :=
  ⟨h.os, h.tape, h.output, h.size, fun i hi hn => h.block i hi (fun hS => by rcases hs i hS with h1 | h1; exact hn h1; omega)⟩
/-- the second step may turn what S has, and what the first one made -/
theorem Off.trans (h : Off S a b) (k : Off T b c) (ht : ∀ i, T i → S i ∨ a.heap.size ≤ i) : Off S a c :=
  ⟨k.os.trans h.os, k.tape.trans h.tape, k.output.trans h.output, Nat.le_trans h.size k.size,
    fun i hi hn => (k.block i (Nat.lt_of_lt_of_le hi h.size) (fun hT => by rcases ht i hT with h1 | h1; exact hn h1; omega)).trans (h.block i hi hn)⟩
theorem Off.drew (h : Off S a b) : Off S a b.drew := ⟨h.os, h.tape, h.output, h.size, h.block⟩
theorem Off.drewN (h : Off S a b) (n : Nat) : Off S a (b.drewN n) := ⟨h.os, h.tape, h.output, h.size, h.block⟩
theorem Off.alloc (h : Off S a b) (o : Obj) : Off S a (b.alloc o) :=
  ⟨h.os, h.tape, h.output, Nat.le_trans h.size (by simp), fun i hi hn => (Below.heap_alloc b o i (Nat.lt_of_lt_of_le hi h.size)).trans (h.block i hi hn)⟩
theorem Off.setCell (h : Off S a b) {p : Addr} (hp : S p.block ∨ a.heap.size ≤ p.block) (u : Value) : Off S a (b.setCell p u) :=
  ⟨h.os, h.tape, h.output, by simpa [World.setCell] using h.size, fun i hi hn => (Below.heap_setCell b p u i (by
    rintro rfl
    rcases hp with hp | hp
    · exact hn hp
    · omega)).trans (h.block i hi hn)⟩
theorem Off.grown (h : Off S a b) {row : Option Nat} (hg : b.grownBy c row) (hr : ∀ k, row = some k → S k ∨ a.heap.size ≤ k) : Off S a c :=
  ⟨hg.os.trans h.os, hg.tape.trans h.tape, hg.output.trans h.output, Nat.le_trans h.size hg.size,
    fun i hi hn => (hg.block i (Nat.lt_of_lt_of_le hi h.size) (fun e => by rcases hr i e.symm with h1 | h1; exact hn h1; omega)).trans (h.block i hi hn)⟩
theorem Off.of_below {B : Nat} (h : Below B a b) (hS : ∀ i, B ≤ i → S i ∨ a.heap.size ≤ i) : Off S a b :=
  ⟨h.os, h.tape, h.output, h.size, fun i hi hn => h.block i (by
    rcases Nat.lt_or_ge i B with h1 | h1
    · exact h1
    · rcases hS i h1 with h2 | h2
      · exact absurd h2 hn
      · omega)⟩
theorem Off.below {B : Nat} (h : Off S a b) (hB : B ≤ a.heap.size) (hS : ∀ i, S i → B ≤ i) : Below B a b :=
  ⟨h.os, h.tape, h.output, h.size, fun i hi => h.block i (by omega) (fun hs => by have := hS i hs; omega)⟩
theorem Off.cell (h : Off S w w') {p : Addr} (hl : p.block < w.heap.size) (hp : ¬ S p.block) : w'.cell? p = w.cell? p := World.cell?_of_block (w := w) (h.block p.block hl hp)
theorem Off.free (h : Off S w w') {p : Addr} (hl : p.block < w.heap.size) (hp : ¬ S p.block) : w'.frozen? p = w.frozen? p := World.frozen?_of_block (w := w) (h.block p.block hl hp)
theorem Blk.off {g : Nat} {t : TypeId} {cs : List Value} (h : Blk w g t cs) (hb : Off S w w') (hg : ¬ S g) : Blk w' g t cs := (hb.block g h.lt hg).trans h
theorem own_off {base n : Nat} {e : TypeId} {sz : Nat} {v : Value} {xs : List Value} (h : w.ownsRow base e sz v n xs) (hb : Off S w w') (hv : ∀ k, v.ownBlock = some k → ¬ S k) : w'.ownsRow base e sz v n xs := by
  obtain ⟨hl, h⟩ := h
  refine ⟨hl, ?_⟩
  rcases h with h | ⟨g, cap, cur, rfl, h1, h2, h3, h4, h5, h6⟩
  · exact .inl h
  · exact .inr ⟨g, cap, cur, rfl, h1, (hb.block g (Array.getElem?_eq_some_iff.1 h2).1 (hv g rfl)).trans h2, h3, h4, h5, h6⟩
theorem own_lower {base base' n : Nat} {e : TypeId} {sz : Nat} {v : Value} {xs : List Value} (h : w.ownsRow base e sz v n xs) (hb : base' ≤ base) : w.ownsRow base' e sz v n xs := by
  obtain ⟨hl, h⟩ := h
  refine ⟨hl, ?_⟩
  rcases h with h | ⟨g, cap, cur, rfl, h1, h2, h3, h4, h5, h6⟩
  · exact .inl h
  · exact .inr ⟨g, cap, cur, rfl, by omega, h2, h3, h4, h5, h6⟩
end
/-- a row's block may be anything from B on, or the one that it was -/
def Fresh (w : World) (v v' : Value) : Prop := v'.ownBlock = v.ownBlock ∨ ∃ g, v'.ownBlock = some g ∧ w.heap.size ≤ g
theorem Fresh.refl (w : World) (v : Value) : Fresh w v v := .inl rfl
theorem Fresh.trans {w w' : World} {v v' v'' : Value} (h : Fresh w v v') (hs : w.heap.size ≤ w'.heap.size) (k : Fresh w' v' v'') : Fresh w v v'' := by
  rcases k with k | ⟨g, k1, k2⟩
  · rcases h with h | ⟨g, h1, h2⟩
    · exact .inl (k.trans h)
    · exact .inr ⟨g, k.trans h1, h2⟩
  · exact .inr ⟨g, k1, by omega⟩
theorem Fresh.off {w : World} {v v' : Value} (h : Fresh w v v') {i : Nat} (hi : v'.ownBlock = some i) : v.ownBlock = some i ∨ w.heap.size ≤ i := by
  rcases h with h | ⟨g, h1, h2⟩
  · exact .inl (h ▸ hi)
  · rw [hi] at h1; injection h1 with h1; exact .inr (by omega)

theorem addr_add (g o j : Nat) : (⟨g, o, none⟩ : Addr).add j = ⟨g, o + j, none⟩ := by
  unfold Addr.add
  by_cases h : j = 0 <;> simp [h]
/-- a slice type whose elements are of one cell -/
structure ElemOf (P : Program) (T E : TypeId) (z : Value) (bytes : Nat) : Prop where
  und : P.underlying T = some (.slice E)
  info : (P.info? E).map (fun i => (i.zero, i.size, i.bytes)) = some (some z, 1, bytes)
  one : z.cells = #[z]
theorem nil_append {P : Program} {T E : TypeId} {z : Value} {bytes : Nat} (he : ElemOf P T E z bytes) (w : World) (base n : Nat) (v : Value) (xs : List Value) (hown : w.ownsRow base E 1 v n xs) (ty : TypeId) (A : Option Addr) (c : Nat) :
    (Builtin.append_ #[T, T] ty #[v, .slice A 0 c]).run P w = .ok v w := by
  obtain ⟨i, hi, hz, hs, hb⟩ := info_parts he.info
  rcases hown.2 with ⟨rfl, rfl⟩ | ⟨g, cap, cur, rfl, hbg, hg, hnc, hcm, hcs, htake⟩
  · cases A <;> simp [Builtin.append_, run_underlying he.und, sizeOf, typeInfo, hi, Builtin.lenOf, Builtin.firstCells, loadCells, loadCellsFrom]
  · cases A <;> simp [Builtin.append_, run_underlying he.und, sizeOf, typeInfo, hi, Builtin.lenOf, Builtin.firstCells, loadCells, loadCellsFrom, hnc, storeCells]
/-- append(v, x...): the source may be nil -/
theorem run_extend {P : Program} {T E : TypeId} {z : Value} {bytes : Nat} (he : ElemOf P T E z bytes) (w : World) (ty : TypeId) (base n : Nat) (v : Value) (xs : List Value) (hown : w.ownsRow base E 1 v n xs)
    (B : Nat) (x : Value) (news : List Value) (hr : Reads w B x news) (h1 : ∀ u ∈ news, u.oneCell' = true)
    (h63 : n + news.length ≤ maxLen) (hbytes : (n + news.length) * bytes ≤ 140737488355328) (hbase : base ≤ w.heap.size) :
    ∃ v' w', (Builtin.append_ #[T, T] ty #[v, x]).run P w = .ok v' w' ∧ w'.ownsRow base E 1 v' (n + news.length) (xs ++ news) ∧ w.grownBy w' v.ownBlock ∧ Fresh w v v' := by
  obtain ⟨A, m, c, rfl, hl, hc, hm, hat⟩ := hr
  subst hl
  by_cases h0 : news.length = 0
  · have hn : news = [] := List.eq_nil_of_length_eq_zero h0
    subst hn
    exact ⟨v, w, nil_append he w base n v xs hown ty A c, by simpa using hown, World.grownBy.refl _ _, .inl rfl⟩
  · obtain ⟨g, o, rfl, hg, hx⟩ := hat.out (by omega)
    obtain ⟨i, hi, hz, hs, hb⟩ := info_parts he.info
    obtain ⟨v', w', hrun, h2, h3, _, h5⟩ := run_append_own_at (P := P) w base T ty E i z 1 bytes he.und hi hz hs hb (by rw [he.one]; rfl) (by decide) v n xs hown ⟨g, o, none⟩ news.length c news (by omega)
      (fun j u hu => by rw [addr_add]; exact hx j u hu) h1 h63 hbytes hbase
    refine ⟨v', w', hrun, h2, h3, ?_⟩
    rcases h5 with h5 | h5
    · exact .inl h5
    · exact .inr ⟨_, h5, Nat.le_refl _⟩
theorem own_form {w : World} {base n : Nat} {e : TypeId} {sz : Nat} {v : Value} {xs : List Value} (h : w.ownsRow base e sz v n xs) : ∃ A c, v = .slice A n c := by
  rcases h.2 with ⟨rfl, rfl⟩ | ⟨g, cap, cur, rfl, _⟩
  · exact ⟨_, _, rfl⟩
  · exact ⟨_, _, rfl⟩
theorem wp_extend {P : Program} {T E : TypeId} {z : Value} {bytes : Nat} (he : ElemOf P T E z bytes) (w : World) {o : Oper} {a : Act} {K : Act → World → Prop} {Q : Exit → Act → World → Prop} (s x : Operand)
    (ho : o.op = .call { callee := .builtin .append, args := #[s, x], argTypes := #[T, T] })
    (base n : Nat) (v : Value) (xs : List Value) (hs : a.eval s = v) (hown : w.ownsRow base E 1 v n xs)
    (B : Nat) (xv : Value) (news : List Value) (hx : a.eval x = xv) (hr : Reads w B xv news) (h1 : ∀ u ∈ news, u.oneCell' = true)
    (h63 : n + news.length ≤ maxLen) (hbytes : (n + news.length) * bytes ≤ 140737488355328) (hbase : base ≤ w.heap.size)
    (h : ∀ A c w', w'.ownsRow base E 1 (.slice A (n + news.length) c) (n + news.length) (xs ++ news) → w.grownBy w' v.ownBlock → Fresh w v (.slice A (n + news.length) c) → K (a.put o.dst (.slice A (n + news.length) c)) w') : o.wp P a w K Q := by
  obtain ⟨v', w', hrun, h2, h3, h4⟩ := run_extend he w o.type base n v xs hown B xv news hr h1 h63 hbytes hbase
  unfold Oper.wp execOp
  simp only [ho, resolve, invoke, builtin, Sem.run_bind, Sem.run_pure, Result.andThen_ok, List.map_toArray, List.map_cons, List.map_nil, hs, hx, hrun]
  obtain ⟨A, c, rfl⟩ := own_form h2
  exact h A c w' h2 h3 h4
theorem wpList_extend {P : Program} {T E : TypeId} {z : Value} {bytes : Nat} (he : ElemOf P T E z bytes) (w : World) {ops : Array Oper} {rest : List Oper} {o : Oper} {a : Act} {Q : Exit → Act → World → Prop} (hgd : o.guard = none) (s x : Operand)
    (ho : o.op = .call { callee := .builtin .append, args := #[s, x], argTypes := #[T, T] })
    (base n : Nat) (v : Value) (xs : List Value) (hs : a.eval s = v) (hown : w.ownsRow base E 1 v n xs)
    (B : Nat) (xv : Value) (news : List Value) (hx : a.eval x = xv) (hr : Reads w B xv news) (h1 : ∀ u ∈ news, u.oneCell' = true)
    (h63 : n + news.length ≤ maxLen) (hbytes : (n + news.length) * bytes ≤ 140737488355328) (hbase : base ≤ w.heap.size)
    (h : ∀ A c w', w'.ownsRow base E 1 (.slice A (n + news.length) c) (n + news.length) (xs ++ news) → w.grownBy w' v.ownBlock → Fresh w v (.slice A (n + news.length) c) → wpList P ops Q rest (a.put o.dst (.slice A (n + news.length) c)) w') : wpList P ops Q (o :: rest) a w :=
  wpList_plain hgd fun K hK => wp_extend he w s x ho base n v xs hs hown B xv news hx hr h1 h63 hbytes hbase fun A c w' h2 h3 h4 => hK _ _ (h A c w' h2 h3 h4)
/-- append(v, nothing...) -/
theorem wpList_nothing {P : Program} {T E : TypeId} {z : Value} {bytes : Nat} (he : ElemOf P T E z bytes) (w : World) {ops : Array Oper} {rest : List Oper} {o : Oper} {a : Act} {Q : Exit → Act → World → Prop} (hgd : o.guard = none) (s x : Operand)
    (ho : o.op = .call { callee := .builtin .append, args := #[s, x], argTypes := #[T, T] })
    (base n : Nat) (v : Value) (xs : List Value) (hs : a.eval s = v) (hown : w.ownsRow base E 1 v n xs) (A : Option Addr) (c : Nat) (hx : a.eval x = .slice A 0 c)
    (h : wpList P ops Q rest (a.put o.dst v) w) : wpList P ops Q (o :: rest) a w := by
  refine wpList_plain hgd fun K hK => ?_
  unfold Oper.wp execOp
  simp only [ho, resolve, invoke, builtin, Sem.run_bind, Sem.run_pure, Result.andThen_ok, List.map_toArray, List.map_cons, List.map_nil, hs, hx, nil_append he w base n v xs hown]
  exact hK _ _ h
/-- at a step of a region that draws -/
theorem step_extend {P : Program} {T E : TypeId} {z : Value} {bytes : Nat} (he : ElemOf P T E z bytes) (w : World) {ops : Array Oper} {o : Oper} {a : Act} {K : Act → World → Prop} {Q : Exit → Act → World → Prop} {F : Prop} (hgd : o.guard = none) (s x : Operand)
    (ho : o.op = .call { callee := .builtin .append, args := #[s, x], argTypes := #[T, T] })
    (base n : Nat) (v : Value) (xs : List Value) (hs : a.eval s = v) (hown : w.ownsRow base E 1 v n xs)
    (B : Nat) (xv : Value) (news : List Value) (hx : a.eval x = xv) (hr : Reads w B xv news) (h1 : ∀ u ∈ news, u.oneCell' = true)
    (h63 : n + news.length ≤ maxLen) (hbytes : (n + news.length) * bytes ≤ 140737488355328) (hbase : base ≤ w.heap.size)
    (h : ∀ A c w', w'.ownsRow base E 1 (.slice A (n + news.length) c) (n + news.length) (xs ++ news) → w.grownBy w' v.ownBlock → Fresh w v (.slice A (n + news.length) c) → K (a.put o.dst (.slice A (n + news.length) c)) w') :
    if Region.wanted o (yielded ops a.tmps) = true then Oper.wp P o a w K Q else F := by
  have hw : Region.wanted o (yielded ops a.tmps) = true := by simp [Region.wanted, hgd]
  rw [if_pos hw]
  exact wp_extend he w s x ho base n v xs hs hown B xv news hx hr h1 h63 hbytes hbase h
/-- a literal of one element -/
theorem Reads.one_ (w : World) (e : TypeId) (u : Value) : Reads (w.alloc (.cells #[u] e)) (w.heap.size + 1) (.slice (some ⟨w.heap.size, 0, none⟩) 1 1) [u] :=
  ⟨_, _, _, rfl, rfl, by omega, by unfold maxLen; omega, fun _ => ⟨w.heap.size, 0, rfl, by omega, fun j v hv => by
    have hb := Blk.fresh w e [u]
    rw [Nat.zero_add]
    have := hb.cell j
    rw [hv] at this
    exact this⟩⟩
/-- a new block that holds just these cells reads as them -/
theorem Blk.reads {w : World} {g n : Nat} {t : TypeId} {cs : List Value} (h : Blk w g t cs) (hn : cs.length = n) (hm : n ≤ maxLen) : Reads w w.heap.size (.slice (some ⟨g, 0, none⟩) n n) cs :=
  ⟨_, _, _, rfl, hn, Nat.le_refl _, hm, fun _ => ⟨g, 0, rfl, h.lt, fun j u hu => by rw [Nat.zero_add, h.cell]; exact hu⟩⟩
end Go.Proofs.Ytjddplddpdcmdaa

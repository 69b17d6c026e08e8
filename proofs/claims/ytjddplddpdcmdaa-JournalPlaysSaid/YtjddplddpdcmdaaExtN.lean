/- Slices of elements of any size: reads, owned rows, append. -/
import Derived.Test.YtjddplddpdcmdaaOpen
import Derived.Test.YtjddplddpdcmdaaOff
namespace Go.Proofs.Ytjddplddpdcmdaa
open Go.RowKit
set_option linter.unusedVariables false
set_option linter.unusedSimpArgs false

section
variable {w w' : World} {B B' : Nat} {v : Value} {xs : List Value} {sz : Nat}
theorem ReadsN.of_one (h : Reads w B v xs) : ReadsN 1 w B v xs := by
  obtain ⟨A, n, c, e, hl, hc, hm, ha⟩ := h
  exact ⟨A, n, c, e, by omega, hc, hm, ha⟩
theorem ReadsN.more (h : ReadsN sz w B v xs) (hB : B ≤ B') : ReadsN sz w B' v xs := by
  obtain ⟨A, n, c, e, hl, hc, hm, ha⟩ := h
  refine ⟨A, n, c, e, hl, hc, hm, fun hn => ?_⟩
  obtain ⟨g, o, hA, hg, hx⟩ := ha.out hn
  exact ⟨g, o, hA, by omega, hx⟩
theorem ReadsN.alloc (h : ReadsN sz w B v xs) (hB : B ≤ w.heap.size) (o : Obj) : ReadsN sz (w.alloc o) B v xs := h.keep fun p hp => World.cell?_of_block (Below.heap_alloc w o p.block (by omega))
theorem ReadsN.drew (h : ReadsN sz w B v xs) : ReadsN sz w.drew B v xs := h
theorem ReadsN.drewN (h : ReadsN sz w B v xs) (k : Nat) : ReadsN sz (w.drewN k) B v xs := h
theorem ReadsN.nil_ (w : World) (B : Nat) : ReadsN sz w B (.slice none 0 0) [] := ⟨none, 0, 0, rfl, by simp, by omega, by unfold maxLen; omega, fun h => absurd h (by omega)⟩
theorem ReadsN.of_own {base : Nat} {e : TypeId} {n : Nat} (hs : 0 < sz) (h : w.ownsRow base e sz v n xs) : ReadsN sz w w.heap.size v xs := by
  obtain ⟨hl, h⟩ := h
  rcases h with ⟨rfl, rfl⟩ | ⟨g, cap, cur, rfl, hb, hh, hn, hm, hs2, hx⟩
  · have : xs = [] := List.eq_nil_of_length_eq_zero (by simpa using hl)
    subst this
    exact ReadsN.nil_ _ _
  · refine ⟨_, _, _, rfl, by omega, hn, hm, fun h0 => ⟨g, 0, rfl, (Array.getElem?_eq_some_iff.1 hh).1, fun j u hu => ?_⟩⟩
    simp only [World.cell?, hh]
    rw [← hx] at hu
    rw [List.getElem?_take] at hu
    split at hu
    · simpa using hu
    · cases hu
theorem Blk.readsN {g n : Nat} {t : TypeId} (h : Blk w g t xs) (hn : xs.length = n * sz) (hm : n ≤ maxLen) : ReadsN sz w w.heap.size (.slice (some ⟨g, 0, none⟩) n n) xs :=
  ⟨_, _, _, rfl, hn, Nat.le_refl _, hm, fun _ => ⟨g, 0, rfl, h.lt, fun j u hu => by rw [Nat.zero_add, h.cell]; exact hu⟩⟩
/-- the front part of what a slice reads -/
theorem ReadsN.take {A : Option Addr} {n c k : Nat} (h : ReadsN sz w B (.slice A n c) xs) (hk : k ≤ n) : ReadsN sz w B (.slice A k c) (xs.take (k * sz)) := by
  obtain ⟨A', n', c', e, hl, hc, hm, ha⟩ := h
  injection e with e1 e2 e3
  subst e1 e2 e3
  refine ⟨A, k, c, rfl, ?_, by omega, hm, fun hn => ?_⟩
  · rw [List.length_take, hl]
    have := Nat.mul_le_mul_right sz hk
    omega
  · obtain ⟨g, o, hA, hg, hx⟩ := ha.out (by omega)
    refine ⟨g, o, hA, hg, fun j u hu => hx j u ?_⟩
    rw [List.getElem?_take] at hu
    split at hu
    · exact hu
    · cases hu
/-- an owned row, not empty: its block, known whole -/
theorem own_blkN {base : Nat} {e : TypeId} {n : Nat} (h : w.ownsRow base e sz v n xs) (hn : 0 < n) :
    ∃ g cap rest, v = .slice (some ⟨g, 0, none⟩) n cap ∧ base ≤ g ∧ g < w.heap.size ∧ n ≤ cap ∧ cap ≤ maxLen ∧ (xs ++ rest).length = cap * sz ∧ xs.length = n * sz ∧ Blk w g e (xs ++ rest) := by
  obtain ⟨hl, h⟩ := h
  rcases h with ⟨rfl, rfl⟩ | ⟨g, cap, cur, rfl, hb, hh, hc, hm, hs, hx⟩
  · omega
  · have he : xs ++ cur.toList.drop (n * sz) = cur.toList := by rw [← hx, List.take_append_drop]
    refine ⟨g, cap, cur.toList.drop (n * sz), rfl, hb, (Array.getElem?_eq_some_iff.1 hh).1, hc, hm, ?_, hl, ?_⟩
    · rw [he]; simpa using hs
    · unfold Blk
      rw [he, hh]
end

/-- a slice type whose elements have 'sz' cells -/
structure ElemN (P : Program) (T E : TypeId) (sz : Nat) (z : Value) (bytes : Nat) : Prop where
  und : P.underlying T = some (.slice E)
  info : (P.info? E).map (fun i => (i.zero, i.size, i.bytes)) = some (some z, sz, bytes)
  zs : z.cells.size = sz
  pos : 0 < sz
section
variable {P : Program} {T E : TypeId} {z : Value} {bytes sz : Nat}
theorem nilN_append (he : ElemN P T E sz z bytes) (w : World) (base n : Nat) (v : Value) (xs : List Value) (hown : w.ownsRow base E sz v n xs) (ty : TypeId) (A : Option Addr) (c : Nat) :
    (Builtin.append_ #[T, T] ty #[v, .slice A 0 c]).run P w = .ok v w := by
  obtain ⟨i, hi, hz, hs, hb⟩ := info_parts he.info
  rcases hown.2 with ⟨rfl, rfl⟩ | ⟨g, cap, cur, rfl, hbg, hg, hnc, hcm, hcs, htake⟩
  · cases A <;> simp [Builtin.append_, run_underlying he.und, sizeOf, typeInfo, hi, Builtin.lenOf, Builtin.firstCells, loadCells, loadCellsFrom]
  · cases A <;> simp [Builtin.append_, run_underlying he.und, sizeOf, typeInfo, hi, Builtin.lenOf, Builtin.firstCells, loadCells, loadCellsFrom, hnc, storeCells]
/-- append(v, x...): the source may be nil -/
theorem run_extendN (he : ElemN P T E sz z bytes) (w : World) (ty : TypeId) (base n : Nat) (v : Value) (xs : List Value) (hown : w.ownsRow base E sz v n xs)
    (B m : Nat) (x : Value) (news : List Value) (hr : ReadsN sz w B x news) (hm : news.length = m * sz) (h1 : ∀ u ∈ news, u.oneCell' = true)
    (h63 : n + m ≤ maxLen) (hbytes : (n + m) * bytes ≤ 140737488355328) (hbase : base ≤ w.heap.size) :
    ∃ v' w', (Builtin.append_ #[T, T] ty #[v, x]).run P w = .ok v' w' ∧ w'.ownsRow base E sz v' (n + m) (xs ++ news) ∧ w.grownBy w' v.ownBlock ∧ Fresh w v v' := by
  obtain ⟨A, m', c, rfl, hl, hc, hmc, hat⟩ := hr
  have hmm : m' = m := Nat.eq_of_mul_eq_mul_right he.pos (by omega)
  subst hmm
  by_cases h0 : m' = 0
  · subst h0
    have hn : news = [] := List.eq_nil_of_length_eq_zero (by simpa using hl)
    subst hn
    exact ⟨v, w, nilN_append he w base n v xs hown ty A c, by simpa using hown, World.grownBy.refl _ _, .inl rfl⟩
  · obtain ⟨g, o, rfl, hg, hx⟩ := hat.out (by omega)
    obtain ⟨i, hi, hz, hs, hb⟩ := info_parts he.info
    obtain ⟨v', w', hrun, h2, h3, _, h5⟩ := run_append_own_at (P := P) w base T ty E i z sz bytes he.und hi hz hs hb he.zs he.pos v n xs hown ⟨g, o, none⟩ m' c news hl
      (fun j u hu => by rw [addr_add]; exact hx j u hu) h1 h63 hbytes hbase
    refine ⟨v', w', hrun, h2, h3, ?_⟩
    rcases h5 with h5 | h5
    · exact .inl h5
    · exact .inr ⟨_, h5, Nat.le_refl _⟩
theorem wp_extendN (he : ElemN P T E sz z bytes) (w : World) {o : Oper} {a : Act} {K : Act → World → Prop} {Q : Exit → Act → World → Prop} (s x : Operand)
    (ho : o.op = .call { callee := .builtin .append, args := #[s, x], argTypes := #[T, T] })
    (base n : Nat) (v : Value) (xs : List Value) (hs : a.eval s = v) (hown : w.ownsRow base E sz v n xs)
    (B m : Nat) (xv : Value) (news : List Value) (hx : a.eval x = xv) (hr : ReadsN sz w B xv news) (hm : news.length = m * sz) (h1 : ∀ u ∈ news, u.oneCell' = true)
    (h63 : n + m ≤ maxLen) (hbytes : (n + m) * bytes ≤ 140737488355328) (hbase : base ≤ w.heap.size)
    (h : ∀ A c w', w'.ownsRow base E sz (.slice A (n + m) c) (n + m) (xs ++ news) → w.grownBy w' v.ownBlock → Fresh w v (.slice A (n + m) c) → K (a.put o.dst (.slice A (n + m) c)) w') : o.wp P a w K Q := by
  obtain ⟨v', w', hrun, h2, h3, h4⟩ := run_extendN he w o.type base n v xs hown B m xv news hr hm h1 h63 hbytes hbase
  unfold Oper.wp execOp
  simp only [ho, resolve, invoke, builtin, Sem.run_bind, Sem.run_pure, Result.andThen_ok, List.map_toArray, List.map_cons, List.map_nil, hs, hx, hrun]
  obtain ⟨A, c, rfl⟩ := own_form h2
  exact h A c w' h2 h3 h4
theorem wpList_extendN (he : ElemN P T E sz z bytes) (w : World) {ops : Array Oper} {rest : List Oper} {o : Oper} {a : Act} {Q : Exit → Act → World → Prop} (hgd : o.guard = none) (s x : Operand)
    (ho : o.op = .call { callee := .builtin .append, args := #[s, x], argTypes := #[T, T] })
    (base n : Nat) (v : Value) (xs : List Value) (hs : a.eval s = v) (hown : w.ownsRow base E sz v n xs)
    (B m : Nat) (xv : Value) (news : List Value) (hx : a.eval x = xv) (hr : ReadsN sz w B xv news) (hm : news.length = m * sz) (h1 : ∀ u ∈ news, u.oneCell' = true)
    (h63 : n + m ≤ maxLen) (hbytes : (n + m) * bytes ≤ 140737488355328) (hbase : base ≤ w.heap.size)
    (h : ∀ A c w', w'.ownsRow base E sz (.slice A (n + m) c) (n + m) (xs ++ news) → w.grownBy w' v.ownBlock → Fresh w v (.slice A (n + m) c) → wpList P ops Q rest (a.put o.dst (.slice A (n + m) c)) w') : wpList P ops Q (o :: rest) a w :=
  wpList_plain hgd fun K hK => wp_extendN he w s x ho base n v xs hs hown B m xv news hx hr hm h1 h63 hbytes hbase fun A c w' h2 h3 h4 => hK _ _ (h A c w' h2 h3 h4)
/-- at a step of a region that draws -/
theorem step_extendN (he : ElemN P T E sz z bytes) (w : World) {ops : Array Oper} {o : Oper} {a : Act} {K : Act → World → Prop} {Q : Exit → Act → World → Prop} {F : Prop} (hgd : o.guard = none) (s x : Operand)
    (ho : o.op = .call { callee := .builtin .append, args := #[s, x], argTypes := #[T, T] })
    (base n : Nat) (v : Value) (xs : List Value) (hs : a.eval s = v) (hown : w.ownsRow base E sz v n xs)
    (B m : Nat) (xv : Value) (news : List Value) (hx : a.eval x = xv) (hr : ReadsN sz w B xv news) (hm : news.length = m * sz) (h1 : ∀ u ∈ news, u.oneCell' = true)
    (h63 : n + m ≤ maxLen) (hbytes : (n + m) * bytes ≤ 140737488355328) (hbase : base ≤ w.heap.size)
    (h : ∀ A c w', w'.ownsRow base E sz (.slice A (n + m) c) (n + m) (xs ++ news) → w.grownBy w' v.ownBlock → Fresh w v (.slice A (n + m) c) → K (a.put o.dst (.slice A (n + m) c)) w') :
    if Region.wanted o (yielded ops a.tmps) = true then Oper.wp P o a w K Q else F := by
  have hw : Region.wanted o (yielded ops a.tmps) = true := by simp [Region.wanted, hgd]
  rw [if_pos hw]
  exact wp_extendN he w s x ho base n v xs hs hown B m xv news hx hr hm h1 h63 hbytes hbase h
end
end Go.Proofs.Ytjddplddpdcmdaa

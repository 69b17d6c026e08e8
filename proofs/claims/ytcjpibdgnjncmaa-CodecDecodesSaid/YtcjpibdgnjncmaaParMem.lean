/- Params in memory: rows of tensors and what moves them; a tensor of noughts. -/
import Derived.Test.YtcjpibdgnjncmaaTensor
import Derived.Test.YtcjpibdgnjncmaaExtN
namespace Go.Proofs.Ytcjpibdgnjncmaa
open Go.RowKit
set_option linter.unusedVariables false
set_option linter.unusedSimpArgs false

/-- what a param is -/
structure ParC where
  wd : List Int
  we : Int
  wx : List Int
  m : List Int
  bd : List Int
  be : Int
  bx : List Int
def lenP (p : ParC) : Nat := p.wd.length + p.wx.length + p.m.length + p.bd.length + p.bx.length
def zeroC : ParC := ⟨[], 0, [], [], [], 0, []⟩
/-- a param: the values of its slices, and what it is -/
structure ParV where
  wd : Value
  wx : Value
  mv : Value
  bd : Value
  bx : Value
  c : ParC
def ParV.cells (p : ParV) : List Value := [p.wd, .int .i64 p.c.we, p.wx, p.mv, p.bd, .int .i64 p.c.be, p.bx]
structure ParV.Ok (w : World) (B : Nat) (p : ParV) : Prop where
  t : IsT w B p.wd p.wx p.c.wd p.c.we p.c.wx
  m : Reads w B p.mv (ints .i32 p.c.m)
  mb : Hid (∀ x ∈ p.c.m, -2147483648 ≤ x ∧ x ≤ 2147483647)
  b : IsT w B p.bd p.bx p.c.bd p.c.be p.c.bx
  ln : lenP p.c ≤ 4503599627370496
/-- a row of params -/
structure ParsOf (w : World) (B : Nat) (v : Value) (ps : List ParV) : Prop where
  rd : ReadsN 7 w B v (ps.flatMap ParV.cells)
  ok : Hid (∀ p ∈ ps, p.Ok w B)
  form : ∃ A c, v = .slice A ps.length c
  len : ps.length ≤ 140737488351232
section
variable {w w' : World} {B B' : Nat} {v : Value} {ps : List ParV}
theorem ParV.Ok.below {p : ParV} (h : p.Ok w B) (hb : Below B w w') : p.Ok w' B := ⟨h.t.below hb, h.m.below hb, h.mb, h.b.below hb, h.ln⟩
theorem ParV.Ok.more {p : ParV} (h : p.Ok w B) (hB : B ≤ B') : p.Ok w B' := ⟨h.t.more hB, h.m.more hB, h.mb, h.b.more hB, h.ln⟩
theorem ParsOf.below (h : ParsOf w B v ps) (hb : Below B w w') : ParsOf w' B v ps := ⟨h.rd.below hb, Lib.hid (fun e he => (h.ok.out e he).below hb), h.form, h.len⟩
theorem ParsOf.drewN (h : ParsOf w B v ps) (n : Nat) : ParsOf (w.drewN n) B v ps := h.below (below_drewN (Below.refl _ _) n)
theorem ParsOf.more (h : ParsOf w B v ps) (hB : B ≤ B') : ParsOf w B' v ps := ⟨h.rd.more hB, Lib.hid (fun e he => (h.ok.out e he).more hB), h.form, h.len⟩
theorem ParsOf.nil_ (w : World) (B : Nat) : ParsOf w B (.slice none 0 0) [] := ⟨ReadsN.nil_ _ _, Lib.hid (by simp), ⟨_, _, rfl⟩, by simp⟩
theorem ParsOf.at_ (h : ParsOf w B v ps) {k : Nat} (hk : k < ps.length) :
    ∃ g o c p, v = .slice (some ⟨g, o, none⟩) ps.length c ∧ ps[k]? = some p ∧ p.Ok w B ∧ g < B ∧
      (w.cell? ⟨g, o + k * 7, none⟩ = some p.wd ∧ w.cell? ⟨g, o + k * 7 + 1, none⟩ = some (.int .i64 p.c.we) ∧ w.cell? ⟨g, o + k * 7 + 2, none⟩ = some p.wx ∧ w.cell? ⟨g, o + k * 7 + 3, none⟩ = some p.mv ∧
       w.cell? ⟨g, o + k * 7 + 4, none⟩ = some p.bd ∧ w.cell? ⟨g, o + k * 7 + 5, none⟩ = some (.int .i64 p.c.be) ∧ w.cell? ⟨g, o + k * 7 + 6, none⟩ = some p.bx) := by
  obtain ⟨A, n, c, e, hl, hc, hm, ha⟩ := h.rd
  obtain ⟨A', c', e'⟩ := h.form
  rw [e] at e'
  injection e' with e1 e2 e3
  subst e1 e2 e3
  obtain ⟨g, o, rfl, hg, hx⟩ := ha.out (by omega)
  have hlk : ps[k]? = some ps[k] := List.getElem?_eq_getElem hk
  have hfl : ∀ j, j < 7 → (ps.flatMap ParV.cells)[k * 7 + j]? = (ParV.cells ps[k])[j]? := fun j hj => flat_at ParV.cells 7 ps (fun p _ => rfl) k j _ hlk hj
  have q := fun j (hj : j < 7) u (hu : (ParV.cells ps[k])[j]? = some u) => hx (k * 7 + j) u ((hfl j hj).trans hu)
  exact ⟨g, o, c, ps[k], e, hlk, h.ok.out _ (List.getElem_mem hk), hg, q 0 (by omega) _ rfl, q 1 (by omega) _ rfl, q 2 (by omega) _ rfl, q 3 (by omega) _ rfl, q 4 (by omega) _ rfl, q 5 (by omega) _ rfl, q 6 (by omega) _ rfl⟩
end
theorem IsT.form {w : World} {B : Nat} {dv xv : Value} {d : List Int} {e : Int} {x : List Int} (h : IsT w B dv xv d e x) : ∃ A c A' c', dv = .slice A d.length c ∧ xv = .slice A' x.length c' := by
  obtain ⟨A, c, e1, _⟩ := h.d.form
  obtain ⟨A', c', e2, _⟩ := h.x.form
  rw [length_ints] at e1 e2
  exact ⟨A, c, A', c', e1, e2⟩
theorem sizeI_len {d : List Int} (h : 0 < sizeI d) : 1 ≤ d.length ∧ d.length ≤ 4 := by
  unfold sizeI at h
  split at h
  · omega
  · omega
theorem sizeI_one {n : Int} (h1 : 1 ≤ n) (h2 : n ≤ 4096) : sizeI [n] = n := by
  unfold sizeI
  rw [if_neg (by simp)]
  simp only [sizeGo]
  rw [if_neg (by omega)]
  omega
theorem Reads.of_own_lt {w : World} {base B n : Nat} {e : TypeId} {v : Value} {xs : List Value} (h : w.ownsRow base e 1 v n xs) (hb : ∀ k, v.ownBlock = some k → k < B) : Reads w B v xs := by
  obtain ⟨A, n, c, e, hl, hc, hm, ha⟩ := Reads.of_own h
  refine ⟨A, n, c, e, hl, hc, hm, fun hn => ?_⟩
  obtain ⟨g, o, hA, hg, hx⟩ := ha.out hn
  exact ⟨g, o, hA, hb g (by rw [e, hA]; rfl), hx⟩
/-- a row in blocks of S -/
def RowS (S : Nat → Prop) (w : World) (v : Value) (xs : List Value) : Prop :=
  ∃ A n c, v = .slice A n c ∧ xs.length = n ∧ n ≤ c ∧ c ≤ maxLen ∧ Hid (0 < n → ∃ g o, A = some ⟨g, o, none⟩ ∧ S g ∧ g < w.heap.size ∧ ∀ j u, xs[j]? = some u → w.cell? ⟨g, o + j, none⟩ = some u)
section
variable {S T S' : Nat → Prop} {w w' : World} {v : Value} {xs : List Value}
theorem RowS.reads (h : RowS S w v xs) : Reads w w.heap.size v xs := by
  obtain ⟨A, n, c, e, hl, hc, hm, ha⟩ := h
  refine ⟨A, n, c, e, hl, hc, hm, fun hn => ?_⟩
  obtain ⟨g, o, hA, _, hg, hx⟩ := ha.out hn
  exact ⟨g, o, hA, hg, hx⟩
theorem RowS.off (h : RowS S w v xs) (ho : Off T w w') (hT : ∀ g, S g → g < w.heap.size → ¬ T g) (hS : ∀ g, S g → g < w.heap.size → S' g) : RowS S' w' v xs := by
  obtain ⟨A, n, c, e, hl, hc, hm, ha⟩ := h
  refine ⟨A, n, c, e, hl, hc, hm, fun hn => ?_⟩
  obtain ⟨g, o, hA, hs, hg, hx⟩ := ha.out hn
  exact ⟨g, o, hA, hS g hs hg, by have := ho.size; omega, fun j u hu => (ho.cell (p := ⟨g, o + j, none⟩) hg (hT g hs hg)).trans (hx j u hu)⟩
theorem RowS.form (h : RowS S w v xs) : ∃ A c, v = .slice A xs.length c := by
  obtain ⟨A, n, c, e, hl, _⟩ := h
  subst hl
  exact ⟨A, c, e⟩
theorem RowS.nil_ (S : Nat → Prop) (w : World) : RowS S w (.slice none 0 0) [] := ⟨none, 0, 0, rfl, rfl, Nat.le_refl _, by unfold maxLen; omega, fun h => absurd h (by omega)⟩
theorem RowS.of_own {base n : Nat} {e : TypeId} (h : w.ownsRow base e 1 v n xs) (hS : ∀ k, v.ownBlock = some k → S k) : RowS S w v xs := by
  obtain ⟨A, n, c, e, hl, hc, hm, ha⟩ := Reads.of_own h
  refine ⟨A, n, c, e, hl, hc, hm, fun hn => ?_⟩
  obtain ⟨g, o, hA, hg, hx⟩ := ha.out hn
  exact ⟨g, o, hA, hS g (by rw [e, hA]; rfl), hg, hx⟩
theorem RowS.of_blk {g n : Nat} {t : TypeId} (h : Blk w g t xs) (hn : xs.length = n) (hm : n ≤ maxLen) (hS : S g) : RowS S w (.slice (some ⟨g, 0, none⟩) n n) xs :=
  ⟨_, _, _, rfl, hn, Nat.le_refl _, hm, fun _ => ⟨g, 0, rfl, hS, h.lt, fun j u hu => by rw [Nat.zero_add, h.cell]; exact hu⟩⟩
theorem RowS.of_reads {B : Nat} (h : Reads w B v xs) (hB : B ≤ w.heap.size) (hS : ∀ g, g < B → S g) : RowS S w v xs := by
  obtain ⟨A, n, c, e, hl, hc, hm, ha⟩ := h
  refine ⟨A, n, c, e, hl, hc, hm, fun hn => ?_⟩
  obtain ⟨g, o, hA, hg, hx⟩ := ha.out hn
  exact ⟨g, o, hA, hS g hg, by omega, hx⟩
end
/-- the numbers fit their types -/
structure ParC.Num (c : ParC) : Prop where
  db : Hid (∀ x ∈ c.wd, -9223372036854775808 ≤ x ∧ x ≤ 9223372036854775807)
  xb : Hid (∀ x ∈ c.wx, -128 ≤ x ∧ x ≤ 127)
  e0 : -9223372036854775808 ≤ c.we
  e1 : c.we ≤ 9223372036854775807
  mb : Hid (∀ x ∈ c.m, -2147483648 ≤ x ∧ x ≤ 2147483647)
  bdb : Hid (∀ x ∈ c.bd, -9223372036854775808 ≤ x ∧ x ≤ 9223372036854775807)
  bxb : Hid (∀ x ∈ c.bx, -128 ≤ x ∧ x ≤ 127)
  f0 : -9223372036854775808 ≤ c.be
  f1 : c.be ≤ 9223372036854775807
  ln : lenP c ≤ 4503599627370496
theorem zeroC_num : zeroC.Num := ⟨Lib.hid (by simp [zeroC]), Lib.hid (by simp [zeroC]), by simp [zeroC], by simp [zeroC], Lib.hid (by simp [zeroC]), Lib.hid (by simp [zeroC]), Lib.hid (by simp [zeroC]), by simp [zeroC], by simp [zeroC], by simp [zeroC, lenP]⟩
/-- a param whose rows lie in blocks of S -/
structure ParV.In (S : Nat → Prop) (w : World) (p : ParV) : Prop where
  wd : RowS S w p.wd (ints .i64 p.c.wd)
  wx : RowS S w p.wx (ints .i8 p.c.wx)
  m : RowS S w p.mv (ints .i32 p.c.m)
  bd : RowS S w p.bd (ints .i64 p.c.bd)
  bx : RowS S w p.bx (ints .i8 p.c.bx)
  num : p.c.Num
theorem ParV.In.ok {S : Nat → Prop} {w : World} {p : ParV} (h : p.In S w) : p.Ok w w.heap.size :=
  ⟨⟨h.wd.reads, h.wx.reads, h.num.db, h.num.xb, h.num.e0, h.num.e1⟩, h.m.reads, h.num.mb, ⟨h.bd.reads, h.bx.reads, h.num.bdb, h.num.bxb, h.num.f0, h.num.f1⟩, h.num.ln⟩
theorem ParV.In.off {S T S' : Nat → Prop} {w w' : World} {p : ParV} (h : p.In S w) (ho : Off T w w') (hT : ∀ g, S g → g < w.heap.size → ¬ T g) (hS : ∀ g, S g → g < w.heap.size → S' g) : p.In S' w' :=
  ⟨h.wd.off ho hT hS, h.wx.off ho hT hS, h.m.off ho hT hS, h.bd.off ho hT hS, h.bx.off ho hT hS, h.num⟩
def zeroV : ParV := ⟨.slice none 0 0, .slice none 0 0, .slice none 0 0, .slice none 0 0, .slice none 0 0, zeroC⟩
theorem zeroV_in (S : Nat → Prop) (w : World) : zeroV.In S w := ⟨RowS.nil_ _ _, RowS.nil_ _ _, RowS.nil_ _ _, RowS.nil_ _ _, RowS.nil_ _ _, zeroC_num⟩
/-- params as they are put together -/
structure ParI (w : World) (u : Value) (ps : List ParV) (wr : World) : Prop where
  own : wr.ownsRow w.heap.size 43 7 u ps.length (ps.flatMap ParV.cells)
  ins : Hid (∀ p ∈ ps, p.In (fun g => u.ownBlock ≠ some g) wr)
  bel : Below w.heap.size w wr
section
variable {w wr w5 w7 : World} {u u' : Value} {ps : List ParV} {p : ParV}
theorem ParI.start (h : Below w.heap.size w wr) : ParI w (.slice none 0 0) [] wr := ⟨World.ownsRow_nil _ _ _ _, Lib.hid (by simp), h⟩
theorem ParI.lt (h : ParI w u ps wr) : ∀ k, u.ownBlock = some k → w.heap.size ≤ k ∧ k < wr.heap.size := h.own.lt
theorem ParI.form (h : ParI w u ps wr) : ∃ A c, u = .slice A ps.length c := own_form h.own
theorem ParI.below (h : ParI w u ps wr) (hb : Below wr.heap.size wr w5) : ParI w u ps w5 := by
  have ho : Off (fun i => wr.heap.size ≤ i) wr w5 := Off.of_below hb (fun i hi => .inl hi)
  exact ⟨own_off h.own ho (fun k hk => by have := (h.lt k hk).2; omega), Lib.hid (fun p hp => (h.ins.out p hp).off ho (fun g _ hg => by omega) (fun g hs _ => hs)), h.bel.trans (hb.mono h.bel.size)⟩
/-- one more -/
theorem ParI.next (h : ParI w u ps wr) (hp : p.In (fun g => u.ownBlock ≠ some g) wr) (hg : wr.grownBy w7 u.ownBlock) (hf : Fresh wr u u') (hown : w7.ownsRow w.heap.size 43 7 u' (ps.length + 1) (ps.flatMap ParV.cells ++ p.cells)) : ParI w u' (ps ++ [p]) w7 := by
  have ho : Off (fun i => u.ownBlock = some i) wr w7 := (Off.refl _ _).grown hg (fun k hk => .inl hk)
  have hS : ∀ g, u.ownBlock ≠ some g → g < wr.heap.size → u'.ownBlock ≠ some g := fun g h0 hg he => by
    rcases hf.off he with h4 | h4
    · exact h0 h4
    · omega
  refine ⟨by simpa using hown, Lib.hid (fun q hq => ?_), h.bel.grown hg h.bel.size (fun k hk => (h.lt k hk).1)⟩
  rcases List.mem_append.1 hq with hq | hq
  · exact (h.ins.out q hq).off ho (fun g h0 _ => h0) hS
  · obtain rfl := List.mem_singleton.1 hq
    exact hp.off ho (fun g h0 _ => h0) hS
theorem ParI.pars (h : ParI w u ps wr) (hl : ps.length ≤ 140737488351232) : ParsOf wr wr.heap.size u ps :=
  ⟨ReadsN.of_own (by omega) h.own, Lib.hid (fun p hp => (h.ins.out p hp).ok), h.form, hl⟩
end
theorem elem_par : ElemN Try.prog 23 43 7 (.agg #[.slice none 0 0, .int .i64 0, .slice none 0 0, .slice none 0 0, .slice none 0 0, .int .i64 0, .slice none 0 0]) 136 := ⟨Try.underlying23, by kernel_rfl, rfl, by omega⟩
theorem own_lowerZ {w : World} {e : TypeId} {b b' sz n : Nat} {v : Value} {xs : List Value} (h : w.ownsRow b' e sz v n xs) (hb : b ≤ b') : w.ownsRow b e sz v n xs := by
  obtain ⟨hl, h⟩ := h
  rcases h with h | ⟨g, cap, cur, e, h1, h2⟩
  · exact ⟨hl, .inl h⟩
  · exact ⟨hl, .inr ⟨g, cap, cur, e, by omega, h2⟩⟩
/-- seven cells are put -/
def seven (w : World) (r : Nat) (a b c d e f g : Value) : World := ((((((w.setCell ⟨r, 0, none⟩ a).setCell ⟨r, 1, none⟩ b).setCell ⟨r, 2, none⟩ c).setCell ⟨r, 3, none⟩ d).setCell ⟨r, 4, none⟩ e).setCell ⟨r, 5, none⟩ f).setCell ⟨r, 6, none⟩ g
theorem seven_ok {w : World} {r : Nat} {t : TypeId} {a' b' c' d' e' f' g' : Value} (h : Blk w r t [a', b', c', d', e', f', g']) (a b c d e f g : Value) : Off (fun i => i = r) w (seven w r a b c d e f g) ∧ Blk (seven w r a b c d e f g) r t [a, b, c, d, e, f, g] := by
  unfold seven
  refine ⟨(((((((Off.refl (fun i => i = r) w).setCell (p := ⟨r, 0, none⟩) (.inl rfl) _).setCell (p := ⟨r, 1, none⟩) (.inl rfl) _).setCell (p := ⟨r, 2, none⟩) (.inl rfl) _).setCell (p := ⟨r, 3, none⟩) (.inl rfl) _).setCell (p := ⟨r, 4, none⟩) (.inl rfl) _).setCell (p := ⟨r, 5, none⟩) (.inl rfl) _).setCell (p := ⟨r, 6, none⟩) (.inl rfl) _, ?_⟩
  exact ((((((h.put 0 a).put 1 b).put 2 c).put 3 d).put 4 e).put 5 f).put 6 g
end Go.Proofs.Ytcjpibdgnjncmaa

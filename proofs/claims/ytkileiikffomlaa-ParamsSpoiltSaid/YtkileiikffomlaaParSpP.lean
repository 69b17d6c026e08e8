/- Spoilt params, plainly: with one thing turned they may not be. -/
import Derived.Test.YtkileiikffomlaaParInitP
import Derived.Test.YtkileiikffomlaaMany
namespace Go.Proofs.Ytkileiikffomlaa
open Go.RowKit
set_option linter.unusedVariables false
set_option linter.unusedSimpArgs false

section
variable {q : List Int × Int} {kd : Int} {p : ParC}
theorem mayP1_zero (h : mayP1 q kd p = true) (hq : q.1 = []) : p = zeroC := by
  unfold mayP1 at h
  rw [if_pos hq, Bool.and_eq_true] at h
  exact zeroP_eq.1 h.1
theorem mayP1_parts (h : mayP1 q kd p = true) (hq : q.1 ≠ []) : mayB p.wd p.we p.wx = true ∧ mayB p.bd p.be p.bx = true ∧ p.wd = q.1 ∧ p.bd = [q.2] ∧ p.m.length = p.wx.length := by
  unfold mayP1 at h
  rw [if_neg hq] at h
  simp only [Bool.and_eq_true, beq_iff_eq, decide_eq_true_eq] at h
  exact ⟨h.1, h.2.1, h.2.2.1, h.2.2.2.1, h.2.2.2.2.1⟩
theorem mayP1_bad (hq : q.1 ≠ []) (h : mayB p.wd p.we p.wx = false ∨ p.wd ≠ q.1 ∨ p.bd ≠ [q.2] ∨ p.m.length ≠ p.wx.length) : mayP1 q kd p = false := by
  rw [Bool.eq_false_iff]
  intro h2
  obtain ⟨h3, _, h4, h5, h6⟩ := mayP1_parts h2 hq
  rcases h with h | h | h | h
  · rw [h] at h3; cases h3
  · exact h h4
  · exact h h5
  · exact h h6
theorem mayB_parts {d : List Int} {e : Int} {x : List Int} (h : mayB d e x = true) : 0 < sizeI d ∧ (x.length : Int) = sizeI d ∧ -128 ∉ x := by
  unfold mayB at h
  simp only [Bool.and_eq_true, decide_eq_true_eq, beq_iff_eq, Bool.not_eq_true'] at h
  refine ⟨h.1, h.2.1, ?_⟩
  have := h.2.2.2.2
  simpa [List.contains_eq_mem] using this
theorem mayB_none {d : List Int} {e : Int} {x : List Int} (h : -128 ∈ x) : mayB d e x = false := by
  rw [Bool.eq_false_iff]
  intro h2
  exact (mayB_parts h2).2.2 h
theorem may_small (h : mayP1 q kd p = true) : p.wd.length ≤ 4 ∧ p.wx.length ≤ 8192 ∧ p.m.length ≤ 8192 ∧ p.bd.length ≤ 4 ∧ p.bx.length ≤ 8192 := by
  by_cases hq : q.1 = []
  · have := mayP1_zero h hq
    subst this
    simp [zeroC]
  · obtain ⟨h1, h2, h3, h4, h5⟩ := mayP1_parts h hq
    have h6 := mayB_parts h1
    have h7 := mayB_parts h2
    have h8 := sizeI_bound p.wd
    have h9 := sizeI_bound p.bd
    have := (sizeI_len h6.1).2
    have := (sizeI_len h7.1).2
    omega
/-- a number too many where there is nothing -/
theorem spoil_zero (h : mayP1 q kd p = true) (hx : p.wx.length = 0) : p = zeroC ∧ mayP1 q kd { zeroC with m := [0] } = false := by
  by_cases hq : q.1 = []
  · refine ⟨mayP1_zero h hq, ?_⟩
    unfold mayP1
    rw [if_pos hq]
    rfl
  · have h2 := (mayP1_parts h hq).1
    have := mayB_parts h2
    omega
theorem some_len (h : mayP1 q kd p = true) (hx : p.wx.length ≠ 0) : q.1 ≠ [] := by
  intro hq
  have := mayP1_zero h hq
  subst this
  exact hx rfl
theorem spoil_m (h : mayP1 q kd p = true) (hx : p.wx.length ≠ 0) : mayP1 q kd { p with m := p.m ++ [0] } = false := by
  have hq := some_len h hx
  obtain ⟨_, _, _, _, h6⟩ := mayP1_parts h hq
  exact mayP1_bad hq (.inr (.inr (.inr (by simp; omega))))
theorem spoil_wd (h : mayP1 q kd p = true) (hx : p.wx.length ≠ 0) : mayP1 q kd { p with wd := 1 :: p.wd } = false := by
  have hq := some_len h hx
  obtain ⟨_, _, h4, _, _⟩ := mayP1_parts h hq
  exact mayP1_bad hq (.inr (.inl (by
    show 1 :: p.wd ≠ q.1
    rw [h4]
    intro e
    have := congrArg List.length e
    simp at this)))
theorem spoil_wx (h : mayP1 q kd p = true) (hx : p.wx.length ≠ 0) : mayP1 q kd { p with wx := -128 :: p.wx.drop 1 } = false := by
  have hq := some_len h hx
  exact mayP1_bad hq (.inl (mayB_none (by simp)))
theorem spoil_b (h : mayP1 q kd p = true) (hx : p.wx.length ≠ 0) (e : Int) (bx : List Int) : mayP1 q kd { p with bd := [(p.bx.length : Int) + 1], be := e, bx := bx } = false := by
  have hq := some_len h hx
  obtain ⟨_, h3, _, h5, _⟩ := mayP1_parts h hq
  have h6 := mayB_parts h3
  rw [h5] at h6
  obtain ⟨h7, h8, _⟩ := h6
  have h9 : sizeI [q.2] = q.2 := by
    unfold sizeI at h7 ⊢
    rw [if_neg (by simp)] at h7 ⊢
    unfold sizeGo at h7 ⊢
    split at h7
    · omega
    · rename_i h10
      rw [if_neg h10]
      simp only [sizeGo]
      omega
  refine mayP1_bad hq (.inr (.inr (.inl ?_)))
  show [(p.bx.length : Int) + 1] ≠ [q.2]
  intro e
  injection e with e
  omega
theorem spoil_none (h : mayP1 q kd p = true) (hx : p.wx.length ≠ 0) : mayP1 q kd zeroC = false := by
  have hq := some_len h hx
  exact mayP1_bad hq (.inl (by rfl))
end
section
variable {a b c : Int} {ls : List LayV} {ps : List ParV} {j : Nat} {x y : ParV} {l : LayV}
theorem map_set_c : (ps.set j x).map (·.c) = (ps.map (·.c)).set j x.c := by simp
theorem may_turned (hj : ps[j]? = some y) (hl : ls[j]? = some l) (h : mayP1 (pdimsI a b c ls ((j : Int) + 1)) l.kind x.c = false) : mayPs a b c ls ((ps.set j x).map (·.c)) = false := by
  have hjl := (List.getElem?_eq_some_iff.1 hj).1
  refine mayPs_false (k := j) (by simp; omega) ?_
  rw [mayAt_at hl (p := x) (by rw [List.getElem?_set_self hjl])]
  exact h
theorem same_turned (hj : ps[j]? = some y) (h : x.c ≠ y.c) : sameCs (ps.map (·.c)) ((ps.set j x).map (·.c)) = false := by
  have hjl := (List.getElem?_eq_some_iff.1 hj).1
  refine sameCs_false (k := j) (p := y.c) (q := x.c) (by rw [List.getElem?_map, hj]; rfl) (by rw [List.getElem?_map, List.getElem?_set_self hjl]; rfl) ?_
  rw [Bool.eq_false_iff]
  intro h2
  exact h (sameC_eq.1 h2).symm
theorem may_len (h : ps.length ≠ ls.length) : mayPs a b c ls (ps.map (·.c)) = false := by
  unfold mayPs
  rw [List.length_map, decide_eq_false h]
  simp
end
section
variable {S : Nat → Prop} {w : World} {p : ParV} {v : Value}
theorem ParV.In.setM {m : List Int} (h : p.In S w) (hm : RowS S w v (ints .i32 m)) (hb : ∀ x ∈ m, -2147483648 ≤ x ∧ x ≤ 2147483647) (hl : lenP { p.c with m := m } ≤ 4503599627370496) : ParV.In S w { p with mv := v, c := { p.c with m := m } } :=
  ⟨h.wd, h.wx, hm, h.bd, h.bx, h.num.db, h.num.xb, h.num.e0, h.num.e1, Lib.hid hb, h.num.bdb, h.num.bxb, h.num.f0, h.num.f1, hl⟩
theorem ParV.In.setD {m : List Int} (h : p.In S w) (hm : RowS S w v (ints .i64 m)) (hb : ∀ x ∈ m, -9223372036854775808 ≤ x ∧ x ≤ 9223372036854775807) (hl : lenP { p.c with wd := m } ≤ 4503599627370496) : ParV.In S w { p with wd := v, c := { p.c with wd := m } } :=
  ⟨hm, h.wx, h.m, h.bd, h.bx, Lib.hid hb, h.num.xb, h.num.e0, h.num.e1, h.num.mb, h.num.bdb, h.num.bxb, h.num.f0, h.num.f1, hl⟩
theorem ParV.In.setX {m : List Int} (h : p.In S w) (hm : RowS S w v (ints .i8 m)) (hb : ∀ x ∈ m, -128 ≤ x ∧ x ≤ 127) (hl : lenP { p.c with wx := m } ≤ 4503599627370496) : ParV.In S w { p with wx := v, c := { p.c with wx := m } } :=
  ⟨h.wd, hm, h.m, h.bd, h.bx, h.num.db, Lib.hid hb, h.num.e0, h.num.e1, h.num.mb, h.num.bdb, h.num.bxb, h.num.f0, h.num.f1, hl⟩
theorem ParV.In.setB {m x : List Int} {u : Value} (h : p.In S w) (hm : RowS S w v (ints .i64 m)) (hx : RowS S w u (ints .i8 x)) (hb : ∀ x ∈ m, -9223372036854775808 ≤ x ∧ x ≤ 9223372036854775807) (hc : ∀ y ∈ x, -128 ≤ y ∧ y ≤ 127) (hl : lenP { p.c with bd := m, be := 0, bx := x } ≤ 4503599627370496) : ParV.In S w { p with bd := v, bx := u, c := { p.c with bd := m, be := 0, bx := x } } :=
  ⟨h.wd, h.wx, h.m, hm, hx, h.num.db, h.num.xb, h.num.e0, h.num.e1, h.num.mb, Lib.hid hb, Lib.hid hc, by show (-9223372036854775808 : Int) ≤ 0; omega, by show (0 : Int) ≤ 9223372036854775807; omega, hl⟩
theorem ParV.Ok.ins {B : Nat} (h : p.Ok w B) (hB : B ≤ w.heap.size) (hS : ∀ g, g < B → S g) : p.In S w :=
  ⟨RowS.of_reads h.t.d hB hS, RowS.of_reads h.t.x hB hS, RowS.of_reads h.m hB hS, RowS.of_reads h.b.d hB hS, RowS.of_reads h.b.x hB hS, h.t.db, h.t.xb, h.t.e0, h.t.e1, h.mb, h.b.db, h.b.xb, h.b.e0, h.b.e1, h.ln⟩
end
/-- a param is turned, beside all that was there -/
def TurnedP (q : List Int × Int) (kd : Int) (w6 : World) (g t : Nat) (wx : World) : Prop :=
  Below w6.heap.size w6 wx ∧ ∃ (A1 : Option Addr) (c1 : Nat) (A2 : Option Addr) (c2 : Nat) (A3 : Option Addr) (c3 : Nat) (A4 : Option Addr) (c4 : Nat) (A5 : Option Addr) (c5 : Nat) (p : ParC),
    Blk wx t 60 [.slice A1 p.wd.length c1, .int .i64 p.we, .slice A2 p.wx.length c2, .slice A3 p.m.length c3, .slice A4 p.bd.length c4, .int .i64 p.be, .slice A5 p.bx.length c5] ∧ mayP1 q kd p = false ∧
    ParV.In (fun i => i ≠ g) wx ⟨.slice A1 p.wd.length c1, .slice A2 p.wx.length c2, .slice A3 p.m.length c3, .slice A4 p.bd.length c4, .slice A5 p.bx.length c5, p⟩
theorem own_emptyP (W : World) (base : Nat) (e : TypeId) (sz g : Nat) (hg : g = W.heap.size) (h : base ≤ W.heap.size) : (W.alloc (.cells #[] e)).ownsRow base e sz (.slice (some ⟨g, 0, none⟩) 0 0) 0 [] := by
  subst hg
  have := (Blk.fresh W e []).own (size := sz) (n := 0) (cap := 0) h (Nat.le_refl _) (by unfold maxLen; omega) (by simp)
  simpa using this
theorem own_oneP (W : World) (base : Nat) (e : TypeId) (g : Nat) (u : Value) (hg : g = W.heap.size) (h : base ≤ W.heap.size) : (W.alloc (.cells #[u] e)).ownsRow base e 1 (.slice (some ⟨g, 0, none⟩) 1 1) 1 [u] := by
  subst hg
  exact (Blk.fresh W e [u]).ownAll h (by unfold maxLen; omega) rfl
theorem mod_ltP (a m : Int) (h0 : 0 < m) (h1 : m ≤ 1000) : ∃ j : Nat, wrap64 ((IntKind.u64.wrap a).tmod m) = j ∧ (j : Int) < m := by
  have hu : 0 ≤ IntKind.u64.wrap a := by rw [IntKind.wrap_u64]; omega
  have ht : (IntKind.u64.wrap a).tmod m = (IntKind.u64.wrap a) % m := Int.tmod_eq_emod_of_nonneg hu
  have h2 := Int.emod_nonneg (IntKind.u64.wrap a) (show m ≠ 0 by omega)
  have h3 := Int.emod_lt_of_pos (IntKind.u64.wrap a) h0
  rw [ht]
  generalize (IntKind.u64.wrap a) % m = x at h2 h3
  refine ⟨x.toNat, ?_, by omega⟩
  unfold wrap64
  omega
theorem pars_one {w : World} {B : Nat} {v : Value} {ps : List ParV} (h : ParsOf w B v ps) : ∀ u ∈ ps.flatMap ParV.cells, u.oneCell' = true := by
  intro u hu
  obtain ⟨p, hp, hu⟩ := List.mem_flatMap.1 hu
  have hok := h.ok.out p hp
  obtain ⟨_, _, _, _, f1, f2⟩ := hok.t.form
  obtain ⟨_, _, f3, _⟩ := hok.m.form
  obtain ⟨_, _, _, _, f4, f5⟩ := hok.b.form
  simp only [ParV.cells, List.mem_cons, List.not_mem_nil, or_false] at hu
  rcases hu with rfl | rfl | rfl | rfl | rfl | rfl | rfl
  · rw [f1]; rfl
  · rfl
  · rw [f2]; rfl
  · rw [f3]; rfl
  · rw [f4]; rfl
  · rfl
  · rw [f5]; rfl
theorem row_atP {W : World} {base g n c j : Nat} {t : TypeId} {ps : List ParV} {p : ParV} (h : W.ownsRow base t 7 (.slice (some ⟨g, 0, none⟩) n c) n (ps.flatMap ParV.cells)) (hn : ps.length = n) (hj : ps[j]? = some p) :
    (∀ i, i < 7 → W.cell? ⟨g, j * 7 + i, none⟩ = p.cells[i]?) ∧ (∀ i, W.frozen? ⟨g, j * 7 + i, none⟩ = false) ∧ g < W.heap.size ∧ base ≤ g ∧ n ≤ c := by
  have hjl := (List.getElem?_eq_some_iff.1 hj).1
  obtain ⟨g', cap, rest, e', hb, hlt, hnc, hcm, hlen, hxl, hblk⟩ := own_blkN h (by omega)
  injection e' with e1 e2 e3
  injection e1 with e1
  injection e1 with e1
  subst e1 e3
  refine ⟨fun i hi => ?_, fun i => hblk.free _, hlt, hb, hnc⟩
  rw [hblk.cell, List.getElem?_append_left (by omega)]
  exact flat_at ParV.cells 7 ps (fun p _ => rfl) j i p hj hi
theorem shapes_pos {a b c : Int} {ls : List LayV} (h : (shapesM a b c ls).2.2 = 0) : 1 ≤ ls.length ∧ ls.length ≤ 12 := by
  rcases shapesM_cases a b c ls with ⟨hs, _⟩ | ⟨n, hs, _⟩ | ⟨all, hs, hok⟩
  · rw [hs] at h; cases h
  · rw [hs] at h; cases h
  · exact (mayM_parts hok.may).2.1
end Go.Proofs.Ytkileiikffomlaa

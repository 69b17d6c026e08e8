/- Contracts of the reference's MayState, SameState, small, and what stands under them. -/
import Derived.Test.YtcjpibdgnjncmaaCodRSame
import Derived.Test.YtcjpibdgnjncmaaRefShape
import Derived.Test.YtcjpibdgnjncmaaWriter2
namespace Go.Proofs.Ytcjpibdgnjncmaa
open Go.RowKit
set_option linter.unusedVariables false
set_option linter.unusedSimpArgs false

set_option maxHeartbeats 1600000 in
set_option maxRecDepth 100000 in
theorem rzero_any (p : ParV) (w : World) (B : Nat) (h : p.Ok w B) (r : Bool) (hr : zeroP p.c = r) :
    Calls Try.prog 70 #[.agg #[p.wd, .int .i64 p.c.we, p.wx, p.mv, p.bd, .int .i64 p.c.be, p.bx]] w fun en w' => en = .returned (.bool r) ∧ Below w.heap.size w w' := by
  have hln := h.ln
  obtain ⟨pwd, pwx, pmv, pbd, pbx, pc⟩ := p
  obtain ⟨A1, c1, A2, c2, f1, f2⟩ := h.t.form
  obtain ⟨A3, c3, f3, _, _⟩ := h.m.form
  obtain ⟨A4, c4, A5, c5, f4, f5⟩ := h.b.form
  rw [length_ints] at f3
  dsimp only at f1 f2 f3 f4 f5
  subst f1 f2 f3 f4 f5
  have K0 := Lib.hid (Blk.fresh w 43 [.slice A1 pc.wd.length c1, .int .i64 pc.we, .slice A2 pc.wx.length c2, .slice A3 pc.m.length c3, .slice A4 pc.bd.length c4, .int .i64 pc.be, .slice A5 pc.bx.length c5])
  have hs0 : w.heap.size < (w.alloc (.cells #[.slice A1 pc.wd.length c1, .int .i64 pc.we, .slice A2 pc.wx.length c2, .slice A3 pc.m.length c3, .slice A4 pc.bd.length c4, .int .i64 pc.be, .slice A5 pc.bx.length c5] 43)).heap.size := by simp
  have hb0 := (Below.refl w.heap.size w).alloc (Nat.le_refl _) (.cells #[.slice A1 pc.wd.length c1, .int .i64 pc.we, .slice A2 pc.wx.length c2, .slice A3 pc.m.length c3, .slice A4 pc.bd.length c4, .int .i64 pc.be, .slice A5 pc.bx.length c5] 43)
  have HB := Lib.hid hb0
  have m0 := K0.out.cell 0
  have m1 := K0.out.cell 1
  have m2 := K0.out.cell 2
  have m3 := K0.out.cell 3
  have m4 := K0.out.cell 4
  have m5 := K0.out.cell 5
  have m6 := K0.out.cell 6
  simp only [List.getElem?_cons_zero, List.getElem?_cons_succ] at m0 m1 m2 m3 m4 m5 m6
  unfold lenP at hln
  dsimp only at hln hr
  have HR := Lib.hid hr
  clear h hr hb0
  by_cases hl : lenP pc = 0
  · have t1 : (((pc.wd.length : Int) + (pc.wx.length : Int) + (pc.m.length : Int) + (pc.bd.length : Int) + (pc.bx.length : Int)) == 0) = true := by unfold lenP at hl; simp only [beq_iff_eq]; omega
    have HL := Lib.hid hl
    clear hl
    cases h2 : (pc.we == 0) with
    | true =>
      cases h3 : (pc.be == 0) with
      | true =>
        have HF : Hid (r = true) := Lib.hid (by rw [← HR.out]; unfold zeroP; rw [HL.out, h2, h3]; rfl)
        go_enter Try.func70, Try.ntmps70
        go_wp2
        go_ret
        exact ⟨by rw [HF.out]; rfl, HB.out⟩
      | false =>
        have HF : Hid (r = false) := Lib.hid (by rw [← HR.out]; unfold zeroP; rw [HL.out, h2, h3]; rfl)
        go_enter Try.func70, Try.ntmps70
        go_wp2
        go_ret
        exact ⟨by rw [HF.out]; rfl, HB.out⟩
    | false =>
      have HF : Hid (r = false) := Lib.hid (by rw [← HR.out]; unfold zeroP; rw [HL.out, h2]; rfl)
      go_enter Try.func70, Try.ntmps70
      go_wp2
      go_ret
      exact ⟨by rw [HF.out]; rfl, HB.out⟩
  · have t1 : (((pc.wd.length : Int) + (pc.wx.length : Int) + (pc.m.length : Int) + (pc.bd.length : Int) + (pc.bx.length : Int)) == 0) = false := by unfold lenP at hl; rw [beq_eq_false_iff_ne]; omega
    have HF : Hid (r = false) := Lib.hid (by rw [← HR.out]; unfold zeroP; rw [decide_eq_false hl]; rfl)
    clear hl
    go_enter Try.func70, Try.ntmps70
    go_wp2
    go_ret
    exact ⟨by rw [HF.out]; rfl, HB.out⟩
set_option maxRecDepth 100000 in
theorem rzeroU_any (p : ParV) (w : World) (B : Nat) (hB : B ≤ w.heap.size) (h : p.Ok w B) (r : Bool) (hr : zeroP p.c = r) :
    Calls Try.prog 50 #[.agg #[p.wd, .int .i64 p.c.we, p.wx, p.mv, p.bd, .int .i64 p.c.be, p.bx]] w fun en w' => en = .returned (.bool r) ∧ Below w.heap.size w w' := by
  obtain ⟨pwd, pwx, pmv, pbd, pbx, pc⟩ := p
  obtain ⟨A1, c1, A2, c2, f1, f2⟩ := h.t.form
  obtain ⟨A3, c3, f3, _, _⟩ := h.m.form
  obtain ⟨A4, c4, A5, c5, f4, f5⟩ := h.b.form
  rw [length_ints] at f3
  dsimp only at f1 f2 f3 f4 f5
  subst f1 f2 f3 f4 f5
  have K0 := Lib.hid (Blk.fresh w 43 [.slice A1 pc.wd.length c1, .int .i64 pc.we, .slice A2 pc.wx.length c2, .slice A3 pc.m.length c3, .slice A4 pc.bd.length c4, .int .i64 pc.be, .slice A5 pc.bx.length c5])
  have hs0 : w.heap.size < (w.alloc (.cells #[.slice A1 pc.wd.length c1, .int .i64 pc.we, .slice A2 pc.wx.length c2, .slice A3 pc.m.length c3, .slice A4 pc.bd.length c4, .int .i64 pc.be, .slice A5 pc.bx.length c5] 43)).heap.size := by simp
  have hb0 := (Below.refl w.heap.size w).alloc (Nat.le_refl _) (.cells #[.slice A1 pc.wd.length c1, .int .i64 pc.we, .slice A2 pc.wx.length c2, .slice A3 pc.m.length c3, .slice A4 pc.bd.length c4, .int .i64 pc.be, .slice A5 pc.bx.length c5] 43)
  have HZ := Lib.hid (rzero_any ⟨.slice A1 pc.wd.length c1, .slice A2 pc.wx.length c2, .slice A3 pc.m.length c3, .slice A4 pc.bd.length c4, .slice A5 pc.bx.length c5, pc⟩ _ B (h.below (hb0.mono hB)) r hr)
  have HB := Lib.hid hb0
  have m0 := K0.out.cell 0
  have m1 := K0.out.cell 1
  have m2 := K0.out.cell 2
  have m3 := K0.out.cell 3
  have m4 := K0.out.cell 4
  have m5 := K0.out.cell 5
  have m6 := K0.out.cell 6
  simp only [List.getElem?_cons_zero, List.getElem?_cons_succ] at m0 m1 m2 m3 m4 m5 m6
  clear h hb0 hr
  go_enter Try.func50, Try.ntmps50
  go_wp2_with fail
  refine HZ.out.mono ?_
  rintro en w2 ⟨rfl, hb2⟩
  have HB2 := Lib.hid (HB.out.trans (hb2.mono (by simp only [World.size_alloc]; omega)))
  clear hb2 HZ
  dsimp only
  go_wp2
  go_ret
  exact ⟨rfl, HB2.out⟩
set_option maxHeartbeats 1600000 in
set_option maxRecDepth 100000 in
theorem may2_any (w : World) (B g : Nat) (dv xv dv' xv' : Value) (d : List Int) (e : Int) (x d' : List Int) (e' : Int) (x' : List Int) (hB : B ≤ w.heap.size) (h1 : IsT w B dv xv d e x) (h2 : IsT w B dv' xv' d' e' x') (hk : Blk w g 40 [dv, .int .i64 e, xv, dv', .int .i64 e', xv']) (res : Bool) (hres : (mayB d e x && mayB d' e' x') = res) :
    Calls Try.prog 71 #[.slice (some ⟨g, 0, none⟩) 2 2] w fun en w' => en = .returned (.bool res) ∧ Below w.heap.size w w' := by
  obtain ⟨A1, c1, A2, c2, f1, f2⟩ := h1.form
  obtain ⟨A3, c3, A4, c4, f3, f4⟩ := h2.form
  subst f1 f2 f3 f4
  obtain ⟨r1, hr1⟩ : ∃ r1, mayB d e x = r1 := ⟨_, rfl⟩
  obtain ⟨r2, hr2⟩ : ∃ r2, mayB d' e' x' = r2 := ⟨_, rfl⟩
  rw [hr1, hr2] at hres
  have HR1 := Lib.hid hr1
  have HR2 := Lib.hid hr2
  have HRES := Lib.hid hres
  have H1 := Lib.hid h1
  have H2 := Lib.hid h2
  have HK := Lib.hid hk
  have hlg := hk.lt
  clear h1 h2 hk hr1 hr2 hres
  go_enter Try.func71, Try.ntmps71
  go_wp2_with fail
  go_loopw [7] (fun i wr => ∃ k : Nat, k ≤ 2 ∧ i = .int .i64 k ∧ Hid (Below w.heap.size w wr ∧ (1 ≤ k → r1 = true) ∧ (2 ≤ k → r2 = true))) (fun i _ => 2 - (intOf i).toNat)
  case atStart => exact ⟨0, by omega, rfl, Lib.hid ⟨Below.refl _ _, fun h => by omega, fun h => by omega⟩⟩
  case round =>
    obtain ⟨k, hk, rfl, HX⟩ := hrel
    have hk3 : k = 0 ∨ k = 1 ∨ k = 2 := by omega
    rcases hk3 with rfl | rfl | rfl
    · have hkw := Lib.hid (HK.out.below HX.out.1 hlg)
      have lgr := hkw.out.lt
      have q0 := hkw.out.cell 0
      have q1 := hkw.out.cell 1
      have q2 := hkw.out.cell 2
      have q3 := hkw.out.cell 3
      have q4 := hkw.out.cell 4
      have q5 := hkw.out.cell 5
      simp only [List.getElem?_cons_zero, List.getElem?_cons_succ] at q0 q1 q2 q3 q4 q5
      have s0 := HX.out.1.size
      have hba := (Below.refl wr.heap.size wr).alloc (Nat.le_refl _) (.cells #[.slice A1 d.length c1, .int .i64 e, .slice A2 x.length c2] 40)
      have KX := Lib.hid (Blk.fresh wr 40 [.slice A1 d.length c1, .int .i64 e, .slice A2 x.length c2])
      have lx := KX.out.lt
      have m0 := KX.out.cell 0
      have m1 := KX.out.cell 1
      have m2 := KX.out.cell 2
      simp only [List.getElem?_cons_zero, List.getElem?_cons_succ] at m0 m1 m2
      have HM := Lib.hid (mayt_any d e x _ _ _ B (by have := hba.size; omega) (H1.out.below ((HX.out.1.mono hB).trans (hba.mono (by omega)))))
      rw [HR1.out] at HM
      have HBA := Lib.hid (HX.out.1.trans (hba.mono s0))
      clear hba
      go_wp2_with fail
      refine HM.out.mono ?_
      rintro en w2 ⟨rfl, hb2⟩
      have HB2 := Lib.hid (HBA.out.trans (hb2.mono HBA.out.size))
      clear hb2 HM q0 q1 q2 q3 q4 q5 m0 m1 m2
      dsimp only
      cases r1 with
      | false =>
        have HF : Hid (res = false) := Lib.hid (by rw [← HRES.out]; simp)
        go_wp2_with fail
        go_ret
        exact ⟨by rw [HF.out]; rfl, HB2.out⟩
      | true =>
        go_wp2_with fail
        go_roundw
        case rel => exact ⟨1, by omega, rfl, Lib.hid ⟨HB2.out, fun _ => by first | trivial | rfl, fun h => by omega⟩⟩
        case measure => simp [intOf]
    · have hkw := Lib.hid (HK.out.below HX.out.1 hlg)
      have lgr := hkw.out.lt
      have q0 := hkw.out.cell 0
      have q1 := hkw.out.cell 1
      have q2 := hkw.out.cell 2
      have q3 := hkw.out.cell 3
      have q4 := hkw.out.cell 4
      have q5 := hkw.out.cell 5
      simp only [List.getElem?_cons_zero, List.getElem?_cons_succ] at q0 q1 q2 q3 q4 q5
      have s0 := HX.out.1.size
      have hba := (Below.refl wr.heap.size wr).alloc (Nat.le_refl _) (.cells #[.slice A3 d'.length c3, .int .i64 e', .slice A4 x'.length c4] 40)
      have KX := Lib.hid (Blk.fresh wr 40 [.slice A3 d'.length c3, .int .i64 e', .slice A4 x'.length c4])
      have lx := KX.out.lt
      have m0 := KX.out.cell 0
      have m1 := KX.out.cell 1
      have m2 := KX.out.cell 2
      simp only [List.getElem?_cons_zero, List.getElem?_cons_succ] at m0 m1 m2
      have HM := Lib.hid (mayt_any d' e' x' _ _ _ B (by have := hba.size; omega) (H2.out.below ((HX.out.1.mono hB).trans (hba.mono (by omega)))))
      rw [HR2.out] at HM
      have HBA := Lib.hid (HX.out.1.trans (hba.mono s0))
      clear hba
      go_wp2_with fail
      refine HM.out.mono ?_
      rintro en w2 ⟨rfl, hb2⟩
      have HB2 := Lib.hid (HBA.out.trans (hb2.mono HBA.out.size))
      clear hb2 HM q0 q1 q2 q3 q4 q5 m0 m1 m2
      dsimp only
      cases r2 with
      | false =>
        have HF : Hid (res = false) := Lib.hid (by rw [← HRES.out]; simp)
        go_wp2_with fail
        go_ret
        exact ⟨by rw [HF.out]; rfl, HB2.out⟩
      | true =>
        go_wp2_with fail
        go_roundw
        case rel => exact ⟨2, by omega, rfl, Lib.hid ⟨HB2.out, fun _ => HX.out.2.1 (by omega), fun _ => by first | trivial | rfl⟩⟩
        case measure => simp [intOf]
    · have HF : Hid (res = true) := Lib.hid (by rw [← HRES.out, HX.out.2.1 (by omega), HX.out.2.2 (by omega)]; rfl)
      go_wp2_with fail
      go_ret
      exact ⟨by rw [HF.out]; rfl, HX.out.1⟩
/-- may a param that is not nothing be -/
def mayPar (p : ParC) : Bool := (mayB p.wd p.we p.wx && mayB p.bd p.be p.bx) && (decide (p.bd.length = 1) && (decide (p.m.length = p.wx.length) && p.m.all inM))
theorem mayC_par (p : ParC) : mayC p = (zeroP p || mayPar p) := by
  unfold mayC mayPar movesB
  cases zeroP p <;> cases mayB p.wd p.we p.wx <;> cases mayB p.bd p.be p.bx <;> cases decide (p.bd.length = 1) <;> cases decide (p.m.length = p.wx.length) <;> cases p.m.all inM <;> rfl
set_option maxHeartbeats 3200000 in
set_option maxRecDepth 100000 in
theorem rmayp_any (p : ParV) (w : World) (B : Nat) (hB : B ≤ w.heap.size) (h : p.Ok w B) (r : Bool) (hr : mayPar p.c = r) :
    Calls Try.prog 51 #[.agg #[p.wd, .int .i64 p.c.we, p.wx, p.mv, p.bd, .int .i64 p.c.be, p.bx]] w fun en w' => en = .returned (.bool r) ∧ Below w.heap.size w w' := by
  have hln := h.ln
  obtain ⟨pwd, pwx, pmv, pbd, pbx, pc⟩ := p
  obtain ⟨A1, c1, A2, c2, f1, f2⟩ := h.t.form
  obtain ⟨A3, c3, f3, _, _⟩ := h.m.form
  obtain ⟨A4, c4, A5, c5, f4, f5⟩ := h.b.form
  rw [length_ints] at f3
  dsimp only at f1 f2 f3 f4 f5
  subst f1 f2 f3 f4 f5
  have K0 := Lib.hid (Blk.fresh w 43 [.slice A1 pc.wd.length c1, .int .i64 pc.we, .slice A2 pc.wx.length c2, .slice A3 pc.m.length c3, .slice A4 pc.bd.length c4, .int .i64 pc.be, .slice A5 pc.bx.length c5])
  have hs0 : w.heap.size < (w.alloc (.cells #[.slice A1 pc.wd.length c1, .int .i64 pc.we, .slice A2 pc.wx.length c2, .slice A3 pc.m.length c3, .slice A4 pc.bd.length c4, .int .i64 pc.be, .slice A5 pc.bx.length c5] 43)).heap.size := by simp
  have hb0 := (Below.refl w.heap.size w).alloc (Nat.le_refl _) (.cells #[.slice A1 pc.wd.length c1, .int .i64 pc.we, .slice A2 pc.wx.length c2, .slice A3 pc.m.length c3, .slice A4 pc.bd.length c4, .int .i64 pc.be, .slice A5 pc.bx.length c5] 43)
  unfold lenP at hln
  dsimp only at hln hr
  have hbb := hb0.alloc (by omega) (.cells #[.slice A1 pc.wd.length c1, .int .i64 pc.we, .slice A2 pc.wx.length c2, .slice A4 pc.bd.length c4, .int .i64 pc.be, .slice A5 pc.bx.length c5] 40)
  have k2 := Blk.fresh (w.alloc (.cells #[.slice A1 pc.wd.length c1, .int .i64 pc.we, .slice A2 pc.wx.length c2, .slice A3 pc.m.length c3, .slice A4 pc.bd.length c4, .int .i64 pc.be, .slice A5 pc.bx.length c5] 43)) 40 [.slice A1 pc.wd.length c1, .int .i64 pc.we, .slice A2 pc.wx.length c2, .slice A4 pc.bd.length c4, .int .i64 pc.be, .slice A5 pc.bx.length c5]
  rw [World.size_alloc] at k2
  obtain ⟨rt, hrt⟩ : ∃ rt, (mayB pc.wd pc.we pc.wx && mayB pc.bd pc.be pc.bx) = rt := ⟨_, rfl⟩
  have HM := Lib.hid (may2_any _ B (w.heap.size + 1) _ _ _ _ _ _ _ _ _ _ (by simp only [World.size_alloc]; omega) (h.below (hbb.mono hB)).t (h.below (hbb.mono hB)).b k2 rt hrt)
  have HBB := Lib.hid hbb
  have HH := Lib.hid h
  have hK1 := Lib.hid (K0.out.alloc (.cells #[.slice A1 pc.wd.length c1, .int .i64 pc.we, .slice A2 pc.wx.length c2, .slice A4 pc.bd.length c4, .int .i64 pc.be, .slice A5 pc.bx.length c5] 40))
  have HR := Lib.hid hr
  unfold mayPar at HR
  rw [hrt] at HR
  have m0 := K0.out.cell 0
  have m1 := K0.out.cell 1
  have m2 := K0.out.cell 2
  have m3 := K0.out.cell 3
  have m4 := K0.out.cell 4
  have m5 := K0.out.cell 5
  have m6 := K0.out.cell 6
  simp only [List.getElem?_cons_zero, List.getElem?_cons_succ] at m0 m1 m2 m3 m4 m5 m6
  (try dsimp only at HM)
  clear h hb0 hbb k2 hr hrt
  go_enter Try.func51, Try.ntmps51
  go_wp2_with fail
  refine HM.out.mono ?_
  rintro en w2 ⟨rfl, hb2⟩
  have HB2 := Lib.hid (HBB.out.trans (hb2.mono (by simp only [World.size_alloc]; omega)))
  have K2 := Lib.hid (hK1.out.below hb2 (by simp only [World.size_alloc]; omega))
  have l2 := K2.out.lt
  clear hb2 HM m0 m1 m2 m3 m4 m5 m6 hK1 K0 HBB
  have m0 := K2.out.cell 0
  have m1 := K2.out.cell 1
  have m2 := K2.out.cell 2
  have m3 := K2.out.cell 3
  have m4 := K2.out.cell 4
  have m5 := K2.out.cell 5
  have m6 := K2.out.cell 6
  simp only [List.getElem?_cons_zero, List.getElem?_cons_succ] at m0 m1 m2 m3 m4 m5 m6
  dsimp only
  cases rt with
  | false =>
    have HF : Hid (r = false) := Lib.hid (by rw [← HR.out]; rfl)
    go_wp2_with fail
    go_ret
    exact ⟨by rw [HF.out]; rfl, HB2.out⟩
  | true =>
    by_cases hl1 : pc.bd.length = 1
    · have t1 : ((pc.bd.length : Int) != 1) = false := by simp [hl1]
      have HL1 := Lib.hid (decide_eq_true hl1)
      clear hl1
      by_cases hl2 : pc.m.length = pc.wx.length
      · have t2 : ((pc.m.length : Int) != (pc.wx.length : Int)) = false := by simp [hl2]
        have HL2 := Lib.hid (decide_eq_true hl2)
        have HR2 : Hid (pc.m.all inM = r) := Lib.hid (by rw [← HR.out, HL1.out, HL2.out]; rfl)
        have hml : pc.m.length ≤ 4503599627370496 := by omega
        clear hl2
        go_wp2_with fail
        clear t1 t2 m0 m1 m2 m3 m4 m5 m6
        go_loopw [32] (fun i wr => ∃ k : Nat, k ≤ pc.m.length ∧ i = .int .i64 k ∧ (pc.m.take k).all inM = true ∧ wr = w2) (fun i _ => pc.m.length - (intOf i).toNat)
        case atStart => exact ⟨0, by omega, rfl, by simp, rfl⟩
        case round =>
          obtain ⟨k, hk, rfl, htk, hw⟩ := hrel
          subst hw
          by_cases hlt : k < pc.m.length
          · obtain ⟨_, _, _, e7, l7, f7, m7, at7⟩ := (HH.out.below (HB2.out.mono hB)).m
            dsimp only at e7 l7
            injection e7 with e7 e8 e9
            subst e7 e8 e9
            obtain ⟨g7, o7, hA7, hg7, hx7⟩ := at7.out (by omega)
            subst hA7
            obtain ⟨x, hx⟩ : ∃ x, pc.m[k]? = some x := ⟨pc.m[k], List.getElem?_eq_getElem hlt⟩
            have k7 := hx7 k (.int .i32 x) (by unfold ints; rw [List.getElem?_map]; dsimp only; rw [hx]; rfl)
            have i1 : (0 : Int) ≤ (k : Int) := by omega
            have i2 : (k : Int) < (pc.m.length : Int) := by omega
            have s2 := HB2.out.size
            have hgr : g7 < wr.heap.size := by omega
            have HX := Lib.hid hx
            have HT := Lib.hid htk
            clear at7 hx7 l7 f7 m7 hx htk
            by_cases ha : x < -1048576
            · have t1 : decide (x < -1048576) = true := decide_eq_true ha
              have HF : Hid (r = false) := Lib.hid (by
                rw [← HR2.out]
                exact not_all HX.out (by unfold inM; rw [decide_eq_false (by omega)]; rfl))
              clear ha
              go_wp2_with fail
              go_ret
              exact ⟨by rw [HF.out]; rfl, HB2.out⟩
            · have t1 : decide (x < -1048576) = false := decide_eq_false ha
              by_cases hb : 1048576 < x
              · have t2 : decide (1048576 < x) = true := decide_eq_true hb
                have HF : Hid (r = false) := Lib.hid (by
                  rw [← HR2.out]
                  exact not_all HX.out (by unfold inM; rw [decide_eq_false (show ¬ x ≤ 1048576 by omega), Bool.and_false]))
                clear ha hb
                go_wp2_with fail
                go_ret
                exact ⟨by rw [HF.out]; rfl, HB2.out⟩
              · have t2 : decide (1048576 < x) = false := decide_eq_false hb
                have HN := Lib.hid (all_take_next HT.out HX.out (by unfold inM; rw [decide_eq_true (show -1048576 ≤ x by omega), decide_eq_true (show x ≤ 1048576 by omega)]; rfl))
                clear ha hb
                go_wp2_with fail
                go_roundw
                case rel => exact ⟨k + 1, by omega, by go_num, HN.out, by first | rfl | trivial⟩
                case measure => simp [intOf]; omega
          · obtain rfl : k = pc.m.length := by omega
            rw [List.take_length] at htk
            have HF : Hid (r = true) := Lib.hid (by rw [← HR2.out]; exact htk)
            clear htk hlt
            go_wp2_with fail
            go_ret
            exact ⟨by rw [HF.out]; rfl, HB2.out⟩
      · have t2 : ((pc.m.length : Int) != (pc.wx.length : Int)) = true := by rw [bne_iff_ne]; omega
        have HL2 := Lib.hid (decide_eq_false hl2)
        have HF : Hid (r = false) := Lib.hid (by rw [← HR.out, HL1.out, HL2.out]; rfl)
        clear hl2
        go_wp2_with fail
        go_ret
        exact ⟨by rw [HF.out]; rfl, HB2.out⟩
    · have t1 : ((pc.bd.length : Int) != 1) = true := by rw [bne_iff_ne]; omega
      have HL1 := Lib.hid (decide_eq_false hl1)
      have HF : Hid (r = false) := Lib.hid (by rw [← HR.out, HL1.out]; rfl)
      clear hl1
      go_wp2_with fail
      go_ret
      exact ⟨by rw [HF.out]; rfl, HB2.out⟩
theorem rmaystep_any (n : Int) (w : World) (r : Bool) (hr : (decide (0 ≤ n) && decide (n ≤ 1000000)) = r) :
    Calls Try.prog 49 #[.int .i64 n] w fun en w' => en = .returned (.bool r) ∧ w = w' := by
  cases c1 : decide (0 ≤ n) with
  | false =>
    have HF : Hid (r = false) := Lib.hid (by rw [← hr, c1]; rfl)
    clear hr
    go_enter Try.func49, Try.ntmps49
    go_wp2
    go_ret
    exact ⟨by rw [HF.out]; rfl, rfl⟩
  | true =>
    cases c2 : decide (n ≤ 1000000) with
    | false =>
      have HF : Hid (r = false) := Lib.hid (by rw [← hr, c1, c2]; rfl)
      clear hr
      go_enter Try.func49, Try.ntmps49
      go_wp2
      go_ret
      exact ⟨by rw [HF.out]; rfl, rfl⟩
    | true =>
      have HF : Hid (r = true) := Lib.hid (by rw [← hr, c1, c2]; rfl)
      clear hr
      go_enter Try.func49, Try.ntmps49
      go_wp2
      go_ret
      exact ⟨by rw [HF.out]; rfl, rfl⟩
set_option maxHeartbeats 1600000 in
set_option maxRecDepth 100000 in
theorem rsames_any (v v' : Value) (s t : StV) (w : World) (B : Nat) (hB : B ≤ w.heap.size) (h : StOf w B v s) (h' : StOf w B v' t) (r : Bool) (hr : sameS s t = r) :
    Calls Try.prog 13 #[v, v'] w fun en w' => en = .returned (.bool r) ∧ Below w.heap.size w w' := by
  obtain ⟨seed, step, lv, ps⟩ := s
  obtain ⟨seed', step', lv', qs⟩ := t
  obtain ⟨rfl, _, _, hp⟩ := h
  obtain ⟨rfl, _, _, hq⟩ := h'
  dsimp only at hp hq ⊢
  obtain ⟨A, c, rfl⟩ := hp.form
  obtain ⟨A', c', rfl⟩ := hq.form
  subst hr
  unfold sameS
  dsimp only
  have hb0 := ((Below.refl w.heap.size w).alloc (Nat.le_refl _) (.cells #[.int .u64 seed, .int .i64 step, .slice A ps.length c] 25)).alloc (by simp) (.cells #[.int .u64 seed', .int .i64 step', .slice A' qs.length c'] 25)
  have K0 := Lib.hid ((Blk.fresh w 25 [.int .u64 seed, .int .i64 step, .slice A ps.length c]).alloc (.cells #[.int .u64 seed', .int .i64 step', .slice A' qs.length c'] 25))
  have k1 := Blk.fresh (w.alloc (.cells #[.int .u64 seed, .int .i64 step, .slice A ps.length c] 25)) 25 [.int .u64 seed', .int .i64 step', .slice A' qs.length c']
  rw [World.size_alloc] at k1
  have K1 := Lib.hid k1
  have HC := Lib.hid (rsamep_any ps qs _ _ B _ (by simp only [World.size_alloc]; omega) (hp.below (hb0.mono hB)) (hq.below (hb0.mono hB)))
  have HB := Lib.hid hb0
  have m0 := K0.out.cell 0
  have m1 := K0.out.cell 1
  have m2 := K0.out.cell 2
  simp only [List.getElem?_cons_zero, List.getElem?_cons_succ] at m0 m1 m2
  have n0 := K1.out.cell 0
  have n1 := K1.out.cell 1
  have n2 := K1.out.cell 2
  simp only [List.getElem?_cons_zero, List.getElem?_cons_succ] at n0 n1 n2
  clear hp hq hb0 k1
  cases t1 : (seed == seed') with
  | false =>
    go_enter Try.func13, Try.ntmps13
    go_wp2_with fail
    go_ret
    exact ⟨by simp, HB.out⟩
  | true =>
    cases t2 : (step == step') with
    | false =>
      go_enter Try.func13, Try.ntmps13
      go_wp2_with fail
      go_ret
      exact ⟨by simp, HB.out⟩
    | true =>
      go_enter Try.func13, Try.ntmps13
      go_wp2_with fail
      refine HC.out.mono ?_
      rintro en w2 ⟨rfl, hb2⟩
      have HB2 := Lib.hid (HB.out.trans (hb2.mono (by simp only [World.size_alloc]; omega)))
      clear hb2 HC m0 m1 m2 n0 n1 n2
      dsimp only
      go_wp2
      go_ret
      exact ⟨by simp, HB2.out⟩
set_option maxHeartbeats 1600000 in
set_option maxRecDepth 100000 in
theorem rmays_any (v : Value) (s : StV) (w : World) (B : Nat) (hB : B ≤ w.heap.size) (h : StOf w B v s) (r : Bool) (hr : mayS s = r) :
    Calls Try.prog 17 #[v] w fun en w' => en = .returned (.bool r) ∧ Below w.heap.size w w' := by
  obtain ⟨seed, step, lv, ps⟩ := s
  obtain ⟨rfl, _, _, hp⟩ := h
  dsimp only at hp ⊢
  obtain ⟨A, c, rfl⟩ := hp.form
  have hlen := hp.len
  have hb0 := (Below.refl w.heap.size w).alloc (Nat.le_refl _) (.cells #[.int .u64 seed, .int .i64 step, .slice A ps.length c] 25)
  have K0 := Lib.hid (Blk.fresh w 25 [.int .u64 seed, .int .i64 step, .slice A ps.length c])
  have HB := Lib.hid hb0
  have HP := Lib.hid hp
  have hs0 : w.heap.size < (w.alloc (.cells #[.int .u64 seed, .int .i64 step, .slice A ps.length c] 25)).heap.size := by simp
  obtain ⟨rs, hrs⟩ : ∃ rs, (decide (0 ≤ step) && decide (step ≤ 1000000)) = rs := ⟨_, rfl⟩
  have HS := Lib.hid (rmaystep_any step (w.alloc (.cells #[.int .u64 seed, .int .i64 step, .slice A ps.length c] 25)) rs hrs)
  have HR : Hid ((rs && (decide (ps.length ≤ 12) && (ps.map (·.c)).all mayC)) = r) := Lib.hid (by rw [← hr, ← hrs]; unfold mayS; rw [Bool.and_assoc])
  have m0 := K0.out.cell 0
  have m1 := K0.out.cell 1
  have m2 := K0.out.cell 2
  simp only [List.getElem?_cons_zero, List.getElem?_cons_succ] at m0 m1 m2
  clear hp hb0 hrs hr
  go_enter Try.func17, Try.ntmps17
  go_wp2_with fail
  refine HS.out.mono ?_
  rintro en w' ⟨rfl, rfl⟩
  cases rs with
  | false =>
    have HF : Hid (r = false) := Lib.hid (by rw [← HR.out]; rfl)
    go_wp2_with fail
    go_ret
    exact ⟨by rw [HF.out]; rfl, HB.out⟩
  | true =>
    by_cases h12 : ps.length ≤ 12
    · have t1 : decide (12 < (ps.length : Int)) = false := decide_eq_false (by omega)
      have HR2 : Hid ((ps.map (·.c)).all mayC = r) := Lib.hid (by rw [← HR.out, decide_eq_true h12]; rfl)
      clear h12
      go_wp2_with fail
      clear t1 m0 m1 m2 hs0
      go_loopw [18] (fun i wr => ∃ k : Nat, k ≤ ps.length ∧ i = .int .i64 k ∧ ((ps.take k).map (·.c)).all mayC = true ∧ Hid (Below w.heap.size w wr)) (fun i _ => ps.length - (intOf i).toNat)
      case atStart => exact ⟨0, by omega, rfl, by simp, HB⟩
      case round =>
        obtain ⟨k, hk, rfl, htk, HBR⟩ := hrel
        by_cases hlt : k < ps.length
        · obtain ⟨gp, op, cp, u, e1, hu, hok, hgp, q0, q1, q2, q3, q4, q5, q6⟩ := (HP.out.below (HBR.out.mono hB)).at_ hlt
          injection e1 with e1 _ e3
          subst e1 e3
          have HOK := Lib.hid (HP.out.ok.out u (List.mem_of_getElem? hu))
          obtain ⟨A1, c1, A2, c2, f1, f2⟩ := hok.t.form
          obtain ⟨A3, c3, f3, _, _⟩ := hok.m.form
          obtain ⟨A4, c4, A5, c5, f4, f5⟩ := hok.b.form
          rw [length_ints] at f3
          obtain ⟨pwd, pwx, pmv, pbd, pbx, pc⟩ := u
          dsimp only at f1 f2 f3 f4 f5 q0 q1 q2 q3 q4 q5 q6
          subst f1 f2 f3 f4 f5
          have s0 := HBR.out.size
          have i1 : (0 : Int) ≤ (k : Int) := by omega
          have i2 : (k : Int) < (ps.length : Int) := by omega
          have hgr : gp < wr.heap.size := by omega
          have hba := (Below.refl wr.heap.size wr).alloc (Nat.le_refl _) (.cells #[.slice A1 pc.wd.length c1, .int .i64 pc.we, .slice A2 pc.wx.length c2, .slice A3 pc.m.length c3, .slice A4 pc.bd.length c4, .int .i64 pc.be, .slice A5 pc.bx.length c5] 43)
          have KX := Lib.hid (Blk.fresh wr 43 [.slice A1 pc.wd.length c1, .int .i64 pc.we, .slice A2 pc.wx.length c2, .slice A3 pc.m.length c3, .slice A4 pc.bd.length c4, .int .i64 pc.be, .slice A5 pc.bx.length c5])
          have HBA := Lib.hid (HBR.out.trans (hba.mono s0))
          have lx := KX.out.lt
          have m0 := KX.out.cell 0
          have m1 := KX.out.cell 1
          have m2 := KX.out.cell 2
          have m3 := KX.out.cell 3
          have m4 := KX.out.cell 4
          have m5 := KX.out.cell 5
          have m6 := KX.out.cell 6
          simp only [List.getElem?_cons_zero, List.getElem?_cons_succ] at m0 m1 m2 m3 m4 m5 m6
          obtain ⟨rz, hrz⟩ : ∃ rz, zeroP pc = rz := ⟨_, rfl⟩
          have HZ := Lib.hid (rzeroU_any ⟨.slice A1 pc.wd.length c1, .slice A2 pc.wx.length c2, .slice A3 pc.m.length c3, .slice A4 pc.bd.length c4, .slice A5 pc.bx.length c5, pc⟩ _ B (by have := hba.size; omega) (HOK.out.below (HBA.out.mono hB)) rz hrz)
          dsimp only at HZ
          obtain ⟨rp, hrp⟩ : ∃ rp, mayPar pc = rp := ⟨_, rfl⟩
          have HMC : Hid (mayC pc = (rz || rp)) := Lib.hid (by rw [mayC_par, hrz, hrp])
          have HRP := Lib.hid hrp
          have HU := Lib.hid hu
          have HT := Lib.hid htk
          clear hu htk hok hba hrz hrp
          go_wp2_with fail
          refine HZ.out.mono ?_
          rintro en w2 ⟨rfl, hb2⟩
          have K2 := Lib.hid (KX.out.below hb2 lx)
          have HB2 := Lib.hid (HBA.out.trans (hb2.mono HBA.out.size))
          have l2 := K2.out.lt
          clear hb2 HZ q0 q1 q2 q3 q4 q5 q6 m0 m1 m2 m3 m4 m5 m6 KX HBA lx
          dsimp only
          cases rz with
          | true =>
            have HN := Lib.hid (allp_next HT.out HU.out (by rw [HMC.out]; rfl))
            go_wp2_with fail
            go_roundw
            case rel => exact ⟨k + 1, by omega, by go_num, HN.out, HB2⟩
            case measure => simp [intOf]; omega
          | false =>
            have m0 := K2.out.cell 0
            have m1 := K2.out.cell 1
            have m2 := K2.out.cell 2
            have m3 := K2.out.cell 3
            have m4 := K2.out.cell 4
            have m5 := K2.out.cell 5
            have m6 := K2.out.cell 6
            simp only [List.getElem?_cons_zero, List.getElem?_cons_succ] at m0 m1 m2 m3 m4 m5 m6
            have HM := Lib.hid (rmayp_any ⟨.slice A1 pc.wd.length c1, .slice A2 pc.wx.length c2, .slice A3 pc.m.length c3, .slice A4 pc.bd.length c4, .slice A5 pc.bx.length c5, pc⟩ w2 B (by have := HB2.out.size; omega) (HOK.out.below (HB2.out.mono hB)) rp HRP.out)
            dsimp only at HM
            go_wp2_with fail
            refine HM.out.mono ?_
            rintro en w3 ⟨rfl, hb3⟩
            have HB3 := Lib.hid (HB2.out.trans (hb3.mono HB2.out.size))
            clear hb3 HM m0 m1 m2 m3 m4 m5 m6
            dsimp only
            cases rp with
            | true =>
              have HN := Lib.hid (allp_next HT.out HU.out (by rw [HMC.out]; rfl))
              go_wp2_with fail
              go_roundw
              case rel => exact ⟨k + 1, by omega, by go_num, HN.out, HB3⟩
              case measure => simp [intOf]; omega
            | false =>
              have HF : Hid (r = false) := Lib.hid (by rw [← HR2.out]; exact allp_not HU.out (by rw [HMC.out]; rfl))
              go_wp2_with fail
              go_ret
              exact ⟨by rw [HF.out]; rfl, HB3.out⟩
        · obtain rfl : k = ps.length := by omega
          rw [List.take_of_length_le (by omega)] at htk
          have HF : Hid (r = true) := Lib.hid (by rw [← HR2.out]; exact htk)
          clear htk hlt
          go_wp2_with fail
          go_ret
          exact ⟨by rw [HF.out]; rfl, HBR.out⟩
    · have t1 : decide (12 < (ps.length : Int)) = true := decide_eq_true (by omega)
      have HF : Hid (r = false) := Lib.hid (by rw [← HR.out, decide_eq_false h12]; rfl)
      clear h12
      go_wp2_with fail
      go_ret
      exact ⟨by rw [HF.out]; rfl, HB.out⟩
end Go.Proofs.Ytcjpibdgnjncmaa

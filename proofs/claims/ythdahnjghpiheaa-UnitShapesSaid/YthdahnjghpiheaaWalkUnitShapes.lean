/- The walk of UnitShapes. -/
import Derived.Test.YthdahnjghpiheaaAwake13
namespace Go.Proofs.Ythdahnjghpiheaa
open Go.RowKit
set_option linter.unusedVariables false

set_option maxHeartbeats 3200000 in
set_option maxRecDepth 100000 in
theorem unitShapes_walk (v0 : Value) (a0 : TenV) (v1 : Value) (a1 : List Int) (v2 : Value) (a2 : List Int) (w : World) (o0 : TenOf w v0 a0) (o1 : IntsOf w v1 a1) (o2 : IntsOf w v2 a2) :
    Calls Try.prog 3 #[v0, v1, v2] w fun en w' => en = .returned (.bool true) ∧ Below w.heap.size w w' := by
  obtain ⟨dv, xv, dims, exp, data⟩ := a0
  obtain ⟨rfl, hT, ld, lx⟩ := o0
  simp only at hT ld lx ⊢
  obtain ⟨hd1, db1, l1⟩ := o1
  obtain ⟨hd2, db2, l2⟩ := o2
  have hb0 : Below w.heap.size w (w.alloc (.cells #[dv, .int .i64 exp, xv] 25)) := (Below.refl _ _).alloc (Nat.le_refl _) _
  have HT := Lib.hid (hT.below hb0)
  have HD1 := Lib.hid (hd1.below hb0)
  have HD2 := Lib.hid (hd2.below hb0)
  obtain ⟨A, c, rfl, _, _⟩ := hT.d.form
  obtain ⟨A', c', rfl, _, _⟩ := hT.x.form
  obtain ⟨A1, c1, rfl, _, _⟩ := hd1.form
  obtain ⟨A2, c2, rfl, _, _⟩ := hd2.form
  simp only [length_ints] at *
  have K := Lib.hid (Blk.fresh w 25 [.slice A dims.length c, .int .i64 exp, .slice A' data.length c'])
  have HB := Lib.hid hb0
  clear hT hb0 hd1 hd2 ld lx l1 l2
  obtain ⟨D, hD⟩ : ∃ D, shapeD dims exp data a1 = D := ⟨_, rfl⟩
  obtain ⟨E, hE⟩ : ∃ D, shapeE dims exp data a1 = D := ⟨_, rfl⟩
  obtain ⟨X, hX⟩ : ∃ D, shapeX dims exp data a1 = D := ⟨_, rfl⟩
  obtain ⟨err, he⟩ : ∃ D, shapeErr dims exp data a1 = D := ⟨_, rfl⟩
  have hs1 : w.heap.size ≤ (w.alloc (.cells #[.slice A dims.length c, .int .i64 exp, .slice A' data.length c'] 25)).heap.size := by simp
  have HC := Lib.hid (shape_call dims exp data _ _ a1 _ _ _ _ hs1 hs1 D E X err HT.out HD1.out db1.out hD hE hX he)
  have HDE := Lib.hid hD
  have HEE := Lib.hid hE
  have HXE := Lib.hid hX
  have HER := Lib.hid he
  clear hD hE hX he
  obtain ⟨b, hb⟩ : ∃ b, w.heap.size = b := ⟨_, rfl⟩
  have HBE := Lib.hid hb
  clear hb
  by_cases h0 : err = 0
  · subst h0
    have h1 := shape_again HER.out a2
    have h2 := shape_back HER.out
    obtain rfl : a1 = D := by have := HDE.out; unfold shapeD at this; rwa [if_pos HER.out] at this
    obtain rfl : exp = E := by have := HEE.out; unfold shapeE at this; rwa [if_pos HER.out] at this
    obtain rfl : data = X := by have := HXE.out; unfold shapeX at this; rwa [if_pos HER.out] at this
    obtain ⟨D2, hD2⟩ : ∃ D, shapeD dims exp data a2 = D := ⟨_, rfl⟩
    obtain ⟨E2, hE2⟩ : ∃ D, shapeE dims exp data a2 = D := ⟨_, rfl⟩
    obtain ⟨X2, hX2⟩ : ∃ D, shapeX dims exp data a2 = D := ⟨_, rfl⟩
    obtain ⟨err2, he2⟩ : ∃ D, shapeErr dims exp data a2 = D := ⟨_, rfl⟩
    have ne2 : (err2 != err2) = false := by simp
    have G1 := Lib.hid hD2
    have G2 := Lib.hid hE2
    have G3 := Lib.hid hX2
    have G4 := Lib.hid he2
    have F1 : Hid (shapeD a1 exp data a2 = D2) := Lib.hid (by unfold shapeD at hD2 ⊢; rw [h1]; exact hD2)
    have F2 : Hid (shapeE a1 exp data a2 = E2) := Lib.hid (by unfold shapeE at hE2 ⊢; rw [h1]; exact hE2)
    have F3 : Hid (shapeX a1 exp data a2 = X2) := Lib.hid (by unfold shapeX at hX2 ⊢; rw [h1]; exact hX2)
    have F4 : Hid (shapeErr a1 exp data a2 = err2) := Lib.hid (by rw [h1]; exact he2)
    have J1 : Hid (shapeD a1 exp data dims = dims) := Lib.hid (by unfold shapeD; rw [if_pos h2])
    have J2 : Hid (shapeE a1 exp data dims = exp) := Lib.hid (by unfold shapeE; rw [if_pos h2])
    have J3 : Hid (shapeX a1 exp data dims = data) := Lib.hid (by unfold shapeX; rw [if_pos h2])
    have J4 := Lib.hid h2
    clear hD2 hE2 hX2 he2 h1 h2
    go_enter Try.func3, Try.ntmps3
    go_wp2_with fail
    refine HC.out.mono ?_
    rintro en w3 ⟨Ad, cd, Ax, cx, rfl, hT3, hb3⟩
    have hs3 := hb3.size
    simp only [World.size_alloc] at hs3
    have hbx := (Below.refl w3.heap.size w3).alloc (Nat.le_refl _) (.cells #[.slice Ad a1.length cd, .int .i64 exp, .slice Ax data.length cx] 25)
    have T3 := Lib.hid (hT3.below hbx)
    have T0 := Lib.hid ((HT.out.below (hb3.mono (by simp))).below (hbx.mono (by omega)))
    have D2' := Lib.hid ((HD2.out.below (hb3.mono (by simp))).below (hbx.mono (by omega)))
    have B3 := Lib.hid ((HB.out.trans (hb3.mono (by simp))).trans (hbx.mono (by omega)))
    have K0 := Lib.hid ((K.out.below hb3 (by simp)).alloc (.cells #[.slice Ad a1.length cd, .int .i64 exp, .slice Ax data.length cx] 25))
    have K3 := Lib.hid (Blk.fresh w3 25 [.slice Ad a1.length cd, .int .i64 exp, .slice Ax data.length cx])
    clear hT3 hb3 hbx HC HD1 HB K
    go_wp2_with fail
    have hn3 : w3.heap.size ≤ (w3.alloc (.cells #[.slice Ad a1.length cd, .int .i64 exp, .slice Ax data.length cx] 25)).heap.size := by simp
    have hn0 : w.heap.size ≤ (w3.alloc (.cells #[.slice Ad a1.length cd, .int .i64 exp, .slice Ax data.length cx] 25)).heap.size := by simp; omega
    refine (shape_call a1 exp data _ _ a2 _ _ _ _ hn3 hn0 D2 E2 X2 err2 T3.out D2'.out db2.out F1.out F2.out F3.out F4.out).mono ?_
    rintro en w5 ⟨Ad5, cd5, Ax5, cx5, rfl, hT5, hb5⟩
    generalize (w3.alloc (.cells #[.slice Ad a1.length cd, .int .i64 exp, .slice Ax data.length cx] 25)) = w4 at hn3 hn0 hb5 T3 T0 D2' B3 K0 K3
    have hs5 := hb5.size
    have hbx := (Below.refl w5.heap.size w5).alloc (Nat.le_refl _) (.cells #[.slice Ad5 D2.length cd5, .int .i64 E2, .slice Ax5 X2.length cx5] 25)
    have T5 := Lib.hid (hT5.below hbx)
    have T3 := Lib.hid ((T3.out.below (hb5.mono hn3)).below (hbx.mono (by omega)))
    have T0 := Lib.hid ((T0.out.below (hb5.mono hn0)).below (hbx.mono (by omega)))
    have D2' := Lib.hid ((D2'.out.below (hb5.mono hn0)).below (hbx.mono (by omega)))
    have B3 := Lib.hid ((B3.out.trans (hb5.mono hn0)).trans (hbx.mono (by omega)))
    have k05 := K0.out.below hb5 K0.out.lt
    have k35 := K3.out.below hb5 K3.out.lt
    have x0 : w5.cell? ⟨w.heap.size, 0, none⟩ = some (.slice A dims.length c) := k05.cell 0
    have x1 : w5.cell? ⟨w.heap.size, 1, none⟩ = some (.int .i64 exp) := k05.cell 1
    have x2 : w5.cell? ⟨w.heap.size, 2, none⟩ = some (.slice A' data.length c') := k05.cell 2
    have i0 := k05.lt
    have K0 := Lib.hid (k05.alloc (.cells #[.slice Ad5 D2.length cd5, .int .i64 E2, .slice Ax5 X2.length cx5] 25))
    have K3 := Lib.hid (k35.alloc (.cells #[.slice Ad5 D2.length cd5, .int .i64 E2, .slice Ax5 X2.length cx5] 25))
    have K5 := Lib.hid (Blk.fresh w5 25 [.slice Ad5 D2.length cd5, .int .i64 E2, .slice Ax5 X2.length cx5])
    clear hT5 hb5 hbx k05 k35
    go_wp2_with fail
    clear x0 x1 x2
    have hn5 : w5.heap.size ≤ (w5.alloc (.cells #[.slice Ad5 D2.length cd5, .int .i64 E2, .slice Ax5 X2.length cx5] 25)).heap.size := by simp
    have hn0 : w.heap.size ≤ (w5.alloc (.cells #[.slice Ad5 D2.length cd5, .int .i64 E2, .slice Ax5 X2.length cx5] 25)).heap.size := by simp; omega
    refine (shape_call dims exp data _ _ a2 _ _ _ _ hn0 hn0 D2 E2 X2 err2 T0.out D2'.out db2.out G1.out G2.out G3.out G4.out).mono ?_
    rintro en w7 ⟨Ad7, cd7, Ax7, cx7, rfl, hT7, hb7⟩
    generalize (w5.alloc (.cells #[.slice Ad5 D2.length cd5, .int .i64 E2, .slice Ax5 X2.length cx5] 25)) = w6 at hn5 hn0 hb7 T5 T3 T0 D2' B3 K0 K3 K5
    have hs7 := hb7.size
    have hbx := (Below.refl w7.heap.size w7).alloc (Nat.le_refl _) (.cells #[.slice Ad7 D2.length cd7, .int .i64 E2, .slice Ax7 X2.length cx7] 25)
    have T7 := Lib.hid (hT7.below hbx)
    have T5 := Lib.hid ((T5.out.below (hb7.mono hn5)).below (hbx.mono (by omega)))
    have T3 := Lib.hid ((T3.out.below (hb7.mono (by omega))).below (hbx.mono (by omega)))
    have T0 := Lib.hid ((T0.out.below (hb7.mono hn0)).below (hbx.mono (by omega)))
    have B3 := Lib.hid ((B3.out.trans (hb7.mono hn0)).trans (hbx.mono (by omega)))
    have k07 := K0.out.below hb7 K0.out.lt
    have k37 := K3.out.below hb7 K3.out.lt
    have k57 := K5.out.below hb7 K5.out.lt
    have i5 := k57.lt
    have x0 : w7.cell? ⟨w5.heap.size, 0, none⟩ = some (.slice Ad5 D2.length cd5) := k57.cell 0
    have x1 : w7.cell? ⟨w5.heap.size, 1, none⟩ = some (.int .i64 E2) := k57.cell 1
    have x2 : w7.cell? ⟨w5.heap.size, 2, none⟩ = some (.slice Ax5 X2.length cx5) := k57.cell 2
    have K0 := Lib.hid (k07.alloc (.cells #[.slice Ad7 D2.length cd7, .int .i64 E2, .slice Ax7 X2.length cx7] 25))
    have K3 := Lib.hid (k37.alloc (.cells #[.slice Ad7 D2.length cd7, .int .i64 E2, .slice Ax7 X2.length cx7] 25))
    clear hT7 hb7 hbx k07 k37 k57 K5
    go_wp2_with fail
    clear x0 x1 x2
    have hn7 : w7.heap.size ≤ (w7.alloc (.cells #[.slice Ad7 D2.length cd7, .int .i64 E2, .slice Ax7 X2.length cx7] 25)).heap.size := by simp
    have hS := samet_any D2 E2 X2 D2 E2 X2 _ _ _ _ _ w7.heap.size hn7 (T5.out.more (by omega)) T7.out
    rw [same_self] at hS
    refine hS.mono ?_
    rintro en w9 ⟨rfl, hb9⟩
    generalize (w7.alloc (.cells #[.slice Ad7 D2.length cd7, .int .i64 E2, .slice Ax7 X2.length cx7] 25)) = w8 at hn7 hb9 T7 T5 T3 T0 B3 K0 K3 hS
    clear hS T7 T5 HD2 D2'
    have hs9 := hb9.size
    have T3 := Lib.hid (T3.out.below (hb9.mono (by omega)))
    have T0 := Lib.hid (T0.out.below (hb9.mono (by omega)))
    have B3 := Lib.hid (B3.out.trans (hb9.mono (by omega)))
    have K0 := Lib.hid (K0.out.below hb9 K0.out.lt)
    have K3 := Lib.hid (K3.out.below hb9 K3.out.lt)
    have x0 : w9.cell? ⟨w.heap.size, 0, none⟩ = some (.slice A dims.length c) := K0.out.cell 0
    have x1 : w9.cell? ⟨w.heap.size, 1, none⟩ = some (.int .i64 exp) := K0.out.cell 1
    have x2 : w9.cell? ⟨w.heap.size, 2, none⟩ = some (.slice A' data.length c') := K0.out.cell 2
    have y0 : w9.cell? ⟨w3.heap.size, 0, none⟩ = some (.slice Ad a1.length cd) := K3.out.cell 0
    have y1 : w9.cell? ⟨w3.heap.size, 1, none⟩ = some (.int .i64 exp) := K3.out.cell 1
    have y2 : w9.cell? ⟨w3.heap.size, 2, none⟩ = some (.slice Ax data.length cx) := K3.out.cell 2
    have hl0 := K0.out.lt
    clear hb9
    go_wp2_with fail
    clear x0 x1 x2 y0 y1 y2
    refine (shape_call a1 exp data _ _ dims _ w9 _ _ (by omega) (by omega) dims exp data 0 T3.out T0.out.d HT.out.db.out J1.out J2.out J3.out J4.out).mono ?_
    rintro en w11 ⟨Ad11, cd11, Ax11, cx11, rfl, hT11, hb11⟩
    have hs11 := hb11.size
    have hbx := (Below.refl w11.heap.size w11).alloc (Nat.le_refl _) (.cells #[.slice Ad11 dims.length cd11, .int .i64 exp, .slice Ax11 data.length cx11] 25)
    have T11 := Lib.hid (hT11.below hbx)
    have T0 := Lib.hid ((T0.out.below (hb11.mono (by omega))).below (hbx.mono (by omega)))
    have B3 := Lib.hid ((B3.out.trans (hb11.mono (by omega))).trans (hbx.mono (by omega)))
    have k0 := K0.out.below hb11 K0.out.lt
    have i0 := k0.lt
    have x0 : w11.cell? ⟨w.heap.size, 0, none⟩ = some (.slice A dims.length c) := k0.cell 0
    have x1 : w11.cell? ⟨w.heap.size, 1, none⟩ = some (.int .i64 exp) := k0.cell 1
    have x2 : w11.cell? ⟨w.heap.size, 2, none⟩ = some (.slice A' data.length c') := k0.cell 2
    clear hT11 hb11 hbx k0 K0 K3
    go_wp2_with fail
    have hn11 : w11.heap.size ≤ (w11.alloc (.cells #[.slice Ad11 dims.length cd11, .int .i64 exp, .slice Ax11 data.length cx11] 25)).heap.size := by simp
    have hS := samet_any dims exp data dims exp data _ _ _ _ _ w11.heap.size hn11 T11.out (T0.out.more (by omega))
    rw [same_self] at hS
    refine hS.mono ?_
    rintro en w13 ⟨rfl, hb13⟩
    have B3 := Lib.hid (B3.out.trans (hb13.mono (by simp; omega)))
    clear hS hb13 x0 x1 x2 T11 T0
    go_wp2_with (go_at_call 13; refine (awake13_any _).mono ?_; rintro en w15 ⟨rfl, hb15⟩)
    go_ret
    exact ⟨rfl, B3.out.trans (hb15.mono B3.out.size)⟩
  · have t1 : (err != 0) = true := by simpa using h0
    have hX0 : X = [] := by have := HXE.out; unfold shapeX at this; rw [if_neg (by rw [HER.out]; exact h0)] at this; exact this.symm
    subst hX0
    go_enter Try.func3, Try.ntmps3
    go_wp2_with fail
    refine HC.out.mono ?_
    rintro en w3 ⟨Ad, cd, Ax, cx, rfl, hT3, hb3⟩
    have B3 := Lib.hid (HB.out.trans (hb3.mono (by simp)))
    simp only [List.length_nil]
    clear hT3 hb3 HC HT HD1 HB K
    go_wp2_with (go_at_call 13; refine (awake13_any _).mono ?_; rintro en w9 ⟨rfl, hb9⟩)
    go_ret
    exact ⟨rfl, (B3.out.alloc (by have := B3.out.size; omega) _).trans (hb9.mono (by have := B3.out.size; simp; omega))⟩
end Go.Proofs.Ythdahnjghpiheaa

/- The walk of AddForms. -/
import Derived.Test.YthdahnjghpiheaaRefAddAcc
import Derived.Test.YthdahnjghpiheaaOpenA
import Derived.Test.YthdahnjghpiheaaSameAcc
import Derived.Test.YthdahnjghpiheaaAwake14
namespace Go.Proofs.Ythdahnjghpiheaa
open Go.RowKit
set_option linter.unusedVariables false

theorem four_alloc (w : World) (o1 o2 o3 o4 : Obj) : Below w.heap.size w ((((w.alloc o1).alloc o2).alloc o3).alloc o4) := ((((Below.refl w.heap.size w).alloc (Nat.le_refl _) o1).alloc (by simp) o2).alloc (by simp; omega) o3).alloc (by simp; omega) o4
set_option maxHeartbeats 6400000 in
set_option maxRecDepth 100000 in
theorem addForms_walk (v0 : Value) (a0 : TenV) (v1 : Value) (a1 : TenV) (v2 : Value) (a2 : AccV) (v3 : Value) (a3 : AccV) (w : World) (o0 : TenOf w v0 a0) (o1 : TenOf w v1 a1) (o2 : AccOf w v2 a2) (o3 : AccOf w v3 a3) :
    Calls Try.prog 10 #[v0, v1, v2, v3] w fun en w' => en = .returned (.bool true) ∧ Below w.heap.size w w' := by
  obtain ⟨gv, gw, gd, ge, gx⟩ := a0
  obtain ⟨xv, xw, xd, xe, xx⟩ := a1
  obtain ⟨uv, uw, ud, ue, ux⟩ := a2
  obtain ⟨vv, vw, vd, ve, vx⟩ := a3
  obtain ⟨rfl, hG, ldg, lxg⟩ := o0
  obtain ⟨rfl, hX, ldx, lxx⟩ := o1
  obtain ⟨rfl, hC, ldc, lxc⟩ := o2
  obtain ⟨rfl, hE, lde, lxe⟩ := o3
  simp only at hG hX hC hE ldg lxg ldx lxx ldc lxc lde lxe ⊢
  obtain ⟨A, c, rfl, _, _⟩ := hG.d.form
  obtain ⟨A', c', rfl, _, _⟩ := hG.x.form
  obtain ⟨A2, c2, rfl, _, _⟩ := hX.d.form
  obtain ⟨A2', c2', rfl, _, _⟩ := hX.x.form
  obtain ⟨B, k, rfl, _, _⟩ := hC.d.form
  obtain ⟨B', k', rfl, _, _⟩ := hC.x.form
  obtain ⟨B2, k2, rfl, _, _⟩ := hE.d.form
  obtain ⟨B2', k2', rfl, _, _⟩ := hE.x.form
  simp only [length_ints] at *
  have hb0 := four_alloc w (.cells #[.slice A gd.length c, .int .i64 ge, .slice A' gx.length c'] 25) (.cells #[.slice A2 xd.length c2, .int .i64 xe, .slice A2' xx.length c2'] 25) (.cells #[.slice B ud.length k, .int .i64 ue, .slice B' ux.length k'] 39) (.cells #[.slice B2 vd.length k2, .int .i64 ve, .slice B2' vx.length k2'] 39)
  have TG := Lib.hid (hG.below hb0)
  have TX := Lib.hid (hX.below hb0)
  have TC := Lib.hid (hC.below hb0)
  have TE := Lib.hid (hE.below hb0)
  have kG := ((((Blk.fresh w 25 [.slice A gd.length c, .int .i64 ge, .slice A' gx.length c']).alloc (.cells #[.slice A2 xd.length c2, .int .i64 xe, .slice A2' xx.length c2'] 25)).alloc (.cells #[.slice B ud.length k, .int .i64 ue, .slice B' ux.length k'] 39)).alloc (.cells #[.slice B2 vd.length k2, .int .i64 ve, .slice B2' vx.length k2'] 39))
  have KG := Lib.hid kG
  have kX := (((Blk.fresh (w.alloc (.cells #[.slice A gd.length c, .int .i64 ge, .slice A' gx.length c'] 25)) 25 [.slice A2 xd.length c2, .int .i64 xe, .slice A2' xx.length c2']).alloc (.cells #[.slice B ud.length k, .int .i64 ue, .slice B' ux.length k'] 39)).alloc (.cells #[.slice B2 vd.length k2, .int .i64 ve, .slice B2' vx.length k2'] 39))
  simp only [World.size_alloc] at kX
  have KX := Lib.hid kX
  have kC := ((Blk.fresh ((w.alloc (.cells #[.slice A gd.length c, .int .i64 ge, .slice A' gx.length c'] 25)).alloc (.cells #[.slice A2 xd.length c2, .int .i64 xe, .slice A2' xx.length c2'] 25)) 39 [.slice B ud.length k, .int .i64 ue, .slice B' ux.length k']).alloc (.cells #[.slice B2 vd.length k2, .int .i64 ve, .slice B2' vx.length k2'] 39))
  simp only [World.size_alloc] at kC
  have KC := Lib.hid kC
  have kE := (Blk.fresh (((w.alloc (.cells #[.slice A gd.length c, .int .i64 ge, .slice A' gx.length c'] 25)).alloc (.cells #[.slice A2 xd.length c2, .int .i64 xe, .slice A2' xx.length c2'] 25)).alloc (.cells #[.slice B ud.length k, .int .i64 ue, .slice B' ux.length k'] 39)) 39 [.slice B2 vd.length k2, .int .i64 ve, .slice B2' vx.length k2'])
  simp only [World.size_alloc] at kE
  have KE := Lib.hid kE
  have BB := Lib.hid hb0
  have hl2 : w.heap.size + 4 ≤ ((((w.alloc (.cells #[.slice A gd.length c, .int .i64 ge, .slice A' gx.length c'] 25)).alloc (.cells #[.slice A2 xd.length c2, .int .i64 xe, .slice A2' xx.length c2'] 25)).alloc (.cells #[.slice B ud.length k, .int .i64 ue, .slice B' ux.length k'] 39)).alloc (.cells #[.slice B2 vd.length k2, .int .i64 ve, .slice B2' vx.length k2'] 39)).heap.size := by simp
  clear hG hX hC hE hb0 kG kX kC kE
  obtain ⟨D1, a1⟩ : ∃ D, (if addErr gd ge gx xd xe xx = 0 then gd else []) = D := ⟨_, rfl⟩
  obtain ⟨E1, a2⟩ : ∃ D, (if addErr gd ge gx xd xe xx = 0 then addE ge xe else 0) = D := ⟨_, rfl⟩
  obtain ⟨X1, a3⟩ : ∃ D, (if addErr gd ge gx xd xe xx = 0 then addI ge xe gx xx else []) = D := ⟨_, rfl⟩
  obtain ⟨e1, a4⟩ : ∃ D, addErr gd ge gx xd xe xx = D := ⟨_, rfl⟩
  obtain ⟨D2, b1⟩ : ∃ D, (if accErr ud ue ux vd ve vx = 0 then ud else []) = D := ⟨_, rfl⟩
  obtain ⟨E2, b2⟩ : ∃ D, (if accErr ud ue ux vd ve vx = 0 then ue else 0) = D := ⟨_, rfl⟩
  obtain ⟨X2, b3⟩ : ∃ D, (if accErr ud ue ux vd ve vx = 0 then sumI ux vx else []) = D := ⟨_, rfl⟩
  obtain ⟨e2, b4⟩ : ∃ D, accErr ud ue ux vd ve vx = D := ⟨_, rfl⟩
  have P1 := Lib.hid a1
  have P2 := Lib.hid a2
  have P3 := Lib.hid a3
  have P4 := Lib.hid a4
  have Q1 := Lib.hid b1
  have Q2 := Lib.hid b2
  have Q3 := Lib.hid b3
  have Q4 := Lib.hid b4
  have z1 : (e1 == e1) = true := by simp
  have z2 : (e2 == e2) = true := by simp
  clear a1 a2 a3 a4 b1 b2 b3 b4
  go_enter Try.func10, Try.ntmps10
  go_wp2_with fail
  generalize ((((w.alloc (.cells #[.slice A gd.length c, .int .i64 ge, .slice A' gx.length c'] 25)).alloc (.cells #[.slice A2 xd.length c2, .int .i64 xe, .slice A2' xx.length c2'] 25)).alloc (.cells #[.slice B ud.length k, .int .i64 ue, .slice B' ux.length k'] 39)).alloc (.cells #[.slice B2 vd.length k2, .int .i64 ve, .slice B2' vx.length k2'] 39)) = w2 at TG TX TC TE BB KG KX KC KE hl2 ⊢
  refine (add_any gd ge gx xd xe xx _ _ _ _ w2 _ (by omega) TG.out TX.out D1 E1 X1 e1 P1.out P2.out P3.out P4.out).mono ?_
  rintro en w3 ⟨Aa, ca, Ya, ya, rfl, hT3, hb3⟩
  have hs3 := hb3.size
  have hbx := (Below.refl w3.heap.size w3).alloc (Nat.le_refl _) (.cells #[.slice Aa (D1).length ca, .int .i64 E1, .slice Ya (X1).length ya] 39)
  have hbn := hbx.size
  have TG := Lib.hid ((TG.out.below (hb3.mono (by omega))).below (hbx.mono (by omega)))
  have TX := Lib.hid ((TX.out.below (hb3.mono (by omega))).below (hbx.mono (by omega)))
  have TC := Lib.hid ((TC.out.below (hb3.mono (by omega))).below (hbx.mono (by omega)))
  have TE := Lib.hid ((TE.out.below (hb3.mono (by omega))).below (hbx.mono (by omega)))
  have BB := Lib.hid ((BB.out.trans (hb3.mono (by omega))).trans (hbx.mono (by omega)))
  have kG := KG.out.below hb3 KG.out.lt
  have iG := kG.lt
  have kX := KX.out.below hb3 KX.out.lt
  have iX := kX.lt
  have kC := KC.out.below hb3 KC.out.lt
  have iC := kC.lt
  have kE := KE.out.below hb3 KE.out.lt
  have iE := kE.lt
  have xG0 : w3.cell? ⟨w.heap.size, 0, none⟩ = some (.slice A gd.length c) := kG.cell 0
  have xG1 : w3.cell? ⟨w.heap.size, 1, none⟩ = some (.int .i64 ge) := kG.cell 1
  have xG2 : w3.cell? ⟨w.heap.size, 2, none⟩ = some (.slice A' gx.length c') := kG.cell 2
  have xX0 : w3.cell? ⟨w.heap.size + 1, 0, none⟩ = some (.slice A2 xd.length c2) := kX.cell 0
  have xX1 : w3.cell? ⟨w.heap.size + 1, 1, none⟩ = some (.int .i64 xe) := kX.cell 1
  have xX2 : w3.cell? ⟨w.heap.size + 1, 2, none⟩ = some (.slice A2' xx.length c2') := kX.cell 2
  have KG := Lib.hid (kG.alloc (.cells #[.slice Aa (D1).length ca, .int .i64 E1, .slice Ya (X1).length ya] 39))
  have KX := Lib.hid (kX.alloc (.cells #[.slice Aa (D1).length ca, .int .i64 E1, .slice Ya (X1).length ya] 39))
  have KC := Lib.hid (kC.alloc (.cells #[.slice Aa (D1).length ca, .int .i64 E1, .slice Ya (X1).length ya] 39))
  have KE := Lib.hid (kE.alloc (.cells #[.slice Aa (D1).length ca, .int .i64 E1, .slice Ya (X1).length ya] 39))
  have Ta := Lib.hid (hT3.below hbx)
  have Ka := Lib.hid (Blk.fresh w3 39 [.slice Aa (D1).length ca, .int .i64 E1, .slice Ya (X1).length ya])
  clear hT3 hb3 kG kX kC kE
  go_wp2_with fail
  clear xG0 xG1 xG2 xX0 xX1 xX2
  generalize (w3.alloc (.cells #[.slice Aa (D1).length ca, .int .i64 E1, .slice Ya (X1).length ya] 39)) = w4 at hbx hbn BB TG TX TC TE Ta  KG KX KC KE Ka ⊢
  clear hbx
  refine (radd_any gd ge gx xd xe xx _ _ _ _ w4 _ (by omega) TG.out TX.out D1 E1 X1 e1 P1.out P2.out P3.out P4.out).mono ?_
  rintro en w5 ⟨Ab, cb, Yb, yb, rfl, hT5, hb5⟩
  have hs5 := hb5.size
  have hbx := (Below.refl w5.heap.size w5).alloc (Nat.le_refl _) (.cells #[.slice Ab (D1).length cb, .int .i64 E1, .slice Yb (X1).length yb] 39)
  have hbn := hbx.size
  have TG := Lib.hid ((TG.out.below (hb5.mono (by omega))).below (hbx.mono (by omega)))
  have TX := Lib.hid ((TX.out.below (hb5.mono (by omega))).below (hbx.mono (by omega)))
  have TC := Lib.hid ((TC.out.below (hb5.mono (by omega))).below (hbx.mono (by omega)))
  have TE := Lib.hid ((TE.out.below (hb5.mono (by omega))).below (hbx.mono (by omega)))
  have Ta := Lib.hid ((Ta.out.below (hb5.mono (by omega))).below (hbx.mono (by omega)))
  have BB := Lib.hid ((BB.out.trans (hb5.mono (by omega))).trans (hbx.mono (by omega)))
  have kG := KG.out.below hb5 KG.out.lt
  have iG := kG.lt
  have kX := KX.out.below hb5 KX.out.lt
  have iX := kX.lt
  have kC := KC.out.below hb5 KC.out.lt
  have iC := kC.lt
  have kE := KE.out.below hb5 KE.out.lt
  have iE := kE.lt
  have ka := Ka.out.below hb5 Ka.out.lt
  have ia := ka.lt
  have xC0 : w5.cell? ⟨w.heap.size + 1 + 1, 0, none⟩ = some (.slice B ud.length k) := kC.cell 0
  have xC1 : w5.cell? ⟨w.heap.size + 1 + 1, 1, none⟩ = some (.int .i64 ue) := kC.cell 1
  have xC2 : w5.cell? ⟨w.heap.size + 1 + 1, 2, none⟩ = some (.slice B' ux.length k') := kC.cell 2
  have xE0 : w5.cell? ⟨w.heap.size + 1 + 1 + 1, 0, none⟩ = some (.slice B2 vd.length k2) := kE.cell 0
  have xE1 : w5.cell? ⟨w.heap.size + 1 + 1 + 1, 1, none⟩ = some (.int .i64 ve) := kE.cell 1
  have xE2 : w5.cell? ⟨w.heap.size + 1 + 1 + 1, 2, none⟩ = some (.slice B2' vx.length k2') := kE.cell 2
  have KG := Lib.hid (kG.alloc (.cells #[.slice Ab (D1).length cb, .int .i64 E1, .slice Yb (X1).length yb] 39))
  have KX := Lib.hid (kX.alloc (.cells #[.slice Ab (D1).length cb, .int .i64 E1, .slice Yb (X1).length yb] 39))
  have KC := Lib.hid (kC.alloc (.cells #[.slice Ab (D1).length cb, .int .i64 E1, .slice Yb (X1).length yb] 39))
  have KE := Lib.hid (kE.alloc (.cells #[.slice Ab (D1).length cb, .int .i64 E1, .slice Yb (X1).length yb] 39))
  have Ka := Lib.hid (ka.alloc (.cells #[.slice Ab (D1).length cb, .int .i64 E1, .slice Yb (X1).length yb] 39))
  have Tb := Lib.hid (hT5.below hbx)
  have Kb := Lib.hid (Blk.fresh w5 39 [.slice Ab (D1).length cb, .int .i64 E1, .slice Yb (X1).length yb])
  clear hT5 hb5 kG kX kC kE ka
  go_wp2_with fail
  clear xC0 xC1 xC2 xE0 xE1 xE2
  generalize (w5.alloc (.cells #[.slice Ab (D1).length cb, .int .i64 E1, .slice Yb (X1).length yb] 39)) = w6 at hbx hbn BB TG TX TC TE Ta Tb  KG KX KC KE Ka Kb ⊢
  clear hbx
  refine (acc_any ud ue ux vd ve vx _ _ _ _ w6 _ (by omega) TC.out TE.out D2 E2 X2 e2 Q1.out Q2.out Q3.out Q4.out).mono ?_
  rintro en w7 ⟨Ac, cc, Yc, yc, rfl, hT7, hb7⟩
  have hs7 := hb7.size
  have hbx := (Below.refl w7.heap.size w7).alloc (Nat.le_refl _) (.cells #[.slice Ac (D2).length cc, .int .i64 E2, .slice Yc (X2).length yc] 39)
  have hbn := hbx.size
  have TG := Lib.hid ((TG.out.below (hb7.mono (by omega))).below (hbx.mono (by omega)))
  have TX := Lib.hid ((TX.out.below (hb7.mono (by omega))).below (hbx.mono (by omega)))
  have TC := Lib.hid ((TC.out.below (hb7.mono (by omega))).below (hbx.mono (by omega)))
  have TE := Lib.hid ((TE.out.below (hb7.mono (by omega))).below (hbx.mono (by omega)))
  have Ta := Lib.hid ((Ta.out.below (hb7.mono (by omega))).below (hbx.mono (by omega)))
  have Tb := Lib.hid ((Tb.out.below (hb7.mono (by omega))).below (hbx.mono (by omega)))
  have BB := Lib.hid ((BB.out.trans (hb7.mono (by omega))).trans (hbx.mono (by omega)))
  have kG := KG.out.below hb7 KG.out.lt
  have iG := kG.lt
  have kX := KX.out.below hb7 KX.out.lt
  have iX := kX.lt
  have kC := KC.out.below hb7 KC.out.lt
  have iC := kC.lt
  have kE := KE.out.below hb7 KE.out.lt
  have iE := kE.lt
  have ka := Ka.out.below hb7 Ka.out.lt
  have ia := ka.lt
  have kb := Kb.out.below hb7 Kb.out.lt
  have ib := kb.lt
  have xC0 : w7.cell? ⟨w.heap.size + 1 + 1, 0, none⟩ = some (.slice B ud.length k) := kC.cell 0
  have xC1 : w7.cell? ⟨w.heap.size + 1 + 1, 1, none⟩ = some (.int .i64 ue) := kC.cell 1
  have xC2 : w7.cell? ⟨w.heap.size + 1 + 1, 2, none⟩ = some (.slice B' ux.length k') := kC.cell 2
  have xE0 : w7.cell? ⟨w.heap.size + 1 + 1 + 1, 0, none⟩ = some (.slice B2 vd.length k2) := kE.cell 0
  have xE1 : w7.cell? ⟨w.heap.size + 1 + 1 + 1, 1, none⟩ = some (.int .i64 ve) := kE.cell 1
  have xE2 : w7.cell? ⟨w.heap.size + 1 + 1 + 1, 2, none⟩ = some (.slice B2' vx.length k2') := kE.cell 2
  have KG := Lib.hid (kG.alloc (.cells #[.slice Ac (D2).length cc, .int .i64 E2, .slice Yc (X2).length yc] 39))
  have KX := Lib.hid (kX.alloc (.cells #[.slice Ac (D2).length cc, .int .i64 E2, .slice Yc (X2).length yc] 39))
  have KC := Lib.hid (kC.alloc (.cells #[.slice Ac (D2).length cc, .int .i64 E2, .slice Yc (X2).length yc] 39))
  have KE := Lib.hid (kE.alloc (.cells #[.slice Ac (D2).length cc, .int .i64 E2, .slice Yc (X2).length yc] 39))
  have Ka := Lib.hid (ka.alloc (.cells #[.slice Ac (D2).length cc, .int .i64 E2, .slice Yc (X2).length yc] 39))
  have Kb := Lib.hid (kb.alloc (.cells #[.slice Ac (D2).length cc, .int .i64 E2, .slice Yc (X2).length yc] 39))
  have Tc := Lib.hid (hT7.below hbx)
  have Kc := Lib.hid (Blk.fresh w7 39 [.slice Ac (D2).length cc, .int .i64 E2, .slice Yc (X2).length yc])
  clear hT7 hb7 kG kX kC kE ka kb
  go_wp2_with fail
  clear xC0 xC1 xC2 xE0 xE1 xE2
  generalize (w7.alloc (.cells #[.slice Ac (D2).length cc, .int .i64 E2, .slice Yc (X2).length yc] 39)) = w8 at hbx hbn BB TG TX TC TE Ta Tb Tc  KG KX KC KE Ka Kb Kc ⊢
  clear hbx
  refine (raddacc_any ud ue ux vd ve vx _ _ _ _ w8 _ (by omega) TC.out TE.out D2 E2 X2 e2 Q1.out Q2.out Q3.out Q4.out).mono ?_
  rintro en w9 ⟨Ad, cd, Yd, yd, rfl, hT9, hb9⟩
  have hs9 := hb9.size
  have hbx := (Below.refl w9.heap.size w9).alloc (Nat.le_refl _) (.cells #[.slice Ad (D2).length cd, .int .i64 E2, .slice Yd (X2).length yd] 39)
  have hbn := hbx.size
  have TG := Lib.hid ((TG.out.below (hb9.mono (by omega))).below (hbx.mono (by omega)))
  have TX := Lib.hid ((TX.out.below (hb9.mono (by omega))).below (hbx.mono (by omega)))
  have TC := Lib.hid ((TC.out.below (hb9.mono (by omega))).below (hbx.mono (by omega)))
  have TE := Lib.hid ((TE.out.below (hb9.mono (by omega))).below (hbx.mono (by omega)))
  have Ta := Lib.hid ((Ta.out.below (hb9.mono (by omega))).below (hbx.mono (by omega)))
  have Tb := Lib.hid ((Tb.out.below (hb9.mono (by omega))).below (hbx.mono (by omega)))
  have Tc := Lib.hid ((Tc.out.below (hb9.mono (by omega))).below (hbx.mono (by omega)))
  have BB := Lib.hid ((BB.out.trans (hb9.mono (by omega))).trans (hbx.mono (by omega)))
  have kG := KG.out.below hb9 KG.out.lt
  have iG := kG.lt
  have kX := KX.out.below hb9 KX.out.lt
  have iX := kX.lt
  have kC := KC.out.below hb9 KC.out.lt
  have iC := kC.lt
  have kE := KE.out.below hb9 KE.out.lt
  have iE := kE.lt
  have ka := Ka.out.below hb9 Ka.out.lt
  have ia := ka.lt
  have kb := Kb.out.below hb9 Kb.out.lt
  have ib := kb.lt
  have kc := Kc.out.below hb9 Kc.out.lt
  have ic := kc.lt
  have xa0 : w9.cell? ⟨w3.heap.size, 0, none⟩ = some (.slice Aa (D1).length ca) := ka.cell 0
  have xa1 : w9.cell? ⟨w3.heap.size, 1, none⟩ = some (.int .i64 E1) := ka.cell 1
  have xa2 : w9.cell? ⟨w3.heap.size, 2, none⟩ = some (.slice Ya (X1).length ya) := ka.cell 2
  have xb0 : w9.cell? ⟨w5.heap.size, 0, none⟩ = some (.slice Ab (D1).length cb) := kb.cell 0
  have xb1 : w9.cell? ⟨w5.heap.size, 1, none⟩ = some (.int .i64 E1) := kb.cell 1
  have xb2 : w9.cell? ⟨w5.heap.size, 2, none⟩ = some (.slice Yb (X1).length yb) := kb.cell 2
  have KG := Lib.hid (kG.alloc (.cells #[.slice Ad (D2).length cd, .int .i64 E2, .slice Yd (X2).length yd] 39))
  have KX := Lib.hid (kX.alloc (.cells #[.slice Ad (D2).length cd, .int .i64 E2, .slice Yd (X2).length yd] 39))
  have KC := Lib.hid (kC.alloc (.cells #[.slice Ad (D2).length cd, .int .i64 E2, .slice Yd (X2).length yd] 39))
  have KE := Lib.hid (kE.alloc (.cells #[.slice Ad (D2).length cd, .int .i64 E2, .slice Yd (X2).length yd] 39))
  have Ka := Lib.hid (ka.alloc (.cells #[.slice Ad (D2).length cd, .int .i64 E2, .slice Yd (X2).length yd] 39))
  have Kb := Lib.hid (kb.alloc (.cells #[.slice Ad (D2).length cd, .int .i64 E2, .slice Yd (X2).length yd] 39))
  have Kc := Lib.hid (kc.alloc (.cells #[.slice Ad (D2).length cd, .int .i64 E2, .slice Yd (X2).length yd] 39))
  have Td := Lib.hid (hT9.below hbx)
  have Kd := Lib.hid (Blk.fresh w9 39 [.slice Ad (D2).length cd, .int .i64 E2, .slice Yd (X2).length yd])
  clear hT9 hb9 kG kX kC kE ka kb kc
  go_wp2_with fail
  clear xa0 xa1 xa2 xb0 xb1 xb2
  generalize (w9.alloc (.cells #[.slice Ad (D2).length cd, .int .i64 E2, .slice Yd (X2).length yd] 39)) = w10 at hbx hbn BB TG TX TC TE Ta Tb Tc Td  KG KX KC KE Ka Kb Kc Kd ⊢
  clear hbx
  have hS := sameacc_any D1 E1 X1 D1 E1 X1 _ _ _ _ w10 w10.heap.size (Nat.le_refl _) (Ta.out.more (by omega)) (Tb.out.more (by omega))
  rw [same_self] at hS
  refine hS.mono ?_
  rintro en w11 ⟨rfl, hb11⟩
  have hs11 := hb11.size
  clear hS
  have Tc := Lib.hid (Tc.out.below (hb11.mono (by omega)))
  have Kc := Lib.hid (Kc.out.below hb11 Kc.out.lt)
  have Td := Lib.hid (Td.out.below (hb11.mono (by omega)))
  have Kd := Lib.hid (Kd.out.below hb11 Kd.out.lt)
  have BB := Lib.hid (BB.out.trans (hb11.mono (by omega)))
  have xc0 : w11.cell? ⟨w7.heap.size, 0, none⟩ = some (.slice Ac (D2).length cc) := Kc.out.cell 0
  have xc1 : w11.cell? ⟨w7.heap.size, 1, none⟩ = some (.int .i64 E2) := Kc.out.cell 1
  have xc2 : w11.cell? ⟨w7.heap.size, 2, none⟩ = some (.slice Yc (X2).length yc) := Kc.out.cell 2
  have xd0 : w11.cell? ⟨w9.heap.size, 0, none⟩ = some (.slice Ad (D2).length cd) := Kd.out.cell 0
  have xd1 : w11.cell? ⟨w9.heap.size, 1, none⟩ = some (.int .i64 E2) := Kd.out.cell 1
  have xd2 : w11.cell? ⟨w9.heap.size, 2, none⟩ = some (.slice Yd (X2).length yd) := Kd.out.cell 2
  clear hb11
  go_wp2_with fail
  clear xc0 xc1 xc2 xd0 xd1 xd2
  have hS := sameacc_any D2 E2 X2 D2 E2 X2 _ _ _ _ w11 w11.heap.size (Nat.le_refl _) (Tc.out.more (by omega)) (Td.out.more (by omega))
  rw [same_self] at hS
  refine hS.mono ?_
  rintro en w12 ⟨rfl, hb12⟩
  have hs12 := hb12.size
  clear hS
  have BB := Lib.hid (BB.out.trans (hb12.mono (by omega)))
  clear hb12
  go_wp2_with (go_at_call 20; refine (awake14_any _).mono ?_; rintro en w30 ⟨rfl, hb30⟩)
  go_ret
  exact ⟨rfl, BB.out.trans (hb30.mono BB.out.size)⟩
end Go.Proofs.Ythdahnjghpiheaa

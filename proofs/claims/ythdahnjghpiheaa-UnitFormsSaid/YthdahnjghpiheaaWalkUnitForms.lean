/- The walk of UnitForms. -/
import Derived.Test.YthdahnjghpiheaaRefFlat
namespace Go.Proofs.Ythdahnjghpiheaa
open Go.RowKit
set_option linter.unusedVariables false

set_option maxHeartbeats 6400000 in
set_option maxRecDepth 100000 in
theorem unitForms_walk (v0 : Value) (a0 : TenV) (v1 : Value) (a1 : TenV) (v2 : Value) (ds : List Int) (w : World) (o0 : TenOf w v0 a0) (o1 : TenOf w v1 a1) (o2 : IntsOf w v2 ds) :
    Calls Try.prog 9 #[v0, v1, v2] w fun en w' => en = .returned (.bool true) ∧ Below w.heap.size w w' := by
  obtain ⟨gv, gw, gd, ge, gx⟩ := a0
  obtain ⟨xv, xw, xd, xe, xx⟩ := a1
  obtain ⟨rfl, hG, ldg, lxg⟩ := o0
  obtain ⟨rfl, hX, ldx, lxx⟩ := o1
  simp only at hG hX ldg lxg ldx lxx ⊢
  obtain ⟨hd1, HDB, l1⟩ := o2
  have hb0 := two_alloc0 w (.cells #[gv, .int .i64 ge, gw] 25) (.cells #[xv, .int .i64 xe, xw] 25)
  have TG := Lib.hid (hG.below hb0)
  have TX := Lib.hid (hX.below hb0)
  have RD := Lib.hid (hd1.below hb0)
  obtain ⟨A, c, rfl, _, _⟩ := hG.d.form
  obtain ⟨A', c', rfl, _, _⟩ := hG.x.form
  obtain ⟨A2, c2, rfl, _, _⟩ := hX.d.form
  obtain ⟨A2', c2', rfl, _, _⟩ := hX.x.form
  obtain ⟨A3, c3, rfl, _, _⟩ := hd1.form
  simp only [length_ints] at *
  have KG := Lib.hid ((Blk.fresh w 25 [.slice A gd.length c, .int .i64 ge, .slice A' gx.length c']).alloc (.cells #[.slice A2 xd.length c2, .int .i64 xe, .slice A2' xx.length c2'] 25))
  have kx := Blk.fresh (w.alloc (.cells #[.slice A gd.length c, .int .i64 ge, .slice A' gx.length c'] 25)) 25 [.slice A2 xd.length c2, .int .i64 xe, .slice A2' xx.length c2']
  rw [World.size_alloc] at kx
  have KX := Lib.hid kx
  have BB := Lib.hid hb0
  have hl2 : w.heap.size + 2 ≤ ((w.alloc (.cells #[.slice A gd.length c, .int .i64 ge, .slice A' gx.length c'] 25)).alloc (.cells #[.slice A2 xd.length c2, .int .i64 xe, .slice A2' xx.length c2'] 25)).heap.size := by simp
  clear hG hX hb0 kx hd1
  obtain ⟨D1, a1⟩ : ∃ D, relD xd xe xx = D := ⟨_, rfl⟩
  obtain ⟨E1, a2⟩ : ∃ D, relE xd xe xx = D := ⟨_, rfl⟩
  obtain ⟨X1, a3⟩ : ∃ D, relX xd xe xx (reluI xx) = D := ⟨_, rfl⟩
  obtain ⟨e1, a4⟩ : ∃ D, relErr xd xe xx = D := ⟨_, rfl⟩
  obtain ⟨D2, b1⟩ : ∃ D, (if backErr gd ge gx xd xe xx = 0 then gd else []) = D := ⟨_, rfl⟩
  obtain ⟨E2, b2⟩ : ∃ D, (if backErr gd ge gx xd xe xx = 0 then ge else 0) = D := ⟨_, rfl⟩
  obtain ⟨X2, b3⟩ : ∃ D, (if backErr gd ge gx xd xe xx = 0 then slopeI gx xx else []) = D := ⟨_, rfl⟩
  obtain ⟨e2, b4⟩ : ∃ D, backErr gd ge gx xd xe xx = D := ⟨_, rfl⟩
  obtain ⟨D3, cc1⟩ : ∃ D, shapeD xd xe xx (flatD xd) = D := ⟨_, rfl⟩
  obtain ⟨E3, cc2⟩ : ∃ D, shapeE xd xe xx (flatD xd) = D := ⟨_, rfl⟩
  obtain ⟨X3, cc3⟩ : ∃ D, shapeX xd xe xx (flatD xd) = D := ⟨_, rfl⟩
  obtain ⟨e3, cc4⟩ : ∃ D, flatErr xd xe xx = D := ⟨_, rfl⟩
  obtain ⟨D4, f1⟩ : ∃ D, shapeD xd xe xx ds = D := ⟨_, rfl⟩
  obtain ⟨E4, f2⟩ : ∃ D, shapeE xd xe xx ds = D := ⟨_, rfl⟩
  obtain ⟨X4, f3⟩ : ∃ D, shapeX xd xe xx ds = D := ⟨_, rfl⟩
  obtain ⟨e4, f4⟩ : ∃ D, shapeErr xd xe xx ds = D := ⟨_, rfl⟩
  have P1 := Lib.hid a1
  have P2 := Lib.hid a2
  have P3 := Lib.hid a3
  have P4 := Lib.hid a4
  have B1 := Lib.hid b1
  have B2 := Lib.hid b2
  have B3 := Lib.hid b3
  have B4 := Lib.hid b4
  have C1 := Lib.hid cc1
  have C2 := Lib.hid cc2
  have C3 := Lib.hid cc3
  have C4 := Lib.hid cc4
  have F1 := Lib.hid f1
  have F2 := Lib.hid f2
  have F3 := Lib.hid f3
  have F4 := Lib.hid f4
  have z1 : (e1 == e1) = true := by simp
  have z2 : (e2 == e2) = true := by simp
  have z3 : (e3 == e3) = true := by simp
  have z4 : (e4 == e4) = true := by simp
  clear a1 a2 a3 a4 b1 b2 b3 b4 cc1 cc2 cc3 cc4 f1 f2 f3 f4
  go_enter Try.func9, Try.ntmps9
  go_wp2_with fail
  generalize ((w.alloc (.cells #[.slice A gd.length c, .int .i64 ge, .slice A' gx.length c'] 25)).alloc (.cells #[.slice A2 xd.length c2, .int .i64 xe, .slice A2' xx.length c2'] 25)) = w2 at TG TX RD BB KG KX hl2 ⊢
  refine (relu_call xd xe xx _ _ w2 _ (by omega) D1 E1 X1 e1 TX.out ldx lxx P1.out P2.out P3.out P4.out).mono ?_
  rintro en w3 ⟨Aa, ca, Ya, ya, rfl, hT3, hb3⟩
  have hs3 := hb3.size
  have hbx := (Below.refl w3.heap.size w3).alloc (Nat.le_refl _) (.cells #[.slice Aa (D1).length ca, .int .i64 E1, .slice Ya (X1).length ya] 25)
  have hbn := hbx.size
  have TG := Lib.hid ((TG.out.below (hb3.mono (by omega))).below (hbx.mono (by omega)))
  have TX := Lib.hid ((TX.out.below (hb3.mono (by omega))).below (hbx.mono (by omega)))
  have RD := Lib.hid ((RD.out.below (hb3.mono (by omega))).below (hbx.mono (by omega)))
  have BB := Lib.hid ((BB.out.trans (hb3.mono (by omega))).trans (hbx.mono (by omega)))
  have kG := KG.out.below hb3 KG.out.lt
  have iG := kG.lt
  have kX := KX.out.below hb3 KX.out.lt
  have iX := kX.lt
  have xX0 : w3.cell? ⟨w.heap.size + 1, 0, none⟩ = some (.slice A2 xd.length c2) := kX.cell 0
  have xX1 : w3.cell? ⟨w.heap.size + 1, 1, none⟩ = some (.int .i64 xe) := kX.cell 1
  have xX2 : w3.cell? ⟨w.heap.size + 1, 2, none⟩ = some (.slice A2' xx.length c2') := kX.cell 2
  have KG := Lib.hid (kG.alloc (.cells #[.slice Aa (D1).length ca, .int .i64 E1, .slice Ya (X1).length ya] 25))
  have KX := Lib.hid (kX.alloc (.cells #[.slice Aa (D1).length ca, .int .i64 E1, .slice Ya (X1).length ya] 25))
  have Ta := Lib.hid (hT3.below hbx)
  have Ka := Lib.hid (Blk.fresh w3 25 [.slice Aa (D1).length ca, .int .i64 E1, .slice Ya (X1).length ya])
  clear hT3 hb3 kG kX
  go_wp2_with fail
  clear xX0 xX1 xX2
  generalize (w3.alloc (.cells #[.slice Aa (D1).length ca, .int .i64 E1, .slice Ya (X1).length ya] 25)) = w4 at hbx hbn BB TG TX Ta RD KG KX Ka ⊢
  clear hbx
  refine ((rrelu_any xd xe xx _ _ w4 _ (by omega) TX.out D1 E1 X1 e1 P1.out P2.out P3.out P4.out).mono (fun _ _ hq => hq.form)).mono ?_
  rintro en w5 ⟨Ab, cb, Yb, yb, rfl, hT5, hb5⟩
  have hs5 := hb5.size
  have hbx := (Below.refl w5.heap.size w5).alloc (Nat.le_refl _) (.cells #[.slice Ab (D1).length cb, .int .i64 E1, .slice Yb (X1).length yb] 25)
  have hbn := hbx.size
  have TG := Lib.hid ((TG.out.below (hb5.mono (by omega))).below (hbx.mono (by omega)))
  have TX := Lib.hid ((TX.out.below (hb5.mono (by omega))).below (hbx.mono (by omega)))
  have Ta := Lib.hid ((Ta.out.below (hb5.mono (by omega))).below (hbx.mono (by omega)))
  have RD := Lib.hid ((RD.out.below (hb5.mono (by omega))).below (hbx.mono (by omega)))
  have BB := Lib.hid ((BB.out.trans (hb5.mono (by omega))).trans (hbx.mono (by omega)))
  have kG := KG.out.below hb5 KG.out.lt
  have iG := kG.lt
  have kX := KX.out.below hb5 KX.out.lt
  have iX := kX.lt
  have ka := Ka.out.below hb5 Ka.out.lt
  have ia := ka.lt
  have xG0 : w5.cell? ⟨w.heap.size, 0, none⟩ = some (.slice A gd.length c) := kG.cell 0
  have xG1 : w5.cell? ⟨w.heap.size, 1, none⟩ = some (.int .i64 ge) := kG.cell 1
  have xG2 : w5.cell? ⟨w.heap.size, 2, none⟩ = some (.slice A' gx.length c') := kG.cell 2
  have xX0 : w5.cell? ⟨w.heap.size + 1, 0, none⟩ = some (.slice A2 xd.length c2) := kX.cell 0
  have xX1 : w5.cell? ⟨w.heap.size + 1, 1, none⟩ = some (.int .i64 xe) := kX.cell 1
  have xX2 : w5.cell? ⟨w.heap.size + 1, 2, none⟩ = some (.slice A2' xx.length c2') := kX.cell 2
  have KG := Lib.hid (kG.alloc (.cells #[.slice Ab (D1).length cb, .int .i64 E1, .slice Yb (X1).length yb] 25))
  have KX := Lib.hid (kX.alloc (.cells #[.slice Ab (D1).length cb, .int .i64 E1, .slice Yb (X1).length yb] 25))
  have Ka := Lib.hid (ka.alloc (.cells #[.slice Ab (D1).length cb, .int .i64 E1, .slice Yb (X1).length yb] 25))
  have Tb := Lib.hid (hT5.below hbx)
  have Kb := Lib.hid (Blk.fresh w5 25 [.slice Ab (D1).length cb, .int .i64 E1, .slice Yb (X1).length yb])
  clear hT5 hb5 kG kX ka
  go_wp2_with fail
  clear xG0 xG1 xG2 xX0 xX1 xX2
  generalize (w5.alloc (.cells #[.slice Ab (D1).length cb, .int .i64 E1, .slice Yb (X1).length yb] 25)) = w6 at hbx hbn BB TG TX Ta Tb RD KG KX Ka Kb ⊢
  clear hbx
  refine (back_any gd ge gx xd xe xx _ _ _ _ w6 _ (by omega) TG.out TX.out D2 E2 X2 e2 B1.out B2.out B3.out B4.out).mono ?_
  rintro en w7 ⟨Ac, cc, Yc, yc, rfl, hT7, hb7⟩
  have hs7 := hb7.size
  have hbx := (Below.refl w7.heap.size w7).alloc (Nat.le_refl _) (.cells #[.slice Ac (D2).length cc, .int .i64 E2, .slice Yc (X2).length yc] 25)
  have hbn := hbx.size
  have TG := Lib.hid ((TG.out.below (hb7.mono (by omega))).below (hbx.mono (by omega)))
  have TX := Lib.hid ((TX.out.below (hb7.mono (by omega))).below (hbx.mono (by omega)))
  have Ta := Lib.hid ((Ta.out.below (hb7.mono (by omega))).below (hbx.mono (by omega)))
  have Tb := Lib.hid ((Tb.out.below (hb7.mono (by omega))).below (hbx.mono (by omega)))
  have RD := Lib.hid ((RD.out.below (hb7.mono (by omega))).below (hbx.mono (by omega)))
  have BB := Lib.hid ((BB.out.trans (hb7.mono (by omega))).trans (hbx.mono (by omega)))
  have kG := KG.out.below hb7 KG.out.lt
  have iG := kG.lt
  have kX := KX.out.below hb7 KX.out.lt
  have iX := kX.lt
  have ka := Ka.out.below hb7 Ka.out.lt
  have ia := ka.lt
  have kb := Kb.out.below hb7 Kb.out.lt
  have ib := kb.lt
  have xG0 : w7.cell? ⟨w.heap.size, 0, none⟩ = some (.slice A gd.length c) := kG.cell 0
  have xG1 : w7.cell? ⟨w.heap.size, 1, none⟩ = some (.int .i64 ge) := kG.cell 1
  have xG2 : w7.cell? ⟨w.heap.size, 2, none⟩ = some (.slice A' gx.length c') := kG.cell 2
  have xX0 : w7.cell? ⟨w.heap.size + 1, 0, none⟩ = some (.slice A2 xd.length c2) := kX.cell 0
  have xX1 : w7.cell? ⟨w.heap.size + 1, 1, none⟩ = some (.int .i64 xe) := kX.cell 1
  have xX2 : w7.cell? ⟨w.heap.size + 1, 2, none⟩ = some (.slice A2' xx.length c2') := kX.cell 2
  have KG := Lib.hid (kG.alloc (.cells #[.slice Ac (D2).length cc, .int .i64 E2, .slice Yc (X2).length yc] 25))
  have KX := Lib.hid (kX.alloc (.cells #[.slice Ac (D2).length cc, .int .i64 E2, .slice Yc (X2).length yc] 25))
  have Ka := Lib.hid (ka.alloc (.cells #[.slice Ac (D2).length cc, .int .i64 E2, .slice Yc (X2).length yc] 25))
  have Kb := Lib.hid (kb.alloc (.cells #[.slice Ac (D2).length cc, .int .i64 E2, .slice Yc (X2).length yc] 25))
  have Tc := Lib.hid (hT7.below hbx)
  have Kc := Lib.hid (Blk.fresh w7 25 [.slice Ac (D2).length cc, .int .i64 E2, .slice Yc (X2).length yc])
  clear hT7 hb7 kG kX ka kb
  go_wp2_with fail
  clear xG0 xG1 xG2 xX0 xX1 xX2
  generalize (w7.alloc (.cells #[.slice Ac (D2).length cc, .int .i64 E2, .slice Yc (X2).length yc] 25)) = w8 at hbx hbn BB TG TX Ta Tb Tc RD KG KX Ka Kb Kc ⊢
  clear hbx
  refine ((rback_any gd ge gx xd xe xx _ _ _ _ w8 _ (by omega) TG.out TX.out D2 E2 X2 e2 B1.out B2.out B3.out B4.out).mono (fun _ _ hq => hq.form)).mono ?_
  rintro en w9 ⟨Ad, cd, Yd, yd, rfl, hT9, hb9⟩
  have hs9 := hb9.size
  have hbx := (Below.refl w9.heap.size w9).alloc (Nat.le_refl _) (.cells #[.slice Ad (D2).length cd, .int .i64 E2, .slice Yd (X2).length yd] 25)
  have hbn := hbx.size
  have TG := Lib.hid ((TG.out.below (hb9.mono (by omega))).below (hbx.mono (by omega)))
  have TX := Lib.hid ((TX.out.below (hb9.mono (by omega))).below (hbx.mono (by omega)))
  have Ta := Lib.hid ((Ta.out.below (hb9.mono (by omega))).below (hbx.mono (by omega)))
  have Tb := Lib.hid ((Tb.out.below (hb9.mono (by omega))).below (hbx.mono (by omega)))
  have Tc := Lib.hid ((Tc.out.below (hb9.mono (by omega))).below (hbx.mono (by omega)))
  have RD := Lib.hid ((RD.out.below (hb9.mono (by omega))).below (hbx.mono (by omega)))
  have BB := Lib.hid ((BB.out.trans (hb9.mono (by omega))).trans (hbx.mono (by omega)))
  have kG := KG.out.below hb9 KG.out.lt
  have iG := kG.lt
  have kX := KX.out.below hb9 KX.out.lt
  have iX := kX.lt
  have ka := Ka.out.below hb9 Ka.out.lt
  have ia := ka.lt
  have kb := Kb.out.below hb9 Kb.out.lt
  have ib := kb.lt
  have kc := Kc.out.below hb9 Kc.out.lt
  have ic := kc.lt
  have xX0 : w9.cell? ⟨w.heap.size + 1, 0, none⟩ = some (.slice A2 xd.length c2) := kX.cell 0
  have xX1 : w9.cell? ⟨w.heap.size + 1, 1, none⟩ = some (.int .i64 xe) := kX.cell 1
  have xX2 : w9.cell? ⟨w.heap.size + 1, 2, none⟩ = some (.slice A2' xx.length c2') := kX.cell 2
  have KG := Lib.hid (kG.alloc (.cells #[.slice Ad (D2).length cd, .int .i64 E2, .slice Yd (X2).length yd] 25))
  have KX := Lib.hid (kX.alloc (.cells #[.slice Ad (D2).length cd, .int .i64 E2, .slice Yd (X2).length yd] 25))
  have Ka := Lib.hid (ka.alloc (.cells #[.slice Ad (D2).length cd, .int .i64 E2, .slice Yd (X2).length yd] 25))
  have Kb := Lib.hid (kb.alloc (.cells #[.slice Ad (D2).length cd, .int .i64 E2, .slice Yd (X2).length yd] 25))
  have Kc := Lib.hid (kc.alloc (.cells #[.slice Ad (D2).length cd, .int .i64 E2, .slice Yd (X2).length yd] 25))
  have Td := Lib.hid (hT9.below hbx)
  have Kd := Lib.hid (Blk.fresh w9 25 [.slice Ad (D2).length cd, .int .i64 E2, .slice Yd (X2).length yd])
  clear hT9 hb9 kG kX ka kb kc
  go_wp2_with fail
  clear xX0 xX1 xX2
  generalize (w9.alloc (.cells #[.slice Ad (D2).length cd, .int .i64 E2, .slice Yd (X2).length yd] 25)) = w10 at hbx hbn BB TG TX Ta Tb Tc Td RD KG KX Ka Kb Kc Kd ⊢
  clear hbx
  refine (flat_any xd xe xx _ _ w10 _ (by omega) TX.out D3 E3 X3 e3 C1.out C2.out C3.out C4.out).mono ?_
  rintro en w11 ⟨Aj, cj, Yj, yj, rfl, hT11, hb11⟩
  have hs11 := hb11.size
  have hbx := (Below.refl w11.heap.size w11).alloc (Nat.le_refl _) (.cells #[.slice Aj (D3).length cj, .int .i64 E3, .slice Yj (X3).length yj] 25)
  have hbn := hbx.size
  have TG := Lib.hid ((TG.out.below (hb11.mono (by omega))).below (hbx.mono (by omega)))
  have TX := Lib.hid ((TX.out.below (hb11.mono (by omega))).below (hbx.mono (by omega)))
  have Ta := Lib.hid ((Ta.out.below (hb11.mono (by omega))).below (hbx.mono (by omega)))
  have Tb := Lib.hid ((Tb.out.below (hb11.mono (by omega))).below (hbx.mono (by omega)))
  have Tc := Lib.hid ((Tc.out.below (hb11.mono (by omega))).below (hbx.mono (by omega)))
  have Td := Lib.hid ((Td.out.below (hb11.mono (by omega))).below (hbx.mono (by omega)))
  have RD := Lib.hid ((RD.out.below (hb11.mono (by omega))).below (hbx.mono (by omega)))
  have BB := Lib.hid ((BB.out.trans (hb11.mono (by omega))).trans (hbx.mono (by omega)))
  have kG := KG.out.below hb11 KG.out.lt
  have iG := kG.lt
  have kX := KX.out.below hb11 KX.out.lt
  have iX := kX.lt
  have ka := Ka.out.below hb11 Ka.out.lt
  have ia := ka.lt
  have kb := Kb.out.below hb11 Kb.out.lt
  have ib := kb.lt
  have kc := Kc.out.below hb11 Kc.out.lt
  have ic := kc.lt
  have kd := Kd.out.below hb11 Kd.out.lt
  have id := kd.lt
  have xX0 : w11.cell? ⟨w.heap.size + 1, 0, none⟩ = some (.slice A2 xd.length c2) := kX.cell 0
  have xX1 : w11.cell? ⟨w.heap.size + 1, 1, none⟩ = some (.int .i64 xe) := kX.cell 1
  have xX2 : w11.cell? ⟨w.heap.size + 1, 2, none⟩ = some (.slice A2' xx.length c2') := kX.cell 2
  have KG := Lib.hid (kG.alloc (.cells #[.slice Aj (D3).length cj, .int .i64 E3, .slice Yj (X3).length yj] 25))
  have KX := Lib.hid (kX.alloc (.cells #[.slice Aj (D3).length cj, .int .i64 E3, .slice Yj (X3).length yj] 25))
  have Ka := Lib.hid (ka.alloc (.cells #[.slice Aj (D3).length cj, .int .i64 E3, .slice Yj (X3).length yj] 25))
  have Kb := Lib.hid (kb.alloc (.cells #[.slice Aj (D3).length cj, .int .i64 E3, .slice Yj (X3).length yj] 25))
  have Kc := Lib.hid (kc.alloc (.cells #[.slice Aj (D3).length cj, .int .i64 E3, .slice Yj (X3).length yj] 25))
  have Kd := Lib.hid (kd.alloc (.cells #[.slice Aj (D3).length cj, .int .i64 E3, .slice Yj (X3).length yj] 25))
  have Tj := Lib.hid (hT11.below hbx)
  have Kj := Lib.hid (Blk.fresh w11 25 [.slice Aj (D3).length cj, .int .i64 E3, .slice Yj (X3).length yj])
  clear hT11 hb11 kG kX ka kb kc kd
  go_wp2_with fail
  clear xX0 xX1 xX2
  generalize (w11.alloc (.cells #[.slice Aj (D3).length cj, .int .i64 E3, .slice Yj (X3).length yj] 25)) = w12 at hbx hbn BB TG TX Ta Tb Tc Td Tj RD KG KX Ka Kb Kc Kd Kj ⊢
  clear hbx
  refine ((rflat_any xd xe xx _ _ w12 _ (by omega) D3 E3 X3 e3 TX.out C1.out C2.out C3.out C4.out).mono (fun _ _ hq => hq.form)).mono ?_
  rintro en w13 ⟨Al, cl, Yl, yl, rfl, hT13, hb13⟩
  have hs13 := hb13.size
  have hbx := (Below.refl w13.heap.size w13).alloc (Nat.le_refl _) (.cells #[.slice Al (D3).length cl, .int .i64 E3, .slice Yl (X3).length yl] 25)
  have hbn := hbx.size
  have TG := Lib.hid ((TG.out.below (hb13.mono (by omega))).below (hbx.mono (by omega)))
  have TX := Lib.hid ((TX.out.below (hb13.mono (by omega))).below (hbx.mono (by omega)))
  have Ta := Lib.hid ((Ta.out.below (hb13.mono (by omega))).below (hbx.mono (by omega)))
  have Tb := Lib.hid ((Tb.out.below (hb13.mono (by omega))).below (hbx.mono (by omega)))
  have Tc := Lib.hid ((Tc.out.below (hb13.mono (by omega))).below (hbx.mono (by omega)))
  have Td := Lib.hid ((Td.out.below (hb13.mono (by omega))).below (hbx.mono (by omega)))
  have Tj := Lib.hid ((Tj.out.below (hb13.mono (by omega))).below (hbx.mono (by omega)))
  have RD := Lib.hid ((RD.out.below (hb13.mono (by omega))).below (hbx.mono (by omega)))
  have BB := Lib.hid ((BB.out.trans (hb13.mono (by omega))).trans (hbx.mono (by omega)))
  have kG := KG.out.below hb13 KG.out.lt
  have iG := kG.lt
  have kX := KX.out.below hb13 KX.out.lt
  have iX := kX.lt
  have ka := Ka.out.below hb13 Ka.out.lt
  have ia := ka.lt
  have kb := Kb.out.below hb13 Kb.out.lt
  have ib := kb.lt
  have kc := Kc.out.below hb13 Kc.out.lt
  have ic := kc.lt
  have kd := Kd.out.below hb13 Kd.out.lt
  have id := kd.lt
  have kj := Kj.out.below hb13 Kj.out.lt
  have ij := kj.lt
  have xX0 : w13.cell? ⟨w.heap.size + 1, 0, none⟩ = some (.slice A2 xd.length c2) := kX.cell 0
  have xX1 : w13.cell? ⟨w.heap.size + 1, 1, none⟩ = some (.int .i64 xe) := kX.cell 1
  have xX2 : w13.cell? ⟨w.heap.size + 1, 2, none⟩ = some (.slice A2' xx.length c2') := kX.cell 2
  have KG := Lib.hid (kG.alloc (.cells #[.slice Al (D3).length cl, .int .i64 E3, .slice Yl (X3).length yl] 25))
  have KX := Lib.hid (kX.alloc (.cells #[.slice Al (D3).length cl, .int .i64 E3, .slice Yl (X3).length yl] 25))
  have Ka := Lib.hid (ka.alloc (.cells #[.slice Al (D3).length cl, .int .i64 E3, .slice Yl (X3).length yl] 25))
  have Kb := Lib.hid (kb.alloc (.cells #[.slice Al (D3).length cl, .int .i64 E3, .slice Yl (X3).length yl] 25))
  have Kc := Lib.hid (kc.alloc (.cells #[.slice Al (D3).length cl, .int .i64 E3, .slice Yl (X3).length yl] 25))
  have Kd := Lib.hid (kd.alloc (.cells #[.slice Al (D3).length cl, .int .i64 E3, .slice Yl (X3).length yl] 25))
  have Kj := Lib.hid (kj.alloc (.cells #[.slice Al (D3).length cl, .int .i64 E3, .slice Yl (X3).length yl] 25))
  have Tl := Lib.hid (hT13.below hbx)
  have Kl := Lib.hid (Blk.fresh w13 25 [.slice Al (D3).length cl, .int .i64 E3, .slice Yl (X3).length yl])
  clear hT13 hb13 kG kX ka kb kc kd kj
  go_wp2_with fail
  clear xX0 xX1 xX2
  generalize (w13.alloc (.cells #[.slice Al (D3).length cl, .int .i64 E3, .slice Yl (X3).length yl] 25)) = w14 at hbx hbn BB TG TX Ta Tb Tc Td Tj Tl RD KG KX Ka Kb Kc Kd Kj Kl ⊢
  clear hbx
  refine (shape_call xd xe xx _ _ ds _ w14 _ _ (by omega) (by omega) D4 E4 X4 e4 TX.out RD.out HDB.out F1.out F2.out F3.out F4.out).mono ?_
  rintro en w15 ⟨As, cs, Ys, ys, rfl, hT15, hb15⟩
  have hs15 := hb15.size
  have hbx := (Below.refl w15.heap.size w15).alloc (Nat.le_refl _) (.cells #[.slice As (D4).length cs, .int .i64 E4, .slice Ys (X4).length ys] 25)
  have hbn := hbx.size
  have TG := Lib.hid ((TG.out.below (hb15.mono (by omega))).below (hbx.mono (by omega)))
  have TX := Lib.hid ((TX.out.below (hb15.mono (by omega))).below (hbx.mono (by omega)))
  have Ta := Lib.hid ((Ta.out.below (hb15.mono (by omega))).below (hbx.mono (by omega)))
  have Tb := Lib.hid ((Tb.out.below (hb15.mono (by omega))).below (hbx.mono (by omega)))
  have Tc := Lib.hid ((Tc.out.below (hb15.mono (by omega))).below (hbx.mono (by omega)))
  have Td := Lib.hid ((Td.out.below (hb15.mono (by omega))).below (hbx.mono (by omega)))
  have Tj := Lib.hid ((Tj.out.below (hb15.mono (by omega))).below (hbx.mono (by omega)))
  have Tl := Lib.hid ((Tl.out.below (hb15.mono (by omega))).below (hbx.mono (by omega)))
  have RD := Lib.hid ((RD.out.below (hb15.mono (by omega))).below (hbx.mono (by omega)))
  have BB := Lib.hid ((BB.out.trans (hb15.mono (by omega))).trans (hbx.mono (by omega)))
  have kG := KG.out.below hb15 KG.out.lt
  have iG := kG.lt
  have kX := KX.out.below hb15 KX.out.lt
  have iX := kX.lt
  have ka := Ka.out.below hb15 Ka.out.lt
  have ia := ka.lt
  have kb := Kb.out.below hb15 Kb.out.lt
  have ib := kb.lt
  have kc := Kc.out.below hb15 Kc.out.lt
  have ic := kc.lt
  have kd := Kd.out.below hb15 Kd.out.lt
  have id := kd.lt
  have kj := Kj.out.below hb15 Kj.out.lt
  have ij := kj.lt
  have kl := Kl.out.below hb15 Kl.out.lt
  have il := kl.lt
  have xX0 : w15.cell? ⟨w.heap.size + 1, 0, none⟩ = some (.slice A2 xd.length c2) := kX.cell 0
  have xX1 : w15.cell? ⟨w.heap.size + 1, 1, none⟩ = some (.int .i64 xe) := kX.cell 1
  have xX2 : w15.cell? ⟨w.heap.size + 1, 2, none⟩ = some (.slice A2' xx.length c2') := kX.cell 2
  have KG := Lib.hid (kG.alloc (.cells #[.slice As (D4).length cs, .int .i64 E4, .slice Ys (X4).length ys] 25))
  have KX := Lib.hid (kX.alloc (.cells #[.slice As (D4).length cs, .int .i64 E4, .slice Ys (X4).length ys] 25))
  have Ka := Lib.hid (ka.alloc (.cells #[.slice As (D4).length cs, .int .i64 E4, .slice Ys (X4).length ys] 25))
  have Kb := Lib.hid (kb.alloc (.cells #[.slice As (D4).length cs, .int .i64 E4, .slice Ys (X4).length ys] 25))
  have Kc := Lib.hid (kc.alloc (.cells #[.slice As (D4).length cs, .int .i64 E4, .slice Ys (X4).length ys] 25))
  have Kd := Lib.hid (kd.alloc (.cells #[.slice As (D4).length cs, .int .i64 E4, .slice Ys (X4).length ys] 25))
  have Kj := Lib.hid (kj.alloc (.cells #[.slice As (D4).length cs, .int .i64 E4, .slice Ys (X4).length ys] 25))
  have Kl := Lib.hid (kl.alloc (.cells #[.slice As (D4).length cs, .int .i64 E4, .slice Ys (X4).length ys] 25))
  have Ts := Lib.hid (hT15.below hbx)
  have Ks := Lib.hid (Blk.fresh w15 25 [.slice As (D4).length cs, .int .i64 E4, .slice Ys (X4).length ys])
  clear hT15 hb15 kG kX ka kb kc kd kj kl
  go_wp2_with fail
  clear xX0 xX1 xX2
  generalize (w15.alloc (.cells #[.slice As (D4).length cs, .int .i64 E4, .slice Ys (X4).length ys] 25)) = w16 at hbx hbn BB TG TX Ta Tb Tc Td Tj Tl Ts RD KG KX Ka Kb Kc Kd Kj Kl Ks ⊢
  clear hbx
  refine ((rshape_any xd xe xx _ _ ds _ w16 w16.heap.size (Nat.le_refl _) D4 E4 X4 e4 (TX.out.more (by omega)) (RD.out.more (by omega)) HDB.out F1.out F2.out F3.out F4.out).mono (fun _ _ hq => hq.form)).mono ?_
  rintro en w17 ⟨Ap, cp, Yp, yp, rfl, hT17, hb17⟩
  have hs17 := hb17.size
  have hbx := (Below.refl w17.heap.size w17).alloc (Nat.le_refl _) (.cells #[.slice Ap (D4).length cp, .int .i64 E4, .slice Yp (X4).length yp] 25)
  have hbn := hbx.size
  have TG := Lib.hid ((TG.out.below (hb17.mono (by omega))).below (hbx.mono (by omega)))
  have TX := Lib.hid ((TX.out.below (hb17.mono (by omega))).below (hbx.mono (by omega)))
  have Ta := Lib.hid ((Ta.out.below (hb17.mono (by omega))).below (hbx.mono (by omega)))
  have Tb := Lib.hid ((Tb.out.below (hb17.mono (by omega))).below (hbx.mono (by omega)))
  have Tc := Lib.hid ((Tc.out.below (hb17.mono (by omega))).below (hbx.mono (by omega)))
  have Td := Lib.hid ((Td.out.below (hb17.mono (by omega))).below (hbx.mono (by omega)))
  have Tj := Lib.hid ((Tj.out.below (hb17.mono (by omega))).below (hbx.mono (by omega)))
  have Tl := Lib.hid ((Tl.out.below (hb17.mono (by omega))).below (hbx.mono (by omega)))
  have Ts := Lib.hid ((Ts.out.below (hb17.mono (by omega))).below (hbx.mono (by omega)))
  have RD := Lib.hid ((RD.out.below (hb17.mono (by omega))).below (hbx.mono (by omega)))
  have BB := Lib.hid ((BB.out.trans (hb17.mono (by omega))).trans (hbx.mono (by omega)))
  have kG := KG.out.below hb17 KG.out.lt
  have iG := kG.lt
  have kX := KX.out.below hb17 KX.out.lt
  have iX := kX.lt
  have ka := Ka.out.below hb17 Ka.out.lt
  have ia := ka.lt
  have kb := Kb.out.below hb17 Kb.out.lt
  have ib := kb.lt
  have kc := Kc.out.below hb17 Kc.out.lt
  have ic := kc.lt
  have kd := Kd.out.below hb17 Kd.out.lt
  have id := kd.lt
  have kj := Kj.out.below hb17 Kj.out.lt
  have ij := kj.lt
  have kl := Kl.out.below hb17 Kl.out.lt
  have il := kl.lt
  have ks := Ks.out.below hb17 Ks.out.lt
  have is := ks.lt
  have xa0 : w17.cell? ⟨w3.heap.size, 0, none⟩ = some (.slice Aa (D1).length ca) := ka.cell 0
  have xa1 : w17.cell? ⟨w3.heap.size, 1, none⟩ = some (.int .i64 E1) := ka.cell 1
  have xa2 : w17.cell? ⟨w3.heap.size, 2, none⟩ = some (.slice Ya (X1).length ya) := ka.cell 2
  have xb0 : w17.cell? ⟨w5.heap.size, 0, none⟩ = some (.slice Ab (D1).length cb) := kb.cell 0
  have xb1 : w17.cell? ⟨w5.heap.size, 1, none⟩ = some (.int .i64 E1) := kb.cell 1
  have xb2 : w17.cell? ⟨w5.heap.size, 2, none⟩ = some (.slice Yb (X1).length yb) := kb.cell 2
  have KG := Lib.hid (kG.alloc (.cells #[.slice Ap (D4).length cp, .int .i64 E4, .slice Yp (X4).length yp] 25))
  have KX := Lib.hid (kX.alloc (.cells #[.slice Ap (D4).length cp, .int .i64 E4, .slice Yp (X4).length yp] 25))
  have Ka := Lib.hid (ka.alloc (.cells #[.slice Ap (D4).length cp, .int .i64 E4, .slice Yp (X4).length yp] 25))
  have Kb := Lib.hid (kb.alloc (.cells #[.slice Ap (D4).length cp, .int .i64 E4, .slice Yp (X4).length yp] 25))
  have Kc := Lib.hid (kc.alloc (.cells #[.slice Ap (D4).length cp, .int .i64 E4, .slice Yp (X4).length yp] 25))
  have Kd := Lib.hid (kd.alloc (.cells #[.slice Ap (D4).length cp, .int .i64 E4, .slice Yp (X4).length yp] 25))
  have Kj := Lib.hid (kj.alloc (.cells #[.slice Ap (D4).length cp, .int .i64 E4, .slice Yp (X4).length yp] 25))
  have Kl := Lib.hid (kl.alloc (.cells #[.slice Ap (D4).length cp, .int .i64 E4, .slice Yp (X4).length yp] 25))
  have Ks := Lib.hid (ks.alloc (.cells #[.slice Ap (D4).length cp, .int .i64 E4, .slice Yp (X4).length yp] 25))
  have Tp := Lib.hid (hT17.below hbx)
  have Kp := Lib.hid (Blk.fresh w17 25 [.slice Ap (D4).length cp, .int .i64 E4, .slice Yp (X4).length yp])
  clear hT17 hb17 kG kX ka kb kc kd kj kl ks
  go_wp2_with fail
  clear xa0 xa1 xa2 xb0 xb1 xb2
  generalize (w17.alloc (.cells #[.slice Ap (D4).length cp, .int .i64 E4, .slice Yp (X4).length yp] 25)) = w18 at hbx hbn BB TG TX Ta Tb Tc Td Tj Tl Ts Tp RD KG KX Ka Kb Kc Kd Kj Kl Ks Kp ⊢
  clear hbx
  have hS := samet_any D1 E1 X1 D1 E1 X1 _ _ _ _ w18 w18.heap.size (Nat.le_refl _) (Ta.out.more (by omega)) (Tb.out.more (by omega))
  rw [same_self] at hS
  refine hS.mono ?_
  rintro en w19 ⟨rfl, hb19⟩
  have hs19 := hb19.size
  clear hS
  have Tc := Lib.hid (Tc.out.below (hb19.mono (by omega)))
  have Kc := Lib.hid (Kc.out.below hb19 Kc.out.lt)
  have Td := Lib.hid (Td.out.below (hb19.mono (by omega)))
  have Kd := Lib.hid (Kd.out.below hb19 Kd.out.lt)
  have Tj := Lib.hid (Tj.out.below (hb19.mono (by omega)))
  have Kj := Lib.hid (Kj.out.below hb19 Kj.out.lt)
  have Tl := Lib.hid (Tl.out.below (hb19.mono (by omega)))
  have Kl := Lib.hid (Kl.out.below hb19 Kl.out.lt)
  have Ts := Lib.hid (Ts.out.below (hb19.mono (by omega)))
  have Ks := Lib.hid (Ks.out.below hb19 Ks.out.lt)
  have Tp := Lib.hid (Tp.out.below (hb19.mono (by omega)))
  have Kp := Lib.hid (Kp.out.below hb19 Kp.out.lt)
  have BB := Lib.hid (BB.out.trans (hb19.mono (by omega)))
  have xc0 : w19.cell? ⟨w7.heap.size, 0, none⟩ = some (.slice Ac (D2).length cc) := Kc.out.cell 0
  have xc1 : w19.cell? ⟨w7.heap.size, 1, none⟩ = some (.int .i64 E2) := Kc.out.cell 1
  have xc2 : w19.cell? ⟨w7.heap.size, 2, none⟩ = some (.slice Yc (X2).length yc) := Kc.out.cell 2
  have xd0 : w19.cell? ⟨w9.heap.size, 0, none⟩ = some (.slice Ad (D2).length cd) := Kd.out.cell 0
  have xd1 : w19.cell? ⟨w9.heap.size, 1, none⟩ = some (.int .i64 E2) := Kd.out.cell 1
  have xd2 : w19.cell? ⟨w9.heap.size, 2, none⟩ = some (.slice Yd (X2).length yd) := Kd.out.cell 2
  clear hb19
  go_wp2_with fail
  clear xc0 xc1 xc2 xd0 xd1 xd2
  have hS := samet_any D2 E2 X2 D2 E2 X2 _ _ _ _ w19 w19.heap.size (Nat.le_refl _) (Tc.out.more (by omega)) (Td.out.more (by omega))
  rw [same_self] at hS
  refine hS.mono ?_
  rintro en w20 ⟨rfl, hb20⟩
  have hs20 := hb20.size
  clear hS
  have Tj := Lib.hid (Tj.out.below (hb20.mono (by omega)))
  have Kj := Lib.hid (Kj.out.below hb20 Kj.out.lt)
  have Tl := Lib.hid (Tl.out.below (hb20.mono (by omega)))
  have Kl := Lib.hid (Kl.out.below hb20 Kl.out.lt)
  have Ts := Lib.hid (Ts.out.below (hb20.mono (by omega)))
  have Ks := Lib.hid (Ks.out.below hb20 Ks.out.lt)
  have Tp := Lib.hid (Tp.out.below (hb20.mono (by omega)))
  have Kp := Lib.hid (Kp.out.below hb20 Kp.out.lt)
  have BB := Lib.hid (BB.out.trans (hb20.mono (by omega)))
  have xj0 : w20.cell? ⟨w11.heap.size, 0, none⟩ = some (.slice Aj (D3).length cj) := Kj.out.cell 0
  have xj1 : w20.cell? ⟨w11.heap.size, 1, none⟩ = some (.int .i64 E3) := Kj.out.cell 1
  have xj2 : w20.cell? ⟨w11.heap.size, 2, none⟩ = some (.slice Yj (X3).length yj) := Kj.out.cell 2
  have xl0 : w20.cell? ⟨w13.heap.size, 0, none⟩ = some (.slice Al (D3).length cl) := Kl.out.cell 0
  have xl1 : w20.cell? ⟨w13.heap.size, 1, none⟩ = some (.int .i64 E3) := Kl.out.cell 1
  have xl2 : w20.cell? ⟨w13.heap.size, 2, none⟩ = some (.slice Yl (X3).length yl) := Kl.out.cell 2
  clear hb20
  go_wp2_with fail
  clear xj0 xj1 xj2 xl0 xl1 xl2
  have hS := samet_any D3 E3 X3 D3 E3 X3 _ _ _ _ w20 w20.heap.size (Nat.le_refl _) (Tj.out.more (by omega)) (Tl.out.more (by omega))
  rw [same_self] at hS
  refine hS.mono ?_
  rintro en w21 ⟨rfl, hb21⟩
  have hs21 := hb21.size
  clear hS
  have Ts := Lib.hid (Ts.out.below (hb21.mono (by omega)))
  have Ks := Lib.hid (Ks.out.below hb21 Ks.out.lt)
  have Tp := Lib.hid (Tp.out.below (hb21.mono (by omega)))
  have Kp := Lib.hid (Kp.out.below hb21 Kp.out.lt)
  have BB := Lib.hid (BB.out.trans (hb21.mono (by omega)))
  have xs0 : w21.cell? ⟨w15.heap.size, 0, none⟩ = some (.slice As (D4).length cs) := Ks.out.cell 0
  have xs1 : w21.cell? ⟨w15.heap.size, 1, none⟩ = some (.int .i64 E4) := Ks.out.cell 1
  have xs2 : w21.cell? ⟨w15.heap.size, 2, none⟩ = some (.slice Ys (X4).length ys) := Ks.out.cell 2
  have xp0 : w21.cell? ⟨w17.heap.size, 0, none⟩ = some (.slice Ap (D4).length cp) := Kp.out.cell 0
  have xp1 : w21.cell? ⟨w17.heap.size, 1, none⟩ = some (.int .i64 E4) := Kp.out.cell 1
  have xp2 : w21.cell? ⟨w17.heap.size, 2, none⟩ = some (.slice Yp (X4).length yp) := Kp.out.cell 2
  clear hb21
  go_wp2_with fail
  clear xs0 xs1 xs2 xp0 xp1 xp2
  have hS := samet_any D4 E4 X4 D4 E4 X4 _ _ _ _ w21 w21.heap.size (Nat.le_refl _) (Ts.out.more (by omega)) (Tp.out.more (by omega))
  rw [same_self] at hS
  refine hS.mono ?_
  rintro en w22 ⟨rfl, hb22⟩
  have hs22 := hb22.size
  clear hS
  have BB := Lib.hid (BB.out.trans (hb22.mono (by omega)))
  clear hb22
  go_wp2_with (go_at_call 13; refine (awake13_any _).mono ?_; rintro en w30 ⟨rfl, hb30⟩)
  go_ret
  exact ⟨rfl, BB.out.trans (hb30.mono BB.out.size)⟩
end Go.Proofs.Ythdahnjghpiheaa

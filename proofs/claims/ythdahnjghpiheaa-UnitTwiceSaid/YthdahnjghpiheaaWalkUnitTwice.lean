/- The walk of UnitTwice. -/
import Derived.Test.YthdahnjghpiheaaReluP
namespace Go.Proofs.Ythdahnjghpiheaa
open Go.RowKit
set_option linter.unusedVariables false

theorem relu_at {data : List Int} {k : Nat} {u : Int} (h : data[k]? = some u) : (reluI data)[k]? = some (max 0 u) := by
  unfold reluI; rw [List.getElem?_map, h]; rfl

set_option maxHeartbeats 3200000 in
set_option maxRecDepth 100000 in
theorem unitTwice_walk (v0 : Value) (a0 : TenV) (w : World) (o0 : TenOf w v0 a0) :
    Calls Try.prog 4 #[v0] w fun en w' => en = .returned (.bool true) ∧ Below w.heap.size w w' := by
  obtain ⟨dv, xv, dims, exp, data⟩ := a0
  obtain ⟨rfl, hT, ld, lx⟩ := o0
  simp only at hT ld lx ⊢
  have hb0 : Below w.heap.size w (w.alloc (.cells #[dv, .int .i64 exp, xv] 25)) := (Below.refl _ _).alloc (Nat.le_refl _) _
  have T0 := Lib.hid (hT.below hb0)
  obtain ⟨A, c, rfl, _, _⟩ := hT.d.form
  obtain ⟨A', c', rfl, _, _⟩ := hT.x.form
  simp only [length_ints] at *
  have HDB := hT.db
  have K0 := Lib.hid (Blk.fresh w 25 [.slice A dims.length c, .int .i64 exp, .slice A' data.length c'])
  have BB := Lib.hid hb0
  have hl2 : w.heap.size ≤ (w.alloc (.cells #[.slice A dims.length c, .int .i64 exp, .slice A' data.length c'] 25)).heap.size := by simp
  obtain ⟨Da, h1⟩ : ∃ D, relD dims exp data = D := ⟨_, rfl⟩
  obtain ⟨Ea, h2⟩ : ∃ D, relE dims exp data = D := ⟨_, rfl⟩
  obtain ⟨Xa, h3⟩ : ∃ D, relX dims exp data (reluI data) = D := ⟨_, rfl⟩
  obtain ⟨ea, h4⟩ : ∃ D, relErr dims exp data = D := ⟨_, rfl⟩
  obtain ⟨Db, g1⟩ : ∃ D, relD Da Ea Xa = D := ⟨_, rfl⟩
  obtain ⟨Eb, g2⟩ : ∃ D, relE Da Ea Xa = D := ⟨_, rfl⟩
  obtain ⟨Xb, g3⟩ : ∃ D, relX Da Ea Xa (reluI Xa) = D := ⟨_, rfl⟩
  obtain ⟨eb, g4⟩ : ∃ D, relErr Da Ea Xa = D := ⟨_, rfl⟩
  obtain ⟨Dc, f1⟩ : ∃ D, shapeD dims exp data (flatD dims) = D := ⟨_, rfl⟩
  obtain ⟨Ec, f2⟩ : ∃ D, shapeE dims exp data (flatD dims) = D := ⟨_, rfl⟩
  obtain ⟨Xc, f3⟩ : ∃ D, shapeX dims exp data (flatD dims) = D := ⟨_, rfl⟩
  obtain ⟨ec, f4⟩ : ∃ D, flatErr dims exp data = D := ⟨_, rfl⟩
  obtain ⟨Dd, j1⟩ : ∃ D, shapeD Dc Ec Xc dims = D := ⟨_, rfl⟩
  obtain ⟨Ed, j2⟩ : ∃ D, shapeE Dc Ec Xc dims = D := ⟨_, rfl⟩
  obtain ⟨Xd, j3⟩ : ∃ D, shapeX Dc Ec Xc dims = D := ⟨_, rfl⟩
  obtain ⟨ed, j4⟩ : ∃ D, shapeErr Dc Ec Xc dims = D := ⟨_, rfl⟩
  have lda : Da.length * 8 ≤ 140737488351232 := by rw [← h1]; unfold relD; split; exact ld; simp
  have lxa : Xa.length ≤ 140737488351232 := by rw [← h3]; unfold relX; split; (rw [length_reluI]; exact lx); simp
  have H1 := Lib.hid h1
  have H2 := Lib.hid h2
  have H3 := Lib.hid h3
  have H4 := Lib.hid h4
  have G1 := Lib.hid g1
  have G2 := Lib.hid g2
  have G3 := Lib.hid g3
  have G4 := Lib.hid g4
  have F1 := Lib.hid f1
  have F2 := Lib.hid f2
  have F3 := Lib.hid f3
  have F4 := Lib.hid f4
  have J1 := Lib.hid j1
  have J2 := Lib.hid j2
  have J3 := Lib.hid j3
  have J4 := Lib.hid j4
  clear hT hb0 h1 h2 h3 h4 g1 g2 g3 g4 f1 f2 f3 f4 j1 j2 j3 j4
  go_enter Try.func4, Try.ntmps4
  go_wp2_with fail
  generalize (w.alloc (.cells #[.slice A dims.length c, .int .i64 exp, .slice A' data.length c'] 25)) = w2 at hl2 BB T0 K0 ⊢
  refine (relu_call dims exp data _ _ w2 _ (by omega) Da Ea Xa ea T0.out ld lx H1.out H2.out H3.out H4.out).mono ?_
  rintro en w3 ⟨Aa, ca, Ya, ya, rfl, hT3, hb3⟩
  have hs3 := hb3.size
  have hbx := (Below.refl w3.heap.size w3).alloc (Nat.le_refl _) (.cells #[.slice Aa (Da).length ca, .int .i64 Ea, .slice Ya (Xa).length ya] 25)
  have hbn := hbx.size
  have T0 := Lib.hid ((T0.out.below (hb3.mono (by omega))).below (hbx.mono (by omega)))
  have BB := Lib.hid ((BB.out.trans (hb3.mono (by omega))).trans (hbx.mono (by omega)))
  have k0 := K0.out.below hb3 K0.out.lt
  have i0 := k0.lt
  have K0 := Lib.hid (k0.alloc (.cells #[.slice Aa (Da).length ca, .int .i64 Ea, .slice Ya (Xa).length ya] 25))
  have Ta := Lib.hid (hT3.below hbx)
  have Ka := Lib.hid (Blk.fresh w3 25 [.slice Aa (Da).length ca, .int .i64 Ea, .slice Ya (Xa).length ya])
  clear hT3 hb3 k0
  go_wp2_with fail
  generalize (w3.alloc (.cells #[.slice Aa (Da).length ca, .int .i64 Ea, .slice Ya (Xa).length ya] 25)) = w4 at hbx hbn BB T0 Ta  K0 Ka ⊢
  clear hbx
  refine (relu_call Da Ea Xa _ _ w4 _ (by omega) Db Eb Xb eb Ta.out lda lxa G1.out G2.out G3.out G4.out).mono ?_
  rintro en w5 ⟨Ab, cb, Yb, yb, rfl, hT5, hb5⟩
  have hs5 := hb5.size
  have hbx := (Below.refl w5.heap.size w5).alloc (Nat.le_refl _) (.cells #[.slice Ab (Db).length cb, .int .i64 Eb, .slice Yb (Xb).length yb] 25)
  have hbn := hbx.size
  have T0 := Lib.hid ((T0.out.below (hb5.mono (by omega))).below (hbx.mono (by omega)))
  have Ta := Lib.hid ((Ta.out.below (hb5.mono (by omega))).below (hbx.mono (by omega)))
  have BB := Lib.hid ((BB.out.trans (hb5.mono (by omega))).trans (hbx.mono (by omega)))
  have k0 := K0.out.below hb5 K0.out.lt
  have i0 := k0.lt
  have ka := Ka.out.below hb5 Ka.out.lt
  have ia := ka.lt
  have x00 : w5.cell? ⟨w.heap.size, 0, none⟩ = some (.slice A dims.length c) := k0.cell 0
  have x01 : w5.cell? ⟨w.heap.size, 1, none⟩ = some (.int .i64 exp) := k0.cell 1
  have x02 : w5.cell? ⟨w.heap.size, 2, none⟩ = some (.slice A' data.length c') := k0.cell 2
  have K0 := Lib.hid (k0.alloc (.cells #[.slice Ab (Db).length cb, .int .i64 Eb, .slice Yb (Xb).length yb] 25))
  have Ka := Lib.hid (ka.alloc (.cells #[.slice Ab (Db).length cb, .int .i64 Eb, .slice Yb (Xb).length yb] 25))
  have Tb := Lib.hid (hT5.below hbx)
  have Kb := Lib.hid (Blk.fresh w5 25 [.slice Ab (Db).length cb, .int .i64 Eb, .slice Yb (Xb).length yb])
  clear hT5 hb5 k0 ka
  go_wp2_with fail
  clear x00 x01 x02
  generalize (w5.alloc (.cells #[.slice Ab (Db).length cb, .int .i64 Eb, .slice Yb (Xb).length yb] 25)) = w6 at hbx hbn BB T0 Ta Tb  K0 Ka Kb ⊢
  clear hbx
  refine (flat_any dims exp data _ _ w6 _ (by omega) T0.out Dc Ec Xc ec F1.out F2.out F3.out F4.out).mono ?_
  rintro en w7 ⟨Ac, cc, Yc, yc, rfl, hT7, hb7⟩
  have hs7 := hb7.size
  have hbx := (Below.refl w7.heap.size w7).alloc (Nat.le_refl _) (.cells #[.slice Ac (Dc).length cc, .int .i64 Ec, .slice Yc (Xc).length yc] 25)
  have hbn := hbx.size
  have T0 := Lib.hid ((T0.out.below (hb7.mono (by omega))).below (hbx.mono (by omega)))
  have Ta := Lib.hid ((Ta.out.below (hb7.mono (by omega))).below (hbx.mono (by omega)))
  have Tb := Lib.hid ((Tb.out.below (hb7.mono (by omega))).below (hbx.mono (by omega)))
  have BB := Lib.hid ((BB.out.trans (hb7.mono (by omega))).trans (hbx.mono (by omega)))
  have k0 := K0.out.below hb7 K0.out.lt
  have i0 := k0.lt
  have ka := Ka.out.below hb7 Ka.out.lt
  have ia := ka.lt
  have kb := Kb.out.below hb7 Kb.out.lt
  have ib := kb.lt
  have x00 : w7.cell? ⟨w.heap.size, 0, none⟩ = some (.slice A dims.length c) := k0.cell 0
  have x01 : w7.cell? ⟨w.heap.size, 1, none⟩ = some (.int .i64 exp) := k0.cell 1
  have x02 : w7.cell? ⟨w.heap.size, 2, none⟩ = some (.slice A' data.length c') := k0.cell 2
  have K0 := Lib.hid (k0.alloc (.cells #[.slice Ac (Dc).length cc, .int .i64 Ec, .slice Yc (Xc).length yc] 25))
  have Ka := Lib.hid (ka.alloc (.cells #[.slice Ac (Dc).length cc, .int .i64 Ec, .slice Yc (Xc).length yc] 25))
  have Kb := Lib.hid (kb.alloc (.cells #[.slice Ac (Dc).length cc, .int .i64 Ec, .slice Yc (Xc).length yc] 25))
  have Tc := Lib.hid (hT7.below hbx)
  have Kc := Lib.hid (Blk.fresh w7 25 [.slice Ac (Dc).length cc, .int .i64 Ec, .slice Yc (Xc).length yc])
  clear hT7 hb7 k0 ka kb
  go_wp2_with fail
  clear x00 x01 x02
  generalize (w7.alloc (.cells #[.slice Ac (Dc).length cc, .int .i64 Ec, .slice Yc (Xc).length yc] 25)) = w8 at hbx hbn BB T0 Ta Tb Tc  K0 Ka Kb Kc ⊢
  clear hbx
  refine (shape_call Dc Ec Xc _ _ dims _ w8 _ _ (by omega) (by omega) Dd Ed Xd ed Tc.out T0.out.d HDB.out J1.out J2.out J3.out J4.out).mono ?_
  rintro en w9 ⟨Ad, cd, Yd, yd, rfl, hT9, hb9⟩
  have hs9 := hb9.size
  have hbx := (Below.refl w9.heap.size w9).alloc (Nat.le_refl _) (.cells #[.slice Ad (Dd).length cd, .int .i64 Ed, .slice Yd (Xd).length yd] 25)
  have hbn := hbx.size
  have T0 := Lib.hid ((T0.out.below (hb9.mono (by omega))).below (hbx.mono (by omega)))
  have Ta := Lib.hid ((Ta.out.below (hb9.mono (by omega))).below (hbx.mono (by omega)))
  have Tb := Lib.hid ((Tb.out.below (hb9.mono (by omega))).below (hbx.mono (by omega)))
  have Tc := Lib.hid ((Tc.out.below (hb9.mono (by omega))).below (hbx.mono (by omega)))
  have BB := Lib.hid ((BB.out.trans (hb9.mono (by omega))).trans (hbx.mono (by omega)))
  have k0 := K0.out.below hb9 K0.out.lt
  have i0 := k0.lt
  have ka := Ka.out.below hb9 Ka.out.lt
  have ia := ka.lt
  have kb := Kb.out.below hb9 Kb.out.lt
  have ib := kb.lt
  have kc := Kc.out.below hb9 Kc.out.lt
  have ic := kc.lt
  have x00 : w9.cell? ⟨w.heap.size, 0, none⟩ = some (.slice A dims.length c) := k0.cell 0
  have x01 : w9.cell? ⟨w.heap.size, 1, none⟩ = some (.int .i64 exp) := k0.cell 1
  have x02 : w9.cell? ⟨w.heap.size, 2, none⟩ = some (.slice A' data.length c') := k0.cell 2
  have K0 := Lib.hid (k0.alloc (.cells #[.slice Ad (Dd).length cd, .int .i64 Ed, .slice Yd (Xd).length yd] 25))
  have Ka := Lib.hid (ka.alloc (.cells #[.slice Ad (Dd).length cd, .int .i64 Ed, .slice Yd (Xd).length yd] 25))
  have Kb := Lib.hid (kb.alloc (.cells #[.slice Ad (Dd).length cd, .int .i64 Ed, .slice Yd (Xd).length yd] 25))
  have Kc := Lib.hid (kc.alloc (.cells #[.slice Ad (Dd).length cd, .int .i64 Ed, .slice Yd (Xd).length yd] 25))
  have Td := Lib.hid (hT9.below hbx)
  have Kd := Lib.hid (Blk.fresh w9 25 [.slice Ad (Dd).length cd, .int .i64 Ed, .slice Yd (Xd).length yd])
  clear hT9 hb9 k0 ka kb kc
  go_wp2_with fail
  clear x00 x01 x02
  generalize (w9.alloc (.cells #[.slice Ad (Dd).length cd, .int .i64 Ed, .slice Yd (Xd).length yd] 25)) = w10 at hbx hbn BB T0 Ta Tb Tc Td  K0 Ka Kb Kc Kd ⊢
  clear hbx
  obtain ⟨M, hM⟩ : ∃ D, mayB dims exp data = D := ⟨_, rfl⟩
  have hMT := mayt_any dims exp data _ _ w10 w.heap.size (by omega) T0.out
  rw [hM] at hMT
  have HM := Lib.hid hM
  clear hM
  refine hMT.mono ?_
  rintro en w11 ⟨rfl, hb11⟩
  have hs11 := hb11.size
  have T0 := Lib.hid (T0.out.below (hb11.mono (by omega)))
  have Ta := Lib.hid (Ta.out.below (hb11.mono (by omega)))
  have Tb := Lib.hid (Tb.out.below (hb11.mono (by omega)))
  have Td := Lib.hid (Td.out.below (hb11.mono (by omega)))
  have BB := Lib.hid (BB.out.trans (hb11.mono (by omega)))
  have K0 := Lib.hid (K0.out.below hb11 K0.out.lt)
  have x00 : w11.cell? ⟨w.heap.size, 0, none⟩ = some (.slice A dims.length c) := K0.out.cell 0
  have x01 : w11.cell? ⟨w.heap.size, 1, none⟩ = some (.int .i64 exp) := K0.out.cell 1
  have x02 : w11.cell? ⟨w.heap.size, 2, none⟩ = some (.slice A' data.length c') := K0.out.cell 2
  have Ka := Lib.hid (Ka.out.below hb11 Ka.out.lt)
  have xa0 : w11.cell? ⟨w3.heap.size, 0, none⟩ = some (.slice Aa (Da).length ca) := Ka.out.cell 0
  have xa1 : w11.cell? ⟨w3.heap.size, 1, none⟩ = some (.int .i64 Ea) := Ka.out.cell 1
  have xa2 : w11.cell? ⟨w3.heap.size, 2, none⟩ = some (.slice Ya (Xa).length ya) := Ka.out.cell 2
  have Kb := Lib.hid (Kb.out.below hb11 Kb.out.lt)
  have xb0 : w11.cell? ⟨w5.heap.size, 0, none⟩ = some (.slice Ab (Db).length cb) := Kb.out.cell 0
  have xb1 : w11.cell? ⟨w5.heap.size, 1, none⟩ = some (.int .i64 Eb) := Kb.out.cell 1
  have xb2 : w11.cell? ⟨w5.heap.size, 2, none⟩ = some (.slice Yb (Xb).length yb) := Kb.out.cell 2
  have Kd := Lib.hid (Kd.out.below hb11 Kd.out.lt)
  have xd0 : w11.cell? ⟨w9.heap.size, 0, none⟩ = some (.slice Ad (Dd).length cd) := Kd.out.cell 0
  have xd1 : w11.cell? ⟨w9.heap.size, 1, none⟩ = some (.int .i64 Ed) := Kd.out.cell 1
  have xd2 : w11.cell? ⟨w9.heap.size, 2, none⟩ = some (.slice Yd (Xd).length yd) := Kd.out.cell 2
  clear hb11 hMT Tc Kc
  cases M with
  | false =>
    have hne : ¬ mayB dims exp data = true := by rw [HM.out]; simp
    have he : shapeErr dims exp data (flatD dims) = 1 := by unfold shapeErr; rw [if_neg (fun h => hne h.1)]
    obtain rfl : ea = 1 := by have := H4.out; unfold relErr at this; rw [if_neg hne] at this; exact this.symm
    obtain rfl : ec = 1 := by have := F4.out; unfold flatErr at this; rw [he] at this; exact this.symm
    clear hne he
    go_wp2_with (go_at_call 13; refine (awake13_any _).mono ?_; rintro en w15 ⟨rfl, hb15⟩)
    go_ret
    exact ⟨rfl, BB.out.trans (hb15.mono BB.out.size)⟩
  | true =>
    have hpe := HM.out
    obtain rfl : ea = 0 := by have := H4.out; unfold relErr at this; rw [if_pos hpe] at this; exact this.symm
    obtain rfl : dims = Da := by have := H1.out; unfold relD at this; rwa [if_pos hpe] at this
    obtain rfl : exp = Ea := by have := H2.out; unfold relE at this; rwa [if_pos hpe] at this
    obtain rfl : reluI data = Xa := by have := H3.out; unfold relX at this; rwa [if_pos hpe] at this
    have hpr := mayB_relu hpe
    obtain rfl : eb = 0 := by have := G4.out; unfold relErr at this; rw [if_pos hpr] at this; exact this.symm
    obtain rfl : dims = Db := by have := G1.out; unfold relD at this; rwa [if_pos hpr] at this
    obtain rfl : exp = Eb := by have := G2.out; unfold relE at this; rwa [if_pos hpr] at this
    obtain rfl : reluI data = Xb := by have := G3.out; unfold relX at this; rw [if_pos hpr, reluI_twice] at this; exact this
    have hlr := length_reluI data
    have hS := samet_any dims exp (reluI data) dims exp (reluI data) _ _ _ _ w11 w11.heap.size (Nat.le_refl _) (Ta.out.more (by omega)) (Tb.out.more (by omega))
    rw [same_self] at hS
    have HS := Lib.hid hS
    have hec := flat_err dims exp data
    rw [F4.out] at hec
    have HEC := Lib.hid hec
    obtain ⟨ys, hys⟩ : ∃ ys, reluI data = ys := ⟨_, rfl⟩
    have HYS := Lib.hid hys
    rw [hys] at xa2 xb2 hlr
    rw [hys] at HS Ta Ka
    simp only [hlr] at *
    clear hpe hpr hS hec hys H1 H2 H3 H4 G1 G2 G3 G4 Tb Kb
    go_wp2_with fail
    refine HS.out.mono ?_
    rintro en w13 ⟨rfl, hb13⟩
    have hs13 := hb13.size
    clear xa0 xa1 xa2 xb0 xb1 xb2 x00 x01 x02 xd0 xd1 xd2
    have T0 := Lib.hid (T0.out.below (hb13.mono (by omega)))
    have Ta := Lib.hid (Ta.out.below (hb13.mono (by omega)))
    have Td := Lib.hid (Td.out.below (hb13.mono (by omega)))
    have BB := Lib.hid (BB.out.trans (hb13.mono (by omega)))
    have K0 := Lib.hid (K0.out.below hb13 K0.out.lt)
    have x00 : w13.cell? ⟨w.heap.size, 0, none⟩ = some (.slice A dims.length c) := K0.out.cell 0
    have x01 : w13.cell? ⟨w.heap.size, 1, none⟩ = some (.int .i64 exp) := K0.out.cell 1
    have x02 : w13.cell? ⟨w.heap.size, 2, none⟩ = some (.slice A' data.length c') := K0.out.cell 2
    have Ka := Lib.hid (Ka.out.below hb13 Ka.out.lt)
    have xa0 : w13.cell? ⟨w3.heap.size, 0, none⟩ = some (.slice Aa (dims).length ca) := Ka.out.cell 0
    have xa1 : w13.cell? ⟨w3.heap.size, 1, none⟩ = some (.int .i64 exp) := Ka.out.cell 1
    have xa2 : w13.cell? ⟨w3.heap.size, 2, none⟩ = some (.slice Ya data.length ya) := Ka.out.cell 2
    have Kd := Lib.hid (Kd.out.below hb13 Kd.out.lt)
    have xd0 : w13.cell? ⟨w9.heap.size, 0, none⟩ = some (.slice Ad (Dd).length cd) := Kd.out.cell 0
    have xd1 : w13.cell? ⟨w9.heap.size, 1, none⟩ = some (.int .i64 Ed) := Kd.out.cell 1
    have xd2 : w13.cell? ⟨w9.heap.size, 2, none⟩ = some (.slice Yd (Xd).length yd) := Kd.out.cell 2
    clear hb13
    go_wp2_with fail
    have t0 := T0.out.x
    have ta := Ta.out.x
    have ldl : data.length ≤ 9223372036854775807 := by omega
    go_wp2_with fail
    generalize w13 = wL at *
    go_loopw [78] (fun i wr => ∃ k : Nat, k ≤ data.length ∧ i = .int .i64 k ∧ wr = wL) (fun i _ => data.length - (intOf i).toNat)
    case atStart => exact ⟨0, by omega, rfl, rfl⟩
    case round =>
      obtain ⟨k, hk, rfl, rfl⟩ := hrel
      by_cases hlt : k < data.length
      · obtain ⟨AA, n1, cc, hva, hn, hcc, hmm, ha⟩ := t0
        injection hva with q1 q2 q3
        subst q1 q2 q3
        obtain ⟨AA', n1', cc', hva', hn', hcc', hmm', ha'⟩ := ta
        injection hva' with q1 q2 q3
        subst q1 q2 q3
        obtain ⟨g, o, rfl, hg, hx⟩ := ha.out (by omega)
        obtain ⟨g', o', rfl, hg', hy⟩ := ha'.out (by omega)
        have hxe : data[k]? = some data[k] := List.getElem?_eq_getElem hlt
        obtain ⟨u, hu⟩ : ∃ u, data[k] = u := ⟨_, rfl⟩
        rw [hu] at hxe
        have hye : ys[k]? = some (max 0 u) := by rw [← HYS.out]; exact relu_at hxe
        have z1 := hx k (.int .i8 u) (by rw [ints, List.getElem?_map, hxe]; rfl)
        have z2 := hy k (.int .i8 (max 0 u)) (by rw [ints, List.getElem?_map, hye]; rfl)
        have i1 : (0 : Int) ≤ (k : Int) := by omega
        have i2 : (k : Int) < (data.length : Int) := by omega
        have i3 : (k : Int) ≤ 9223372036854775807 := by omega
        clear hx hy ha ha' hxe hye hu hg hg' hcc hcc' hmm hmm' hn hn'
        by_cases hu : 0 < u
        · rw [show max 0 u = u by omega] at z2
          have e1 : (u != u) = false := by simp
          have e2 : decide (0 < u) = true := by simpa using hu
          have e3 : decide (u < 0) = false := by simp; omega
          go_wp2
          all_goals (try (exfalso; omega))
          all_goals
            go_roundw
            case rel => exact ⟨k + 1, by omega, by go_num, by first | rfl | trivial⟩
            case measure => simp [intOf]; omega
        · rw [show max 0 u = 0 by omega] at z2
          by_cases hz : u = 0
          · subst hz
            clear hu
            go_wp2
            all_goals
              go_roundw
              case rel => exact ⟨k + 1, by omega, by go_num, by first | rfl | trivial⟩
              case measure => simp [intOf]; omega
          · have e2 : decide (0 < u) = false := by simpa using hu
            have e3 : decide (u < 0) = true := by simp; omega
            have hu2 : u < 0 := by omega
            clear hu hz
            go_wp2
            all_goals (try (exfalso; omega))
            all_goals
              go_roundw
              case rel => exact ⟨k + 1, by omega, by go_num, by first | rfl | trivial⟩
              case measure => simp [intOf]; omega
      · obtain rfl : k = data.length := by omega
        rcases HEC.out with hec | hec
        · have hb1 : shapeErr dims exp data (flatD dims) = 0 := by have := F4.out; unfold flatErr at this; omega
          have hb2 := shape_back hb1
          have e1 : Dc = flatD dims := by have := F1.out; unfold shapeD at this; rw [if_pos hb1] at this; exact this.symm
          have e2 : Ec = exp := by have := F2.out; unfold shapeE at this; rw [if_pos hb1] at this; exact this.symm
          have e3 : Xc = data := by have := F3.out; unfold shapeX at this; rw [if_pos hb1] at this; exact this.symm
          have q1 : dims = Dd := by have := J1.out; rw [e1, e2, e3] at this; unfold shapeD at this; rwa [if_pos hb2] at this
          have q2 : exp = Ed := by have := J2.out; rw [e1, e2, e3] at this; unfold shapeE at this; rwa [if_pos hb2] at this
          have q3 : data = Xd := by have := J3.out; rw [e1, e2, e3] at this; unfold shapeX at this; rwa [if_pos hb2] at this
          have q4 : ed = 0 := by have := J4.out; rw [e1, e2, e3, hb2] at this; exact this.symm
          subst hec q4
          have Td' := Td
          rw [← q1] at Td' xd0; rw [← q2] at xd1; rw [← q3] at xd2 Td'; try rw [← q2] at Td'
          have hS := samet_any dims exp data dims exp data _ _ _ _ wr wr.heap.size (Nat.le_refl _) (Td'.out.more (by omega)) (T0.out.more (by omega))
          rw [same_self] at hS
          have HS := Lib.hid hS
          clear hb1 hb2 e1 e2 e3 q1 q2 q3 hS Td t0 ta
          go_wp2_with fail
          refine HS.out.mono ?_
          rintro en w15 ⟨rfl, hb15⟩
          have BB := Lib.hid (BB.out.trans (hb15.mono (by omega)))
          go_wp2_with (go_at_call 13; refine (awake13_any _).mono ?_; rintro en w17 ⟨rfl, hb17⟩)
          go_ret
          exact ⟨rfl, BB.out.trans (hb17.mono BB.out.size)⟩
        · subst hec
          go_wp2_with (go_at_call 13; refine (awake13_any _).mono ?_; rintro en w17 ⟨rfl, hb17⟩)
          go_ret
          exact ⟨rfl, BB.out.trans (hb17.mono BB.out.size)⟩
end Go.Proofs.Ythdahnjghpiheaa

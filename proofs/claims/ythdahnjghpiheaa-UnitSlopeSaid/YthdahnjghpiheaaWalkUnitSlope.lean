/- The walk of UnitSlope. -/
import Derived.Test.YthdahnjghpiheaaBack2
namespace Go.Proofs.Ythdahnjghpiheaa
open Go.RowKit
set_option linter.unusedVariables false

theorem relu_at2 {data : List Int} {k : Nat} {u : Int} (h : data[k]? = some u) : (reluI data)[k]? = some (max 0 u) := by
  unfold reluI; rw [List.getElem?_map, h]; rfl

set_option maxHeartbeats 3200000 in
set_option maxRecDepth 100000 in
theorem unitSlope_walk (v0 : Value) (a0 : TenV) (v1 : Value) (a1 : TenV) (w : World) (o0 : TenOf w v0 a0) (o1 : TenOf w v1 a1) :
    Calls Try.prog 5 #[v0, v1] w fun en w' => en = .returned (.bool true) ∧ Below w.heap.size w w' := by
  obtain ⟨gv, gw, gd, ge, gx⟩ := a0
  obtain ⟨xv, xw, xd, xe, xx⟩ := a1
  obtain ⟨rfl, hG, ldg, lxg⟩ := o0
  obtain ⟨rfl, hX, ldx, lxx⟩ := o1
  simp only at hG hX ldg lxg ldx lxx ⊢
  have hb0 := two_alloc0 w (.cells #[gv, .int .i64 ge, gw] 25) (.cells #[xv, .int .i64 xe, xw] 25)
  have TG := Lib.hid (hG.below hb0)
  have TX := Lib.hid (hX.below hb0)
  obtain ⟨A, c, rfl, _, _⟩ := hG.d.form
  obtain ⟨A', c', rfl, _, _⟩ := hG.x.form
  obtain ⟨A2, c2, rfl, _, _⟩ := hX.d.form
  obtain ⟨A2', c2', rfl, _, _⟩ := hX.x.form
  simp only [length_ints] at *
  have KG := Lib.hid ((Blk.fresh w 25 [.slice A gd.length c, .int .i64 ge, .slice A' gx.length c']).alloc (.cells #[.slice A2 xd.length c2, .int .i64 xe, .slice A2' xx.length c2'] 25))
  have kx := Blk.fresh (w.alloc (.cells #[.slice A gd.length c, .int .i64 ge, .slice A' gx.length c'] 25)) 25 [.slice A2 xd.length c2, .int .i64 xe, .slice A2' xx.length c2']
  rw [World.size_alloc] at kx
  have KX := Lib.hid kx
  have BB := Lib.hid hb0
  clear hG hX hb0 kx
  obtain ⟨mg, hmg⟩ : ∃ m, mayB gd ge gx = m := ⟨_, rfl⟩
  obtain ⟨mx, hmx⟩ : ∃ m, mayB xd xe xx = m := ⟨_, rfl⟩
  have HMG := Lib.hid hmg
  have HMX := Lib.hid hmx
  go_enter Try.func5, Try.ntmps5
  go_wp2_with fail
  generalize ((w.alloc (.cells #[.slice A gd.length c, .int .i64 ge, .slice A' gx.length c'] 25)).alloc (.cells #[.slice A2 xd.length c2, .int .i64 xe, .slice A2' xx.length c2'] 25)) = w2 at TG TX BB KG KX ⊢
  have hs2 := BB.out.size
  have hM := mayt_any gd ge gx _ _ w2 _ hs2 TG.out
  rw [hmg] at hM
  clear hmg
  refine hM.mono ?_
  rintro e w3 ⟨rfl, hb3⟩
  clear hM
  obtain ⟨b, hb⟩ : ∃ b, w.heap.size = b := ⟨_, rfl⟩
  simp only [hb] at KG KX ⊢
  have HBE := Lib.hid hb
  have hs3 := hb3.size
  have TG := Lib.hid (TG.out.below (hb3.mono (by omega)))
  have TX := Lib.hid (TX.out.below (hb3.mono (by omega)))
  have BB := Lib.hid (BB.out.trans (hb3.mono (by omega)))
  have KG := Lib.hid (KG.out.below hb3 KG.out.lt)
  have KX := Lib.hid (KX.out.below hb3 KX.out.lt)
  have xX0 : w3.cell? ⟨b + 1, 0, none⟩ = some (.slice A2 xd.length c2) := KX.out.cell 0
  have xX1 : w3.cell? ⟨b + 1, 1, none⟩ = some (.int .i64 xe) := KX.out.cell 1
  have xX2 : w3.cell? ⟨b + 1, 2, none⟩ = some (.slice A2' xx.length c2') := KX.out.cell 2
  clear hb3
  cases mg with
  | false =>
    clear hmx hb
    go_wp2_with (go_at_call 13; refine (awake13_any _).mono ?_; rintro en w15 ⟨rfl, hb15⟩)
    go_ret
    exact ⟨rfl, BB.out.trans (hb15.mono BB.out.size)⟩
  | true =>
    go_wp2_with fail
    clear xX0 xX1 xX2
    have hM := mayt_any xd xe xx _ _ w3 _ (by omega) TX.out
    rw [hmx] at hM
    clear hmx
    refine hM.mono ?_
    rintro e w4 ⟨rfl, hb4⟩
    clear hM
    have hs4 := hb4.size
    have TG := Lib.hid (TG.out.below (hb4.mono (by omega)))
    have TX := Lib.hid (TX.out.below (hb4.mono (by omega)))
    have BB := Lib.hid (BB.out.trans (hb4.mono (by omega)))
    have KG := Lib.hid (KG.out.below hb4 KG.out.lt)
    have xG0 : w4.cell? ⟨b, 0, none⟩ = some (.slice A gd.length c) := KG.out.cell 0
    have xG1 : w4.cell? ⟨b, 1, none⟩ = some (.int .i64 ge) := KG.out.cell 1
    have xG2 : w4.cell? ⟨b, 2, none⟩ = some (.slice A' gx.length c') := KG.out.cell 2
    have KX := Lib.hid (KX.out.below hb4 KX.out.lt)
    have xX0 : w4.cell? ⟨b + 1, 0, none⟩ = some (.slice A2 xd.length c2) := KX.out.cell 0
    have xX1 : w4.cell? ⟨b + 1, 1, none⟩ = some (.int .i64 xe) := KX.out.cell 1
    have xX2 : w4.cell? ⟨b + 1, 2, none⟩ = some (.slice A2' xx.length c2') := KX.out.cell 2
    clear hb4
    cases mx with
    | false =>
      clear hb
      go_wp2_with (go_at_call 13; refine (awake13_any _).mono ?_; rintro en w15 ⟨rfl, hb15⟩)
      go_ret
      exact ⟨rfl, BB.out.trans (hb15.mono BB.out.size)⟩
    | true =>
      go_wp2_with fail
      obtain ⟨sm, hsm⟩ : ∃ m, (gd == xd) = m := ⟨_, rfl⟩
      have hS := sameints_any gd xd _ _ w4 _ _ TG.out.d TX.out.d
      rw [hsm] at hS
      have HSM := Lib.hid hsm
      clear hsm
      refine hS.mono ?_
      rintro e w5 hq
      obtain ⟨rfl, m, rfl⟩ := hq
      clear hS xX0 xX1 xX2 xG0 xG1 xG2
      have hb5 : Below w4.heap.size w4 (w4.drewN m) := below_drewN (Below.refl _ _) _
      generalize w4.drewN m = w5 at hb5 ⊢
      have hs5 := hb5.size
      have TG := Lib.hid (TG.out.below (hb5.mono (by omega)))
      have TX := Lib.hid (TX.out.below (hb5.mono (by omega)))
      have BB := Lib.hid (BB.out.trans (hb5.mono (by omega)))
      have KG := Lib.hid (KG.out.below hb5 KG.out.lt)
      have xG0 : w5.cell? ⟨b, 0, none⟩ = some (.slice A gd.length c) := KG.out.cell 0
      have xG1 : w5.cell? ⟨b, 1, none⟩ = some (.int .i64 ge) := KG.out.cell 1
      have xG2 : w5.cell? ⟨b, 2, none⟩ = some (.slice A' gx.length c') := KG.out.cell 2
      have KX := Lib.hid (KX.out.below hb5 KX.out.lt)
      have xX0 : w5.cell? ⟨b + 1, 0, none⟩ = some (.slice A2 xd.length c2) := KX.out.cell 0
      have xX1 : w5.cell? ⟨b + 1, 1, none⟩ = some (.int .i64 xe) := KX.out.cell 1
      have xX2 : w5.cell? ⟨b + 1, 2, none⟩ = some (.slice A2' xx.length c2') := KX.out.cell 2
      clear hb5
      cases sm with
      | false =>
        clear hb
        go_wp2_with (go_at_call 13; refine (awake13_any _).mono ?_; rintro en w15 ⟨rfl, hb15⟩)
        go_ret
        exact ⟨rfl, BB.out.trans (hb15.mono BB.out.size)⟩
      | true =>
        have hdd : gd = xd := by have := HSM.out; simpa using this
        have hne : backErr gd ge gx xd xe xx = 0 := by unfold backErr; rw [if_pos ⟨HMG.out, HMX.out⟩, if_pos hdd]
        have hnx : backErr xd xe xx xd xe xx = 0 := by unfold backErr; rw [if_pos ⟨HMX.out, HMX.out⟩, if_pos rfl]
        have hlen : gx.length = xx.length := by
          have h1 := may_len HMG.out
          have h2 := may_len HMX.out
          rw [hdd] at h1
          omega
        obtain ⟨Xa, hXa⟩ : ∃ X, slopeI gx xx = X := ⟨_, rfl⟩
        obtain ⟨Xb, hXb⟩ : ∃ X, reluI xx = X := ⟨_, rfl⟩
        have H1 : Hid ((if backErr gd ge gx xd xe xx = 0 then gd else []) = gd) := Lib.hid (if_pos hne)
        have H2 : Hid ((if backErr gd ge gx xd xe xx = 0 then ge else 0) = ge) := Lib.hid (if_pos hne)
        have H3 : Hid ((if backErr gd ge gx xd xe xx = 0 then slopeI gx xx else []) = Xa) := Lib.hid (by rw [if_pos hne]; exact hXa)
        have H4 := Lib.hid hne
        have J1 : Hid ((if backErr xd xe xx xd xe xx = 0 then xd else []) = xd) := Lib.hid (if_pos hnx)
        have J2 : Hid ((if backErr xd xe xx xd xe xx = 0 then xe else 0) = xe) := Lib.hid (if_pos hnx)
        have J3 : Hid ((if backErr xd xe xx xd xe xx = 0 then slopeI xx xx else []) = Xb) := Lib.hid (by rw [if_pos hnx, slope_self]; exact hXb)
        have J4 := Lib.hid hnx
        have F1 : Hid (relD xd xe xx = xd) := Lib.hid (if_pos HMX.out)
        have F2 : Hid (relE xd xe xx = xe) := Lib.hid (if_pos HMX.out)
        have F3 : Hid (relX xd xe xx (reluI xx) = Xb) := Lib.hid (by unfold relX; rw [if_pos HMX.out]; exact hXb)
        have F4 : Hid (relErr xd xe xx = 0) := Lib.hid (if_pos HMX.out)
        have hla : Xa.length = gx.length := by rw [← hXa]; exact slope_length gx xx hlen
        have hlb : Xb.length = xx.length := by rw [← hXb]; exact length_reluI xx
        have HXA := Lib.hid hXa
        have HXB := Lib.hid hXb
        have HLEN := Lib.hid hlen
        have HLA := Lib.hid hla
        have HLB := Lib.hid hlb
        clear hdd hne hnx hXa hXb hb hlen hla hlb
        go_wp2_with fail
        clear xX0 xX1 xX2 xG0 xG1 xG2
        refine (back_any gd ge gx xd xe xx _ _ _ _ w5 _ (by omega) TG.out TX.out gd ge Xa 0 H1.out H2.out H3.out H4.out).mono ?_
        rintro en w7 ⟨Aa, ca, Ya, ya, rfl, hT7, hb7⟩
        have hs7 := hb7.size
        have hbx := (Below.refl w7.heap.size w7).alloc (Nat.le_refl _) (.cells #[.slice Aa (gd).length ca, .int .i64 ge, .slice Ya (Xa).length ya] 25)
        have hbn := hbx.size
        have TG := Lib.hid ((TG.out.below (hb7.mono (by omega))).below (hbx.mono (by omega)))
        have TX := Lib.hid ((TX.out.below (hb7.mono (by omega))).below (hbx.mono (by omega)))
        have BB := Lib.hid ((BB.out.trans (hb7.mono (by omega))).trans (hbx.mono (by omega)))
        have kG := KG.out.below hb7 KG.out.lt
        have iG := kG.lt
        have kX := KX.out.below hb7 KX.out.lt
        have iX := kX.lt
        have xX0 : w7.cell? ⟨b + 1, 0, none⟩ = some (.slice A2 xd.length c2) := kX.cell 0
        have xX1 : w7.cell? ⟨b + 1, 1, none⟩ = some (.int .i64 xe) := kX.cell 1
        have xX2 : w7.cell? ⟨b + 1, 2, none⟩ = some (.slice A2' xx.length c2') := kX.cell 2
        have KG := Lib.hid (kG.alloc (.cells #[.slice Aa (gd).length ca, .int .i64 ge, .slice Ya (Xa).length ya] 25))
        have KX := Lib.hid (kX.alloc (.cells #[.slice Aa (gd).length ca, .int .i64 ge, .slice Ya (Xa).length ya] 25))
        have Ta := Lib.hid (hT7.below hbx)
        have Ka := Lib.hid (Blk.fresh w7 25 [.slice Aa (gd).length ca, .int .i64 ge, .slice Ya (Xa).length ya])
        clear hT7 hb7 kG kX
        go_wp2_with fail
        clear xX0 xX1 xX2
        generalize (w7.alloc (.cells #[.slice Aa (gd).length ca, .int .i64 ge, .slice Ya (Xa).length ya] 25)) = w8 at hbx hbn BB TG TX Ta  KG KX Ka ⊢
        clear hbx
        refine (back_any xd xe xx xd xe xx _ _ _ _ w8 _ (by omega) TX.out TX.out xd xe Xb 0 J1.out J2.out J3.out J4.out).mono ?_
        rintro en w9 ⟨Ab, cb, Yb, yb, rfl, hT9, hb9⟩
        have hs9 := hb9.size
        have hbx := (Below.refl w9.heap.size w9).alloc (Nat.le_refl _) (.cells #[.slice Ab (xd).length cb, .int .i64 xe, .slice Yb (Xb).length yb] 25)
        have hbn := hbx.size
        have TG := Lib.hid ((TG.out.below (hb9.mono (by omega))).below (hbx.mono (by omega)))
        have TX := Lib.hid ((TX.out.below (hb9.mono (by omega))).below (hbx.mono (by omega)))
        have Ta := Lib.hid ((Ta.out.below (hb9.mono (by omega))).below (hbx.mono (by omega)))
        have BB := Lib.hid ((BB.out.trans (hb9.mono (by omega))).trans (hbx.mono (by omega)))
        have kG := KG.out.below hb9 KG.out.lt
        have iG := kG.lt
        have kX := KX.out.below hb9 KX.out.lt
        have iX := kX.lt
        have ka := Ka.out.below hb9 Ka.out.lt
        have ia := ka.lt
        have xX0 : w9.cell? ⟨b + 1, 0, none⟩ = some (.slice A2 xd.length c2) := kX.cell 0
        have xX1 : w9.cell? ⟨b + 1, 1, none⟩ = some (.int .i64 xe) := kX.cell 1
        have xX2 : w9.cell? ⟨b + 1, 2, none⟩ = some (.slice A2' xx.length c2') := kX.cell 2
        have KG := Lib.hid (kG.alloc (.cells #[.slice Ab (xd).length cb, .int .i64 xe, .slice Yb (Xb).length yb] 25))
        have KX := Lib.hid (kX.alloc (.cells #[.slice Ab (xd).length cb, .int .i64 xe, .slice Yb (Xb).length yb] 25))
        have Ka := Lib.hid (ka.alloc (.cells #[.slice Ab (xd).length cb, .int .i64 xe, .slice Yb (Xb).length yb] 25))
        have Tb := Lib.hid (hT9.below hbx)
        have Kb := Lib.hid (Blk.fresh w9 25 [.slice Ab (xd).length cb, .int .i64 xe, .slice Yb (Xb).length yb])
        clear hT9 hb9 kG kX ka
        go_wp2_with fail
        clear xX0 xX1 xX2
        generalize (w9.alloc (.cells #[.slice Ab (xd).length cb, .int .i64 xe, .slice Yb (Xb).length yb] 25)) = w10 at hbx hbn BB TG TX Ta Tb  KG KX Ka Kb ⊢
        clear hbx
        refine (relu_call xd xe xx _ _ w10 _ (by omega) xd xe Xb 0 TX.out (by omega) (by omega) F1.out F2.out F3.out F4.out).mono ?_
        rintro en w11 ⟨Ac, cc, Yc, yc, rfl, hT11, hb11⟩
        have hs11 := hb11.size
        have hbx := (Below.refl w11.heap.size w11).alloc (Nat.le_refl _) (.cells #[.slice Ac (xd).length cc, .int .i64 xe, .slice Yc (Xb).length yc] 25)
        have hbn := hbx.size
        have TG := Lib.hid ((TG.out.below (hb11.mono (by omega))).below (hbx.mono (by omega)))
        have TX := Lib.hid ((TX.out.below (hb11.mono (by omega))).below (hbx.mono (by omega)))
        have Ta := Lib.hid ((Ta.out.below (hb11.mono (by omega))).below (hbx.mono (by omega)))
        have Tb := Lib.hid ((Tb.out.below (hb11.mono (by omega))).below (hbx.mono (by omega)))
        have BB := Lib.hid ((BB.out.trans (hb11.mono (by omega))).trans (hbx.mono (by omega)))
        have kG := KG.out.below hb11 KG.out.lt
        have iG := kG.lt
        have kX := KX.out.below hb11 KX.out.lt
        have iX := kX.lt
        have ka := Ka.out.below hb11 Ka.out.lt
        have ia := ka.lt
        have kb := Kb.out.below hb11 Kb.out.lt
        have ib := kb.lt
        have xb0 : w11.cell? ⟨w9.heap.size, 0, none⟩ = some (.slice Ab (xd).length cb) := kb.cell 0
        have xb1 : w11.cell? ⟨w9.heap.size, 1, none⟩ = some (.int .i64 xe) := kb.cell 1
        have xb2 : w11.cell? ⟨w9.heap.size, 2, none⟩ = some (.slice Yb (Xb).length yb) := kb.cell 2
        have KG := Lib.hid (kG.alloc (.cells #[.slice Ac (xd).length cc, .int .i64 xe, .slice Yc (Xb).length yc] 25))
        have KX := Lib.hid (kX.alloc (.cells #[.slice Ac (xd).length cc, .int .i64 xe, .slice Yc (Xb).length yc] 25))
        have Ka := Lib.hid (ka.alloc (.cells #[.slice Ac (xd).length cc, .int .i64 xe, .slice Yc (Xb).length yc] 25))
        have Kb := Lib.hid (kb.alloc (.cells #[.slice Ac (xd).length cc, .int .i64 xe, .slice Yc (Xb).length yc] 25))
        have Tc := Lib.hid (hT11.below hbx)
        have Kc := Lib.hid (Blk.fresh w11 25 [.slice Ac (xd).length cc, .int .i64 xe, .slice Yc (Xb).length yc])
        clear hT11 hb11 kG kX ka kb
        go_wp2_with fail
        clear xb0 xb1 xb2
        generalize (w11.alloc (.cells #[.slice Ac (xd).length cc, .int .i64 xe, .slice Yc (Xb).length yc] 25)) = w12 at hbx hbn BB TG TX Ta Tb Tc  KG KX Ka Kb Kc ⊢
        clear hbx
        have hS := samet_any xd xe Xb xd xe Xb _ _ _ _ w12 w12.heap.size (Nat.le_refl _) (Tb.out.more (by omega)) (Tc.out.more (by omega))
        rw [same_self] at hS
        refine hS.mono ?_
        rintro en w13 ⟨rfl, hb13⟩
        clear hS
        have hs13 := hb13.size
        have TG := Lib.hid (TG.out.below (hb13.mono (by omega)))
        have TX := Lib.hid (TX.out.below (hb13.mono (by omega)))
        have Ta := Lib.hid (Ta.out.below (hb13.mono (by omega)))
        have Tc := Lib.hid (Tc.out.below (hb13.mono (by omega)))
        have BB := Lib.hid (BB.out.trans (hb13.mono (by omega)))
        have KG := Lib.hid (KG.out.below hb13 KG.out.lt)
        have xG0 : w13.cell? ⟨b, 0, none⟩ = some (.slice A gd.length c) := KG.out.cell 0
        have xG1 : w13.cell? ⟨b, 1, none⟩ = some (.int .i64 ge) := KG.out.cell 1
        have xG2 : w13.cell? ⟨b, 2, none⟩ = some (.slice A' gx.length c') := KG.out.cell 2
        have KX := Lib.hid (KX.out.below hb13 KX.out.lt)
        have xX0 : w13.cell? ⟨b + 1, 0, none⟩ = some (.slice A2 xd.length c2) := KX.out.cell 0
        have xX1 : w13.cell? ⟨b + 1, 1, none⟩ = some (.int .i64 xe) := KX.out.cell 1
        have xX2 : w13.cell? ⟨b + 1, 2, none⟩ = some (.slice A2' xx.length c2') := KX.out.cell 2
        have Ka := Lib.hid (Ka.out.below hb13 Ka.out.lt)
        have xa0 : w13.cell? ⟨w7.heap.size, 0, none⟩ = some (.slice Aa (gd).length ca) := Ka.out.cell 0
        have xa1 : w13.cell? ⟨w7.heap.size, 1, none⟩ = some (.int .i64 ge) := Ka.out.cell 1
        have xa2 : w13.cell? ⟨w7.heap.size, 2, none⟩ = some (.slice Ya (Xa).length ya) := Ka.out.cell 2
        have Kc := Lib.hid (Kc.out.below hb13 Kc.out.lt)
        have xc0 : w13.cell? ⟨w11.heap.size, 0, none⟩ = some (.slice Ac (xd).length cc) := Kc.out.cell 0
        have xc1 : w13.cell? ⟨w11.heap.size, 1, none⟩ = some (.int .i64 xe) := Kc.out.cell 1
        have xc2 : w13.cell? ⟨w11.heap.size, 2, none⟩ = some (.slice Yc (Xb).length yc) := Kc.out.cell 2
        clear hb13
        have hla := HLA.out
        have hlb := HLB.out
        simp only [hla, hlb] at *
        clear hla hlb HLA HLB
        have hlen := HLEN.out
        have tg := TG.out.x
        have ta := Ta.out.x
        have tc := Tc.out.x
        have hle : (xx.length : Int) = (gx.length : Int) := by omega
        have hle2 : ((xx.length : Int) != (gx.length : Int)) = false := by simp; omega
        have ldl : gx.length ≤ 9223372036854775807 := by omega
        clear hle hlen
        go_wp2_with fail
        generalize w13 = wL at *
        go_loopw [91] (fun i wr => ∃ k : Nat, k ≤ gx.length ∧ i = .int .i64 k ∧ wr = wL) (fun i _ => gx.length - (intOf i).toNat)
        case atStart => exact ⟨0, by omega, rfl, rfl⟩
        case round =>
          obtain ⟨k, hk, rfl, rfl⟩ := hrel
          have hlen := HLEN.out
          by_cases hlt : k < gx.length
          · obtain ⟨AA, n1, cc, hva, hn, hcc, hmm, ha⟩ := tg
            injection hva with q1 q2 q3
            subst q1 q2 q3
            obtain ⟨AA', n1', cc', hva', hn', hcc', hmm', ha'⟩ := ta
            injection hva' with q1 q2 q3
            subst q1 q2 q3
            obtain ⟨AA2, n2, cc2, hva2, hn2, hcc2, hmm2, ha2⟩ := tc
            injection hva2 with q1 q2 q3
            subst q1 q2 q3
            obtain ⟨g, o, rfl, hg, hx⟩ := ha.out (by omega)
            obtain ⟨g', o', rfl, hg', hy⟩ := ha'.out (by omega)
            obtain ⟨g2, o2, rfl, hg2, hz⟩ := ha2.out (by omega)
            have hge : gx[k]? = some gx[k] := List.getElem?_eq_getElem hlt
            have hxe : xx[k]? = some (xx[k]'(by omega)) := List.getElem?_eq_getElem (by omega)
            obtain ⟨u, hu⟩ : ∃ u, gx[k] = u := ⟨_, rfl⟩
            obtain ⟨v, hv⟩ : ∃ v, xx[k]'(by omega) = v := ⟨_, rfl⟩
            rw [hu] at hge
            rw [hv] at hxe
            have hae : Xa[k]? = some (if 0 < v then u else 0) := by rw [← HXA.out]; exact slope_at gx xx k u v hge hxe
            have hce : Xb[k]? = some (max 0 v) := by rw [← HXB.out]; exact relu_at2 hxe
            have z1 := hx k (.int .i8 u) (by rw [ints, List.getElem?_map, hge]; rfl)
            have z2 := hy k (.int .i8 (if 0 < v then u else 0)) (by rw [ints, List.getElem?_map, hae]; rfl)
            have z3 := hz k (.int .i8 (max 0 v)) (by rw [ints, List.getElem?_map, hce]; rfl)
            have i1 : (0 : Int) ≤ (k : Int) := by omega
            have i2 : (k : Int) < (gx.length : Int) := by omega
            have i2' : (k : Int) < (xx.length : Int) := by omega
            have i3 : (k : Int) ≤ 9223372036854775807 := by omega
            clear hx hy hz ha ha' ha2 hxe hge hae hce hu hv hg hg' hg2 hcc hcc' hcc2 hmm hmm' hmm2 hn hn' hn2 hle2 hlen
            by_cases hu : 0 < v
            · rw [if_pos hu] at z2
              rw [show max 0 v = v by omega] at z3
              have e1 : (u != u) = false := by simp
              have e2 : decide (0 < v) = true := by simpa using hu
              have e3 : (v == 0) = false := by simp; omega
              clear hu
              go_wp2
              go_roundw
              case rel => exact ⟨k + 1, by omega, by go_num, by first | rfl | trivial⟩
              case measure => simp [intOf]; omega
            · rw [if_neg hu] at z2
              rw [show max 0 v = 0 by omega] at z3
              clear hu
              go_wp2
              go_roundw
              case rel => exact ⟨k + 1, by omega, by go_num, by first | rfl | trivial⟩
              case measure => simp [intOf]; omega
          · clear hlen
            go_wp2_with (go_at_call 13; refine (awake13_any _).mono ?_; rintro en w15 ⟨rfl, hb15⟩)
            go_ret
            exact ⟨rfl, BB.out.trans (hb15.mono BB.out.size)⟩
end Go.Proofs.Ythdahnjghpiheaa

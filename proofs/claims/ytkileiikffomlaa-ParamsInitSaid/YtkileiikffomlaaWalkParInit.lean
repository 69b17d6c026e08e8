/- The walk of ParamsInit. -/
import Derived.Test.YtkileiikffomlaaParAwake
import Derived.Test.YtkileiikffomlaaParFew
import Derived.Test.YtkileiikffomlaaParInitP
import Derived.Test.YtkileiikffomlaaOpenM
namespace Go.Proofs.Ytkileiikffomlaa
open Go.RowKit
set_option linter.unusedVariables false
set_option linter.unusedSimpArgs false

theorem u64wP {n : Int} (h : (Lit.int .u64 n).wf = true) : 0 ≤ n ∧ n < 18446744073709551616 := by
  have hb : 0 ≤ n ∧ n ≤ 18446744073709551615 := by simpa [Lit.wf, IntKind.min, IntKind.max, IntKind.signed, IntKind.bits] using h
  omega
theorem cells_ofK (kd : IntKind) {w : World} {B n c : Nat} {A : Option Addr} {d : List Int} (h : Reads w B (.slice A n c) (ints kd d)) {k : Nat} {x : Int} (hk : d[k]? = some x) : ∃ g o, A = some ⟨g, o, none⟩ ∧ g < B ∧ w.cell? ⟨g, o + k, none⟩ = some (.int kd x) := by
  obtain ⟨A', n', c', e, hl, hc, hm, ha⟩ := h
  injection e with e1 e2 e3
  subst e1 e2 e3
  have := (List.getElem?_eq_some_iff.1 hk).1
  rw [length_ints] at hl
  obtain ⟨g, o, rfl, hg, hx⟩ := ha.out (by omega)
  exact ⟨g, o, rfl, hg, hx k _ (by rw [ints, List.getElem?_map, hk]; rfl)⟩
set_option maxHeartbeats 3200000 in
set_option maxRecDepth 100000 in
theorem paramsInit_walk (v0 : Value) (a0 : NetV) (a1 : Int) (w : World) (o0 : NetOf w v0 a0) (w1 : (Lit.int .u64 a1).wf = true) :
    Calls Try.prog 9 #[v0, .int .u64 a1] w fun en w' => en = .returned (.bool true) ∧ Below w.heap.size w w' := by
  obtain ⟨a, b, c, lv, ls⟩ := a0
  obtain ⟨rfl, wa, wb, wc, hl⟩ := o0
  simp only at hl wa wb wc ⊢
  obtain ⟨A, cc, rfl⟩ := hl.form
  have hlen := hl.len
  obtain ⟨s0, s1⟩ := u64wP w1
  have hb0 := net_one w (.cells #[.int .i64 a, .int .i64 b, .int .i64 c, .slice A ls.length cc] 25)
  have hsz : w.heap.size < (w.alloc (.cells #[.int .i64 a, .int .i64 b, .int .i64 c, .slice A ls.length cc] 25)).heap.size := by simp
  have KB := Lib.hid (Blk.fresh w 25 [.int .i64 a, .int .i64 b, .int .i64 c, .slice A ls.length cc])
  have HFEW := Lib.hid (few_any a b c _ ls (w.alloc (.cells #[.int .i64 a, .int .i64 b, .int .i64 c, .slice A ls.length cc] 25)) w.heap.size (by omega) (hl.below hb0))
  have HB0 := Lib.hid hb0
  have HL := Lib.hid hl
  clear hl hb0 wa wb wc w1
  go_enter Try.func9, Try.ntmps9
  go_wp2_with fail
  refine HFEW.out.mono ?_
  rintro en w2 ⟨⟨r, rfl⟩, hb2⟩
  have HB2 := Lib.hid (HB0.out.trans (hb2.mono (by omega)))
  have K2 := Lib.hid (KB.out.below hb2 hsz)
  have hw2 := K2.out.lt
  clear hb2 HB0 KB HFEW hsz
  dsimp only
  cases r with
  | false =>
    go_wp2_with fail
    refine (awake17_any _).mono ?_
    rintro en wd ⟨rfl, hb4⟩
    have HB4 := Lib.hid (HB2.out.trans (hb4.mono HB2.out.size))
    clear hb4
    dsimp only
    go_wp2
    go_ret
    exact ⟨rfl, HB4.out⟩
  | true =>
    have HI1 := Lib.hid (init_any a b c _ ls a1 w2 w.heap.size HB2.out.size (HL.out.below HB2.out) s0 s1)
    have k0 := K2.out.cell 0
    have k1 := K2.out.cell 1
    have k2 := K2.out.cell 2
    have k3 := K2.out.cell 3
    simp only [List.getElem?_cons_zero, List.getElem?_cons_succ] at k0 k1 k2 k3
    go_wp2_with fail
    refine HI1.out.mono ?_
    clear HI1 k0 k1 k2 k3
    rintro en w3 ⟨hb3, ⟨hne, rfl⟩ | ⟨he, ps, A1, c1, rfl, hm, hps, hpl, h12⟩⟩
    · have HB3 := Lib.hid (HB2.out.trans (hb3.mono HB2.out.size))
      have K3 := Lib.hid (K2.out.below hb3 hw2)
      have hw3 := K3.out.lt
      have HI2 := Lib.hid (init_any a b c _ ls a1 w3 w.heap.size HB3.out.size (HL.out.below HB3.out) s0 s1)
      have k0 := K3.out.cell 0
      have k1 := K3.out.cell 1
      have k2 := K3.out.cell 2
      have k3 := K3.out.cell 3
      simp only [List.getElem?_cons_zero, List.getElem?_cons_succ] at k0 k1 k2 k3
      have HNE := Lib.hid hne
      clear hb3 hne
      dsimp only
      go_wp2_with fail
      refine HI2.out.mono ?_
      clear HI2 k0 k1 k2 k3
      rintro en w4 ⟨hb4, ⟨_, rfl⟩ | ⟨he, _⟩⟩
      · have HB4 := Lib.hid (HB3.out.trans (hb4.mono HB3.out.size))
        clear hb4
        have t1 : (initE a b c ls a1 == 0) = false := by simpa using HNE.out
        have t1' : (initE a b c ls a1 != 0) = true := by simpa using HNE.out
        generalize initE a b c ls a1 = e at t1 t1' HNE ⊢
        have t2 : (e == e) = true := by simp
        have t2' : (e != e) = false := by simp
        dsimp only
        go_wp2_with fail
        refine (awake17_any _).mono ?_
        rintro en wd ⟨rfl, hb5⟩
        have HB5 := Lib.hid (HB4.out.trans (hb5.mono HB4.out.size))
        clear hb5
        dsimp only
        go_wp2
        go_ret
        exact ⟨rfl, HB5.out⟩
      · exact absurd he HNE.out
    · have HB3 := Lib.hid (HB2.out.trans (hb3.mono HB2.out.size))
      have K3 := Lib.hid (K2.out.below hb3 hw2)
      have hw3 := K3.out.lt
      have HI2 := Lib.hid (init_any a b c _ ls a1 w3 w.heap.size HB3.out.size (HL.out.below HB3.out) s0 s1)
      have k0 := K3.out.cell 0
      have k1 := K3.out.cell 1
      have k2 := K3.out.cell 2
      have k3 := K3.out.cell 3
      simp only [List.getElem?_cons_zero, List.getElem?_cons_succ] at k0 k1 k2 k3
      have HE := Lib.hid he
      have HM := Lib.hid hm
      have HPS := Lib.hid hps
      have HPL := Lib.hid hpl
      clear hb3 he hm hps hpl
      dsimp only
      go_wp2_with fail
      refine HI2.out.mono ?_
      clear HI2 k0 k1 k2 k3
      rintro en w4 ⟨hb4, ⟨hne, _⟩ | ⟨_, qs, A2, c2, rfl, hm2, hqs, hql, _⟩⟩
      · exact absurd HE.out hne
      · have HB4 := Lib.hid (HB3.out.trans (hb4.mono HB3.out.size))
        have K4 := Lib.hid (K3.out.below hb4 hw3)
        have hw4 := K4.out.lt
        have HP4 := Lib.hid ((HPS.out.below hb4).more hb4.size)
        have HQ4 := Lib.hid hqs
        have HMY := Lib.hid (pmay_any a b c _ _ ls ps w4 w4.heap.size (Nat.le_refl _) ((HL.out.below HB4.out).more HB4.out.size) HP4.out true (by rw [HM.out]; exact init_may HE.out))
        have HEA : Hid (∀ (k : Nat) p, ps[k]? = some p → EachC a1 ((k : Int) + 1) p.c) := Lib.hid (fun k p hp => init_each HE.out k p.c (by rw [← HM.out, List.getElem?_map, hp]; rfl))
        have HSM : Hid (sameCs (ps.map (·.c)) (qs.map (·.c)) = true) := Lib.hid (by rw [HM.out, hm2]; exact sameCs_refl _)
        have k0 := K4.out.cell 0
        have k1 := K4.out.cell 1
        have k2 := K4.out.cell 2
        have k3 := K4.out.cell 3
        simp only [List.getElem?_cons_zero, List.getElem?_cons_succ] at k0 k1 k2 k3
        clear hb4 hqs hm2 hql
        dsimp only
        go_wp2_with fail
        refine HMY.out.mono ?_
        clear HMY k0 k1 k2 k3
        rintro en w5 ⟨rfl, hb5⟩
        have HB5 := Lib.hid (HB4.out.trans (hb5.mono HB4.out.size))
        have K5 := Lib.hid (K4.out.below hb5 hw4)
        have hw5 := K5.out.lt
        have HP5 := Lib.hid ((HP4.out.below hb5).more hb5.size)
        have HQ5 := Lib.hid ((HQ4.out.below hb5).more hb5.size)
        clear hb5 K4 HP4 HQ4
        dsimp only
        go_wp2_with fail
        refine (psame_any ps qs _ _ w5.heap.size w5 (Nat.le_refl _) HP5.out HQ5.out true HSM.out).mono ?_
        rintro en w6 ⟨rfl, hb6⟩
        have HB6 := Lib.hid (HB5.out.trans (hb6.mono HB5.out.size))
        have K6 := Lib.hid (K5.out.below hb6 hw5)
        have HP6 := Lib.hid ((HP5.out.below hb6).more hb6.size)
        have tl : ((ps.length : Int) != (ls.length : Int)) = false := by have := HPL.out; simp; omega
        have hp12 : ps.length ≤ 12 := by have := HPL.out; omega
        have k3 := K6.out.cell 3
        simp only [List.getElem?_cons_zero, List.getElem?_cons_succ] at k3
        clear hb6 K5 HP5 HQ5 HSM
        dsimp only
        go_wp2_with fail
        clear k3 tl
        go_loopw [69] (fun i wr => ∃ k : Nat, k ≤ ps.length ∧ i = .int .i64 k ∧ Hid (Below w6.heap.size w6 wr)) (fun i _ => ps.length - (intOf i).toNat)
        case atStart => exact ⟨0, by omega, rfl, Lib.hid (Below.refl _ _)⟩
        case round =>
          obtain ⟨k, hk, rfl, HBR⟩ := hrel
          by_cases hlt : k < ps.length
          · obtain ⟨gp, op, cp, p, e1, hpk, hok, hgp, q0, q1, q2, q3, q4, q5, q6⟩ := (HP6.out.below HBR.out).at_ hlt
            injection e1 with e1 _ e3
            subst e1 e3
            have hea := HEA.out k p hpk
            have HL1 := Lib.hid hea.len
            have HW1 := Lib.hid hea.w
            have HM1 := Lib.hid hea.m
            have HB1 := Lib.hid hea.b
            obtain ⟨A1, c1, A2, c2, f1, f2⟩ := hok.t.form
            obtain ⟨A3, c3, f3, _, _⟩ := hok.m.form
            obtain ⟨A4, c4, A5, c5, f4, f5⟩ := hok.b.form
            rw [length_ints] at f3
            have HT := hok.t
            have HMM := hok.m
            have HBB := hok.b
            have hln := hok.ln
            unfold lenP at hln
            rw [f1, f2] at HT
            rw [f3] at HMM
            rw [f4, f5] at HBB
            have hba := (Below.refl wr.heap.size wr).alloc (Nat.le_refl _) (.cells #[.slice A1 p.c.wd.length c1, .int .i64 p.c.we, .slice A2 p.c.wx.length c2, .slice A3 p.c.m.length c3, .slice A4 p.c.bd.length c4, .int .i64 p.c.be, .slice A5 p.c.bx.length c5] 60)
            have hsr := HBR.out.size
            have HT := Lib.hid (HT.x.below (hba.mono hsr))
            have HMM := Lib.hid (HMM.below (hba.mono hsr))
            have HBB := Lib.hid (HBB.x.below (hba.mono hsr))
            rw [f1] at q0
            rw [f2] at q2
            rw [f3] at q3
            rw [f4] at q4
            rw [f5] at q6
            have HKP := Lib.hid (Blk.fresh wr 60 [.slice A1 p.c.wd.length c1, .int .i64 p.c.we, .slice A2 p.c.wx.length c2, .slice A3 p.c.m.length c3, .slice A4 p.c.bd.length c4, .int .i64 p.c.be, .slice A5 p.c.bx.length c5])
            have m0 := HKP.out.cell 0
            have m2 := HKP.out.cell 2
            have m3 := HKP.out.cell 3
            have m6 := HKP.out.cell 6
            simp only [List.getElem?_cons_zero, List.getElem?_cons_succ] at m0 m2 m3 m6
            have i0 : 0 ≤ (k : Int) := by omega
            have i1 : (k : Int) < (ps.length : Int) := by omega
            have tm : ((p.c.m.length : Int) != (p.c.wx.length : Int)) = false := by have := HL1.out; simp; omega
            have e3 : IntKind.u64.wrap ((k : Int) + 1) = (k : Int) + 1 := wrap_u64z _ (by omega) (by omega)
            have HBA := Lib.hid (HBR.out.trans (hba.mono hsr))
            clear hpk hok hea f1 f2 f3 f4 f5 hba
            go_wp2_with fail
            clear q0 q1 q2 q3 q4 q5 q6 tm
            generalize (wr.alloc (.cells #[.slice A1 p.c.wd.length c1, .int .i64 p.c.we, .slice A2 p.c.wx.length c2, .slice A3 p.c.m.length c3, .slice A4 p.c.bd.length c4, .int .i64 p.c.be, .slice A5 p.c.bx.length c5] 60)) = wa at HT HMM HBB HKP m0 m2 m3 m6 HBA ⊢
            go_loopw [86] (fun i wq => ∃ j : Nat, j ≤ p.c.wx.length ∧ i = .int .i64 j ∧ wq = wa) (fun i _ => p.c.wx.length - (intOf i).toNat)
            case atStart => exact ⟨0, by omega, rfl, rfl⟩
            case round =>
              obtain ⟨j, hj, rfl, rfl⟩ := hrel
              by_cases hjl : j < p.c.wx.length
              · obtain ⟨z, hz⟩ : ∃ z, p.c.wx[j]? = some z := ⟨p.c.wx[j], List.getElem?_eq_getElem hjl⟩
                have hbz := HW1.out j z hz
                obtain ⟨y, hy⟩ : ∃ y, p.c.m[j]? = some y := ⟨p.c.m[j]'(by have := HL1.out; omega), List.getElem?_eq_getElem (by have := HL1.out; omega)⟩
                have hy0 := HM1.out j y hy
                subst hy0
                obtain ⟨gx, ox, rfl, hgx, x1⟩ := cells_ofK .i8 HT.out hz
                obtain ⟨gm, om, rfl, hgm, x2⟩ := cells_ofK .i32 HMM.out hy
                have hk1 : 0 ≤ (k : Int) + 1 := by omega
                have hk2 : (k : Int) + 1 < 18446744073709551616 := by omega
                have hj1 : 0 ≤ (j : Int) := by omega
                have hj2 : (j : Int) < 18446744073709551616 := by omega
                have HBL := Lib.hid (below_any a1 ((k : Int) + 1) (j : Int) 63 s0 s1 hk1 hk2 hj1 hj2)
                have h63 := below63 a1 ((k : Int) + 1) (j : Int)
                have hbe : belowI a1 ((k : Int) + 1) (j : Int) 63 = z + 31 := by rw [hbz]; exact (Int.sub_add_cancel _ _).symm
                rw [hbe] at HBL h63
                clear hbz hbe
                obtain ⟨h630, h631⟩ := h63
                have z0 : -31 ≤ z := by omega
                have z1 : z ≤ 31 := by omega
                have t1 : decide (z < -31) = false := decide_eq_false (by omega)
                have t2 : decide (31 < z) = false := decide_eq_false (by omega)
                have t3 : (z != z) = false := by simp
                have e4 : IntKind.u64.wrap (j : Int) = (j : Int) := wrap_u64z _ (by omega) (by omega)
                have e5 : IntKind.i64.wrap z = z := IntWalk.i64_in _ (by omega)
                have j0 : 0 ≤ (j : Int) := by omega
                have j1 : (j : Int) < (p.c.wx.length : Int) := by omega
                have j2 : (j : Int) < (p.c.m.length : Int) := by have := HL1.out; omega
                clear hz hy h630 h631
                go_wp2_with fail
                refine (HBL.out _).mono ?_
                rintro en w7 ⟨rfl, rfl⟩
                dsimp only
                go_wp2_with fail
                go_roundw
                case rel => exact ⟨j + 1, by omega, by go_num, by first | rfl | trivial⟩
                case measure => simp [intOf]; omega
              · obtain rfl : j = p.c.wx.length := by omega
                go_wp2_with fail
                go_loopw [123] (fun i wq2 => ∃ j : Nat, j ≤ p.c.bx.length ∧ i = .int .i64 j ∧ wq2 = wr) (fun i _ => p.c.bx.length - (intOf i).toNat)
                case atStart => exact ⟨0, by omega, rfl, by first | rfl | trivial⟩
                case round =>
                  obtain ⟨j, hj, rfl, hwq⟩ := hrel
                  subst hwq
                  by_cases hjl : j < p.c.bx.length
                  · obtain ⟨z, hz⟩ : ∃ z, p.c.bx[j]? = some z := ⟨p.c.bx[j], List.getElem?_eq_getElem hjl⟩
                    have hz0 := HB1.out j z hz
                    subst hz0
                    obtain ⟨gx, ox, rfl, hgx, x1⟩ := cells_ofK .i8 HBB.out hz
                    have j0 : 0 ≤ (j : Int) := by omega
                    have j1 : (j : Int) < (p.c.bx.length : Int) := by omega
                    clear hz
                    go_wp2_with fail
                    go_roundw
                    case rel => exact ⟨j + 1, by omega, by go_num, by first | rfl | trivial⟩
                    case measure => simp [intOf]; omega
                  · obtain rfl : j = p.c.bx.length := by omega
                    go_wp2_with fail
                    go_roundw
                    case rel => exact ⟨k + 1, by omega, by go_num, HBA⟩
                    case measure => simp [intOf]; omega
          · obtain rfl : k = ps.length := by omega
            go_wp2_with fail
            refine (awake17_any _).mono ?_
            rintro en wd ⟨rfl, hb7⟩
            have HB7 := Lib.hid ((HB6.out.trans (HBR.out.mono HB6.out.size)).trans (hb7.mono (HB6.out.trans (HBR.out.mono HB6.out.size)).size))
            clear hb7
            dsimp only
            go_wp2
            go_ret
            exact ⟨rfl, HB7.out⟩
end Go.Proofs.Ytkileiikffomlaa

/- Contracts of pedagogueref18.SameData, small, smalls. -/
import Derived.Test.YtfhlailhcfjjaaaDataRef
import Derived.Test.YtfhlailhcfjjaaaDataInvP
import Derived.Test.YtfhlailhcfjjaaaDataEncP
import Derived.BigQuiet
import Derived.Deep.QuietTactic
import Derived.Outline
namespace Go.Proofs.Ytfhlailhcfjjaaa
open Go.RowKit
set_option linter.unusedVariables false
set_option linter.unusedSimpArgs false

theorem neqIn (a b c a' b' c' : Int) (w : World) : (binOp .neq 30 (.agg #[.int .i64 a, .int .i64 b, .int .i64 c]) (.agg #[.int .i64 a', .int .i64 b', .int .i64 c'])).run Try.prog w = .ok (.bool (!(a == a' && b == b' && c == c'))) w := by
  rw [run_neq_struct, show (10000 : Nat) = 9998 + 2 from rfl, eqIn0]
  rfl
theorem data_drewN {w w' : World} {b : Nat} (hb : Below b w w') (n : Nat) : Below b w (w'.drewN n) := ⟨hb.os, hb.tape, hb.output, hb.size, hb.block⟩
set_option maxRecDepth 100000 in
set_option maxHeartbeats 3200000 in
theorem rsamed_any (v u : Value) (d c : DatV) (w : World) (B : Nat) (hB : B ≤ w.heap.size) (h : DataOf w B v d) (hu : DataOf w B u c) :
    Calls Try.prog 21 #[v, u] w fun en w' => en = .returned (.bool (sameD d c)) ∧ Below w.heap.size w w' := by
  obtain ⟨a1, a2, a3, ex, cl, lv, xs⟩ := d
  obtain ⟨b1, b2, b3, ey, cm, lu, ys⟩ := c
  obtain ⟨rfl, _, hx⟩ := h
  obtain ⟨rfl, _, hy⟩ := hu
  simp only at hx hy ⊢
  obtain ⟨A, k, rfl⟩ := hx.form
  obtain ⟨A', k', rfl⟩ := hy.form
  have hlen := hx.len
  have hlen' := hy.len
  have hb0 := one_alloc w (.cells #[.int .i64 a1, .int .i64 a2, .int .i64 a3, .int .i64 ex, .int .i64 cl, .slice A xs.length k] 33)
  have hk0 := Blk.fresh w 33 [.int .i64 a1, .int .i64 a2, .int .i64 a3, .int .i64 ex, .int .i64 cl, .slice A xs.length k]
  have hk1 := Blk.fresh (w.alloc (.cells #[.int .i64 a1, .int .i64 a2, .int .i64 a3, .int .i64 ex, .int .i64 cl, .slice A xs.length k] 33)) 33 [.int .i64 b1, .int .i64 b2, .int .i64 b3, .int .i64 ey, .int .i64 cm, .slice A' ys.length k']
  have hb1 := hb0.alloc hb0.size (.cells #[.int .i64 b1, .int .i64 b2, .int .i64 b3, .int .i64 ey, .int .i64 cm, .slice A' ys.length k'] 33)
  have hk2 := hk0.alloc (.cells #[.int .i64 b1, .int .i64 b2, .int .i64 b3, .int .i64 ey, .int .i64 cm, .slice A' ys.length k'] 33)
  simp only [World.size_alloc] at hk1
  have hs := hb1.size
  have HB := Lib.hid hb1
  have H1 := Lib.hid hk2
  have H2 := Lib.hid hk1
  have HX := Lib.hid hx
  have HY := Lib.hid hy
  have qA := neqIn a1 a2 a3 b1 b2 b3
  obtain ⟨r, hr⟩ : ∃ r, sameD ⟨a1, a2, a3, ex, cl, .slice A xs.length k, xs⟩ ⟨b1, b2, b3, ey, cm, .slice A' ys.length k', ys⟩ = r := ⟨_, rfl⟩
  rw [hr]
  unfold sameD at hr
  simp only at hr
  clear hb0 hb1 hk0 hk1 hk2 hx hy
  cases c1 : (a1 == b1 && a2 == b2 && a3 == b3) with
  | false =>
    rw [c1] at qA hr
    have HR : Hid (r = false) := Lib.hid (by rw [← hr]; rfl)
    clear hr
    go_enter Try.func21, Try.ntmps21
    go_wp2_with fail
    go_ret
    exact ⟨by rw [HR.out]; rfl, HB.out⟩
  | true =>
    rw [c1] at qA hr
    cases c2 : (ex == ey) with
    | false =>
      have t2 : (ex != ey) = true := by simpa using c2
      have HR : Hid (r = false) := Lib.hid (by rw [← hr, c2]; rfl)
      clear hr c2
      go_enter Try.func21, Try.ntmps21
      go_wp2_with fail
      go_ret
      exact ⟨by rw [HR.out]; rfl, HB.out⟩
    | true =>
      have t2 : (ex != ey) = false := by simpa using c2
      cases c3 : (cl == cm) with
      | false =>
        have t3 : (cl != cm) = true := by simpa using c3
        have HR : Hid (r = false) := Lib.hid (by rw [← hr, c3, Bool.and_false, Bool.false_and])
        clear hr c2 c3
        go_enter Try.func21, Try.ntmps21
        go_wp2_with fail
        go_ret
        exact ⟨by rw [HR.out]; rfl, HB.out⟩
      | true =>
        have t3 : (cl != cm) = false := by simpa using c3
        have HR0 : Hid (r = sameExs xs ys) := Lib.hid (by rw [← hr, c2, c3]; simp)
        clear hr c2 c3
        by_cases hl : xs.length = ys.length
        · have t4 : ((xs.length : Int) != (ys.length : Int)) = false := by simp; omega
          have HL := Lib.hid hl
          clear hl
          go_enter Try.func21, Try.ntmps21
          go_wp2_with fail
          clear t2 t3 t4 qA c1
          generalize ((w.alloc (.cells #[.int .i64 a1, .int .i64 a2, .int .i64 a3, .int .i64 ex, .int .i64 cl, .slice A xs.length k] 33)).alloc (.cells #[.int .i64 b1, .int .i64 b2, .int .i64 b3, .int .i64 ey, .int .i64 cm, .slice A' ys.length k'] 33)) = w1 at HB H1 H2 hs ⊢
          go_loopw [40] (fun i wr => ∃ k : Nat, k ≤ xs.length ∧ i = .int .i64 k ∧ Hid (sameUp xs ys k) ∧ Hid (Below w1.heap.size w1 wr)) (fun i _ => xs.length - (intOf i).toNat)
          case atStart => exact ⟨0, by omega, rfl, Lib.hid (fun j _ _ hj => by omega), Lib.hid (Below.refl _ _)⟩
          case round =>
            obtain ⟨j, hj, rfl, htk, hbel⟩ := hrel
            have HBR := Lib.hid (HB.out.trans (hbel.out.mono hs))
            have sR := HBR.out.size
            by_cases hlt : j < xs.length
            · obtain ⟨g, o, c2, x, e2, hlk, hok, hg, q0, q1⟩ := (HX.out.below (HBR.out.mono hB)).at_ hlt
              injection e2 with e2 _ e3
              subst e2 e3
              obtain ⟨g', o', c3, y, e4, hlk', hok', hg', p0, p1⟩ := (HY.out.below (HBR.out.mono hB)).at_ (k := j) (by have := HL.out; omega)
              injection e4 with e4 _ e5
              subst e4 e5
              obtain ⟨Ad, cd, hdv, _, _⟩ := hok.rd.form
              obtain ⟨Ae, ce, hdv', _, _⟩ := hok'.rd.form
              obtain ⟨dv, data, lab⟩ := x
              obtain ⟨dv', data', lab'⟩ := y
              simp only at hdv hdv' q0 q1 p0 p1
              subst hdv hdv'
              rw [length_ints] at q0 p0
              rw [length_ints] at hlk hok hlk' hok'
              have hok1 := hok.rd
              have hok2 := hok'.rd
              have hll := hok.len
              have hll' := hok'.len
              simp only at hok1 hok2 hll hll'
              have HLK := Lib.hid hlk
              have HLK' := Lib.hid hlk'
              have HO1 := Lib.hid hok1
              have HO2 := Lib.hid hok2
              have h1 := H1.out.below hbel.out H1.out.lt
              have h2 := H2.out.below hbel.out H2.out.lt
              have m5 := h1.cell 5
              have n5 := h2.cell 5
              have l1 := h1.lt
              have l2 := h2.lt
              simp only [List.getElem?_cons_zero, List.getElem?_cons_succ] at m5 n5
              have a1 : g < wr.heap.size := by omega
              have a2 : g' < wr.heap.size := by omega
              have i1 : (0 : Int) ≤ (j : Int) := by omega
              have i2 : (j : Int) < (xs.length : Int) := by omega
              have i3 : (j : Int) < (ys.length : Int) := by have := HL.out; omega
              have hb2 := (one_alloc wr (.cells #[.slice Ad data.length cd, .int .i64 lab] 45)).alloc (one_alloc wr (.cells #[.slice Ad data.length cd, .int .i64 lab] 45)).size (.cells #[.slice Ae data'.length ce, .int .i64 lab'] 45)
              have HB2 := Lib.hid (hbel.out.trans (hb2.mono hbel.out.size))
              have HBW := Lib.hid (HBR.out.trans (hb2.mono sR))
              have HO3 := Lib.hid (HO1.out.below (hb2.mono (by omega)))
              have HO4 := Lib.hid (HO2.out.below (hb2.mono (by omega)))
              clear hlk hok hlk' hok' hok1 hok2 h1 h2 hb2 HO1 HO2
              by_cases hlab : lab = lab'
              · by_cases hdl : data.length = data'.length
                · subst hlab
                  have s1 : (lab != lab) = false := by simp
                  have s2 : ((data.length : Int) != (data'.length : Int)) = false := by simp; omega
                  have HDL := Lib.hid hdl
                  clear hdl
                  go_wp2_with fail
                  have K1 := Blk.fresh wr 45 [.slice Ad data.length cd, .int .i64 lab] |>.alloc (.cells #[.slice Ae data'.length ce, .int .i64 lab] 45)
                  have K2 := Blk.fresh (wr.alloc (.cells #[.slice Ad data.length cd, .int .i64 lab] 45)) 45 [.slice Ae data'.length ce, .int .i64 lab]
                  rw [World.size_alloc] at K2
                  have m0 := K1.cell 0
                  have n0 := K2.cell 0
                  simp only [List.getElem?_cons_zero, List.getElem?_cons_succ] at m0 n0
                  clear K1 K2 m5 n5 q0 q1 p0 p1 s1 s2
                  generalize ((wr.alloc (.cells #[.slice Ad data.length cd, .int .i64 lab] 45)).alloc (.cells #[.slice Ae data'.length ce, .int .i64 lab] 45)) = wi at m0 n0 HB2 HBW HO3 HO4 ⊢
                  generalize wr.heap.size = qe at m0 n0 ⊢
                  go_loopw [67] (fun i wx => ∃ m : Nat, m ≤ data.length ∧ i = .int .i64 m ∧ Hid (data.take m = data'.take m) ∧ ∃ z, wx = wi.drewN z) (fun i _ => data.length - (intOf i).toNat)
                  case atStart => exact ⟨0, by omega, rfl, Lib.hid rfl, 0, rfl⟩
                  case round =>
                    obtain ⟨m, hm, rfl, hmt, z, rfl⟩ := hrel
                    by_cases hlm : m < data.length
                    · have hlm' : m < data'.length := by have := HDL.out; omega
                      obtain ⟨A3, n3, c3, e3, _, _, _, hat⟩ := HO3.out
                      injection e3 with e31 e32 e33
                      subst e31 e32 e33
                      obtain ⟨ga, oa, rfl, hga, hxa⟩ := hat.out (by omega)
                      obtain ⟨A4, n4, c4, e4, _, _, _, hat4⟩ := HO4.out
                      injection e4 with e41 e42 e43
                      subst e41 e42 e43
                      obtain ⟨gb, ob, rfl, hgb, hxb⟩ := hat4.out (by omega)
                      have r1 := hxa m (.int .i8 data[m]) (ints_at _ _ _ hlm)
                      have r2 := hxb m (.int .i8 data'[m]) (ints_at _ _ _ hlm')
                      obtain ⟨y, hy⟩ : ∃ y, data[m] = y := ⟨_, rfl⟩
                      obtain ⟨y', hy'⟩ : ∃ y, data'[m] = y := ⟨_, rfl⟩
                      rw [hy] at r1
                      rw [hy'] at r2
                      have Y1 : Hid (data[m]? = some y) := Lib.hid (by rw [List.getElem?_eq_getElem hlm, hy])
                      have Y2 : Hid (data'[m]? = some y') := Lib.hid (by rw [List.getElem?_eq_getElem hlm', hy'])
                      have k1 : (0 : Int) ≤ (m : Int) := by omega
                      have k2 : (m : Int) < (data.length : Int) := by omega
                      have k3 : (m : Int) < (data'.length : Int) := by omega
                      clear hat hat4 hxa hxb hy hy' HO3 HO4
                      by_cases hyy : y = y'
                      · subst hyy
                        have t1 : (y != y) = false := by simp
                        go_wp2_with fail
                        go_quiet (fail)
                        go_wp2
                        go_roundw
                        case rel => exact ⟨m + 1, by omega, by go_num, Lib.hid (by rw [List.take_add_one, List.take_add_one, hmt.out, Y1.out, Y2.out]), _, rfl⟩
                        case measure => simp [intOf]; omega
                      · have t1 : (y != y') = true := by simpa using hyy
                        have HRF : Hid (r = false) := Lib.hid (by
                          rw [HR0.out]
                          refine sameExs_false HLK.out HLK'.out ?_
                          unfold sameEx
                          have : (data == data') = false := by
                            rw [beq_eq_false_iff_ne]
                            rintro rfl
                            have h1 := Y1.out
                            rw [Y2.out] at h1
                            exact hyy (Option.some.inj h1).symm
                          simp [this])
                        clear hyy
                        go_wp2_with fail
                        go_quiet (fail)
                        go_wp2
                        go_ret
                        exact ⟨by rw [HRF.out]; rfl, data_drewN (data_drewN HBW.out _) _⟩
                    · have HEQ : Hid (data = data') := Lib.hid (by
                        have h1 := hmt.out
                        rwa [List.take_of_length_le (by omega), List.take_of_length_le (by have := HDL.out; omega)] at h1)
                      clear HO3 HO4
                      go_wp2
                      go_roundw
                      case rel => exact ⟨j + 1, by omega, by go_num, Lib.hid (fun i x y hi hx hy => by
                        rcases Nat.lt_or_ge i j with h1 | h1
                        · exact htk.out i x y h1 hx hy
                        · obtain rfl : i = j := by omega
                          rw [HLK.out] at hx
                          rw [HLK'.out] at hy
                          injection hx with hx
                          injection hy with hy
                          subst hx hy
                          unfold sameEx
                          have := HEQ.out
                          subst this
                          simp), Lib.hid (data_drewN HB2.out _)⟩
                      case measure => simp [intOf]; omega
                · have s2 : ((data.length : Int) != (data'.length : Int)) = true := by simp; omega
                  have HRF : Hid (r = false) := Lib.hid (by
                    rw [HR0.out]
                    refine sameExs_false HLK.out HLK'.out ?_
                    unfold sameEx
                    have : (data == data') = false := by rw [beq_eq_false_iff_ne]; rintro rfl; exact hdl rfl
                    simp [this])
                  subst hlab
                  clear hdl
                  go_wp2_with fail
                  go_ret
                  exact ⟨by rw [HRF.out]; rfl, HBW.out⟩
              · have s1 : (lab != lab') = true := by simpa using hlab
                have HRF : Hid (r = false) := Lib.hid (by
                  rw [HR0.out]
                  refine sameExs_false HLK.out HLK'.out ?_
                  unfold sameEx
                  have : (lab == lab') = false := by simpa using hlab
                  simp [this])
                clear hlab
                go_wp2_with fail
                go_ret
                exact ⟨by rw [HRF.out]; rfl, HBW.out⟩
            · have HF : Hid (r = true) := Lib.hid (by rw [HR0.out]; exact sameExs_true HL.out (by have := htk.out; rwa [show j = xs.length by omega] at this))
              go_wp2
              go_ret
              exact ⟨by rw [HF.out]; rfl, HBR.out⟩
        · have t4 : ((xs.length : Int) != (ys.length : Int)) = true := by simp; omega
          have HR : Hid (r = false) := Lib.hid (by rw [HR0.out]; unfold sameExs; rw [decide_eq_false hl, Bool.false_and])
          clear hl
          go_enter Try.func21, Try.ntmps21
          go_wp2_with fail
          go_ret
          exact ⟨by rw [HR.out]; rfl, HB.out⟩
end Go.Proofs.Ytfhlailhcfjjaaa

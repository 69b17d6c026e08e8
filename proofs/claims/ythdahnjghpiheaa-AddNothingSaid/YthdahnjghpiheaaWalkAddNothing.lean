/- The walk of AddNothing. -/
import Derived.Test.YthdahnjghpiheaaAwake14
import Derived.Test.YthdahnjghpiheaaSameAcc
import Derived.Deep.DeepCutAuto
namespace Go.Proofs.Ythdahnjghpiheaa
open Go.RowKit
set_option linter.unusedVariables false

theorem ints_replicate (k : IntKind) (n : Nat) : List.replicate n (Value.int k 0) = ints k (List.replicate n 0) := by simp [ints]

set_option maxHeartbeats 3200000 in
set_option maxRecDepth 100000 in
theorem addNothing_walk (v0 : Value) (a0 : TenV) (w : World) (o0 : TenOf w v0 a0) :
    Calls Try.prog 7 #[v0] w fun en w' => en = .returned (.bool true) ∧ Below w.heap.size w w' := by
  obtain ⟨dv, xv, dims, exp, data⟩ := a0
  obtain ⟨rfl, hT, ld, lx⟩ := o0
  simp only at hT ld lx ⊢
  have hb0 : Below w.heap.size w (w.alloc (.cells #[dv, .int .i64 exp, xv] 25)) := (Below.refl _ _).alloc (Nat.le_refl _) _
  have T0 := Lib.hid (hT.below hb0)
  obtain ⟨A, c, rfl, _, _⟩ := hT.d.form
  obtain ⟨A', c', rfl, _, hm⟩ := hT.x.form
  simp only [length_ints] at *
  have K0 := Lib.hid (Blk.fresh w 25 [.slice A dims.length c, .int .i64 exp, .slice A' data.length c'])
  have BB := Lib.hid hb0
  have hl2 : w.heap.size < (w.alloc (.cells #[.slice A dims.length c, .int .i64 exp, .slice A' data.length c'] 25)).heap.size := by simp
  have hmk : ∀ (W : World), (Instr.makeSlice 23 (.int .i64 (data.length : Int)) (.int .i64 (data.length : Int))).run Try.prog W = .ok (.slice (some ⟨W.heap.size, 0, none⟩) data.length data.length) (W.alloc (.cells (zerosA (.int .i8 0) data.length) 34)) := fun W => by
    obtain ⟨i, hi, hz, hs, hb⟩ := info_parts elem_i8.info
    exact run_make1 23 34 i _ elem_i8.und hi hz hs rfl .i64 .i64 data.length (by rw [hb]; omega) (by omega) W
  have hml : data.length ≤ maxLen := by unfold maxLen; omega
  have HML := Lib.hid hml
  have HMK := Lib.hid hmk
  have HDL := Lib.hid ld
  have HXL := Lib.hid lx
  obtain ⟨n, hn⟩ : ∃ n, dims.length = n := ⟨_, rfl⟩
  obtain ⟨m, hm'⟩ : ∃ m, data.length = m := ⟨_, rfl⟩
  rw [hn, hm'] at K0 hl2
  rw [hm'] at hmk
  rw [hn, hm'] at T0
  rw [hn, hm'] at BB
  rw [hn, hm']
  have HN := Lib.hid hn
  have HM := Lib.hid hm'
  have hm0 : m ≤ 140737488351232 := by omega
  clear hT hb0 hm hml HMK hn hm' ld lx
  go_enter Try.func7, Try.ntmps7
  go_upto_region 1 with fail
  have r0 : (w.alloc (.cells #[.slice A n c, .int .i64 exp, .slice A' m c'] 25)).cell? ⟨w.heap.size, 0, none⟩ = some (.slice A n c) := K0.out.cell 0
  have r1 : (w.alloc (.cells #[.slice A n c, .int .i64 exp, .slice A' m c'] 25)).cell? ⟨w.heap.size, 1, none⟩ = some (.int .i64 exp) := K0.out.cell 1
  have r2 : (w.alloc (.cells #[.slice A n c, .int .i64 exp, .slice A' m c'] 25)).cell? ⟨w.heap.size, 2, none⟩ = some (.slice A' m c') := K0.out.cell 2
  generalize (w.alloc (.cells #[.slice A n c, .int .i64 exp, .slice A' m c'] 25)) = w2 at hl2 BB T0 K0 r0 r1 r2 ⊢
  go_cut [3] (fun s wx => ∃ (q g0 : Nat), s = .pointer (some ⟨q, 0, none⟩) ∧ Blk wx q 25 [.slice A n c, .int .i64 exp, .slice (some ⟨g0, 0, none⟩) m m] ∧ Blk wx g0 34 (List.replicate m (.int .i8 0)) ∧ Below w2.heap.size w2 wx)
  case first =>
    go_region
    · go_wp2_with fail
      go_meet
      refine ⟨w2.heap.size + 1, w2.heap.size, rfl, ?_, ?_, ?_⟩
      · have h := (Blk.fresh (w2.alloc (.cells (zerosA (.int .i8 0) m) 34)) 25 [.slice A n c, .int .i64 exp, .slice (some ⟨w2.heap.size, 0, none⟩) m m]).drew
        rw [World.size_alloc] at h
        exact h
      · have h := ((Blk.freshA w2 34 (zerosA (.int .i8 0) m)).alloc (.cells #[.slice A n c, .int .i64 exp, .slice (some ⟨w2.heap.size, 0, none⟩) m m] 25)).drew
        rw [zerosA_toList] at h
        exact h
      · exact (two_alloc0 w2 _ _).drew
    · go_wp2_with fail
      go_meet
      refine ⟨w2.heap.size, w2.heap.size + 1, rfl, ?_, ?_, ?_⟩
      · exact ((Blk.fresh w2 25 [.slice A n c, .int .i64 exp, .slice (some ⟨w2.heap.size + 1, 0, none⟩) m m]).alloc _).drew
      · have h := (Blk.freshA (w2.alloc (.cells #[.slice A n c, .int .i64 exp, .slice (some ⟨w2.heap.size + 1, 0, none⟩) m m] 25)) 34 (zerosA (.int .i8 0) m)).drew
        rw [zerosA_toList, World.size_alloc] at h
        exact h
      · exact (two_alloc0 w2 _ _).drew
  case rest =>
    obtain ⟨q, g0, rfl, kq, kg, hbq⟩ := hcut
    have hsq := hbq.size
    have tz : Reads wc wc.heap.size (.slice (some ⟨g0, 0, none⟩) m m) (ints .i8 (List.replicate data.length 0)) := by
      rw [HM.out]
      rw [ints_replicate] at kg
      have h := Blk.isInts _ kg (by simp; exact HM.out ▸ HML.out)
      simpa using h
    have T0 := Lib.hid (T0.out.below (hbq.mono (by omega)))
    have Tz : Hid (IsT wc wc.heap.size (.slice A n c) (.slice (some ⟨g0, 0, none⟩) m m) dims exp (List.replicate data.length 0)) := Lib.hid ⟨T0.out.d.more (by omega), tz, T0.out.db, Lib.hid (by intro x hx; have := List.eq_of_mem_replicate hx; omega), T0.out.e0, T0.out.e1⟩
    have BB := Lib.hid (BB.out.trans (hbq.mono (by omega)))
    have K0 := Lib.hid (K0.out.below hbq K0.out.lt)
    have Kz := Lib.hid kq
    have i0 := K0.out.lt
    have iz := kq.lt
    have x00 : wc.cell? ⟨w.heap.size, 0, none⟩ = some (.slice A n c) := K0.out.cell 0
    have x01 : wc.cell? ⟨w.heap.size, 1, none⟩ = some (.int .i64 exp) := K0.out.cell 1
    have x02 : wc.cell? ⟨w.heap.size, 2, none⟩ = some (.slice A' m c') := K0.out.cell 2
    have xz0 : wc.cell? ⟨q, 0, none⟩ = some (.slice A n c) := kq.cell 0
    have xz1 : wc.cell? ⟨q, 1, none⟩ = some (.int .i64 exp) := kq.cell 1
    have xz2 : wc.cell? ⟨q, 2, none⟩ = some (.slice (some ⟨g0, 0, none⟩) m m) := kq.cell 2
    obtain ⟨Dp, p1⟩ : ∃ D, (if addErr dims exp data dims exp (List.replicate data.length 0) = 0 then dims else []) = D := ⟨_, rfl⟩
    obtain ⟨Ep, p2⟩ : ∃ D, (if addErr dims exp data dims exp (List.replicate data.length 0) = 0 then addE exp exp else 0) = D := ⟨_, rfl⟩
    obtain ⟨Xp, p3⟩ : ∃ D, (if addErr dims exp data dims exp (List.replicate data.length 0) = 0 then addI exp exp data (List.replicate data.length 0) else []) = D := ⟨_, rfl⟩
    obtain ⟨ep, p4⟩ : ∃ D, addErr dims exp data dims exp (List.replicate data.length 0) = D := ⟨_, rfl⟩
    obtain ⟨Dq, q1⟩ : ∃ D, (if addErr dims exp data dims exp data = 0 then dims else []) = D := ⟨_, rfl⟩
    obtain ⟨Eq, q2⟩ : ∃ D, (if addErr dims exp data dims exp data = 0 then addE exp exp else 0) = D := ⟨_, rfl⟩
    obtain ⟨Xq, q3⟩ : ∃ D, (if addErr dims exp data dims exp data = 0 then addI exp exp data data else []) = D := ⟨_, rfl⟩
    obtain ⟨eq, q4⟩ : ∃ D, addErr dims exp data dims exp data = D := ⟨_, rfl⟩
    have P1 := Lib.hid p1
    have P2 := Lib.hid p2
    have P3 := Lib.hid p3
    have P4 := Lib.hid p4
    have Q1 := Lib.hid q1
    have Q2 := Lib.hid q2
    have Q3 := Lib.hid q3
    have Q4 := Lib.hid q4
    clear p1 p2 p3 p4 q1 q2 q3 q4 kq kg hbq tz r0 r1 r2 hmk
    go_wp2_with fail
    clear x00 x01 x02 xz0 xz1 xz2
    refine (add_any dims exp data dims exp (List.replicate data.length 0) _ _ _ _ wc wc.heap.size (Nat.le_refl _) (T0.out.more (by omega)) Tz.out Dp Ep Xp ep P1.out P2.out P3.out P4.out).mono ?_
    rintro en w3 ⟨Ap, cp, Yp, yp, rfl, hT3, hb3⟩
    have hs3 := hb3.size
    have hbx := (Below.refl w3.heap.size w3).alloc (Nat.le_refl _) (.cells #[.slice Ap (Dp).length cp, .int .i64 Ep, .slice Yp (Xp).length yp] 39)
    have hbn := hbx.size
    have T0 := Lib.hid ((T0.out.below (hb3.mono (by omega))).below (hbx.mono (by omega)))
    have Tz := Lib.hid ((Tz.out.below (hb3.mono (by omega))).below (hbx.mono (by omega)))
    have BB := Lib.hid ((BB.out.trans (hb3.mono (by omega))).trans (hbx.mono (by omega)))
    have k0 := K0.out.below hb3 K0.out.lt
    have i0 := k0.lt
    have kz := Kz.out.below hb3 Kz.out.lt
    have iz := kz.lt
    have x00 : w3.cell? ⟨w.heap.size, 0, none⟩ = some (.slice A n c) := k0.cell 0
    have x01 : w3.cell? ⟨w.heap.size, 1, none⟩ = some (.int .i64 exp) := k0.cell 1
    have x02 : w3.cell? ⟨w.heap.size, 2, none⟩ = some (.slice A' m c') := k0.cell 2
    have K0 := Lib.hid (k0.alloc (.cells #[.slice Ap (Dp).length cp, .int .i64 Ep, .slice Yp (Xp).length yp] 39))
    have Kz := Lib.hid (kz.alloc (.cells #[.slice Ap (Dp).length cp, .int .i64 Ep, .slice Yp (Xp).length yp] 39))
    have Tp := Lib.hid (hT3.below hbx)
    have Kp := Lib.hid (Blk.fresh w3 39 [.slice Ap (Dp).length cp, .int .i64 Ep, .slice Yp (Xp).length yp])
    clear hT3 hb3 k0 kz
    go_wp2_with fail
    clear x00 x01 x02
    generalize (w3.alloc (.cells #[.slice Ap (Dp).length cp, .int .i64 Ep, .slice Yp (Xp).length yp] 39)) = w4 at hbx hbn BB T0 Tz Tp  K0 Kz Kp ⊢
    clear hbx
    refine (add_any dims exp data dims exp data _ _ _ _ w4 w4.heap.size (Nat.le_refl _) (T0.out.more (by omega)) (T0.out.more (by omega)) Dq Eq Xq eq Q1.out Q2.out Q3.out Q4.out).mono ?_
    rintro en w5 ⟨Aq, cq, Yq, yq, rfl, hT5, hb5⟩
    have hs5 := hb5.size
    have hbx := (Below.refl w5.heap.size w5).alloc (Nat.le_refl _) (.cells #[.slice Aq (Dq).length cq, .int .i64 Eq, .slice Yq (Xq).length yq] 39)
    have hbn := hbx.size
    have T0 := Lib.hid ((T0.out.below (hb5.mono (by omega))).below (hbx.mono (by omega)))
    have Tz := Lib.hid ((Tz.out.below (hb5.mono (by omega))).below (hbx.mono (by omega)))
    have Tp := Lib.hid ((Tp.out.below (hb5.mono (by omega))).below (hbx.mono (by omega)))
    have BB := Lib.hid ((BB.out.trans (hb5.mono (by omega))).trans (hbx.mono (by omega)))
    have k0 := K0.out.below hb5 K0.out.lt
    have i0 := k0.lt
    have kz := Kz.out.below hb5 Kz.out.lt
    have iz := kz.lt
    have kp := Kp.out.below hb5 Kp.out.lt
    have ip := kp.lt
    have x00 : w5.cell? ⟨w.heap.size, 0, none⟩ = some (.slice A n c) := k0.cell 0
    have x01 : w5.cell? ⟨w.heap.size, 1, none⟩ = some (.int .i64 exp) := k0.cell 1
    have x02 : w5.cell? ⟨w.heap.size, 2, none⟩ = some (.slice A' m c') := k0.cell 2
    have K0 := Lib.hid (k0.alloc (.cells #[.slice Aq (Dq).length cq, .int .i64 Eq, .slice Yq (Xq).length yq] 39))
    have Kz := Lib.hid (kz.alloc (.cells #[.slice Aq (Dq).length cq, .int .i64 Eq, .slice Yq (Xq).length yq] 39))
    have Kp := Lib.hid (kp.alloc (.cells #[.slice Aq (Dq).length cq, .int .i64 Eq, .slice Yq (Xq).length yq] 39))
    have Tq := Lib.hid (hT5.below hbx)
    have Kq := Lib.hid (Blk.fresh w5 39 [.slice Aq (Dq).length cq, .int .i64 Eq, .slice Yq (Xq).length yq])
    clear hT5 hb5 k0 kz kp
    go_wp2_with fail
    clear x00 x01 x02
    generalize (w5.alloc (.cells #[.slice Aq (Dq).length cq, .int .i64 Eq, .slice Yq (Xq).length yq] 39)) = w6 at hbx hbn BB T0 Tz Tp Tq  K0 Kz Kp Kq ⊢
    clear hbx
    obtain ⟨M, hMM⟩ : ∃ D, mayB dims exp data = D := ⟨_, rfl⟩
    have hMT := mayt_any dims exp data _ _ w6 w.heap.size (by omega) T0.out
    rw [hMM] at hMT
    have HMM := Lib.hid hMM
    clear hMM
    refine hMT.mono ?_
    rintro en w7 ⟨rfl, hb7⟩
    have hs7 := hb7.size
    have T0 := Lib.hid (T0.out.below (hb7.mono (by omega)))
    have Tp := Lib.hid (Tp.out.below (hb7.mono (by omega)))
    have Tq := Lib.hid (Tq.out.below (hb7.mono (by omega)))
    have BB := Lib.hid (BB.out.trans (hb7.mono (by omega)))
    have K0 := Lib.hid (K0.out.below hb7 K0.out.lt)
    have Kp := Lib.hid (Kp.out.below hb7 Kp.out.lt)
    have Kq := Lib.hid (Kq.out.below hb7 Kq.out.lt)
    have x01 : w7.cell? ⟨w.heap.size, 1, none⟩ = some (.int .i64 exp) := K0.out.cell 1
    have x02 : w7.cell? ⟨w.heap.size, 2, none⟩ = some (.slice A' m c') := K0.out.cell 2
    have xp1 : w7.cell? ⟨w3.heap.size, 1, none⟩ = some (.int .i64 Ep) := Kp.out.cell 1
    have xp2 : w7.cell? ⟨w3.heap.size, 2, none⟩ = some (.slice Yp Xp.length yp) := Kp.out.cell 2
    have xq1 : w7.cell? ⟨w5.heap.size, 1, none⟩ = some (.int .i64 Eq) := Kq.out.cell 1
    have xq2 : w7.cell? ⟨w5.heap.size, 2, none⟩ = some (.slice Yq Xq.length yq) := Kq.out.cell 2
    clear hb7 hMT Tz Kz
    cases M with
    | false =>
      have hne : ¬ mayB dims exp data = true := by rw [HMM.out]; simp
      obtain rfl : ep = 1 := by have := P4.out; rw [addErr_zeros, if_neg hne] at this; exact this.symm
      obtain rfl : eq = 1 := by have := Q4.out; rw [addErr_self, if_neg hne] at this; exact this.symm
      clear hne
      go_wp2_with (go_at_call 20; refine (awake14_any _).mono ?_; rintro en w15 ⟨rfl, hb15⟩)
      go_ret
      exact ⟨rfl, BB.out.trans (hb15.mono BB.out.size)⟩
    | true =>
      have hz0 : addErr dims exp data dims exp (List.replicate data.length 0) = 0 := by rw [addErr_zeros, if_pos HMM.out]
      have hs0 : addErr dims exp data dims exp data = 0 := by rw [addErr_self, if_pos HMM.out]
      obtain rfl : ep = 0 := by have := P4.out; rw [hz0] at this; exact this.symm
      obtain rfl : eq = 0 := by have := Q4.out; rw [hs0] at this; exact this.symm
      obtain rfl : exp = Ep := by have := P2.out; rwa [if_pos hz0, addE_self] at this
      obtain rfl : exp = Eq := by have := Q2.out; rwa [if_pos hs0, addE_self] at this
      obtain rfl : data = Xp := by have := P3.out; rwa [if_pos hz0, addI_zeros] at this
      have hq3 : data.map (fun x => 2 * x) = Xq := by have := Q3.out; rwa [if_pos hs0, addI_twice] at this
      have hql : Xq.length = m := by rw [← hq3, List.length_map]; exact HM.out
      have hpl := HM.out
      rw [hpl] at xp2
      rw [hql] at xq2
      have tx := T0.out.x
      have tp := Tp.out.x
      have tq := Tq.out.x
      rw [hpl] at tp
      rw [hql] at tq
      have H3 := Lib.hid hq3
      clear hz0 hs0 hq3 hql hpl P1 P2 P3 P4 Q1 Q2 Q3 Q4 Tp Tq Kp Kq
      go_wp2_with fail
      generalize w7 = wL at *
      go_loopw [84] (fun i wr => ∃ k : Nat, k ≤ m ∧ i = .int .i64 k ∧ wr = wL) (fun i _ => m - (intOf i).toNat)
      case atStart => exact ⟨0, by omega, rfl, rfl⟩
      case round =>
        obtain ⟨k, hk, rfl, rfl⟩ := hrel
        by_cases hlt : k < m
        · have hml := HM.out
          obtain ⟨AA, n1, cc, hva, hn, hcc, hmm, ha⟩ := tx
          injection hva with q1 q2 q3
          subst q1 q2 q3
          obtain ⟨AA', n1', cc', hva', hn', hcc', hmm', ha'⟩ := tp
          injection hva' with q1 q2 q3
          subst q1 q2 q3
          obtain ⟨AA2, n2, cc2, hva2, hn2, hcc2, hmm2, ha2⟩ := tq
          injection hva2 with q1 q2 q3
          subst q1 q2 q3
          obtain ⟨g, o, rfl, hg, hx⟩ := ha.out (by omega)
          obtain ⟨g', o', rfl, hg', hy⟩ := ha'.out (by omega)
          obtain ⟨g2, o2, rfl, hg2, hz⟩ := ha2.out (by omega)
          obtain ⟨u, hu⟩ : ∃ u, data[k]? = some u := ⟨data[k]'(by omega), List.getElem?_eq_getElem (by omega)⟩
          have hub := T0.out.xb.out u (List.mem_of_getElem? hu)
          obtain ⟨ub0, ub1⟩ := hub
          have hqe : Xq[k]? = some (2 * u) := by rw [← H3.out, List.getElem?_map, hu]; rfl
          have z1 := hx k (.int .i8 u) (by rw [ints, List.getElem?_map, hu]; rfl)
          have z2 := hy k (.int .i32 u) (by rw [ints, List.getElem?_map, hu]; rfl)
          have z3 := hz k (.int .i32 (2 * u)) (by rw [ints, List.getElem?_map, hqe]; rfl)
          have j1 : (0 : Int) ≤ (k : Int) := by omega
          have j2 : (k : Int) < (m : Int) := by omega
          have j3 : (k : Int) ≤ 9223372036854775807 := by omega
          have e1 : (u != u) = false := by simp
          have e2 : (2 * u != 2 * u) = false := by simp
          clear hx hy hz ha ha' ha2 hu hqe hg hg' hg2 hcc hcc' hcc2 hmm hmm' hmm2 hn hn' hn2 hml
          go_wp2
          go_roundw
          case rel => exact ⟨k + 1, by omega, by go_num, by first | rfl | trivial⟩
          case measure => simp [intOf]; omega
        · go_wp2_with (go_at_call 20; refine (awake14_any _).mono ?_; rintro en w15 ⟨rfl, hb15⟩)
          go_ret
          exact ⟨rfl, BB.out.trans (hb15.mono BB.out.size)⟩
end Go.Proofs.Ythdahnjghpiheaa

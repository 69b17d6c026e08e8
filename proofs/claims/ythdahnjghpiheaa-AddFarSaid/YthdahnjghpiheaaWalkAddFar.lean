/- The walk of AddFar. -/
import Derived.Test.YthdahnjghpiheaaFill
import Derived.Test.YthdahnjghpiheaaOpen8
namespace Go.Proofs.Ythdahnjghpiheaa
open Go.RowKit
set_option linter.unusedVariables false
attribute [local go_sem high] run_max_keep run_min_keep run_max_keep8 run_min_keep3

theorem far_in (a : Int) : 20 ≤ wrap64 (20 + wrap64 ((IntKind.u64.wrap a).tmod 40)) ∧ wrap64 (20 + wrap64 ((IntKind.u64.wrap a).tmod 40)) ≤ 59 := by
  have h0 : 0 ≤ IntKind.u64.wrap a := by rw [IntKind.wrap_u64]; omega
  have h1 := tmod_in (IntKind.u64.wrap a) 40 (by omega)
  have h2 := Int.tmod_nonneg 40 h0
  generalize (IntKind.u64.wrap a).tmod 40 = r at h1 h2
  rw [IntWalk.wrap64_in r (by omega), IntWalk.wrap64_in (20 + r) (by omega)]
  omega
theorem align12 (u : Int) : alignI u 12 = u * 4096 := by
  unfold alignI
  rw [if_neg (by omega)]
  rfl
theorem align_far {v b : Int} (hb : b ≤ -7) (h0 : -128 ≤ v) (h1 : v ≤ 127) : alignI v b = if v < 0 then -1 else 0 := by
  have hp : ∀ k : Nat, k ≤ 62 → 7 ≤ k → (128 : Int) ≤ 2 ^ k := by decide
  have hq := hp (min (-b) 62).toNat (by omega) (by omega)
  unfold alignI
  rw [if_pos (by omega)]
  generalize (2 : Int) ^ (min (-b) 62).toNat = p at hq
  split
  · have a1 : -1 ≤ v / p := Int.le_ediv_of_mul_le (by omega) (by omega)
    have a2 : v / p < 0 := Int.ediv_lt_of_lt_mul (by omega) (by omega)
    omega
  · have a1 : 0 ≤ v / p := Int.ediv_nonneg (by omega) (by omega)
    have a2 : v / p < 1 := Int.ediv_lt_of_lt_mul (by omega) (by omega)
    omega

set_option maxHeartbeats 3200000 in
set_option maxRecDepth 100000 in
theorem addFar_walk (v0 : Value) (a0 : List Int) (v1 : Value) (a1 : List Int) (a2 a3 : Int) (w : World) (o0 : I8sOf w v0 a0) (o1 : I8sOf w v1 a1) (w2 : (Lit.int .i64 a2).wf = true) (w3 : (Lit.int .i64 a3).wf = true) :
    Calls Try.prog 8 #[v0, v1, .int .i64 a2, .int .i64 a3] w fun en w' => en = .returned (.bool true) ∧ Below w.heap.size w w' := by
  obtain ⟨h2a, h2b⟩ := wf_i64 w2
  obtain ⟨h3a, h3b⟩ := wf_i64 w3
  obtain ⟨A, c, rfl, _, _⟩ := o0.rd.form
  obtain ⟨A', c', rfl, _, _⟩ := o1.rd.form
  simp only [length_ints] at *
  obtain ⟨n, hn⟩ : ∃ n : Nat, n = min (min a0.length a1.length) 300 := ⟨_, rfl⟩
  have hmin : min (a0.length : Int) (min (a1.length : Int) 300) = (n : Int) := by omega
  have hla0 : n ≤ a0.length := by omega
  have hla1 : n ≤ a1.length := by omega
  have hn300 : n ≤ 300 := by omega
  have HL0 := Lib.hid o0.rd
  have HL1 := Lib.hid o1.rd
  have HB0 := o0.bd
  have HB1 := o1.bd
  have hl0 := o0.len
  have hl1 := o1.len
  obtain ⟨eb, hea⟩ : ∃ e, a2.tmod 20 = e := ⟨_, rfl⟩
  obtain ⟨fr, hfr⟩ : ∃ f, wrap64 (20 + wrap64 ((IntKind.u64.wrap a3).tmod 40)) = f := ⟨_, rfl⟩
  have hfb := far_in a3
  rw [hfr] at hfb
  obtain ⟨fr0, fr1⟩ := hfb
  have HFR := Lib.hid hfr
  clear hfr
  have hbe := tmod_in a2 20 (by omega)
  rw [hea] at hbe
  obtain ⟨eb0, eb1⟩ := hbe
  obtain ⟨ea, hea2⟩ : ∃ e, min (eb + fr) 64 = e := ⟨_, rfl⟩
  have ea0 : -64 < ea := by omega
  have ea1 : ea ≤ 64 := by omega
  have hab : eb < ea := by omega
  have HEM := Lib.hid hea2
  clear hea2
  have HEA := Lib.hid hea
  have HMIN := Lib.hid hmin
  clear o0 o1 hn hea hmin w2 w3
  by_cases hz : n = 0
  · subst hz
    go_enter Try.func8, Try.ntmps8
    go_upto_region 2 with fail
    rw [HMIN.out]
    go_wp2_with (go_at_call 20; refine (awake14_any _).mono ?_; rintro en w15 ⟨rfl, hb15⟩)
    go_ret
    exact ⟨rfl, hb15⟩
  · have hz' : ((n : Int) == 0) = false := by simp; omega
    have hmk : ∀ (W : World), (Instr.makeSlice 23 (.int .i64 (n : Int)) (.int .i64 (n : Int))).run Try.prog W = .ok (.slice (some ⟨W.heap.size, 0, none⟩) n n) (W.alloc (.cells (zerosA (.int .i8 0) n) 34)) := fun W => by
      obtain ⟨i, hi, hz, hs, hb⟩ := info_parts elem_i8.info
      exact run_make1 23 34 i _ elem_i8.und hi hz hs rfl .i64 .i64 n (by rw [hb]; omega) (by omega) W
    obtain ⟨la, hla⟩ : ∃ l, laidI a0 n = l := ⟨_, rfl⟩
    obtain ⟨lb, hlb⟩ : ∃ l, laidI a1 n = l := ⟨_, rfl⟩
    have hlal : la.length = n := by rw [← hla]; exact laid_length a0 n hla0
    have hlbl : lb.length = n := by rw [← hlb]; exact laid_length a1 n hla1
    have HLA := Lib.hid hla
    have HLB := Lib.hid hlb
    have HLAL := Lib.hid hlal
    have HLBL := Lib.hid hlbl
    have hz0 : 1 ≤ n := by omega
    clear hla hlb hlal hlbl hz
    go_enter Try.func8, Try.ntmps8
    go_upto_region 2 with fail
    rw [HMIN.out]
    go_upto_region 6 with fail
    rw [HEA.out, HFR.out]
    go_upto_region 7 with fail
    rw [HEM.out]
    go_wp2_with fail
    clear hmk hz'
    go_loopw [49] (fun i wr => ∃ (k : Nat) (xs ys : List Int), k ≤ n ∧ i = .int .i64 k ∧ xs.length = n ∧ ys.length = n ∧ xs.take k = la.take k ∧ ys.take k = lb.take k ∧ FillI w w.heap.size n ea eb xs ys wr) (fun i _ => n - (intOf i).toNat)
    case atStart => exact ⟨0, _, _, by omega, rfl, by simp, by simp, by simp, by simp, FillI.start w n ea eb⟩
    case round =>
      obtain ⟨k, xs, ys, hk, rfl, hxl, hyl, hxk, hyk, hwr⟩ := hrel
      by_cases hlt : k < n
      · have hr0 := HL0.out.below hwr.bel
        have hr1 := HL1.out.below hwr.bel
        obtain ⟨AA, n1, cc, hva, hn1, hcc, hmm, ha⟩ := hr0
        injection hva with q1 q2 q3
        subst q1 q2 q3
        obtain ⟨AA', n1', cc', hva', hn1', hcc', hmm', ha'⟩ := hr1
        injection hva' with q1 q2 q3
        subst q1 q2 q3
        obtain ⟨g, o, rfl, hg, hx⟩ := ha.out (by omega)
        obtain ⟨g', o', rfl, hg', hy⟩ := ha'.out (by omega)
        obtain ⟨u, hu⟩ : ∃ u, a0[k]? = some u := ⟨a0[k]'(by omega), List.getElem?_eq_getElem (by omega)⟩
        obtain ⟨v, hv⟩ : ∃ v, a1[k]? = some v := ⟨a1[k]'(by omega), List.getElem?_eq_getElem (by omega)⟩
        have z1 := hx k (.int .i8 u) (by rw [ints, List.getElem?_map, hu]; rfl)
        have z2 := hy k (.int .i8 v) (by rw [ints, List.getElem?_map, hv]; rfl)
        have hue : la[k]? = some (max u (-127)) := by rw [← HLA.out]; exact laid_at hlt hu
        have hve : lb[k]? = some (max v (-127)) := by rw [← HLB.out]; exact laid_at hlt hv
        have hun := set_next hxk hue (by rw [hxl, HLAL.out])
        have hvn := set_next hyk hve (by rw [hyl, HLBL.out])
        have HU := Lib.hid hun
        have HV := Lib.hid hvn
        have HXL := Lib.hid hxl
        have HYL := Lib.hid hyl
        have j1 : (0 : Int) ≤ (k : Int) := by omega
        have j2 : (k : Int) < (n : Int) := by omega
        have j2a : (k : Int) < (a0.length : Int) := by omega
        have j2b : (k : Int) < (a1.length : Int) := by omega
        have j3 : (k : Int) ≤ 9223372036854775807 := by omega
        have c1 : wr.cell? ⟨w.heap.size + 2, 2, none⟩ = some (.slice (some ⟨w.heap.size + 1, 0, none⟩) n n) := hwr.t1.cell 2
        have c2 : wr.cell? ⟨w.heap.size + 5, 2, none⟩ = some (.slice (some ⟨w.heap.size + 4, 0, none⟩) n n) := hwr.t2.cell 2
        obtain ⟨s1, hs1⟩ : ∃ s, xs[k]? = some s := ⟨xs[k]'(by omega), List.getElem?_eq_getElem (by omega)⟩
        obtain ⟨s2, hs2⟩ : ∃ s, ys[k]? = some s := ⟨ys[k]'(by omega), List.getElem?_eq_getElem (by omega)⟩
        have d1 : wr.cell? ⟨w.heap.size + 1, k, none⟩ = some (.int .i8 s1) := (hwr.x1.cell k).trans (by rw [ints, List.getElem?_map, hs1]; rfl)
        have d2 : wr.cell? ⟨w.heap.size + 4, k, none⟩ = some (.int .i8 s2) := (hwr.x2.cell k).trans (by rw [ints, List.getElem?_map, hs2]; rfl)
        have f1 := hwr.x1.free k
        have f2 := hwr.x2.free k
        have HW1 := Lib.hid (hwr.next1 k (max u (-127)) (max v (-127)))
        have HW2 := Lib.hid (hwr.next2 k (max u (-127)) (max v (-127)))
        clear hun hvn hue hve hx hy ha ha' hu hv hg hg' hcc hcc' hmm hmm' hn1 hn1' hxk hyk hwr hxl hyl hs1 hs2
        go_wp2_with fail
        go_region
        all_goals
          go_wp2
          go_roundw
          case rel => first | exact ⟨k + 1, _, _, by omega, by go_num, by rw [List.length_set]; exact HXL.out, by rw [List.length_set]; exact HYL.out, HU.out, HV.out, HW1.out.drew⟩ | exact ⟨k + 1, _, _, by omega, by go_num, by rw [List.length_set]; exact HXL.out, by rw [List.length_set]; exact HYL.out, HU.out, HV.out, HW2.out.drew⟩
          case measure => simp [intOf]; omega
      · obtain rfl : k = n := by omega
        have e1 : xs = la := by
          rw [List.take_of_length_le (by omega), List.take_of_length_le (by have := HLAL.out; omega)] at hxk
          exact hxk
        have e2 : ys = lb := by
          rw [List.take_of_length_le (by omega), List.take_of_length_le (by have := HLBL.out; omega)] at hyk
          exact hyk
        subst e1 e2
        have hb8 : ∀ x ∈ xs, -128 ≤ x ∧ x ≤ 127 := by
          intro x hx
          rw [← HLA.out] at hx
          have := laid_in HB0.out x hx
          omega
        have hb8' : ∀ x ∈ ys, -128 ≤ x ∧ x ≤ 127 := by
          intro x hx
          rw [← HLB.out] at hx
          have := laid_in HB1.out x hx
          omega
        have TA := Lib.hid (hwr.isA hxl hn300 hb8 (by omega) (by omega))
        have TB := Lib.hid (hwr.isB hyl hn300 hb8' (by omega) (by omega))
        have hma : mayB [(k : Int)] ea xs = true := by rw [← HLA.out]; exact may_laid HB0.out hz0 hn300 hla0 (by omega) (by omega)
        have hmb : mayB [(k : Int)] eb ys = true := by rw [← HLB.out]; exact may_laid HB1.out hz0 hn300 hla1 (by omega) (by omega)
        have he0 : addErr [(k : Int)] ea xs [(k : Int)] eb ys = 0 := by unfold addErr; rw [if_pos ⟨hma, hmb⟩, if_pos rfl]
        have he0' : addErr [(k : Int)] eb ys [(k : Int)] ea xs = 0 := by unfold addErr; rw [if_pos ⟨hmb, hma⟩, if_pos rfl]
        have BB := Lib.hid hwr.bel
        have xA1 : wr.cell? ⟨w.heap.size + 2, 1, none⟩ = some (.int .i64 ea) := hwr.t1.cell 1
        by_cases hcl : ea - 12 - eb < 7
        · have hc : decide (ea - 12 - eb < 7) = true := by simpa using hcl
          clear hcl hma hmb he0 he0' hb8 hb8' hxk hyk hxl hyl hwr TA TB HL0 HL1
          go_wp2_with (go_at_call 20; refine (awake14_any _).mono ?_; rintro en w15 ⟨rfl, hb15⟩)
          go_ret
          exact ⟨rfl, BB.out.trans (hb15.mono BB.out.size)⟩
        have hc : decide (ea - 12 - eb < 7) = false := by simpa using hcl
        obtain ⟨e, hee⟩ : ∃ e, addE ea eb = e := ⟨_, rfl⟩
        obtain ⟨zs, hzs⟩ : ∃ zs, addI ea eb xs ys = zs := ⟨_, rfl⟩
        have hzl : zs.length = k := by rw [← hzs, addI_length ea eb xs ys (by omega)]; exact hxl
        have he12 : e = ea - 12 := by rw [← hee]; unfold addE; omega
        have hzk : ((zs.length : Int) != (k : Int)) = false := by simp [hzl]
        have hek : (e != ea - 12) = false := by simp [he12]
        have P1 : Hid ((if addErr [(k : Int)] ea xs [(k : Int)] eb ys = 0 then [(k : Int)] else []) = [(k : Int)]) := Lib.hid (if_pos he0)
        have P2 : Hid ((if addErr [(k : Int)] ea xs [(k : Int)] eb ys = 0 then addE ea eb else 0) = e) := Lib.hid (by rw [if_pos he0]; exact hee)
        have P3 : Hid ((if addErr [(k : Int)] ea xs [(k : Int)] eb ys = 0 then addI ea eb xs ys else []) = zs) := Lib.hid (by rw [if_pos he0]; exact hzs)
        have P4 := Lib.hid he0
        have HE := Lib.hid hee
        have HZ := Lib.hid hzs
        have HZL := Lib.hid hzl
        have HXL := Lib.hid hxl
        have HYL := Lib.hid hyl
        have KA := Lib.hid hwr.t1
        have KB := Lib.hid hwr.t2
        have xA0 : wr.cell? ⟨w.heap.size + 2, 0, none⟩ = some (.slice (some ⟨w.heap.size, 0, none⟩) 1 1) := hwr.t1.cell 0
        have xA1 : wr.cell? ⟨w.heap.size + 2, 1, none⟩ = some (.int .i64 ea) := hwr.t1.cell 1
        have xA2 : wr.cell? ⟨w.heap.size + 2, 2, none⟩ = some (.slice (some ⟨w.heap.size + 1, 0, none⟩) k k) := hwr.t1.cell 2
        have xB0 : wr.cell? ⟨w.heap.size + 5, 0, none⟩ = some (.slice (some ⟨w.heap.size + 3, 0, none⟩) 1 1) := hwr.t2.cell 0
        have xB1 : wr.cell? ⟨w.heap.size + 5, 1, none⟩ = some (.int .i64 eb) := hwr.t2.cell 1
        have xB2 : wr.cell? ⟨w.heap.size + 5, 2, none⟩ = some (.slice (some ⟨w.heap.size + 4, 0, none⟩) k k) := hwr.t2.cell 2
        have hsw := hwr.bel.size
        clear hwr hma hmb he0 he0' hee hzs hzl hb8 hb8' hxk hyk hxl hyl he12
        go_wp2_with fail
        clear xA0 xA1 xA2 xB0 xB1 xB2
        refine (add_any [(k : Int)] ea xs [(k : Int)] eb ys _ _ _ _ wr wr.heap.size (Nat.le_refl _) TA.out TB.out [(k : Int)] e zs 0 P1.out P2.out P3.out P4.out).mono ?_
        rintro en w3 ⟨Ap, cp, Yp, yp, rfl, hT3, hb3⟩
        have hs3 := hb3.size
        have hbx := (Below.refl w3.heap.size w3).alloc (Nat.le_refl _) (.cells #[.slice Ap ([(k : Int)]).length cp, .int .i64 e, .slice Yp (zs).length yp] 39)
        have hbn := hbx.size
        have TA := Lib.hid ((TA.out.below (hb3.mono (by omega))).below (hbx.mono (by omega)))
        have TB := Lib.hid ((TB.out.below (hb3.mono (by omega))).below (hbx.mono (by omega)))
        have BB := Lib.hid ((BB.out.trans (hb3.mono (by omega))).trans (hbx.mono (by omega)))
        have kA := KA.out.below hb3 KA.out.lt
        have iA := kA.lt
        have kB := KB.out.below hb3 KB.out.lt
        have iB := kB.lt
        have xA0 : w3.cell? ⟨w.heap.size + 2, 0, none⟩ = some (.slice (some ⟨w.heap.size, 0, none⟩) 1 1) := kA.cell 0
        have xA1 : w3.cell? ⟨w.heap.size + 2, 1, none⟩ = some (.int .i64 ea) := kA.cell 1
        have xA2 : w3.cell? ⟨w.heap.size + 2, 2, none⟩ = some (.slice (some ⟨w.heap.size + 1, 0, none⟩) k k) := kA.cell 2
        have KA := Lib.hid (kA.alloc (.cells #[.slice Ap ([(k : Int)]).length cp, .int .i64 e, .slice Yp (zs).length yp] 39))
        have KB := Lib.hid (kB.alloc (.cells #[.slice Ap ([(k : Int)]).length cp, .int .i64 e, .slice Yp (zs).length yp] 39))
        have Tp := Lib.hid (hT3.below hbx)
        have Kp := Lib.hid (Blk.fresh w3 39 [.slice Ap ([(k : Int)]).length cp, .int .i64 e, .slice Yp (zs).length yp])
        clear hT3 hb3 kA kB
        go_wp2_with fail
        clear xA0 xA1 xA2
        generalize (w3.alloc (.cells #[.slice Ap ([(k : Int)]).length cp, .int .i64 e, .slice Yp (zs).length yp] 39)) = w4 at hbx hbn BB TA TB Tp  KA KB Kp ⊢
        clear hbx
        have hzl := HZL.out
        have tp := Tp.out.x
        have xA2 : w4.cell? ⟨w.heap.size + 2, 2, none⟩ = some (.slice (some ⟨w.heap.size + 1, 0, none⟩) k k) := KA.out.cell 2
        have xB2 : w4.cell? ⟨w.heap.size + 5, 2, none⟩ = some (.slice (some ⟨w.heap.size + 4, 0, none⟩) k k) := KB.out.cell 2
        have xp2 : w4.cell? ⟨w3.heap.size, 2, none⟩ = some (.slice Yp zs.length yp) := Kp.out.cell 2
        clear hzk
        simp only [hzl] at tp xp2 ⊢
        clear hzl
        generalize w4 = wL at *
        go_loopw [104] (fun i wr => ∃ j : Nat, j ≤ k ∧ i = .int .i64 j ∧ wr = wL) (fun i _ => k - (intOf i).toNat)
        case atStart => exact ⟨0, by omega, rfl, rfl⟩
        case round =>
          obtain ⟨j, hj, rfl, rfl⟩ := hrel
          by_cases hlt2 : j < k
          · have hzl := HZL.out
            have hxl := HXL.out
            have hyl := HYL.out
            obtain ⟨AA, n1, cc, hva, hn1, hcc, hmm, ha⟩ := tp
            injection hva with q1 q2 q3
            subst q1 q2 q3
            obtain ⟨AA1, n2, cc1, hva1, hn2, hcc1, hmm1, ha1⟩ := TA.out.x
            injection hva1 with q1 q2 q3
            subst q1 q2 q3
            obtain ⟨AA2, n3, cc2, hva2, hn3, hcc2, hmm2, ha2⟩ := TB.out.x
            injection hva2 with q1 q2 q3
            subst q1 q2 q3
            obtain ⟨g, o, rfl, hg, hx⟩ := ha.out (by omega)
            obtain ⟨g1, o1, hA1, hg1, hx1⟩ := ha1.out (by omega)
            injection hA1 with hA1
            injection hA1 with r1 r2 r3
            subst r1 r2
            obtain ⟨g2, o2, hA2, hg2, hx2⟩ := ha2.out (by omega)
            injection hA2 with hA2
            injection hA2 with r1 r2 r3
            subst r1 r2
            obtain ⟨u, hu⟩ : ∃ u, xs[j]? = some u := ⟨xs[j]'(by omega), List.getElem?_eq_getElem (by omega)⟩
            obtain ⟨v, hv⟩ : ∃ v, ys[j]? = some v := ⟨ys[j]'(by omega), List.getElem?_eq_getElem (by omega)⟩
            have he12 : e = ea - 12 := by rw [← HE.out]; unfold addE; omega
            have hsum := addI_at ea eb xs ys j u v hu hv
            rw [HE.out, HZ.out] at hsum
            have hub := TA.out.xb.out u (List.mem_of_getElem? hu)
            have hvb := TB.out.xb.out v (List.mem_of_getElem? hv)
            have heb2 : ea - e ≤ 12 ∧ eb - e ≤ 12 := by rw [← HE.out]; unfold addE; omega
            have ia := align_in (v := u) (b := ea - e) heb2.1 hub.1 hub.2
            have ib := align_in (v := v) (b := eb - e) heb2.2 hvb.1 hvb.2
            obtain ⟨ra, hra⟩ : ∃ r, alignI u (ea - e) = r := ⟨_, rfl⟩
            obtain ⟨rb, hrb⟩ : ∃ r, alignI v (eb - e) = r := ⟨_, rfl⟩
            rw [hra] at ia hsum
            rw [hrb] at ib hsum
            obtain ⟨ia0, ia1⟩ := ia
            obtain ⟨ib0, ib1⟩ := ib
            obtain ⟨hu0, hu1⟩ := hub
            obtain ⟨hv0, hv1⟩ := hvb
            have z1 := hx j (.int .i32 (ra + rb)) (by rw [ints, List.getElem?_map, hsum]; rfl)
            have z2 := hx1 j (.int .i8 u) (by rw [ints, List.getElem?_map, hu]; rfl)
            have z3 := hx2 j (.int .i8 v) (by rw [ints, List.getElem?_map, hv]; rfl)
            rw [Nat.zero_add] at z2 z3
            have j1 : (0 : Int) ≤ (j : Int) := by omega
            have j2 : (j : Int) < (k : Int) := by omega
            have j3 : (j : Int) ≤ 9223372036854775807 := by omega
            have HRA := Lib.hid hra
            have HRB := Lib.hid hrb
            have hea2 : alignI u (ea - e) = u * 4096 := by rw [show ea - e = 12 by omega]; exact align12 u
            have heb3 : alignI v (eb - e) = if v < 0 then -1 else 0 := align_far (by omega) hv0 hv1
            rw [hra] at hea2
            rw [hrb] at heb3
            obtain ⟨S, hS⟩ : ∃ S, ra + rb = S := ⟨_, rfl⟩
            rw [hS] at z1
            clear hra hrb hsum hx hx1 hx2 ha ha1 ha2 hu hv hg hg1 hg2 hcc hcc1 hcc2 hmm hmm1 hmm2 hn1 hn2 hn3 hzl hxl hyl r3 he12
            by_cases hv : v < 0
            · rw [if_pos hv] at heb3
              have hd : S = u * 4096 - 1 := by omega
              have g1 : decide (0 ≤ v) = false := by simp; omega
              have g2 : decide (v < 0) = true := by simpa using hv
              have g3 : (S - u * 4096 != -1) = false := by simp; omega
              clear hS hea2 heb3
              subst hd
              go_wp2
              all_goals
                go_roundw
                case rel => exact ⟨j + 1, by omega, by go_num, by first | rfl | trivial⟩
                case measure => simp [intOf]; omega
            · rw [if_neg hv] at heb3
              have hd : S = u * 4096 := by omega
              have g1 : decide (0 ≤ v) = true := by simp; omega
              have g2 : decide (v < 0) = false := by simpa using hv
              have g3 : (S - u * 4096 != 0) = false := by simp; omega
              clear hS hea2 heb3
              subst hd
              go_wp2
              all_goals
                go_roundw
                case rel => exact ⟨j + 1, by omega, by go_num, by first | rfl | trivial⟩
                case measure => simp [intOf]; omega
          · go_wp2_with (go_at_call 20; refine (awake14_any _).mono ?_; rintro en w15 ⟨rfl, hb15⟩)
            go_ret
            exact ⟨rfl, BB.out.trans (hb15.mono BB.out.size)⟩
end Go.Proofs.Ythdahnjghpiheaa

/- The walk of CheckJust. -/
import Derived.Test.YtkileiikffomlaaNetAwake
import Derived.Test.YtkileiikffomlaaOpenM
import Derived.Test.YtkileiikffomlaaNetJust
namespace Go.Proofs.Ytkileiikffomlaa
open Go.RowKit
set_option linter.unusedVariables false

theorem conv_mod (a m : Int) (h0 : 0 < m) (h1 : m ≤ 100) : 1 ≤ wrap64 (1 + wrap64 ((IntKind.u64.wrap a).tmod m)) ∧ wrap64 (1 + wrap64 ((IntKind.u64.wrap a).tmod m)) ≤ m := by
  have hu : 0 ≤ IntKind.u64.wrap a := by rw [IntKind.wrap_u64]; omega
  have ht : (IntKind.u64.wrap a).tmod m = (IntKind.u64.wrap a) % m := Int.tmod_eq_emod_of_nonneg hu
  have h2 := Int.emod_nonneg (IntKind.u64.wrap a) (show m ≠ 0 by omega)
  have h3 := Int.emod_lt_of_pos (IntKind.u64.wrap a) h0
  rw [ht]
  generalize (IntKind.u64.wrap a) % m = x at h2 h3
  unfold wrap64
  omega

set_option maxHeartbeats 3200000 in
set_option maxRecDepth 100000 in
theorem checkJust_walk (v0 : Value) (a0 : NetV) (a1 a2 a3 : Int) (w : World) (o0 : NetOf w v0 a0) (w1 : (Lit.int .i64 a1).wf = true) (w2 : (Lit.int .i64 a2).wf = true) (w3 : (Lit.int .i64 a3).wf = true) :
    Calls Try.prog 4 #[v0, .int .i64 a1, .int .i64 a2, .int .i64 a3] w fun en w' => en = .returned (.bool true) ∧ Below w.heap.size w w' := by
  obtain ⟨a, b, c, lv, ls⟩ := a0
  obtain ⟨rfl, wa, wb, wc, hl⟩ := o0
  simp only at hl wa wb wc ⊢
  obtain ⟨A, cc, rfl⟩ := hl.form
  have hb0 := net_one w (.cells #[.int .i64 a, .int .i64 b, .int .i64 c, .slice A ls.length cc] 25)
  have hsz : w.heap.size < (w.alloc (.cells #[.int .i64 a, .int .i64 b, .int .i64 c, .slice A ls.length cc] 25)).heap.size := by simp
  have KB := Lib.hid (Blk.fresh w 25 [.int .i64 a, .int .i64 b, .int .i64 c, .slice A ls.length cc])
  have HB0 := Lib.hid hb0
  have HL := Lib.hid hl
  have HI1 := Lib.hid (wf_int w1)
  have HNET : Hid (∀ (bt : Int) (q : Int × Int) (W : World), Below w.heap.size w W → inW bt → (walkI false a b c ls a1 bt).2 = q → Calls Try.prog 15 #[.agg #[.int .i64 a, .int .i64 b, .int .i64 c, .slice A ls.length cc], .int .i64 a1, .int .i64 bt] W (Duo W q)) :=
    Lib.hid (fun bt q W hW hbt hq => net_any a b c _ ls a1 bt W w.heap.size hW.size (HL.out.below hW) HI1.out hbt q hq)
  have HLON : Hid (∀ (bt : Int) (q : Int) (W : World), Below w.heap.size w W → inW bt → longestI a b c ls bt = q → Calls Try.prog 17 #[.agg #[.int .i64 a, .int .i64 b, .int .i64 c, .slice A ls.length cc], .int .i64 bt] W fun en w' => en = .returned (.int .i64 q) ∧ Below W.heap.size W w') :=
    Lib.hid (fun bt q W hW hbt hq => longest_any a b c _ ls bt W w.heap.size hW.size (HL.out.below hW) hbt q hq)
  clear hl hb0 wa wb wc w1 w2 w3
  by_cases h40 : 40 < ls.length
  · have t40 : decide (40 < (ls.length : Int)) = true := by simp; omega
    clear h40
    go_enter Try.func4, Try.ntmps4
    go_wp2_with (go_at_call 11; refine (awake16_any _).mono ?_; rintro en wz ⟨rfl, hbz⟩)
    go_ret
    exact ⟨rfl, HB0.out.trans (hbz.mono (by omega))⟩
  · have t40 : decide (40 < (ls.length : Int)) = false := by simp; omega
    clear h40
    go_enter Try.func4, Try.ntmps4
    go_upto_region 4 with fail
    have hb := conv_mod a2 8 (by omega) (by omega)
    generalize wrap64 (1 + wrap64 ((IntKind.u64.wrap a2).tmod 8)) = bt at hb ⊢
    obtain ⟨b0, b1⟩ := hb
    have hbz : (bt == 0) = false := by simp; omega
    go_upto_region 5 with fail
    have hle := conv_mod a3 bt (by omega) (by omega)
    generalize wrap64 (1 + wrap64 ((IntKind.u64.wrap a3).tmod bt)) = le at hle ⊢
    obtain ⟨l0, l1⟩ := hle
    have ibt : Hid (inW bt) := Lib.hid (by unfold inW; omega)
    have ile : Hid (inW le) := Lib.hid (by unfold inW; omega)
    obtain ⟨q, hq⟩ : ∃ q, (walkI false a b c ls a1 bt).2 = q := ⟨_, rfl⟩
    obtain ⟨n, hn⟩ : ∃ n, longestI a b c ls bt = n := ⟨_, rfl⟩
    have HQ := Lib.hid hq
    have HN := Lib.hid hn
    clear hq hn hbz
    obtain ⟨q1, q2⟩ := q
    go_wp2_with fail
    refine (HNET.out bt _ _ HB0.out ibt.out HQ.out).mono ?_
    rintro en wb ⟨rfl, hb1⟩
    have HB1 := Lib.hid (HB0.out.trans (hb1.mono (by omega)))
    have K1 := Lib.hid (KB.out.below hb1 hsz)
    have k0 := K1.out.cell 0
    have k1 := K1.out.cell 1
    have k2 := K1.out.cell 2
    have k3 := K1.out.cell 3
    simp only [List.getElem?_cons_zero, List.getElem?_cons_succ] at k0 k1 k2 k3
    clear hb1
    dsimp only
    go_wp2_with fail
    clear k0 k1 k2 k3
    refine (HLON.out bt n _ HB1.out ibt.out HN.out).mono ?_
    rintro en wc ⟨rfl, hb2⟩
    have HB2 := Lib.hid (HB1.out.trans (hb2.mono HB1.out.size))
    have K2 := Lib.hid (K1.out.below hb2 K1.out.lt)
    have k0 := K2.out.cell 0
    have k1 := K2.out.cell 1
    have k2 := K2.out.cell 2
    have k3 := K2.out.cell 3
    simp only [List.getElem?_cons_zero, List.getElem?_cons_succ] at k0 k1 k2 k3
    clear hb2
    by_cases h0 : q2 = 0
    · subst h0
      obtain ⟨j1, j2, j3⟩ := just_ok (a := a) (b := b) (c := c) (ls := ls) (cl := a1) (bt := bt) (less := le) l0 l1 (by rw [HQ.out])
      have j1 : fitsI n = true := by rw [← HN.out]; exact j1
      have j3 : longestI a b c ls le ≤ n := by rw [← HN.out]; exact j3
      obtain ⟨p, hp⟩ : ∃ p, (walkI false a b c ls a1 le).2 = p := ⟨_, rfl⟩
      obtain ⟨m, hm⟩ : ∃ m, longestI a b c ls le = m := ⟨_, rfl⟩
      rw [hm] at j3
      have hp2 : p.2 = 0 := by rw [← hp]; exact j2
      have HP := Lib.hid hp
      have HM := Lib.hid hm
      have HF := Lib.hid (fits_any n true j1)
      have tmn : decide (m ≤ n) = true := by simpa using j3
      obtain ⟨p1, p2⟩ := p
      simp only at hp2
      subst hp2
      clear j1 j2 j3 hp hm
      go_wp2_with fail
      clear k0 k1 k2 k3
      refine (HNET.out le _ _ HB2.out ile.out HP.out).mono ?_
      rintro en wd ⟨rfl, hb3⟩
      have HB3 := Lib.hid (HB2.out.trans (hb3.mono HB2.out.size))
      have K3 := Lib.hid (K2.out.below hb3 K2.out.lt)
      have k0 := K3.out.cell 0
      have k1 := K3.out.cell 1
      have k2 := K3.out.cell 2
      have k3 := K3.out.cell 3
      simp only [List.getElem?_cons_zero, List.getElem?_cons_succ] at k0 k1 k2 k3
      clear hb3
      dsimp only
      go_wp2_with fail
      refine (HF.out _).mono ?_
      rintro en we ⟨rfl, rfl⟩
      go_wp2_with fail
      clear k0 k1 k2 k3
      refine (HLON.out le m _ HB3.out ile.out HM.out).mono ?_
      rintro en we ⟨rfl, hb4⟩
      have HB4 := Lib.hid (HB3.out.trans (hb4.mono HB3.out.size))
      clear hb4
      go_wp2_with (go_at_call 11; refine (awake16_any _).mono ?_; rintro en wz ⟨rfl, hbz⟩)
      go_ret
      exact ⟨rfl, HB4.out.trans (hbz.mono HB4.out.size)⟩
    · have t0 : (q2 == 0) = false := by simpa using h0
      clear h0
      by_cases h3 : q2 = 3
      · subst h3
        have hj := just_bound (a := a) (b := b) (c := c) (ls := ls) (cl := a1) (bt := bt) (by rw [HQ.out])
        have hj : n = 0 ∨ (n ≠ 0 ∧ fitsI n = false) := by rw [← HN.out]; exact hj
        rcases hj with hj | ⟨hj, hf⟩
        · subst hj
          clear k0 k1 k2 k3
          go_wp2_with (go_at_call 11; refine (awake16_any _).mono ?_; rintro en wz ⟨rfl, hbz⟩)
          go_ret
          exact ⟨rfl, HB2.out.trans (hbz.mono HB2.out.size)⟩
        · have tn : (n == 0) = false := by simpa using hj
          have HF := Lib.hid (fits_any n false hf)
          clear hj hf k0 k1 k2 k3
          go_wp2_with (first
            | (go_at_call 19; refine (HF.out _).mono ?_; rintro en we ⟨rfl, rfl⟩)
            | (go_at_call 11; refine (awake16_any _).mono ?_; rintro en wz ⟨rfl, hbz⟩))
          go_ret
          exact ⟨rfl, HB2.out.trans (hbz.mono HB2.out.size)⟩
      · have t3 : (q2 == 3) = false := by simpa using h3
        clear h3 k0 k1 k2 k3
        go_wp2_with (go_at_call 11; refine (awake16_any _).mono ?_; rintro en wz ⟨rfl, hbz⟩)
        go_ret
        exact ⟨rfl, HB2.out.trans (hbz.mono HB2.out.size)⟩
end Go.Proofs.Ytkileiikffomlaa

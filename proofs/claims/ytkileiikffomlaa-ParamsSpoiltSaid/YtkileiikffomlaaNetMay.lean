/- Contracts of model.May and what stands under it. -/
import Derived.Test.YtkileiikffomlaaNetMem
import Derived.RegionTactic
import Derived.ChangeAlike
import Derived.Test.YtkileiikffomlaaOff
namespace Go.Proofs.Ytkileiikffomlaa
open Go.RowKit
set_option linter.unusedVariables false
set_option linter.unusedSimpArgs false
attribute [local go_sem high] eql_layer

theorem min_any (n lo hi : Int) (b : Bool) (hb : inI n lo hi = b) (w : World) :
    Calls Try.prog 57 #[.int .i64 n, .int .i64 lo, .int .i64 hi] w fun en w' => en = .returned (.bool b) ∧ w = w' := by
  subst hb
  by_cases ha : lo ≤ n
  · have t1 : decide (lo ≤ n) = true := by simpa using ha
    by_cases hb : n ≤ hi
    · have t2 : decide (n ≤ hi) = true := by simpa using hb
      have hq : inI n lo hi = true := by unfold inI; rw [t1, t2]; rfl
      rw [hq]
      clear hq
      go_enter Try.func57, Try.ntmps57
      go_wp2
      go_ret
      exact ⟨rfl, rfl⟩
    · have t2 : decide (n ≤ hi) = false := by simpa using hb
      have hq : inI n lo hi = false := by unfold inI; rw [t1, t2]; rfl
      rw [hq]
      clear hq
      go_enter Try.func57, Try.ntmps57
      go_wp2
      go_ret
      exact ⟨rfl, rfl⟩
  · have t1 : decide (lo ≤ n) = false := by simpa using ha
    have hq : inI n lo hi = false := by unfold inI; rw [t1]; rfl
    rw [hq]
    clear hq
    go_enter Try.func57, Try.ntmps57
    go_wp2
    go_ret
    exact ⟨rfl, rfl⟩
theorem sin_any (n lo hi : Int) (b : Bool) (hb : inI n lo hi = b) (w : World) :
    Calls Try.prog 76 #[.int .i64 n, .int .i64 lo, .int .i64 hi] w fun en w' => en = .returned (.bool b) ∧ w = w' := by
  subst hb
  by_cases ha : lo ≤ n
  · have t1 : decide (lo ≤ n) = true := by simpa using ha
    by_cases hb : n ≤ hi
    · have t2 : decide (n ≤ hi) = true := by simpa using hb
      have hq : inI n lo hi = true := by unfold inI; rw [t1, t2]; rfl
      rw [hq]
      clear hq
      go_enter Try.func76, Try.ntmps76
      go_wp2
      go_ret
      exact ⟨rfl, rfl⟩
    · have t2 : decide (n ≤ hi) = false := by simpa using hb
      have hq : inI n lo hi = false := by unfold inI; rw [t1, t2]; rfl
      rw [hq]
      clear hq
      go_enter Try.func76, Try.ntmps76
      go_wp2
      go_ret
      exact ⟨rfl, rfl⟩
  · have t1 : decide (lo ≤ n) = false := by simpa using ha
    have hq : inI n lo hi = false := by unfold inI; rw [t1]; rfl
    rw [hq]
    clear hq
    go_enter Try.func76, Try.ntmps76
    go_wp2
    go_ret
    exact ⟨rfl, rfl⟩
theorem rin_any (n lo hi : Int) (b : Bool) (hb : inI n lo hi = b) (w : World) :
    Calls Try.prog 35 #[.int .i64 n, .int .i64 lo, .int .i64 hi] w fun en w' => en = .returned (.bool b) ∧ w = w' := by
  subst hb
  by_cases ha : lo ≤ n
  · have t1 : decide (lo ≤ n) = true := by simpa using ha
    by_cases hb : n ≤ hi
    · have t2 : decide (n ≤ hi) = true := by simpa using hb
      have hq : inI n lo hi = true := by unfold inI; rw [t1, t2]; rfl
      rw [hq]
      clear hq
      go_enter Try.func35, Try.ntmps35
      go_wp2
      go_ret
      exact ⟨rfl, rfl⟩
    · have t2 : decide (n ≤ hi) = false := by simpa using hb
      have hq : inI n lo hi = false := by unfold inI; rw [t1, t2]; rfl
      rw [hq]
      clear hq
      go_enter Try.func35, Try.ntmps35
      go_wp2
      go_ret
      exact ⟨rfl, rfl⟩
  · have t1 : decide (lo ≤ n) = false := by simpa using ha
    have hq : inI n lo hi = false := by unfold inI; rw [t1]; rfl
    rw [hq]
    clear hq
    go_enter Try.func35, Try.ntmps35
    go_wp2
    go_ret
    exact ⟨rfl, rfl⟩
theorem net_two (w : World) (o1 o2 : Obj) : Below w.heap.size w ((w.alloc o1).alloc o2) := ((Below.refl w.heap.size w).alloc (Nat.le_refl _) o1).alloc (by simp) o2
theorem net_cells {w w1 : World} (hb : Below w.heap.size w w1) : (∀ b o, b < w.heap.size → w1.cell? ⟨b, o, none⟩ = w.cell? ⟨b, o, none⟩) ∧ (∀ b o, b < w.heap.size → w1.frozen? ⟨b, o, none⟩ = w.frozen? ⟨b, o, none⟩) :=
  ⟨fun b o h => hb.cell (p := ⟨b, o, none⟩) h, fun b o h => hb.frozen (p := ⟨b, o, none⟩) h⟩
theorem net_one (w : World) (o1 : Obj) : Below w.heap.size w (w.alloc o1) := (Below.refl w.heap.size w).alloc (Nat.le_refl _) o1

theorem mwindow_any (kd out k st pd fr : Int) (fz : Bool) (b : Bool) (hb : windowI ⟨kd, out, k, st, pd, fr, fz⟩ = b) (w : World) :
    Calls Try.prog 71 #[.agg #[.int .i64 kd, .int .i64 out, .int .i64 k, .int .i64 st, .int .i64 pd, .int .i64 fr, .bool fz]] w fun en w' => en = .returned (.bool b) ∧ Below w.heap.size w w' := by
  subst hb
  obtain ⟨c1, h1⟩ : ∃ c, inI k 1 5 = c := ⟨_, rfl⟩
  obtain ⟨c2, h2⟩ : ∃ c, inI st 1 4 = c := ⟨_, rfl⟩
  have H1 := Lib.hid (min_any k 1 5 c1 h1)
  have H2 := Lib.hid (min_any st 1 4 c2 h2)
  have hq : windowI ⟨kd, out, k, st, pd, fr, fz⟩ = (c1 && c2) := by unfold windowI; rw [h1, h2]
  rw [hq]
  clear hq h1 h2
  cases c1 with
  | false =>
    go_enter Try.func71, Try.ntmps71
    go_wp2_with (first
      | (go_at_call 57; (with_reducible refine (H1.out _).mono ?_); rintro en w' ⟨rfl, rfl⟩)
      | (go_at_call 57; (with_reducible refine (H2.out _).mono ?_); rintro en w' ⟨rfl, rfl⟩))
    go_ret
    exact ⟨rfl, net_one w _⟩
  | true =>
    go_enter Try.func71, Try.ntmps71
    go_wp2_with (first
      | (go_at_call 57; (with_reducible refine (H1.out _).mono ?_); rintro en w' ⟨rfl, rfl⟩)
      | (go_at_call 57; (with_reducible refine (H2.out _).mono ?_); rintro en w' ⟨rfl, rfl⟩))
    go_ret
    exact ⟨rfl, net_one w _⟩
theorem menters_any (a b c : Int) (r : Bool) (hr : entersI a b c = r) (w : World) :
    Calls Try.prog 56 #[.agg #[.int .i64 a, .int .i64 b, .int .i64 c]] w fun en w' => en = .returned (.bool r) ∧ Below w.heap.size w w' := by
  subst hr
  obtain ⟨c1, h1⟩ : ∃ x, inI a 1 8 = x := ⟨_, rfl⟩
  obtain ⟨c2, h2⟩ : ∃ x, inI b 1 16 = x := ⟨_, rfl⟩
  obtain ⟨c3, h3⟩ : ∃ x, inI c 1 16 = x := ⟨_, rfl⟩
  have H1 := Lib.hid (min_any a 1 8 c1 h1)
  have H2 := Lib.hid (min_any b 1 16 c2 h2)
  have H3 := Lib.hid (min_any c 1 16 c3 h3)
  have hq : entersI a b c = ((c1 && c2) && c3) := by unfold entersI; rw [h1, h2, h3]
  rw [hq]
  clear hq h1 h2 h3
  cases c1 <;> cases c2 <;>
  · go_enter Try.func56, Try.ntmps56
    go_wp2_with (first
      | (go_at_call 57; (with_reducible refine (H1.out _).mono ?_); rintro en w' ⟨rfl, rfl⟩)
      | (go_at_call 57; (with_reducible refine (H2.out _).mono ?_); rintro en w' ⟨rfl, rfl⟩)
      | (go_at_call 57; (with_reducible refine (H3.out _).mono ?_); rintro en w' ⟨rfl, rfl⟩))
    go_ret
    exact ⟨rfl, net_one w _⟩

set_option maxHeartbeats 3200000 in
set_option maxRecDepth 100000 in
theorem mmay_any (kd out k st pd fr : Int) (fz : Bool) (ah : Int) (ha0 : 0 ≤ ah) (ha1 : ah ≤ 1000000) (r : Bool) (hr : mayL ⟨kd, out, k, st, pd, fr, fz⟩ ah = r) (w : World) :
    Calls Try.prog 58 #[.agg #[.int .i64 kd, .int .i64 out, .int .i64 k, .int .i64 st, .int .i64 pd, .int .i64 fr, .bool fz], .int .i64 ah] w fun en w' => en = .returned (.bool r) ∧ Below w.heap.size w w' := by
  have HR := Lib.hid hr
  clear hr
  by_cases hd : kd = 1
  · subst hd
    obtain ⟨c1, h1⟩ : ∃ x, inI out 1 4096 = x := ⟨_, rfl⟩
    have H1 := Lib.hid (min_any out 1 4096 c1 h1)
    have HQ : Hid ((c1 && sameL ⟨1, out, k, st, pd, fr, fz⟩ ⟨1, out, 0, 0, 0, 0, fz⟩) = mayL ⟨1, out, k, st, pd, fr, fz⟩ ah) := Lib.hid (by unfold mayL okL plainL; rw [← h1]; rfl)
    clear h1
    go_enter Try.func58, Try.ntmps58
    go_wp2_with fail
    go_region
    all_goals
      cases c1 <;>
      · go_wp2_with (go_at_call 57; (with_reducible refine (H1.out _).mono ?_); rintro en w2 ⟨rfl, rfl⟩)
        go_ret
        refine ⟨?_, ?_⟩
        · rw [← HR.out, ← HQ.out]; rfl
        · first | exact net_two w _ _ | exact (net_two w _ _).drew | exact (net_two w _ _).drew.trans (HWB.mono (by show w.heap.size ≤ ((w.alloc _).alloc _).heap.size; simp; omega)) | exact (net_two w _ _).trans (HWB.mono (by simp; omega))
  · have t1 : (kd == 1) = false := by simpa using hd
    have T1 := Lib.hid hd
    clear hd
    by_cases hd : kd = 2
    · subst hd
      obtain ⟨c1, h1⟩ : ∃ x, inI out 1 8 = x := ⟨_, rfl⟩
      obtain ⟨c2, h2⟩ : ∃ x, windowI ⟨2, out, k, st, pd, fr, fz⟩ = x := ⟨_, rfl⟩
      obtain ⟨c3, h3⟩ : ∃ x, inI pd 0 (k - 1) = x := ⟨_, rfl⟩
      have H1 := Lib.hid (min_any out 1 8 c1 h1)
      have HW := Lib.hid (mwindow_any 2 out k st pd fr fz c2 h2)
      have H3 := Lib.hid (min_any pd 0 (k - 1) c3 h3)
      have HQ : Hid ((((c1 && c2) && c3) && sameL ⟨2, out, k, st, pd, fr, fz⟩ ⟨2, out, k, st, pd, 0, fz⟩) = mayL ⟨2, out, k, st, pd, fr, fz⟩ ah) := Lib.hid (by unfold mayL okL plainL; rw [← h1, ← h2, ← h3]; rfl)
      have HB : Hid (c2 = true → 1 ≤ k ∧ k ≤ 5) := Lib.hid (fun hc => by rw [hc] at h2; unfold windowI at h2; simp only [Bool.and_eq_true] at h2; exact inI_of h2.1)
      clear h1 h2 h3
      cases c1 with
      | false =>
        go_enter Try.func58, Try.ntmps58
        go_wp2_with (first | (go_at_call 57; (with_reducible refine (H1.out _).mono ?_); rintro en w2 ⟨rfl, rfl⟩))
        go_ret
        refine ⟨?_, ?_⟩
        · rw [← HR.out, ← HQ.out]; rfl
        · first | exact net_two w _ _ | exact (net_two w _ _).drew | exact (net_two w _ _).drew.trans (HWB.mono (by show w.heap.size ≤ ((w.alloc _).alloc _).heap.size; simp; omega)) | exact (net_two w _ _).trans (HWB.mono (by simp; omega))
      | true =>
        cases c2 with
        | false =>
          go_enter Try.func58, Try.ntmps58
          go_wp2_with (first | (go_at_call 57; (with_reducible refine (H1.out _).mono ?_); rintro en w2 ⟨rfl, rfl⟩) | (go_at_call 71; (with_reducible refine (HW.out _).mono ?_); rintro en w3 ⟨rfl, HWB⟩; obtain ⟨hc3, hf3⟩ := net_cells HWB))
          go_ret
          refine ⟨?_, ?_⟩
          · rw [← HR.out, ← HQ.out]; rfl
          · first | exact net_two w _ _ | exact (net_two w _ _).drew | exact (net_two w _ _).drew.trans (HWB.mono (by show w.heap.size ≤ ((w.alloc _).alloc _).heap.size; simp; omega)) | exact (net_two w _ _).trans (HWB.mono (by simp; omega))
        | true =>
          obtain ⟨k0, k1⟩ := HB.out rfl
          cases c3 <;>
          · go_enter Try.func58, Try.ntmps58
            go_wp2_with (first | (go_at_call 57; (with_reducible refine (H1.out _).mono ?_); rintro en w2 ⟨rfl, rfl⟩) | (go_at_call 57; (with_reducible refine (H3.out _).mono ?_); rintro en w2 ⟨rfl, rfl⟩) | (go_at_call 71; (with_reducible refine (HW.out _).mono ?_); rintro en w3 ⟨rfl, HWB⟩; obtain ⟨hc3, hf3⟩ := net_cells HWB))
            go_ret
            refine ⟨?_, ?_⟩
            · rw [← HR.out, ← HQ.out]; rfl
            · first | exact net_two w _ _ | exact (net_two w _ _).drew | exact (net_two w _ _).drew.trans (HWB.mono (by show w.heap.size ≤ ((w.alloc _).alloc _).heap.size; simp; omega)) | exact (net_two w _ _).trans (HWB.mono (by simp; omega))
    · have t2 : (kd == 2) = false := by simpa using hd
      have T2 := Lib.hid hd
      clear hd
      by_cases hd : kd = 3
      · subst hd
        obtain ⟨c2, h2⟩ : ∃ x, windowI ⟨3, out, k, st, pd, fr, fz⟩ = x := ⟨_, rfl⟩
        have HW := Lib.hid (mwindow_any 3 out k st pd fr fz c2 h2)
        have HQ : Hid ((c2 && sameL ⟨3, out, k, st, pd, fr, fz⟩ ⟨3, 0, k, st, 0, 0, false⟩) = mayL ⟨3, out, k, st, pd, fr, fz⟩ ah) := Lib.hid (by unfold mayL okL plainL; rw [← h2]; rfl)
        clear h2
        go_enter Try.func58, Try.ntmps58
        go_wp2_with fail
        go_region
        all_goals
          cases c2 <;>
          · go_wp2_with (go_at_call 71; (with_reducible refine (HW.out _).mono ?_); rintro en w3 ⟨rfl, HWB⟩; obtain ⟨hc3, hf3⟩ := net_cells HWB)
            go_ret
            refine ⟨?_, ?_⟩
            · rw [← HR.out, ← HQ.out]; rfl
            · first | exact net_two w _ _ | exact (net_two w _ _).drew | exact (net_two w _ _).drew.trans (HWB.mono (by show w.heap.size ≤ ((w.alloc _).alloc _).heap.size; simp; omega)) | exact (net_two w _ _).trans (HWB.mono (by simp; omega))
      · have t3 : (kd == 3) = false := by simpa using hd
        have T3 := Lib.hid hd
        clear hd
        by_cases hd : kd = 4
        · subst hd
          obtain ⟨c2, h2⟩ : ∃ x, windowI ⟨4, out, k, st, pd, fr, fz⟩ = x := ⟨_, rfl⟩
          have HW := Lib.hid (mwindow_any 4 out k st pd fr fz c2 h2)
          have HQ : Hid ((c2 && sameL ⟨4, out, k, st, pd, fr, fz⟩ ⟨4, 0, k, st, 0, 0, false⟩) = mayL ⟨4, out, k, st, pd, fr, fz⟩ ah) := Lib.hid (by unfold mayL okL plainL; rw [← h2]; rfl)
          clear h2
          go_enter Try.func58, Try.ntmps58
          go_wp2_with fail
          go_region
          all_goals
            cases c2 <;>
            · go_wp2_with (go_at_call 71; (with_reducible refine (HW.out _).mono ?_); rintro en w3 ⟨rfl, HWB⟩; obtain ⟨hc3, hf3⟩ := net_cells HWB)
              go_ret
              refine ⟨?_, ?_⟩
              · rw [← HR.out, ← HQ.out]; rfl
              · first | exact net_two w _ _ | exact (net_two w _ _).drew | exact (net_two w _ _).drew.trans (HWB.mono (by show w.heap.size ≤ ((w.alloc _).alloc _).heap.size; simp; omega)) | exact (net_two w _ _).trans (HWB.mono (by simp; omega))
        · have t4 : (kd == 4) = false := by simpa using hd
          have T4 := Lib.hid hd
          clear hd
          by_cases hd : kd = 5
          · subst hd
            have HQ : Hid ((true && sameL ⟨5, out, k, st, pd, fr, fz⟩ ⟨5, 0, 0, 0, 0, 0, false⟩) = mayL ⟨5, out, k, st, pd, fr, fz⟩ ah) := Lib.hid (by unfold mayL okL plainL; rfl)
            go_enter Try.func58, Try.ntmps58
            go_wp2
            go_ret
            refine ⟨?_, ?_⟩
            · rw [← HR.out, ← HQ.out]; rfl
            · first | exact net_two w _ _ | exact (net_two w _ _).drew | exact (net_two w _ _).drew.trans (HWB.mono (by show w.heap.size ≤ ((w.alloc _).alloc _).heap.size; simp; omega)) | exact (net_two w _ _).trans (HWB.mono (by simp; omega))
          · have t5 : (kd == 5) = false := by simpa using hd
            have T5 := Lib.hid hd
            clear hd
            by_cases hd : kd = 6
            · subst hd
              have HQ : Hid ((true && sameL ⟨6, out, k, st, pd, fr, fz⟩ ⟨6, 0, 0, 0, 0, 0, false⟩) = mayL ⟨6, out, k, st, pd, fr, fz⟩ ah) := Lib.hid (by unfold mayL okL plainL; rfl)
              go_enter Try.func58, Try.ntmps58
              go_wp2
              go_ret
              refine ⟨?_, ?_⟩
              · rw [← HR.out, ← HQ.out]; rfl
              · first | exact net_two w _ _ | exact (net_two w _ _).drew | exact (net_two w _ _).drew.trans (HWB.mono (by show w.heap.size ≤ ((w.alloc _).alloc _).heap.size; simp; omega)) | exact (net_two w _ _).trans (HWB.mono (by simp; omega))
            · have t6 : (kd == 6) = false := by simpa using hd
              have T6 := Lib.hid hd
              clear hd
              by_cases hd : kd = 7
              · subst hd
                obtain ⟨c1, h1⟩ : ∃ x, inI fr 0 (ah - 1) = x := ⟨_, rfl⟩
                have H1 := Lib.hid (min_any fr 0 (ah - 1) c1 h1)
                have HQ : Hid ((c1 && sameL ⟨7, out, k, st, pd, fr, fz⟩ ⟨7, 0, 0, 0, 0, fr, false⟩) = mayL ⟨7, out, k, st, pd, fr, fz⟩ ah) := Lib.hid (by unfold mayL okL plainL; rw [← h1]; rfl)
                clear h1
                cases c1 <;>
                · go_enter Try.func58, Try.ntmps58
                  go_wp2_with (go_at_call 57; (with_reducible refine (H1.out _).mono ?_); rintro en w2 ⟨rfl, rfl⟩)
                  go_ret
                  refine ⟨?_, ?_⟩
                  · rw [← HR.out, ← HQ.out]; rfl
                  · first | exact net_two w _ _ | exact (net_two w _ _).drew | exact (net_two w _ _).drew.trans (HWB.mono (by show w.heap.size ≤ ((w.alloc _).alloc _).heap.size; simp; omega)) | exact (net_two w _ _).trans (HWB.mono (by simp; omega))
              · have t7 : (kd == 7) = false := by simpa using hd
                have T7 := Lib.hid hd
                clear hd
                have HQ : Hid (false = mayL ⟨kd, out, k, st, pd, fr, fz⟩ ah) := Lib.hid (by
                  unfold mayL okL
                  rw [if_neg T1.out, if_neg T2.out, if_neg T3.out, if_neg T4.out, if_neg T5.out, if_neg T6.out, if_neg T7.out]
                  rfl)
                go_enter Try.func58, Try.ntmps58
                go_wp2
                go_ret
                refine ⟨?_, ?_⟩
                · rw [← HR.out, ← HQ.out]; rfl
                · first | exact net_two w _ _ | exact (net_two w _ _).drew | exact (net_two w _ _).drew.trans (HWB.mono (by show w.heap.size ≤ ((w.alloc _).alloc _).heap.size; simp; omega)) | exact (net_two w _ _).trans (HWB.mono (by simp; omega))
end Go.Proofs.Ytkileiikffomlaa

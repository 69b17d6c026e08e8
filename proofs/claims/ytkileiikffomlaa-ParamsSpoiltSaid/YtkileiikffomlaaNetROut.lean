/- Contracts of the reference's Out, plane, Fits. -/
import Derived.Test.YtkileiikffomlaaNetGives
namespace Go.Proofs.Ytkileiikffomlaa
open Go.RowKit
set_option linter.unusedVariables false
set_option linter.unusedSimpArgs false

def OutOk (n k s p : Int) : Prop := 1 ≤ n ∧ n ≤ 16 ∧ 1 ≤ k ∧ k ≤ 5 ∧ 1 ≤ s ∧ s ≤ 4 ∧ 0 ≤ p ∧ p ≤ k - 1 ∧ k ≤ n + 2 * p
theorem outI_zero {n k s p : Int} (h : ¬ OutOk n k s p) : outI n k s p = 0 := by
  unfold outI
  rw [if_neg]
  intro hh
  apply h
  unfold inI at hh
  simp only [Bool.and_eq_true, decide_eq_true_eq] at hh
  unfold OutOk
  omega
theorem outI_yes {n k s p : Int} (h : OutOk n k s p) : outI n k s p = (n + 2 * p - k) / s + 1 := by
  unfold outI
  rw [if_pos]
  unfold OutOk at h
  unfold inI
  simp only [Bool.and_eq_true, decide_eq_true_eq]
  omega
set_option maxHeartbeats 1600000 in
theorem rout_any (n k s p : Int) (r : Int) (hr : outI n k s p = r) (w : World) :
    Calls Try.prog 73 #[.int .i64 n, .int .i64 k, .int .i64 s, .int .i64 p] w fun en w' => en = .returned (.int .i64 r) ∧ w = w' := by
  have HR := Lib.hid hr
  clear hr
  by_cases c0 : n < 1
  · have u0 : decide (n < 1) = true := by simpa using c0
    have HZ : Hid (r = 0) := Lib.hid (by rw [← HR.out]; exact outI_zero (by unfold OutOk; omega))
    clear c0
    go_enter Try.func73, Try.ntmps73
    go_wp2
    go_ret
    exact ⟨by rw [HZ.out]; rfl, rfl⟩
  · have u0 : decide (n < 1) = false := by simpa using c0
    have d0 : 1 ≤ n := by omega
    clear c0
    by_cases c1 : 16 < n
    · have u1 : decide (16 < n) = true := by simpa using c1
      have HZ : Hid (r = 0) := Lib.hid (by rw [← HR.out]; exact outI_zero (by unfold OutOk; omega))
      clear c1
      go_enter Try.func73, Try.ntmps73
      go_wp2
      go_ret
      exact ⟨by rw [HZ.out]; rfl, rfl⟩
    · have u1 : decide (16 < n) = false := by simpa using c1
      have d1 : n ≤ 16 := by omega
      clear c1
      by_cases c2 : k < 1
      · have u2 : decide (k < 1) = true := by simpa using c2
        have HZ : Hid (r = 0) := Lib.hid (by rw [← HR.out]; exact outI_zero (by unfold OutOk; omega))
        clear c2
        go_enter Try.func73, Try.ntmps73
        go_wp2
        go_ret
        exact ⟨by rw [HZ.out]; rfl, rfl⟩
      · have u2 : decide (k < 1) = false := by simpa using c2
        have d2 : 1 ≤ k := by omega
        clear c2
        by_cases c3 : 5 < k
        · have u3 : decide (5 < k) = true := by simpa using c3
          have HZ : Hid (r = 0) := Lib.hid (by rw [← HR.out]; exact outI_zero (by unfold OutOk; omega))
          clear c3
          go_enter Try.func73, Try.ntmps73
          go_wp2
          go_ret
          exact ⟨by rw [HZ.out]; rfl, rfl⟩
        · have u3 : decide (5 < k) = false := by simpa using c3
          have d3 : k ≤ 5 := by omega
          clear c3
          by_cases c4 : s < 1
          · have u4 : decide (s < 1) = true := by simpa using c4
            have HZ : Hid (r = 0) := Lib.hid (by rw [← HR.out]; exact outI_zero (by unfold OutOk; omega))
            clear c4
            go_enter Try.func73, Try.ntmps73
            go_wp2
            go_ret
            exact ⟨by rw [HZ.out]; rfl, rfl⟩
          · have u4 : decide (s < 1) = false := by simpa using c4
            have d4 : 1 ≤ s := by omega
            clear c4
            by_cases c5 : 4 < s
            · have u5 : decide (4 < s) = true := by simpa using c5
              have HZ : Hid (r = 0) := Lib.hid (by rw [← HR.out]; exact outI_zero (by unfold OutOk; omega))
              clear c5
              go_enter Try.func73, Try.ntmps73
              go_wp2
              go_ret
              exact ⟨by rw [HZ.out]; rfl, rfl⟩
            · have u5 : decide (4 < s) = false := by simpa using c5
              have d5 : s ≤ 4 := by omega
              clear c5
              by_cases c6 : p < 0
              · have u6 : decide (p < 0) = true := by simpa using c6
                have HZ : Hid (r = 0) := Lib.hid (by rw [← HR.out]; exact outI_zero (by unfold OutOk; omega))
                clear c6
                go_enter Try.func73, Try.ntmps73
                go_wp2
                go_ret
                exact ⟨by rw [HZ.out]; rfl, rfl⟩
              · have u6 : decide (p < 0) = false := by simpa using c6
                have d6 : 0 ≤ p := by omega
                clear c6
                by_cases c7 : k ≤ p
                · have u7 : decide (k ≤ p) = true := by simpa using c7
                  have HZ : Hid (r = 0) := Lib.hid (by rw [← HR.out]; exact outI_zero (by unfold OutOk; omega))
                  clear c7
                  go_enter Try.func73, Try.ntmps73
                  go_wp2
                  go_ret
                  exact ⟨by rw [HZ.out]; rfl, rfl⟩
                · have u7 : decide (k ≤ p) = false := by simpa using c7
                  have d7 : p < k := by omega
                  clear c7
                  by_cases c8 : n + 2 * p < k
                  · have u8 : decide (n + 2 * p < k) = true := by simpa using c8
                    have HZ : Hid (r = 0) := Lib.hid (by rw [← HR.out]; exact outI_zero (by unfold OutOk; omega))
                    clear c8
                    go_enter Try.func73, Try.ntmps73
                    go_wp2
                    go_ret
                    exact ⟨by rw [HZ.out]; rfl, rfl⟩
                  · have u8 : decide (n + 2 * p < k) = false := by simpa using c8
                    have d8 : k ≤ n + 2 * p := by omega
                    clear c8
                    have q0 : 0 ≤ (n + 2 * p - k) / s := Int.ediv_nonneg (by omega) (by omega)
                    have q1 : (n + 2 * p - k) / s ≤ n + 2 * p - k := Int.ediv_le_self _ (by omega)
                    have q2 : (n + 2 * p - k) / s ≤ 100 := by omega
                    have HZ : Hid (r = (n + 2 * p - k) / s + 1) := Lib.hid (by rw [← HR.out]; exact outI_yes (by unfold OutOk; omega))
                    clear q1
                    go_enter Try.func73, Try.ntmps73
                    go_wp2
                    go_ret
                    exact ⟨by rw [HZ.out]; rfl, rfl⟩
theorem rplane_any (a b k s p : Int) (w : World) : Calls Try.prog 62 #[.int .i64 a, .int .i64 b, .int .i64 k, .int .i64 s, .int .i64 p] w fun en w' => en = .returned (.tuple #[.int .i64 (outI a k s p), .int .i64 (outI b k s p)]) ∧ w = w' := by
  have HO : Hid (∀ (n : Int) (W : World), Calls Try.prog 73 #[.int .i64 n, .int .i64 k, .int .i64 s, .int .i64 p] W fun en w' => en = .returned (.int .i64 (outI n k s p)) ∧ W = w') := Lib.hid (fun n W => rout_any n k s p _ rfl W)
  go_enter Try.func62, Try.ntmps62
  go_wp2_with (go_at_call 73; refine (HO.out _ _).mono ?_; rintro en w9 ⟨rfl, rfl⟩)
  refine bodyPost_ret (v := .tuple #[.int .i64 (outI a k s p), .int .i64 (outI b k s p)]) (by simp [results, Try.results62, go_sem]) rfl ?_
  exact ⟨rfl, rfl⟩
theorem rfits_any (n : Int) (r : Bool) (hr : fitsI n = r) (w : World) : Calls Try.prog 39 #[.int .i64 n] w fun en w' => en = .returned (.bool r) ∧ w = w' := by
  subst hr
  unfold fitsI
  by_cases h0 : 0 ≤ n
  · have t0 : decide (0 ≤ n) = true := by simpa using h0
    by_cases h1 : n ≤ 1023
    · have t1 : decide (n ≤ 1023) = true := by simpa using h1
      by_cases h2 : n < 960
      · have t2 : decide (n * 16384 + 1048576 < 16777216) = true := by simp; omega
        have t3 : decide (n < 960) = true := by simpa using h2
        go_enter Try.func39, Try.ntmps39
        go_wp2
        go_ret
        exact ⟨by first | rfl | (rw [t0, t3]; rfl), rfl⟩
      · have t2 : decide (n * 16384 + 1048576 < 16777216) = false := by simp; omega
        have t3 : decide (n < 960) = false := by simpa using h2
        go_enter Try.func39, Try.ntmps39
        go_wp2
        go_ret
        exact ⟨by first | rfl | (rw [t0, t3]; rfl), rfl⟩
    · have t1 : decide (n ≤ 1023) = false := by simpa using h1
      have t3 : decide (n < 960) = false := by simp; omega
      go_enter Try.func39, Try.ntmps39
      go_wp2
      go_ret
      exact ⟨by first | rfl | (rw [t0, t3]; rfl), rfl⟩
  · have t0 : decide (0 ≤ n) = false := by simpa using h0
    go_enter Try.func39, Try.ntmps39
    go_wp2
    go_ret
    exact ⟨by first | rfl | (rw [t0]; rfl), rfl⟩
end Go.Proofs.Ytkileiikffomlaa

/- Contracts of a disk that there isn't. -/
import Derived.Test.YtcgmgogkfhlgpaaSecRW
namespace Go.Proofs.Ytcgmgogkfhlgpaa
open Go.RowKit
set_option linter.unusedVariables false

section
variable {w : World}
theorem nil_len : Calls Try.prog 26 #[.pointer none] w fun en w' => en = .returned (.int .i64 0) ∧ w = w' := by
  go_enter Try.func26, Try.ntmps26
  go_wp2
  go_ret
  exact ⟨rfl, rfl⟩
theorem nil_has (i : Int) : Calls Try.prog 27 #[.pointer none, .int .i64 i] w fun en w' => en = .returned (.bool false) ∧ w = w' := by
  by_cases h0 : 0 ≤ i
  · have t0 : decide (0 ≤ i) = true := by simp; omega
    have t1 : decide (i < 0) = false := by simp; omega
    go_enter Try.func27, Try.ntmps27
    go_wp2_with (go_at_call 26; refine nil_len.mono ?_; rintro en w' ⟨rfl, rfl⟩)
    go_ret
    exact ⟨rfl, rfl⟩
  · have t0 : decide (0 ≤ i) = false := by simp; omega
    go_enter Try.func27, Try.ntmps27
    go_wp2
    go_ret
    exact ⟨rfl, rfl⟩
theorem nil_down : Calls Try.prog 19 #[.pointer none] w fun en w' => en = .returned (.bool false) ∧ w = w' := by
  go_enter Try.func19, Try.ntmps19
  go_wp2
  go_ret
  exact ⟨rfl, rfl⟩
theorem nil_ops : Calls Try.prog 20 #[.pointer none] w fun en w' => en = .returned (.int .i64 0) ∧ w = w' := by
  go_enter Try.func20, Try.ntmps20
  go_wp2
  go_ret
  exact ⟨rfl, rfl⟩
theorem nil_fuse (n : Int) : Calls Try.prog 18 #[.pointer none, .int .i64 n] w fun en w' => en = .returned (.tuple #[]) ∧ w = w' := by
  go_enter Try.func18, Try.ntmps18
  go_wp2
  refine bodyPost_ret (results_none rfl _ _ _) rfl ?_
  exact ⟨rfl, rfl⟩
theorem nil_crash (A : Option Addr) (n c : Nat) : Calls Try.prog 14 #[.pointer none, .slice A n c] w fun en w' => en = .returned (.tuple #[]) ∧ w = w' := by
  go_enter Try.func14, Try.ntmps14
  go_wp2
  refine bodyPost_ret (results_none rfl _ _ _) rfl ?_
  exact ⟨rfl, rfl⟩
theorem nil_flush : Calls Try.prog 13 #[.pointer none] w fun en w' => en = .returned (.int .i64 1) ∧ w = w' := by
  go_enter Try.func13, Try.ntmps13
  go_wp2
  go_ret
  exact ⟨rfl, rfl⟩
theorem nil_copy : Calls Try.prog 21 #[.pointer none] w fun en w' => en = .returned (.pointer none) ∧ w = w' := by
  go_enter Try.func21, Try.ntmps21
  go_wp2
  go_ret
  exact ⟨rfl, rfl⟩
theorem nil_read (i : Int) : Calls Try.prog 15 #[.pointer none, .int .i64 i] w fun en w' => en = .returned (.tuple #[.slice none 0 0, .int .i64 1]) ∧ w = w' := by
  go_enter Try.func15, Try.ntmps15
  go_wp2_with (go_at_call 27; refine (nil_has i).mono ?_; rintro en w' ⟨rfl, rfl⟩)
  refine bodyPost_ret (v := .tuple #[.slice none 0 0, .int .i64 1]) (by simp [results, Try.results15, go_sem]) rfl ?_
  exact ⟨rfl, rfl⟩
theorem nil_write (i : Int) (A : Option Addr) (n c : Nat) : Calls Try.prog 12 #[.pointer none, .int .i64 i, .slice A n c] w fun en w' => en = .returned (.int .i64 1) ∧ w = w' := by
  go_enter Try.func12, Try.ntmps12
  go_wp2_with (go_at_call 27; refine (nil_has i).mono ?_; rintro en w' ⟨rfl, rfl⟩)
  go_ret
  exact ⟨rfl, rfl⟩
end
end Go.Proofs.Ytcgmgogkfhlgpaa

/- The walk of OctetNil. -/
import Derived.Test.YthnebanlpmehjaaOpen3
import Derived.Test.YthnebanlpmehjaaAwake3
namespace Go.Proofs.Ythnebanlpmehjaa
open Go.RowKit
set_option linter.unusedVariables false

theorem nil_put (x wd : Int) (w : World) : Calls Try.prog 31 #[.pointer none, .int .u64 x, .int .i64 wd] w fun e w' => e = .returned (.tuple #[]) ∧ w = w' := by
  go_enter Try.func31, Try.ntmps31
  go_wp2
  refine bodyPost_ret (results_none rfl _ _ _) rfl ?_
  exact ⟨rfl, rfl⟩
theorem nil_u8 (x : Int) (w : World) : Calls Try.prog 12 #[.pointer none, .int .i64 x] w fun e w' => e = .returned (.tuple #[]) ∧ w = w' := by
  go_enter Try.func12, Try.ntmps12
  go_wp2_with (go_at_call 31; refine (nil_put _ _ _).mono ?_; rintro e w' ⟨rfl, rfl⟩)
  go_end0
  exact ⟨rfl, rfl⟩
theorem nil_u16 (x : Int) (w : World) : Calls Try.prog 11 #[.pointer none, .int .i64 x] w fun e w' => e = .returned (.tuple #[]) ∧ w = w' := by
  go_enter Try.func11, Try.ntmps11
  go_wp2_with (go_at_call 31; refine (nil_put _ _ _).mono ?_; rintro e w' ⟨rfl, rfl⟩)
  go_end0
  exact ⟨rfl, rfl⟩
theorem nil_u32 (x : Int) (w : World) : Calls Try.prog 10 #[.pointer none, .int .u32 x] w fun e w' => e = .returned (.tuple #[]) ∧ w = w' := by
  go_enter Try.func10, Try.ntmps10
  go_wp2_with (go_at_call 31; refine (nil_put _ _ _).mono ?_; rintro e w' ⟨rfl, rfl⟩)
  go_end0
  exact ⟨rfl, rfl⟩
theorem nil_u64 (x : Int) (w : World) : Calls Try.prog 9 #[.pointer none, .int .u64 x] w fun e w' => e = .returned (.tuple #[]) ∧ w = w' := by
  go_enter Try.func9, Try.ntmps9
  go_wp2_with (go_at_call 31; refine (nil_put _ _ _).mono ?_; rintro e w' ⟨rfl, rfl⟩)
  go_end0
  exact ⟨rfl, rfl⟩
theorem nil_raw (v : Value) (w : World) : Calls Try.prog 30 #[.pointer none, v] w fun e w' => e = .returned (.tuple #[]) ∧ w = w' := by
  go_enter Try.func30, Try.ntmps30
  go_wp2
  go_end0
  exact ⟨rfl, rfl⟩
theorem nil_take (n : Int) (w : World) : Calls Try.prog 38 #[.pointer none, .int .i64 n] w fun e w' => e = .returned (.slice none 0 0) ∧ w = w' := by
  go_enter Try.func38, Try.ntmps38
  go_wp2
  go_ret
  exact ⟨rfl, rfl⟩
theorem nil_number (n : Int) (w : World) : Calls Try.prog 36 #[.pointer none, .int .i64 n] w fun e w' => e = .returned (.int .u64 0) ∧ w = w' := by
  go_enter Try.func36, Try.ntmps36
  go_wp2_with (go_at_call 38; refine (nil_take _ _).mono ?_; rintro e w' ⟨rfl, rfl⟩)
  refine wp_loop_rounds 1 ?_
  rw [rounds_succ]
  go_wp2
  go_ret
  exact ⟨rfl, rfl⟩

set_option maxRecDepth 100000 in
theorem octetNil_walk (a0 : Int) (v1 : Value) (a1 : List UInt8) (w : World) (w0 : (Lit.int .u64 a0).wf = true) (o1 : Reads w w.heap.size v1 (bytesV a1) ∧ a1.length ≤ 140737488351232) :
    Calls Try.prog 7 #[.int .u64 a0, v1] w fun e w' => e = .returned (.bool true) ∧ Below w.heap.size w w' := by
  obtain ⟨h0, h0'⟩ := u64_of w0
  obtain ⟨A, c, rfl, hc, hm⟩ := o1.1.form
  clear o1 w0
  go_enter Try.func7, Try.ntmps7
  go_wp2_with (first | (go_at_call 12; refine (nil_u8 _ _).mono ?_; rintro e w' ⟨rfl, rfl⟩) | (go_at_call 11; refine (nil_u16 _ _).mono ?_; rintro e w' ⟨rfl, rfl⟩) | (go_at_call 10; refine (nil_u32 _ _).mono ?_; rintro e w' ⟨rfl, rfl⟩) | (go_at_call 9; refine (nil_u64 _ _).mono ?_; rintro e w' ⟨rfl, rfl⟩) | (go_at_call 30; refine (nil_raw _ _).mono ?_; rintro e w' ⟨rfl, rfl⟩) | (go_at_call 14; refine (awake3_any _).mono ?_; rintro e w' ⟨rfl, hb9⟩) | (go_at_call 36; refine (nil_number _ _).mono ?_; rintro e w' ⟨rfl, rfl⟩) | (go_at_call 38; refine (nil_take _ _).mono ?_; rintro e w' ⟨rfl, rfl⟩) | go_in)
  go_ret
  exact ⟨rfl, hb9⟩
end Go.Proofs.Ythnebanlpmehjaa

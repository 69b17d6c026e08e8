/- Contracts of prng.Mix, prng.At, and of the reference's. -/
import Derived.Test.YtkileiikffomlaaRows
import Derived.Test.YtkileiikffomlaaPlain1
import Derived.WalkKit
namespace Go.Proofs.Ytkileiikffomlaa
open Go.RowKit
set_option linter.unusedVariables false
set_option linter.unusedSimpArgs false

theorem ret_int {k : IntKind} {a b : Int} (h : a = b) : Ending.returned (.int k a) = .returned (.int k b) := by rw [h]

theorem mix_any (x : Int) (h0 : 0 ≤ x) (h1 : x < 18446744073709551616) (w : World) :
    Calls Try.prog 55 #[.int .u64 x] w fun e w' => e = .returned (.int .u64 (mix x)) ∧ w = w' := by
  go_enter Try.func55, Try.ntmps55
  go_wp2
  go_ret
  exact ⟨ret_int (mix_walk x h0 h1), rfl⟩

theorem at_any (s t i : Int) (h0 : 0 ≤ s) (h1 : s < 18446744073709551616) (h2 : 0 ≤ t) (h3 : t < 18446744073709551616) (h4 : 0 ≤ i) (h5 : i < 18446744073709551616) (w : World) :
    Calls Try.prog 54 #[.int .u64 s, .int .u64 t, .int .u64 i] w fun e w' => e = .returned (.int .u64 (atI s t i)) ∧ w = w' := by
  go_enter Try.func54, Try.ntmps54
  go_wp2_with fail
  refine (mix_any _ h0 h1 _).mono ?_; rintro e w' ⟨rfl, rfl⟩
  go_wp2_with fail
  refine (mix_any _ (xor_lo _ _ (mix_lo _) (mix_hi _) h2 h3) (xor_hi _ _ (mix_lo _) (mix_hi _) h2 h3) _).mono ?_; rintro e w' ⟨rfl, rfl⟩
  go_wp2_with fail
  refine (mix_any _ (xor_lo _ _ (mix_lo _) (mix_hi _) h4 h5) (xor_hi _ _ (mix_lo _) (mix_hi _) h4 h5) _).mono ?_; rintro e w' ⟨rfl, rfl⟩
  go_wp2_with fail
  go_ret
  exact ⟨ret_int (at_walk s t i h0 h1 h2 h3 h4 h5), rfl⟩

theorem ret_bool {a b : Bool} (h : a = b) : Ending.returned (.bool a) = .returned (.bool b) := by rw [h]
end Go.Proofs.Ytkileiikffomlaa

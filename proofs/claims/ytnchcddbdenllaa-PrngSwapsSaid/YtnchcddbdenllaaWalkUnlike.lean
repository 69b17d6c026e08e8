/- The walks of PrngUnlike and PrngParts. -/
import Derived.Test.YtnchcddbdenllaaMix
import Derived.ProofKit
import Derived.Lib.Hide
namespace Go.Proofs.Ytnchcddbdenllaa
open Go.RowKit Go.ChangeShapes
set_option linter.unusedVariables false

theorem u64_of {x : Int} (w : (Lit.int .u64 x).wf = true) : 0 ≤ x ∧ x < 18446744073709551616 := by
  simp only [Lit.wf, IntKind.min, IntKind.max, IntKind.signed, IntKind.bits, Bool.and_eq_true] at w
  have h2 : (2:Int)^64 = 18446744073709551616 := by decide
  simp at w
  omega

theorem prngParts_walk (a0 a1 a2 : Int) (w0 : (Lit.int .u64 a0).wf = true) (w1 : (Lit.int .u64 a1).wf = true) (w2 : (Lit.int .u64 a2).wf = true) (w : World) :
    Calls Try.prog 4 #[.int .u64 a0, .int .u64 a1, .int .u64 a2] w fun e w' => e = .returned (.bool true) ∧ Grown w w' := by
  obtain ⟨h0, h0'⟩ := u64_of w0
  obtain ⟨h1, h1'⟩ := u64_of w1
  obtain ⟨h2, h2'⟩ := u64_of w2
  clear w0 w1 w2
  have e1 : (atI a0 a1 a2 == mix (bits .xor .u64 (mix (bits .xor .u64 (mix a0) a1)) a2)) = true := by rw [at_walk a0 a1 a2 h0 h0' h1 h1' h2 h2']; simp
  have b1 := xor_lo _ _ (mix_lo a0) (mix_hi a0) h1 h1'
  have b2 := xor_hi _ _ (mix_lo a0) (mix_hi a0) h1 h1'
  have b3 := xor_lo _ _ (mix_lo (bits .xor .u64 (mix a0) a1)) (mix_hi _) h2 h2'
  have b4 := xor_hi _ _ (mix_lo (bits .xor .u64 (mix a0) a1)) (mix_hi _) h2 h2'
  go_enter Try.func4, Try.ntmps4
  go_wp2_with (first
    | (go_at_call 12; refine (at_any _ _ _ (by omega) (by omega) (by omega) (by omega) (by omega) (by omega) _).mono ?_; rintro e w' ⟨rfl, rfl⟩)
    | (go_at_call 11; refine (mix_any _ (by omega) (by omega) _).mono ?_; rintro e w' ⟨rfl, rfl⟩)
    | (go_at_call 13; refine (awake1_any _).mono ?_; rintro e w' ⟨rfl, rfl⟩))
  go_ret
  exact ⟨rfl, Grown.refl _⟩

theorem prngUnlike_walk (a0 a1 a2 : Int) (w0 : (Lit.int .u64 a0).wf = true) (w1 : (Lit.int .u64 a1).wf = true) (w2 : (Lit.int .u64 a2).wf = true) (w : World) :
    Calls Try.prog 3 #[.int .u64 a0, .int .u64 a1, .int .u64 a2] w fun e w' => e = .returned (.bool true) ∧ Grown w w' := by
  obtain ⟨h0, h0'⟩ := u64_of w0
  obtain ⟨h1, h1'⟩ := u64_of w1
  obtain ⟨h2, h2'⟩ := u64_of w2
  clear w0 w1 w2
  by_cases h : a0 = a1
  · subst h
    go_enter Try.func3, Try.ntmps3
    go_wp2_with (first
      | (go_at_call 12; refine (at_any _ _ _ (by omega) (by omega) (by omega) (by omega) (by omega) (by omega) _).mono ?_; rintro e w' ⟨rfl, rfl⟩)
      | (go_at_call 11; refine (mix_any _ (by omega) (by omega) _).mono ?_; rintro e w' ⟨rfl, rfl⟩)
      | (go_at_call 13; refine (awake1_any _).mono ?_; rintro e w' ⟨rfl, rfl⟩))
    go_ret
    exact ⟨rfl, Grown.refl _⟩
  · have e0 : (a0 == a1) = false := by simpa using h
    have e1 : (mix a0 == mix a1) = false := by simpa [mix_inj h0 h0' h1 h1'] using h
    have e2 : (atI a0 a2 a2 == atI a1 a2 a2) = false := by simpa [at_inj1 h0 h0' h1 h1'] using h
    have e3 : (atI a2 a0 a2 == atI a2 a1 a2) = false := by simpa [at_inj2 h0 h0' h1 h1'] using h
    have e4 : (atI a2 a2 a0 == atI a2 a2 a1) = false := by simpa [at_inj3 h0 h0' h1 h1'] using h
    go_enter Try.func3, Try.ntmps3
    go_wp2_with (first
      | (go_at_call 12; refine (at_any _ _ _ (by omega) (by omega) (by omega) (by omega) (by omega) (by omega) _).mono ?_; rintro e w' ⟨rfl, rfl⟩)
      | (go_at_call 11; refine (mix_any _ (by omega) (by omega) _).mono ?_; rintro e w' ⟨rfl, rfl⟩)
      | (go_at_call 13; refine (awake1_any _).mono ?_; rintro e w' ⟨rfl, rfl⟩))
    go_ret
    exact ⟨rfl, Grown.refl _⟩
end Go.Proofs.Ytnchcddbdenllaa

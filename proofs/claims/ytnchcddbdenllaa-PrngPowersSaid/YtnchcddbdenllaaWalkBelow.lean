/- The walks of PrngForms, PrngBelow, PrngPowers. -/
import Derived.Test.YtnchcddbdenllaaBelow
import Derived.Test.YtnchcddbdenllaaWalkUnlike
namespace Go.Proofs.Ytnchcddbdenllaa
open Go.RowKit Go.ChangeShapes
set_option linter.unusedVariables false

theorem prngForms_walk (a0 a1 a2 a3 a4 : Int) (w0 : (Lit.int .u64 a0).wf = true) (w1 : (Lit.int .u64 a1).wf = true) (w2 : (Lit.int .u64 a2).wf = true) (w3 : (Lit.int .u64 a3).wf = true) (w4 : (Lit.int .i64 a4).wf = true) (w : World) :
    Calls Try.prog 5 #[.int .u64 a0, .int .u64 a1, .int .u64 a2, .int .u64 a3, .int .i64 a4] w fun e w' => e = .returned (.bool true) ∧ Grown w w' := by
  obtain ⟨h0, h0'⟩ := u64_of w0
  obtain ⟨h1, h1'⟩ := u64_of w1
  obtain ⟨h2, h2'⟩ := u64_of w2
  obtain ⟨h3, h3'⟩ := u64_of w3
  clear w0 w1 w2 w3 w4
  go_enter Try.func5, Try.ntmps5
  go_wp2_with (first
    | (go_at_call 12; refine (at_any _ _ _ (by omega) (by omega) (by omega) (by omega) (by omega) (by omega) _).mono ?_; rintro e w' ⟨rfl, rfl⟩)
    | (go_at_call 11; refine (mix_any _ (by omega) (by omega) _).mono ?_; rintro e w' ⟨rfl, rfl⟩)
    | (go_at_call 16; refine (below_any _ _ _ _ (by omega) (by omega) (by omega) (by omega) (by omega) (by omega) _).mono ?_; rintro e w' ⟨rfl, rfl⟩)
    | (go_at_call 15; refine (rat_any _ _ _ (by omega) (by omega) (by omega) (by omega) (by omega) (by omega) _).mono ?_; rintro e w' ⟨rfl, rfl⟩)
    | (go_at_call 14; refine (rmix_any _ (by omega) (by omega) _).mono ?_; rintro e w' ⟨rfl, rfl⟩)
    | (go_at_call 17; refine (rbelow_any _ _ _ _ (by omega) (by omega) (by omega) (by omega) (by omega) (by omega) _).mono ?_; rintro e w' ⟨rfl, rfl⟩)
    | (go_at_call 13; refine (awake1_any _).mono ?_; rintro e w' ⟨rfl, rfl⟩))
  go_ret
  exact ⟨rfl, Grown.refl _⟩

theorem prngBelow_walk (a0 a1 a2 a3 : Int) (w0 : (Lit.int .u64 a0).wf = true) (w1 : (Lit.int .u64 a1).wf = true) (w2 : (Lit.int .u64 a2).wf = true) (w3 : (Lit.int .i64 a3).wf = true) (w : World) :
    Calls Try.prog 6 #[.int .u64 a0, .int .u64 a1, .int .u64 a2, .int .i64 a3] w fun e w' => e = .returned (.bool true) ∧ Grown w w' := by
  obtain ⟨h0, h0'⟩ := u64_of w0
  obtain ⟨h1, h1'⟩ := u64_of w1
  obtain ⟨h2, h2'⟩ := u64_of w2
  clear w0 w1 w2 w3
  have l0 := belowI_lo a0 a1 a2 a3
  have l1 := belowI_lo a0 a1 a2 1
  have l2 := belowI_hi a0 a1 a2 1 (by omega)
  by_cases hn : a3 < 1 ∨ 2147483648 < a3
  · have hb := below_bad a0 a1 a2 a3 hn
    have e0 : (belowI a0 a1 a2 a3 == 0) = true := by rw [hb]; rfl
    clear hb
    rcases hn with hn | hn
    · have k1 : decide (a3 < 1) = true := by simpa using hn
      go_enter Try.func6, Try.ntmps6
      go_wp2_with (first
        | (go_at_call 16; refine (below_any _ _ _ _ (by omega) (by omega) (by omega) (by omega) (by omega) (by omega) _).mono ?_; rintro e w' ⟨rfl, rfl⟩)
        | (go_at_call 13; refine (awake1_any _).mono ?_; rintro e w' ⟨rfl, rfl⟩))
      go_ret
      exact ⟨rfl, Grown.refl _⟩
    · have k1 : decide (a3 < 1) = false := by simp; omega
      have k2 : decide (2147483648 < a3) = true := by simpa using hn
      go_enter Try.func6, Try.ntmps6
      go_wp2_with (first
        | (go_at_call 16; refine (below_any _ _ _ _ (by omega) (by omega) (by omega) (by omega) (by omega) (by omega) _).mono ?_; rintro e w' ⟨rfl, rfl⟩)
        | (go_at_call 13; refine (awake1_any _).mono ?_; rintro e w' ⟨rfl, rfl⟩))
      go_ret
      exact ⟨rfl, Grown.refl _⟩
  · have k1 : decide (a3 < 1) = false := by simp; omega
    have k2 : decide (2147483648 < a3) = false := by simp; omega
    have l3 := belowI_hi a0 a1 a2 a3 (by omega)
    have e0 : (belowI a0 a1 a2 1 == 0) = true := by simp; omega
    clear hn
    have b1 : decide (0 ≤ belowI a0 a1 a2 a3) = true := by simpa using l0
    have b2 : decide (belowI a0 a1 a2 a3 < a3) = true := by simpa using l3
    go_enter Try.func6, Try.ntmps6
    go_wp2_with (first
      | (go_at_call 16; refine (below_any _ _ _ _ (by omega) (by omega) (by omega) (by omega) (by omega) (by omega) _).mono ?_; rintro e w' ⟨rfl, rfl⟩)
      | (go_at_call 13; refine (awake1_any _).mono ?_; rintro e w' ⟨rfl, rfl⟩))
    go_ret
    exact ⟨rfl, Grown.refl _⟩

theorem prngPowers_walk (a0 a1 a2 a3 : Int) (w0 : (Lit.int .u64 a0).wf = true) (w1 : (Lit.int .u64 a1).wf = true) (w2 : (Lit.int .u64 a2).wf = true) (w3 : (Lit.int .i64 a3).wf = true) (w : World) :
    Calls Try.prog 7 #[.int .u64 a0, .int .u64 a1, .int .u64 a2, .int .i64 a3] w fun e w' => e = .returned (.bool true) ∧ Grown w w' := by
  obtain ⟨h0, h0'⟩ := u64_of w0
  obtain ⟨h1, h1'⟩ := u64_of w1
  obtain ⟨h2, h2'⟩ := u64_of w2
  clear w0 w1 w2 w3
  have hw0 : 0 ≤ IntKind.u64.wrap a3 := by rw [wrap_I64]; exact I64_lo _
  obtain ⟨k, hk⟩ : ∃ k : Nat, IntKind.u64.wrap a3 % 32 = (k : Int) := ⟨(IntKind.u64.wrap a3 % 32).toNat, by omega⟩
  have hk32 : k < 32 := by omega
  have hmin : min k 64 = k := by omega
  have hb := below_pow a0 a1 a2 k hk32
  have h31 : (2 : Int) ^ k ≤ 2147483648 := by
    have : 2 ^ k ≤ 2 ^ 31 := Nat.pow_le_pow_right (by omega) (by omega)
    rw [← two_pow_int]; omega
  have h1 : 1 ≤ (2 : Int) ^ k := by
    have : 1 ≤ 2 ^ k := Nat.one_le_two_pow
    rw [← two_pow_int]; omega
  generalize hp : (2 : Int) ^ k = p at *
  have hbl := belowI_lo a0 a1 a2 p
  have hbh := belowI_hi a0 a1 a2 p h1
  have e0 : (belowI a0 a1 a2 p == bits .and .u64 (atI a0 a1 a2) (p - 1)) = true := by rw [hb]; simp
  clear hb
  go_enter Try.func7, Try.ntmps7
  go_wp2_with (first
    | (go_at_call 16; refine (below_any _ _ _ _ (by omega) (by omega) (by omega) (by omega) (by omega) (by omega) _).mono ?_; rintro e w' ⟨rfl, rfl⟩)
    | (go_at_call 12; refine (at_any _ _ _ (by omega) (by omega) (by omega) (by omega) (by omega) (by omega) _).mono ?_; rintro e w' ⟨rfl, rfl⟩)
    | (go_at_call 13; refine (awake1_any _).mono ?_; rintro e w' ⟨rfl, rfl⟩))
  go_ret
  exact ⟨rfl, Grown.refl _⟩
end Go.Proofs.Ytnchcddbdenllaa

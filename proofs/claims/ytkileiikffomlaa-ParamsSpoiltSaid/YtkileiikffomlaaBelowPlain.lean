/- Chance below n: plain. -/
import Derived.Test.YtkileiikffomlaaPlain1
namespace Go.Proofs.Ytkileiikffomlaa
set_option linter.unusedVariables false
set_option linter.unusedSimpArgs false
open Go.RowKit

/-- asked so many times -/
def tries (t n : Int) : Nat → Int → Int
  | 0, _ => 0
  | k + 1, x => if t ≤ x then x % n else tries t n k (mix x)
def leastI (n : Int) : Int := 18446744073709551616 % n
def belowI (s t i n : Int) : Int := if n < 1 ∨ 2147483648 < n then 0 else tries (leastI n) n 100 (atI s t i)
theorem tries_lo (t n : Int) (hn : 1 ≤ n) : ∀ k x, 0 ≤ tries t n k x
  | 0, _ => by simp [tries]
  | k + 1, x => by
    unfold tries
    split
    · exact Int.emod_nonneg _ (by omega)
    · exact tries_lo t n hn k _
theorem tries_hi (t n : Int) (hn : 1 ≤ n) : ∀ k x, tries t n k x < n
  | 0, _ => by simp [tries]; omega
  | k + 1, x => by
    unfold tries
    split
    · exact Int.emod_lt_of_pos _ (by omega)
    · exact tries_hi t n hn k _
theorem belowI_lo (s t i n : Int) : 0 ≤ belowI s t i n := by
  unfold belowI
  split
  · omega
  · exact tries_lo _ _ (by omega) _ _
theorem belowI_hi (s t i n : Int) (h1 : 1 ≤ n) : belowI s t i n < n := by
  unfold belowI
  split
  · omega
  · exact tries_hi _ _ (by omega) _ _
theorem leastI_lo (n : Int) (h : 1 ≤ n) : 0 ≤ leastI n := Int.emod_nonneg _ (by omega)
theorem leastI_hi (n : Int) (h : 1 ≤ n) : leastI n < n := Int.emod_lt_of_pos _ (by omega)
theorem below_bad (s t i n : Int) (h : n < 1 ∨ 2147483648 < n) : belowI s t i n = 0 := by unfold belowI; rw [if_pos h]
theorem below_good (s t i n : Int) (h1 : 1 ≤ n) (h2 : n ≤ 2147483648) : belowI s t i n = tries (leastI n) n 100 (atI s t i) := by
  unfold belowI; rw [if_neg (by omega)]
theorem tries_yes {t n x : Int} {k : Nat} (h : t ≤ x) : tries t n (k + 1) x = x % n := by unfold tries; rw [if_pos h]
theorem tries_no {t n x : Int} {k : Nat} (h : ¬ t ≤ x) : tries t n (k + 1) x = tries t n k (mix x) := by conv => lhs; unfold tries; rw [if_neg h]
theorem least_walk (n : Int) (h1 : 1 ≤ n) (h2 : n ≤ 2147483648) : (18446744073709551616 - n) % n = leastI n := by
  unfold leastI
  rw [Int.sub_emod, Int.emod_self, Int.sub_zero, Int.emod_emod_of_dvd _ (Int.dvd_refl n)]
theorem least_ref (n : Int) (h1 : 1 ≤ n) (h2 : n ≤ 2147483648) : (18446744073709551615 % n + 1) % n = leastI n := by
  unfold leastI
  rw [Int.add_emod, Int.emod_emod_of_dvd _ (Int.dvd_refl n), ← Int.add_emod]
  rfl
def negI (n : Int) : Int := 18446744073709551616 - n
theorem negI_lo (n : Int) (h2 : n ≤ 2147483648) : 0 ≤ negI n := by unfold negI; omega
theorem neg_least (n : Int) (h1 : 1 ≤ n) (h2 : n ≤ 2147483648) : negI n % n = leastI n := least_walk n h1 h2
theorem wrap_neg (n : Int) (h1 : 1 ≤ n) (h2 : n ≤ 2147483648) : IntKind.u64.wrap (-n) = negI n := by rw [IntKind.wrap_u64]; unfold negI; omega
theorem two_pow_int (k : Nat) : ((2 ^ k : Nat) : Int) = (2 : Int) ^ k := by simp
theorem below_pow (s t i : Int) (k : Nat) (hk : k < 32) : belowI s t i ((2 : Int) ^ k) = bits .and .u64 (atI s t i) ((2 : Int) ^ k - 1) := by
  have h31 : 2 ^ k ≤ 2 ^ 31 := Nat.pow_le_pow_right (by omega) (by omega)
  have h1 : 1 ≤ 2 ^ k := Nat.one_le_two_pow
  have hd : (2 : Int) ^ k ∣ 18446744073709551616 := by
    have : (18446744073709551616 : Int) = 2 ^ k * 2 ^ (64 - k) := by
      rw [← Int.pow_add]
      rw [show k + (64 - k) = 64 from by omega]
      decide
    exact ⟨_, this⟩
  rw [← two_pow_int] at *
  have hl : leastI ((2 ^ k : Nat) : Int) = 0 := Int.emod_eq_zero_of_dvd hd
  rw [below_good _ _ _ _ (by omega) (by omega), hl, tries_yes (atI_lo _ _ _)]
  obtain ⟨x, hx⟩ := Int.eq_ofNat_of_zero_le (atI_lo s t i)
  have hhi := atI_hi s t i
  rw [hx] at hhi ⊢
  rw [show ((2 ^ k : Nat) : Int) - 1 = ((2 ^ k - 1 : Nat) : Int) from by omega]
  rw [u64_and_nat _ _ (by omega) (by omega), Nat.and_two_pow_sub_one_eq_mod]
  simp
end Go.Proofs.Ytkileiikffomlaa

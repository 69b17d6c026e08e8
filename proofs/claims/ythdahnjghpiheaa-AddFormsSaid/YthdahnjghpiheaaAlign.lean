/- Contracts of round.between, round.value, round.Align. -/
import Derived.Test.YthdahnjghpiheaaMem
import Derived.Test.YthdahnjghpiheaaRows
import Derived.Laws.Shifts
namespace Go.Proofs.Ythdahnjghpiheaa
open Go.RowKit
set_option linter.unusedVariables false

def alignI (v by_ : Int) : Int := if by_ < 0 then v / 2 ^ (min (-by_) 62).toNat else v * 2 ^ by_.toNat
theorem pow_le12 (n : Nat) (h : n ≤ 12) : 1 ≤ (2 : Int) ^ n ∧ (2 : Int) ^ n ≤ 4096 := by
  have : ∀ n : Nat, n ≤ 12 → 1 ≤ (2 : Int) ^ n ∧ (2 : Int) ^ n ≤ 4096 := by decide
  exact this n h
theorem pow_pos2 (n : Nat) : 1 ≤ (2 : Int) ^ n := by
  have := Int.pow_pos (n := (2 : Int)) (m := n) (by decide)
  omega
theorem div_in {v p : Int} (h : 1 ≤ p) (h0 : -128 ≤ v) (h1 : v ≤ 127) : -128 ≤ v / p ∧ v / p ≤ 127 := by
  constructor
  · apply Int.le_ediv_of_mul_le (by omega)
    have : (-128) * p ≤ (-128) * 1 := Int.mul_le_mul_of_nonpos_left (by omega) h
    omega
  · rcases Int.lt_or_le v 0 with h2 | h2
    · have := Int.ediv_neg_of_neg_of_pos h2 (by omega : 0 < p)
      omega
    · have := Int.ediv_le_self p h2
      omega
theorem mul_in {v p : Int} (h : 1 ≤ p) (h4 : p ≤ 4096) (h0 : -128 ≤ v) (h1 : v ≤ 127) : -524288 ≤ v * p ∧ v * p ≤ 524288 := by
  rcases Int.lt_or_le v 0 with h2 | h2
  · have a1 : v * p ≤ v * 1 := Int.mul_le_mul_of_nonpos_left (by omega) h
    have a2 : v * 4096 ≤ v * p := Int.mul_le_mul_of_nonpos_left (by omega) h4
    omega
  · have a1 : v * p ≤ v * 4096 := Int.mul_le_mul_of_nonneg_left h4 h2
    have a2 : 0 ≤ v * p := Int.mul_nonneg h2 (by omega)
    omega
theorem align_in {v b : Int} (hb : b ≤ 12) (h0 : -128 ≤ v) (h1 : v ≤ 127) : -524288 ≤ alignI v b ∧ alignI v b ≤ 524288 := by
  unfold alignI
  split
  · have := div_in (pow_pos2 (min (-b) 62).toNat) h0 h1
    omega
  · have hp := pow_le12 b.toNat (by omega)
    exact mul_in hp.1 hp.2 h0 h1

theorem between64_any (n lo hi : Int) (w : World) : Calls Try.prog 53 #[.int .i64 n, .int .i64 lo, .int .i64 hi] w fun e w' => e = .returned (.int .i64 (max lo (min n hi))) ∧ w = w' := by
  go_enter Try.func53, Try.ntmps53
  go_wp2
  all_goals
    go_ret
    refine ⟨?_, rfl⟩
    show Ending.returned (.int .i64 _) = _
    congr 2
    omega
theorem between_any (n lo hi : Int) (w : World) : Calls Try.prog 52 #[.int .i64 n, .int .i64 lo, .int .i64 hi] w fun e w' => e = .returned (.int .i64 (max lo (min n hi))) ∧ w = w' := by
  go_enter Try.func52, Try.ntmps52
  go_wp2
  all_goals
    go_ret
    refine ⟨?_, rfl⟩
    show Ending.returned (.int .i64 _) = _
    congr 2
    omega
theorem betweenIn (n lo hi : Int) (w : World) (h0 : lo ≤ n) (h1 : n ≤ hi) : Calls Try.prog 52 #[.int .i64 n, .int .i64 lo, .int .i64 hi] w fun e w' => e = .returned (.int .i64 n) ∧ w = w' := by
  have := between_any n lo hi w
  rwa [show max lo (min n hi) = n by omega] at this
theorem between64In (n lo hi : Int) (w : World) (h0 : lo ≤ n) (h1 : n ≤ hi) : Calls Try.prog 53 #[.int .i64 n, .int .i64 lo, .int .i64 hi] w fun e w' => e = .returned (.int .i64 n) ∧ w = w' := by
  have := between64_any n lo hi w
  rwa [show max lo (min n hi) = n by omega] at this
theorem value_any (v : Int) (w : World) (h0 : -4611686018427387904 ≤ v) (h1 : v ≤ 4611686018427387904) : Calls Try.prog 51 #[.int .i64 v] w fun e w' => e = .returned (.int .i64 v) ∧ w = w' := by
  have H := Lib.hid (between64In v _ _ w h0 h1)
  go_enter Try.func51, Try.ntmps51
  go_wp2_with fail
  refine H.out.mono ?_
  rintro e w' ⟨rfl, rfl⟩
  go_wp2
  go_ret
  exact ⟨rfl, rfl⟩

set_option maxHeartbeats 1600000 in
theorem align_any (v f t : Int) (w : World) (h0 : -128 ≤ v) (h1 : v ≤ 127) (f0 : -64 ≤ f) (f1 : f ≤ 64) (t0 : -128 ≤ t) (t1 : t ≤ 128) (ht : f - t ≤ 12) :
    Calls Try.prog 41 #[.int .i64 v, .int .i64 f, .int .i64 t] w fun e w' => e = .returned (.int .i64 (alignI v (f - t))) ∧ w = w' := by
  obtain ⟨r, hr⟩ : ∃ r, alignI v (f - t) = r := ⟨_, rfl⟩
  have hin := align_in ht h0 h1
  rw [hr] at hin ⊢
  have HR := Lib.hid hr
  clear hr
  by_cases hneg : f - t < 0
  · go_enter Try.func41, Try.ntmps41
    go_wp2_with (first
      | ((go_at_call 51; refine (value_any v _ (by omega) (by omega)).mono ?_; rintro e w' ⟨rfl, rfl⟩))
      | ((go_at_call 52; refine (betweenIn _ _ _ _ (by omega) (by omega)).mono ?_; rintro e w' ⟨rfl, rfl⟩)))
    all_goals
      go_ret
      refine ⟨?_, rfl⟩
      have h62 : alignI v (f - t) = v / 2 ^ (min (-(f - t)) 62).toNat := by unfold alignI; rw [if_pos hneg]
      rw [HR.out] at h62
      rw [h62]
      first
        | (have e : min (-(f - t)) 62 = -(f - t) := by omega
           rw [e]
           exact rfl)
        | (have e : min (-(f - t)) 62 = 62 := by omega
           rw [e]
           exact rfl)
  · have hge : 0 ≤ f - t := by omega
    go_enter Try.func41, Try.ntmps41
    go_wp2_with fail
    refine (value_any v _ (by omega) (by omega)).mono ?_
    rintro e w' ⟨rfl, rfl⟩
    go_wp2_with fail
    refine (betweenIn f _ _ _ (by omega) (by omega)).mono ?_
    rintro e w' ⟨rfl, rfl⟩
    go_wp2_with fail
    refine (betweenIn t _ _ _ (by omega) (by omega)).mono ?_
    rintro e w' ⟨rfl, rfl⟩
    go_wp2_with fail
    refine (between64In v _ _ _ (by omega) (by omega)).mono ?_
    rintro e w' ⟨rfl, rfl⟩
    go_wp2_with fail
    have hp := pow_le12 (f - t).toNat (by omega)
    have hm := mul_in hp.1 hp.2 h0 h1
    have hr2 : v * 2 ^ (f - t).toNat = r := by rw [← HR.out]; unfold alignI; rw [if_neg (by omega)]
    generalize v * 2 ^ (f - t).toNat = q at hm hr2 ⊢
    have hw : wrap64 q = r := by rw [← hr2]; exact IntWalk.wrap64_in _ (by omega)
    rw [hw]
    clear hm hp hr2 hw
    refine (between64In r _ _ _ (by omega) (by omega)).mono ?_
    rintro e w' ⟨rfl, rfl⟩
    go_wp2
    go_ret
    exact ⟨rfl, rfl⟩
end Go.Proofs.Ythdahnjghpiheaa

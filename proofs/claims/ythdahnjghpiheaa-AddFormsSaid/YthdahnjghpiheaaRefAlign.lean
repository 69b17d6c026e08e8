/- Contracts of the reference's within, taken, Align. -/
import Derived.Test.YthdahnjghpiheaaAlign
namespace Go.Proofs.Ythdahnjghpiheaa
open Go.RowKit
set_option linter.unusedVariables false

theorem rwithin_any (n lo hi : Int) (w : World) : Calls Try.prog 55 #[.int .i64 n, .int .i64 lo, .int .i64 hi] w fun e w' => e = .returned (.int .i64 (max lo (min n hi))) ∧ w = w' := by
  go_enter Try.func55, Try.ntmps55
  go_wp2
  all_goals
    go_ret
    refine ⟨?_, rfl⟩
    show Ending.returned (.int .i64 _) = _
    congr 2
    omega
theorem rwithinIn (n lo hi : Int) (w : World) (h0 : lo ≤ n) (h1 : n ≤ hi) : Calls Try.prog 55 #[.int .i64 n, .int .i64 lo, .int .i64 hi] w fun e w' => e = .returned (.int .i64 n) ∧ w = w' := by
  have := rwithin_any n lo hi w
  rwa [show max lo (min n hi) = n by omega] at this
theorem taken_any (v : Int) (w : World) (h0 : -4611686018427387904 ≤ v) (h1 : v ≤ 4611686018427387904) : Calls Try.prog 54 #[.int .i64 v, .int .i64 0] w fun e w' => e = .returned (.tuple #[.int .i64 v, .int .u64 0]) ∧ w = w' := by
  have H1 := Lib.hid (rwithinIn v _ _ w h0 h1)
  have H2 := Lib.hid (rwithinIn 0 0 62 w (by omega) (by omega))
  go_enter Try.func54, Try.ntmps54
  go_wp2_with fail
  refine H1.out.mono ?_
  rintro e w' ⟨rfl, rfl⟩
  go_wp2_with fail
  refine H2.out.mono ?_
  rintro e w' ⟨rfl, rfl⟩
  go_wp2
  refine bodyPost_ret (v := .tuple #[.int .i64 v, .int .u64 0]) (by simp [results, Try.results54, go_sem]) rfl ?_
  exact ⟨rfl, rfl⟩

set_option maxHeartbeats 1600000 in
theorem ralign_any (v f t : Int) (w : World) (h0 : -128 ≤ v) (h1 : v ≤ 127) (f0 : -64 ≤ f) (f1 : f ≤ 64) (t0 : -128 ≤ t) (t1 : t ≤ 128) (ht : f - t ≤ 12) :
    Calls Try.prog 44 #[.int .i64 v, .int .i64 f, .int .i64 t] w fun e w' => e = .returned (.int .i64 (alignI v (f - t))) ∧ w = w' := by
  obtain ⟨r, hr⟩ : ∃ r, alignI v (f - t) = r := ⟨_, rfl⟩
  have hin := align_in ht h0 h1
  rw [hr] at hin ⊢
  have HR := Lib.hid hr
  clear hr
  by_cases hneg : f < t
  · have g1 : decide (f < t) = true := by simpa using hneg
    have hn2 : f - t < 0 := by omega
    go_enter Try.func44, Try.ntmps44
    go_wp2_with fail
    refine (taken_any v _ (by omega) (by omega)).mono ?_
    rintro e w' ⟨rfl, rfl⟩
    go_wp2_with fail
    refine (rwithinIn f _ _ _ (by omega) (by omega)).mono ?_
    rintro e w' ⟨rfl, rfl⟩
    go_wp2_with fail
    refine (rwithinIn t _ _ _ (by omega) (by omega)).mono ?_
    rintro e w' ⟨rfl, rfl⟩
    go_wp2_with fail
    all_goals
      go_ret
      refine ⟨?_, rfl⟩
      have h62 : alignI v (f - t) = v / 2 ^ (min (-(f - t)) 62).toNat := by unfold alignI; rw [if_pos (by omega)]
      rw [HR.out] at h62
      rw [h62]
      first
        | (have e : min (-(f - t)) 62 = t - f := by omega
           rw [e]
           exact rfl)
        | (have e : min (-(f - t)) 62 = 62 := by omega
           rw [e]
           exact rfl)
  · have g1 : decide (f < t) = false := by simpa using hneg
    have g2 : decide (20 < f - t) = false := by simp; omega
    have hge : 0 ≤ f - t := by omega
    go_enter Try.func44, Try.ntmps44
    go_wp2_with fail
    refine (taken_any v _ (by omega) (by omega)).mono ?_
    rintro e w' ⟨rfl, rfl⟩
    go_wp2_with fail
    refine (rwithinIn f _ _ _ (by omega) (by omega)).mono ?_
    rintro e w' ⟨rfl, rfl⟩
    go_wp2_with fail
    refine (rwithinIn t _ _ _ (by omega) (by omega)).mono ?_
    rintro e w' ⟨rfl, rfl⟩
    go_wp2_with fail
    refine (rwithinIn v _ _ _ (by omega) (by omega)).mono ?_
    rintro e w' ⟨rfl, rfl⟩
    go_wp2_with fail
    have hp := pow_le12 (f - t).toNat (by omega)
    have hm := mul_in hp.1 hp.2 h0 h1
    have hr2 : v * 2 ^ (f - t).toNat = r := by rw [← HR.out]; unfold alignI; rw [if_neg (by omega)]
    generalize v * 2 ^ (f - t).toNat = q at hm hr2 ⊢
    have hw : wrap64 q = r := by rw [← hr2]; exact IntWalk.wrap64_in _ (by omega)
    rw [hw]
    clear hm hp hr2 hw
    refine (rwithinIn r _ _ _ (by omega) (by omega)).mono ?_
    rintro e w' ⟨rfl, rfl⟩
    go_wp2
    go_ret
    exact ⟨rfl, rfl⟩
end Go.Proofs.Ythdahnjghpiheaa

/- Contract of the reference's MayAcc. -/
import Derived.Test.YthdahnjghpiheaaRefShape
import Derived.Test.YthdahnjghpiheaaSumMay
namespace Go.Proofs.Ythdahnjghpiheaa
open Go.RowKit
set_option linter.unusedVariables false

set_option maxHeartbeats 1600000 in
set_option maxRecDepth 100000 in
theorem rmayacc_any (dims : List Int) (exp : Int) (data : List Int) (dv xv : Value) (w : World) (B : Nat) (hB : B ≤ w.heap.size) (h : IsA w B dv xv dims exp data) :
    Calls Try.prog 47 #[.agg #[dv, .int .i64 exp, xv]] w fun en w' => en = .returned (.bool (mayA dims exp data)) ∧ Below w.heap.size w w' := by
  have hb0 : Below w.heap.size w (w.alloc (.cells #[dv, .int .i64 exp, xv] 39)) := (Below.refl _ _).alloc (Nat.le_refl _) _
  have HI := Lib.hid (h.below (hb0.mono hB))
  have HB0 := Lib.hid hb0
  obtain ⟨A, c, rfl, _, _⟩ := h.d.form
  obtain ⟨A', c', rfl, _, hm⟩ := h.x.form
  have he0 := h.e0
  have he1 := h.e1
  have hsb := sizeI_bound dims
  obtain ⟨hs0, hs1⟩ := hsb
  rw [length_ints] at *
  rw [length_ints] at *
  have hxm : data.length ≤ 9223372036854775807 := by unfold maxLen at hm; omega
  clear h hb0 hm
  obtain ⟨S, hS⟩ : ∃ S, mayA dims exp data = S := ⟨_, rfl⟩
  rw [hS]
  have HS := Lib.hid hS
  clear hS
  by_cases p1 : 0 < sizeI dims
  · have t1 : decide (0 < sizeI dims) = true := by simpa using p1
    by_cases p2 : (data.length : Int) = sizeI dims
    · have t2 : ((data.length : Int) == sizeI dims) = true := by simpa using p2
      have P2 := Lib.hid p2
      clear p2
      by_cases p3 : -128 ≤ exp
      · have t3 : decide (-128 ≤ exp) = true := by simpa using p3
        by_cases p4 : exp ≤ 128
        · have t4 : decide (exp ≤ 128) = true := by simpa using p4
          have HQ : Hid (S = true) := Lib.hid (by
            rw [← HS.out]; unfold mayA
            rw [t1, P2.out, beq_self_eq_true]
            have q3 : decide (-128 ≤ exp) = true := by simpa using p3
            have q4 : decide (exp ≤ 128) = true := by simpa using p4
            rw [q3, q4]; rfl)
          go_enter Try.func47, Try.ntmps47
          go_wp2_with fail
          go_quiet (first
            | ((go_at_call 37; exact q_left ((maydims_any dims _ _ _ (HI.out.d.drewN _) HI.out.db.out))))
            | ((go_at_call 38; exact q_left ((r1size_any dims _ _ _ (HI.out.d.drewN _) HI.out.db.out)))))
          go_wp2
          go_ret
          rw [HQ.out]
          exact ⟨rfl, below_drewN HB0.out _⟩
        · have t4 : decide (exp ≤ 128) = false := by simpa using p4
          have HQ : Hid (S = false) := Lib.hid (by
            rw [← HS.out]; unfold mayA
            have q4 : decide (exp ≤ 128) = false := by simpa using p4
            rw [q4]; simp)
          go_enter Try.func47, Try.ntmps47
          go_wp2_with fail
          go_quiet (first
            | ((go_at_call 37; exact q_left ((maydims_any dims _ _ _ (HI.out.d.drewN _) HI.out.db.out))))
            | ((go_at_call 38; exact q_left ((r1size_any dims _ _ _ (HI.out.d.drewN _) HI.out.db.out)))))
          go_wp2
          go_ret
          rw [HQ.out]
          exact ⟨rfl, below_drewN HB0.out _⟩
      · have t3 : decide (-128 ≤ exp) = false := by simpa using p3
        have HQ : Hid (S = false) := Lib.hid (by
          rw [← HS.out]; unfold mayA
          have q4 : decide (-128 ≤ exp) = false := by simpa using p3
          rw [q4]; simp)
        go_enter Try.func47, Try.ntmps47
        go_wp2_with fail
        go_quiet (first
          | ((go_at_call 37; exact q_left ((maydims_any dims _ _ _ (HI.out.d.drewN _) HI.out.db.out))))
          | ((go_at_call 38; exact q_left ((r1size_any dims _ _ _ (HI.out.d.drewN _) HI.out.db.out)))))
        go_wp2
        go_ret
        rw [HQ.out]
        exact ⟨rfl, below_drewN HB0.out _⟩
    · have t2 : ((data.length : Int) == sizeI dims) = false := by simpa using p2
      have HQ : Hid (S = false) := Lib.hid (by
        rw [← HS.out]; unfold mayA
        have q4 : ((data.length : Int) == sizeI dims) = false := by simpa using p2
        rw [q4]; simp)
      clear p2
      go_enter Try.func47, Try.ntmps47
      go_wp2_with fail
      go_quiet (first
        | ((go_at_call 37; exact q_left ((maydims_any dims _ _ _ (HI.out.d.drewN _) HI.out.db.out))))
        | ((go_at_call 38; exact q_left ((r1size_any dims _ _ _ (HI.out.d.drewN _) HI.out.db.out)))))
      go_wp2
      go_ret
      rw [HQ.out]
      exact ⟨rfl, below_drewN HB0.out _⟩
  · have t1 : decide (0 < sizeI dims) = false := by simpa using p1
    have HQ : Hid (S = false) := Lib.hid (by
      rw [← HS.out]; unfold mayA
      rw [t1]; rfl)
    go_enter Try.func47, Try.ntmps47
    go_wp2_with fail
    go_quiet ((go_at_call 37; exact q_left ((maydims_any dims _ _ _ (HI.out.d.drewN _) HI.out.db.out))))
    go_wp2
    go_ret
    rw [HQ.out]
    exact ⟨rfl, below_drewN HB0.out _⟩
end Go.Proofs.Ythdahnjghpiheaa

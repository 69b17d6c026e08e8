/- What add.Add computes: plain. -/
import Derived.Test.YthdahnjghpiheaaAccP
import Derived.Test.YthdahnjghpiheaaBack2
namespace Go.Proofs.Ythdahnjghpiheaa
open Go.RowKit
set_option linter.unusedVariables false

theorem addE_self (e : Int) : addE e e = e := by unfold addE; omega
theorem alignI_zero (x : Int) : alignI x 0 = x := by
  unfold alignI
  rw [if_neg (by omega)]
  simp
theorem addI_zeros (e : Int) : ∀ xs : List Int, addI e e xs (List.replicate xs.length 0) = xs
  | [] => rfl
  | x :: xs => by
    simp only [List.length_cons, List.replicate_succ, addI]
    rw [addI_zeros e xs, addE_self, Int.sub_self, alignI_zero, alignI_zero, Int.add_zero]
theorem addI_twice (e : Int) : ∀ xs : List Int, addI e e xs xs = xs.map (fun x => 2 * x)
  | [] => rfl
  | x :: xs => by
    simp only [addI, List.map_cons]
    rw [addI_twice e xs, addE_self, Int.sub_self, alignI_zero]
    congr 1
    omega
theorem mayB_zeros {dims : List Int} {exp : Int} {data : List Int} (h : mayB dims exp data = true) : mayB dims exp (List.replicate data.length 0) = true := by
  unfold mayB at h ⊢
  rw [List.length_replicate]
  simp only [Bool.and_eq_true, decide_eq_true_eq, beq_iff_eq, Bool.not_eq_true'] at h ⊢
  refine ⟨h.1, h.2.1, h.2.2.1, h.2.2.2.1, ?_⟩
  simp only [List.contains_eq_mem, decide_eq_false_iff_not, List.mem_replicate]
  omega
theorem addErr_zeros (dims : List Int) (exp : Int) (data : List Int) : addErr dims exp data dims exp (List.replicate data.length 0) = if mayB dims exp data = true then 0 else 1 := by
  unfold addErr
  by_cases h : mayB dims exp data = true
  · rw [if_pos ⟨h, mayB_zeros h⟩, if_pos rfl, if_pos h]
  · rw [if_neg (fun q => h q.1), if_neg h]
theorem addErr_self (dims : List Int) (exp : Int) (data : List Int) : addErr dims exp data dims exp data = if mayB dims exp data = true then 0 else 1 := by
  unfold addErr
  by_cases h : mayB dims exp data = true
  · rw [if_pos ⟨h, h⟩, if_pos rfl, if_pos h]
  · rw [if_neg (fun q => h q.1), if_neg h]
end Go.Proofs.Ythdahnjghpiheaa

/- What unit.Relu computes: plain; its contract in form. -/
import Derived.Test.YthdahnjghpiheaaFlat
import Derived.Test.YthdahnjghpiheaaRefShape
import Derived.Test.YthdahnjghpiheaaAwake13
namespace Go.Proofs.Ythdahnjghpiheaa
open Go.RowKit
set_option linter.unusedVariables false

def relD (dims : List Int) (exp : Int) (data : List Int) : List Int := if mayB dims exp data = true then dims else []
def relE (dims : List Int) (exp : Int) (data : List Int) : Int := if mayB dims exp data = true then exp else 0
def relX (dims : List Int) (exp : Int) (data ys : List Int) : List Int := if mayB dims exp data = true then ys else []
def relErr (dims : List Int) (exp : Int) (data : List Int) : Int := if mayB dims exp data = true then 0 else 1
theorem relu_call (dims : List Int) (exp : Int) (data : List Int) (dv xv : Value) (w : World) (B : Nat) (hB : B ≤ w.heap.size) (D : List Int) (E : Int) (X : List Int) (err : Int)
    (h : IsT w B dv xv dims exp data) (ld : dims.length * 8 ≤ 140737488351232) (lx : data.length ≤ 140737488351232) (hD : relD dims exp data = D) (hE : relE dims exp data = E) (hX : relX dims exp data (reluI data) = X) (he : relErr dims exp data = err) :
    Calls Try.prog 15 #[.agg #[dv, .int .i64 exp, xv]] w (FormT w D E X err) := by
  refine (relu_any dims exp data dv xv w B hB h (by omega) (by omega)).mono ?_
  intro en w' hg
  apply GivesT.form
  subst hD hE hX he
  unfold ReluGives at hg
  unfold relD relE relX relErr
  split at hg
  · rename_i h0
    rw [if_pos h0, if_pos h0, if_pos h0, if_pos h0]
    exact hg
  · rename_i h0
    rw [if_neg h0, if_neg h0, if_neg h0, if_neg h0]
    exact hg
theorem mayB_nil : mayB [] 0 [] = false := by decide
theorem reluI_twice (data : List Int) : reluI (reluI data) = reluI data := by
  unfold reluI
  rw [List.map_map]
  apply List.map_congr_left
  intro x _
  simp only [Function.comp]
  omega
theorem length_reluI (data : List Int) : (reluI data).length = data.length := by simp [reluI]
theorem mayB_relu {dims : List Int} {exp : Int} {data : List Int} (h : mayB dims exp data = true) : mayB dims exp (reluI data) = true := by
  unfold mayB at h ⊢
  rw [length_reluI]
  simp only [Bool.and_eq_true, decide_eq_true_eq, beq_iff_eq, Bool.not_eq_true'] at h ⊢
  refine ⟨h.1, h.2.1, h.2.2.1, h.2.2.2.1, ?_⟩
  simp only [reluI, List.contains_eq_mem, decide_eq_false_iff_not, List.mem_map, not_exists, not_and]
  intro x _
  omega
end Go.Proofs.Ythdahnjghpiheaa

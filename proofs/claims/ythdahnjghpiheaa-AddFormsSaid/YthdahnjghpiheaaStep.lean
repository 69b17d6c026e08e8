/- A call of a function value at a step of a region that draws. -/
import Derived.Test.YthdahnjghpiheaaLikeP
import Derived.Deep.RegionLaw
namespace Go.Proofs.Ythdahnjghpiheaa
open Go.RowKit
set_option linter.unusedVariables false
theorem step_calls {P : Program} (w : World) {ops : Array Oper} {o : Oper} {a : Act} {K : Act → World → Prop} {Q : Exit → Act → World → Prop} {F : Prop} (hgd : o.guard = none) (t x : Operand) {T : TypeId} (fid : FuncId) (cv xv r : Value)
    (ho : o.op = .call { callee := .value t, args := #[x], argTypes := #[T] }) (ht : a.eval t = .func (.func fid) #[] #[cv]) (hx : a.eval x = xv)
    (hcf : ∀ (args : Array Value) (w : World), (callFunc fid args).run P w = .ok (.enter fid args) w) (h : Calls P fid #[xv, cv] w fun en w' => en = .returned r ∧ w = w') (hK : K (a.put o.dst r) w) :
    if Region.wanted o (yielded ops a.tmps) = true then Oper.wp P o a w K Q else F := by
  have hw : Region.wanted o (yielded ops a.tmps) = true := by simp [Region.wanted, hgd]
  rw [if_pos hw]
  unfold Oper.wp
  have hrun : (execOp a.eval o).run P w = .ok (.enter fid #[xv, cv]) w := by
    have h1 := hcf #[xv, cv] w
    unfold execOp
    simp only [ho, resolve, invoke, List.map_toArray, List.map_cons, List.map_nil, ht, hx, Deferred.ofValue, Sem.run_bind, Sem.run_pure, Result.andThen_ok]
    exact h1
  rw [hrun, Oper.upon_enter]
  refine h.mono ?_
  rintro en w' ⟨rfl, rfl⟩
  exact hK
end Go.Proofs.Ythdahnjghpiheaa

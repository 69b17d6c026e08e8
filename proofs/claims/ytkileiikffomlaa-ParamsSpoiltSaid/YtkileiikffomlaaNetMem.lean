/- Nets in memory: layers, rows of rows; two layers compared; model.May and what stands under it. -/
import Derived.Test.YtkileiikffomlaaRows
import Derived.Test.YtkileiikffomlaaNetPlain
import Derived.Test.YtkileiikffomlaaOpen
import Derived.Laws.StructEq
import Derived.BigQuiet
import Derived.Deep.QuietTactic
import Derived.Deep.DeepCutAuto
namespace Go.Proofs.Ytkileiikffomlaa
open Go.RowKit
set_option linter.unusedVariables false
set_option linter.unusedSimpArgs false

def LayV.cells (l : LayV) : List Value := [.int .i64 l.kind, .int .i64 l.out, .int .i64 l.k, .int .i64 l.stride, .int .i64 l.pad, .int .i64 l.frm, .bool l.frozen]
def inW (x : Int) : Prop := -9223372036854775808 ≤ x ∧ x ≤ 9223372036854775807
def LayV.ok (l : LayV) : Prop := inW l.kind ∧ inW l.out ∧ inW l.k ∧ inW l.stride ∧ inW l.pad ∧ inW l.frm
theorem eql_layer (a0 a1 a2 a3 a4 a5 b0 b1 b2 b3 b4 b5 : Int) (af bf : Bool) (w : World) :
    (binOp .eql 43 (.agg #[.int .i64 a0, .int .i64 a1, .int .i64 a2, .int .i64 a3, .int .i64 a4, .int .i64 a5, .bool af]) (.agg #[.int .i64 b0, .int .i64 b1, .int .i64 b2, .int .i64 b3, .int .i64 b4, .int .i64 b5, .bool bf])).run Try.prog w = .ok (.bool (sameL ⟨a0, a1, a2, a3, a4, a5, af⟩ ⟨b0, b1, b2, b3, b4, b5, bf⟩)) w := by
  have hS : Try.prog.underlying 43 = some (.struct (Try.prog.fieldsOf 43)) := by kernel_rfl
  have hp : Try.prog.stoodInHeld 43 = false := by kernel_rfl
  have u3 := Try.underlying3
  have ag3 := Try.isAgg3
  have z3 := Try.sizeOf3
  have u4 := Try.underlying4
  have ag4 := Try.isAgg4
  have z4 := Try.sizeOf4
  rw [run_eql_struct, show (10000 : Nat) = 9999 + 1 from rfl, run_equalIn_agg w 9999 43 _ _ hS hp]
  simp only [Program.fieldsOf, Try.underlying43]
  go_simp
  unfold sameL
  simp only []
  by_cases h0 : a0 = b0
  · by_cases h1 : a1 = b1
    · by_cases h2 : a2 = b2
      · by_cases h3 : a3 = b3
        · by_cases h4 : a4 = b4
          · by_cases h5 : a5 = b5
            · by_cases h6 : af = bf <;> simp [h0, h1, h2, h3, h4, h5, h6]
            · simp [h0, h1, h2, h3, h4, h5]
          · simp [h0, h1, h2, h3, h4]
        · simp [h0, h1, h2, h3]
      · simp [h0, h1, h2]
    · simp [h0, h1]
  · simp [h0]
end Go.Proofs.Ytkileiikffomlaa

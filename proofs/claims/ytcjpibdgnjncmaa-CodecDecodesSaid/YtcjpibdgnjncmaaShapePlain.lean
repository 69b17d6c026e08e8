/- Rows of lengths; tensors: plain. -/
import Derived.WalkKit
namespace Go.Proofs.Ytcjpibdgnjncmaa
open Go.RowKit
set_option linter.unusedVariables false
set_option linter.unusedSimpArgs false

def sizeGo : Int → List Int → Int
  | n, [] => n
  | n, x :: xs => if x < 1 ∨ 4096 < x ∨ 8192 < n * x then 0 else sizeGo (n * x) xs
/-- how many there are of all -/
def sizeI (d : List Int) : Int := if d.length < 1 ∨ 4 < d.length then 0 else sizeGo 1 d
theorem prod_bound {n x : Int} (h0 : 1 ≤ n) (h1 : n ≤ 8192) (h2 : 1 ≤ x) (h3 : x ≤ 4096) : 1 ≤ n * x ∧ n * x ≤ 33554432 := by
  have a1 : 1 * 1 ≤ n * x := Int.mul_le_mul h0 h2 (by omega) (by omega)
  have a2 : n * x ≤ 8192 * 4096 := Int.mul_le_mul h1 h3 (by omega) (by omega)
  omega
theorem sizeGo_bound : ∀ (d : List Int) (n : Int), 1 ≤ n → n ≤ 8192 → 0 ≤ sizeGo n d ∧ sizeGo n d ≤ 8192
  | [], n, h0, h1 => by simp only [sizeGo]; omega
  | x :: xs, n, h0, h1 => by
    simp only [sizeGo]
    split
    · omega
    · rename_i h
      have h3 : 1 ≤ x ∧ x ≤ 4096 ∧ n * x ≤ 8192 := by omega
      have := prod_bound h0 h1 h3.1 h3.2.1
      exact sizeGo_bound xs _ this.1 h3.2.2
theorem sizeI_bound (d : List Int) : 0 ≤ sizeI d ∧ sizeI d ≤ 8192 := by
  unfold sizeI
  split
  · omega
  · exact sizeGo_bound d 1 (by omega) (by omega)
/-- may a tensor be -/
def mayB (dims : List Int) (exp : Int) (data : List Int) : Bool :=
  decide (0 < sizeI dims) && (((data.length : Int) == sizeI dims) && (decide (-64 ≤ exp) && (decide (exp ≤ 64) && !data.contains (-128))))
end Go.Proofs.Ytcjpibdgnjncmaa

/- Arguments opened: rows of small numbers. -/
import Derived.Test.YthdahnjghpiheaaOpenT
namespace Go.Proofs.Ythdahnjghpiheaa
open Go.ChangeShapes Go.WideShapes Go.ChangeAt Go.RowKit Go.Deep
set_option linter.unusedVariables false

section
variable {H : Type} {enc : TypeId × Value → H} {w : World} {base : Nat} {spare : Nat → Bool} {held : Bool}
/-- a row of small numbers -/
structure I8sOf (w : World) (v : Value) (xs : List Int) : Prop where
  rd : Reads w w.heap.size v (ints .i8 xs)
  bd : Hid (∀ x ∈ xs, -128 ≤ x ∧ x ≤ 127)
  len : xs.length ≤ 140737488351232
theorem open_i8sP {v : Value} {d : DataW H} {p : List MemPlace} (hok : Value.okWide Try.prog w .any base 23 v) (h : DataW.Trod enc Try.prog w 0 (fun _ => true) true 23 v d p) (hwt : ∀ k ∈ d.weights Try.prog 23, k ≤ reachBytes) :
    ∃ xs : List Int, I8sOf w v xs := by
  obtain ⟨a, n, c, rfl⟩ := okWide_slice Try.underlying23 hok
  obtain ⟨fuel, hf⟩ := h
  obtain ⟨xs, h1, h2, h3⟩ := dec_i8s (v := .slice a n c) (by simpa [Value.cells] using hf) hwt
  exact ⟨xs, h1, Lib.hid h2, h3⟩

end
end Go.Proofs.Ythdahnjghpiheaa

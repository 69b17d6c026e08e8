/- Contract of unit.Shape: the plain part. -/
import Derived.Test.YthdahnjghpiheaaTensor
import Derived.Deep.RegionHeld3
import Derived.Deep.DrawnRows
namespace Go.Proofs.Ythdahnjghpiheaa
open Go.RowKit
set_option linter.unusedVariables false

/-- a tensor and an error -/
def GivesT (w : World) (dims : List Int) (exp : Int) (data : List Int) (err : Int) (en : Ending) (w' : World) : Prop :=
  ∃ dv xv, en = .returned (.tuple #[.agg #[dv, .int .i64 exp, xv], .int .i64 err]) ∧ IsT w' w'.heap.size dv xv dims exp data ∧ Below w.heap.size w w' ∧ w'.ownsRow w.heap.size 3 1 dv dims.length (ints .i64 dims) ∧ w'.ownsRow w.heap.size 34 1 xv data.length (ints .i8 data)

/-- the error of Shape, and whether there is one -/
def shapeErr (dims : List Int) (exp : Int) (data d : List Int) : Int :=
  if mayB dims exp data = true ∧ 0 < sizeI d then (if sizeI d = (data.length : Int) then 0 else 2) else 1

def ShapeGives (w : World) (dims : List Int) (exp : Int) (data d : List Int) (en : Ending) (w' : World) : Prop :=
  if shapeErr dims exp data d = 0 then GivesT w d exp data 0 en w' else GivesT w [] 0 [] (shapeErr dims exp data d) en w'
theorem ShapeGives.no {w : World} {dims : List Int} {exp : Int} {data d : List Int} {e : Int} {w' : World} (he : shapeErr dims exp data d = e) (h0 : e ≠ 0) (hb : Below w.heap.size w w') :
    ShapeGives w dims exp data d (.returned (.tuple #[.agg #[.slice none 0 0, .int .i64 0, .slice none 0 0], .int .i64 e])) w' := by
  unfold ShapeGives
  rw [he, if_neg h0]
  exact ⟨_, _, rfl, IsT.zero _ _, hb, World.ownsRow_nil _ _ _ _, World.ownsRow_nil _ _ _ _⟩

/-- three cells of one block turned -/
theorem off_set3 (w : World) (g : Nat) (u0 u1 u2 : Value) : Off (fun i => i = g) w (((w.setCell ⟨g, 0, none⟩ u0).setCell ⟨g, 1, none⟩ u1).setCell ⟨g, 2, none⟩ u2) := by
  have h0 : Off (fun i => i = g) w (w.setCell ⟨g, 0, none⟩ u0) := Off.setCell (Off.refl (fun i => i = g) w) (Or.inl rfl) u0
  have h1 : Off (fun i => i = g) w ((w.setCell ⟨g, 0, none⟩ u0).setCell ⟨g, 1, none⟩ u1) := Off.setCell h0 (p := ⟨g, 1, none⟩) (Or.inl rfl) u1
  exact Off.setCell h1 (p := ⟨g, 2, none⟩) (Or.inl rfl) u2
/-- two rows made behind one another, and put into a block that stood before -/
theorem two_made (w w3 w4 w5 w6 : World) (b : Nat) (d : List Int) (exp : Int) (data : List Int) (v6 v7 u0 u1 u2 : Value) (hbE : w.heap.size = b) (h3 : Below w.heap.size w w3) (h4 : Below w.heap.size w3 w4) (hlt : b + 1 < w4.heap.size)
    (o6 : w5.ownsRow w4.heap.size 3 1 v6 d.length (ints .i64 d)) (h6 : Below w4.heap.size w4 w5) (o7 : w6.ownsRow w5.heap.size 34 1 v7 data.length (ints .i8 data)) (h7 : Below w5.heap.size w5 w6)
    (db : Hid (∀ x ∈ d, -9223372036854775808 ≤ x ∧ x ≤ 9223372036854775807)) (xb : Hid (∀ x ∈ data, -128 ≤ x ∧ x ≤ 127)) (e0 : -9223372036854775808 ≤ exp) (e1 : exp ≤ 9223372036854775807) :
    GivesT w d exp data 0 (.returned (.tuple #[.agg #[v6, .int .i64 exp, v7], .int .i64 0])) (((w6.setCell ⟨b + 1, 0, none⟩ u0).setCell ⟨b + 1, 1, none⟩ u1).setCell ⟨b + 1, 2, none⟩ u2) := by
  have q6 := h6.size
  have q3 := h3.size
  have q4 := h4.size
  have hoff := off_set3 w6 (b + 1) u0 u1 u2
  have o67 : Off (fun i => i = b + 1) w5 w6 := Off.of_below h7 (fun i h => .inr h)
  have hoff5 : Off (fun i => i = b + 1) w5 _ := o67.trans hoff (fun i h => .inl h)
  have i6 := own_off o6 hoff5 (fun k hk he => by have := (o6.lt k hk).1; omega)
  have i7 := own_off o7 hoff (fun k hk he => by have := (o7.lt k hk).1; omega)
  have g6 := Reads.of_own i6
  have g7 := Reads.of_own i7
  have hs := h7.size
  refine ⟨_, _, rfl, ⟨g6, g7, db, xb, e0, e1⟩, ?_, own_lower i6 (by omega), own_lower i7 (by omega)⟩
  exact (((h3.trans h4).trans (h6.mono (by omega))).trans (h7.mono (by omega))).trans (hoff.below (B := w.heap.size) (by omega) (fun i h => by omega))

end Go.Proofs.Ythdahnjghpiheaa

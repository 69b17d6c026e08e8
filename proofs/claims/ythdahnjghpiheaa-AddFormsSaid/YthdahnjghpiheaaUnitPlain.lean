/- What unit.Shape computes: plain laws; the contract with its parts in form. -/
import Derived.Test.YthdahnjghpiheaaUnitShape
import Derived.Test.YthdahnjghpiheaaSameT
import Derived.Test.YthdahnjghpiheaaRelu2
import Derived.Test.YthdahnjghpiheaaOpenT
namespace Go.Proofs.Ythdahnjghpiheaa
open Go.RowKit
set_option linter.unusedVariables false

def shapeD (dims : List Int) (exp : Int) (data d : List Int) : List Int := if shapeErr dims exp data d = 0 then d else []
def shapeE (dims : List Int) (exp : Int) (data d : List Int) : Int := if shapeErr dims exp data d = 0 then exp else 0
def shapeX (dims : List Int) (exp : Int) (data d : List Int) : List Int := if shapeErr dims exp data d = 0 then data else []
theorem shape_ok {dims : List Int} {exp : Int} {data d : List Int} (h : shapeErr dims exp data d = 0) : mayB dims exp data = true ∧ mayB d exp data = true ∧ sizeI d = (data.length : Int) ∧ 0 < sizeI d ∧ sizeI dims = (data.length : Int) := by
  unfold shapeErr at h
  split at h
  · rename_i h1
    split at h
    · rename_i h2
      have h3 := h1.1
      unfold mayB at h3 ⊢
      simp only [Bool.and_eq_true, decide_eq_true_eq, beq_iff_eq] at h3 ⊢
      exact ⟨h3, ⟨h1.2, h2.symm, h3.2.2⟩, h2, h1.2, h3.2.1.symm⟩
    · omega
  · omega
theorem shape_again {dims : List Int} {exp : Int} {data d : List Int} (h : shapeErr dims exp data d = 0) (e : List Int) : shapeErr d exp data e = shapeErr dims exp data e := by
  have h1 := shape_ok h
  unfold shapeErr
  rw [h1.1, h1.2.1]
theorem shape_back {dims : List Int} {exp : Int} {data d : List Int} (h : shapeErr dims exp data d = 0) : shapeErr d exp data dims = 0 := by
  have h1 := shape_ok h
  rw [shape_again h]
  unfold shapeErr
  rw [if_pos ⟨h1.1, by have := h1.2.2; omega⟩, if_pos (by have := h1.2.2; omega)]
theorem same_self (d : List Int) (e : Int) (x : List Int) : sameB d e x d e x = true := by simp [sameB]

/-- a tensor and an error, in form -/
def FormT (w : World) (dims : List Int) (exp : Int) (data : List Int) (err : Int) (en : Ending) (w' : World) : Prop :=
  ∃ A c A' c', en = .returned (.tuple #[.agg #[.slice A dims.length c, .int .i64 exp, .slice A' data.length c'], .int .i64 err]) ∧ IsT w' w'.heap.size (.slice A dims.length c) (.slice A' data.length c') dims exp data ∧ Below w.heap.size w w'
/-- .. and its rows are its own -/
def FormO (w : World) (dims : List Int) (exp : Int) (data : List Int) (err : Int) (en : Ending) (w' : World) : Prop :=
  ∃ A c A' c', en = .returned (.tuple #[.agg #[.slice A dims.length c, .int .i64 exp, .slice A' data.length c'], .int .i64 err]) ∧ IsT w' w'.heap.size (.slice A dims.length c) (.slice A' data.length c') dims exp data ∧ Below w.heap.size w w' ∧ w'.ownsRow w.heap.size 3 1 (.slice A dims.length c) dims.length (ints .i64 dims) ∧ w'.ownsRow w.heap.size 34 1 (.slice A' data.length c') data.length (ints .i8 data)
theorem GivesT.formO {w : World} {dims : List Int} {exp : Int} {data : List Int} {err : Int} {en : Ending} {w' : World} (h : GivesT w dims exp data err en w') : FormO w dims exp data err en w' := by
  obtain ⟨dv, xv, rfl, hT, hb, h1, h2⟩ := h
  obtain ⟨A, c, rfl, _, _⟩ := hT.d.form
  obtain ⟨A', c', rfl, _, _⟩ := hT.x.form
  simp only [length_ints] at *
  exact ⟨A, c, A', c', rfl, hT, hb, h1, h2⟩
theorem FormO.form {w : World} {dims : List Int} {exp : Int} {data : List Int} {err : Int} {en : Ending} {w' : World} (h : FormO w dims exp data err en w') : FormT w dims exp data err en w' := by
  obtain ⟨A, c, A', c', rfl, hT, hb, _⟩ := h
  exact ⟨A, c, A', c', rfl, hT, hb⟩
theorem GivesT.form {w : World} {dims : List Int} {exp : Int} {data : List Int} {err : Int} {en : Ending} {w' : World} (h : GivesT w dims exp data err en w') : FormT w dims exp data err en w' := h.formO.form
theorem shape_callO (dims : List Int) (exp : Int) (data : List Int) (dv xv : Value) (d : List Int) (v : Value) (w : World) (B B' : Nat) (hB : B ≤ w.heap.size) (hB' : B' ≤ w.heap.size) (D : List Int) (E : Int) (X : List Int) (err : Int)
    (h : IsT w B dv xv dims exp data) (hd : Reads w B' v (ints .i64 d)) (hdb : ∀ x ∈ d, -9223372036854775808 ≤ x ∧ x ≤ 9223372036854775807) (hD : shapeD dims exp data d = D) (hE : shapeE dims exp data d = E) (hX : shapeX dims exp data d = X) (he : shapeErr dims exp data d = err) :
    Calls Try.prog 12 #[.agg #[dv, .int .i64 exp, xv], v] w (FormO w D E X err) := by
  refine (unitshape_any dims exp data dv xv d v w w.heap.size (Nat.le_refl _) (h.more hB) (hd.more hB') hdb).mono ?_
  intro en w' hg
  apply GivesT.formO
  subst hD hE hX he
  unfold ShapeGives at hg
  unfold shapeD shapeE shapeX
  split at hg
  · rename_i h0
    rw [if_pos h0, if_pos h0, if_pos h0, h0]
    exact hg
  · rename_i h0
    rw [if_neg h0, if_neg h0, if_neg h0]
    exact hg
theorem shape_call (dims : List Int) (exp : Int) (data : List Int) (dv xv : Value) (d : List Int) (v : Value) (w : World) (B B' : Nat) (hB : B ≤ w.heap.size) (hB' : B' ≤ w.heap.size) (D : List Int) (E : Int) (X : List Int) (err : Int)
    (h : IsT w B dv xv dims exp data) (hd : Reads w B' v (ints .i64 d)) (hdb : ∀ x ∈ d, -9223372036854775808 ≤ x ∧ x ≤ 9223372036854775807) (hD : shapeD dims exp data d = D) (hE : shapeE dims exp data d = E) (hX : shapeX dims exp data d = X) (he : shapeErr dims exp data d = err) :
    Calls Try.prog 12 #[.agg #[dv, .int .i64 exp, xv], v] w (FormT w D E X err) := by
  exact (shape_callO dims exp data dv xv d v w B B' hB hB' D E X err h hd hdb hD hE hX he).mono fun _ _ hg => hg.form
end Go.Proofs.Ythdahnjghpiheaa

/- Datasets: plain. -/
import Derived.WalkKit
namespace Go.Proofs.Ytfhlailhcfjjaaa
set_option linter.unusedVariables false
set_option linter.unusedSimpArgs false

/-- an example -/
structure ExV where
  dv : Value
  data : List Int
  label : Int
instance : Inhabited ExV := ⟨⟨.tuple #[], [], 0⟩⟩
/-- a dataset -/
structure DatV where
  a : Int
  b : Int
  c : Int
  exp : Int
  cl : Int
  lv : Value
  xs : List ExV
instance : Inhabited DatV := ⟨⟨0, 0, 0, 0, 0, .tuple #[], []⟩⟩
def inD (n lo hi : Int) : Bool := decide (lo ≤ n) && decide (n ≤ hi)
theorem inD_of {n lo hi : Int} (h : inD n lo hi = true) : lo ≤ n ∧ n ≤ hi := by
  unfold inD at h
  simpa using h
def headI (d : DatV) (n : Int) : Bool := inD d.a 1 8 && (inD d.b 1 16 && (inD d.c 1 16 && (inD d.exp (-64) 64 && (inD d.cl 2 10 && inD n 1 64))))
def sizeD (d : DatV) : Int := d.a * d.b * d.c
def oneI (d : DatV) (x : ExV) : Bool := ((x.data.length : Int) == sizeD d) && (!x.data.contains (-128) && inD x.label 0 (d.cl - 1))
def mayD (d : DatV) : Bool := headI d d.xs.length && d.xs.all (oneI d)
theorem headI_of {d : DatV} {n : Int} (h : headI d n = true) : (1 ≤ d.a ∧ d.a ≤ 8) ∧ (1 ≤ d.b ∧ d.b ≤ 16) ∧ (1 ≤ d.c ∧ d.c ≤ 16) ∧ (-64 ≤ d.exp ∧ d.exp ≤ 64) ∧ (2 ≤ d.cl ∧ d.cl ≤ 10) ∧ (1 ≤ n ∧ n ≤ 64) := by
  unfold headI at h
  simp only [Bool.and_eq_true] at h
  exact ⟨inD_of h.1, inD_of h.2.1, inD_of h.2.2.1, inD_of h.2.2.2.1, inD_of h.2.2.2.2.1, inD_of h.2.2.2.2.2⟩
theorem sizeD_in {d : DatV} {n : Int} (h : headI d n = true) : 1 ≤ sizeD d ∧ sizeD d ≤ 2048 ∧ (1 ≤ d.a * d.b ∧ d.a * d.b ≤ 128) := by
  obtain ⟨⟨h1, h2⟩, ⟨h3, h4⟩, ⟨h5, h6⟩, _⟩ := headI_of h
  have e1 : 1 * 1 ≤ d.a * d.b := Int.mul_le_mul h1 h3 (by omega) (by omega)
  have e2 : d.a * d.b ≤ 8 * 16 := Int.mul_le_mul h2 h4 (by omega) (by omega)
  have e3 : 1 * 1 ≤ d.a * d.b * d.c := Int.mul_le_mul (by omega) h5 (by omega) (by omega)
  have e4 : d.a * d.b * d.c ≤ 128 * 16 := Int.mul_le_mul (by omega) h6 (by omega) (by omega)
  unfold sizeD
  omega
end Go.Proofs.Ytfhlailhcfjjaaa

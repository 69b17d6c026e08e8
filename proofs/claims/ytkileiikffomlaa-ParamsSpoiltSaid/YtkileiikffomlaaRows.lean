/-
  No cell of these rows narrows 'for every input' (looked for: loops, veiled, ifaces, maps, wideKeys, modest, calm, conditions, laid).
  DERIVED. THE GIVEN ROWS OF THIS SEAT. 8 by the template 'for every input the law returns true; each argument reads behind the call as it read before'; 0 by the template 'total and deterministic' (their statements: YtkileiikffomlaaTotals.lean).
  GIVEN WITH THE SEED: the statements are not yours to turn. If you find one false, say at which input.
  Laid BY PROGRAM, IN A SANDBOX (cutbox-rows.mjs): the forced cells as the released guide's own fill.sh prints them over the translation 697213d6d4ea061f… (all of the seat's roots in one cut). By AI agents, Wed Nov 11 2026. No macro, syntax, notation, axiom, sorry.
-/
import Derived.Test.YtkileiikffomlaaChecked
import GoSem.Claim
import GoSem.ClaimJoined
import GoSem.ClaimMapViews
import Derived.JoinedTies
import Derived.KernelRfl
namespace Go.Proofs.Ytkileiikffomlaa
/- THE CELL 'sum', in the pinned program and in every row, IS THE sha256 OF THE DUMP (.gsa) THAT YtkileiikffomlaaProg.lean LOADS. Nothing in Lean hashes anything: it is a label: what it is worth is what the hold of that sum in a sandbox is worth. -/
noncomputable def Try.pinned : Pinned := { name := "ytkileiikffomlaa", sum := "697213d6d4ea061f4aa3441f760991e8170e241e7645ea39d633640c8171f81f", checked := Try.checked }
namespace Rows
def none {H : Type} : Left H := { results := [], args := [] }

/-- 'pedagoguelaw16.CheckForms': WHATEVER THE INPUT: true; the input reads as it did. -/
def checkFormsSpec : ChangeSpec := { name := "checkForms", fn := fun _ => fun
  | [d1, d2, d3] => { results := [.lit (.bool true)], args := [d1, d2, d3] }
  | _ => none }
def checkFormsRow : OpenClaim := { program := "ytkileiikffomlaa", sum := "697213d6d4ea061f4aa3441f760991e8170e241e7645ea39d633640c8171f81f", func := "pedagogue/pedagoguelaw16.CheckForms", spec := "checkForms", apart := false }
def CheckFormsSaid : Prop := checkFormsRow.holds Try.pinned (OpenSpec.ofChange checkFormsSpec)

/-- ITS FALSE NEIGHBOUR: 'it returns false'. Refute it at one input. -/
def checkFormsWrong : ChangeSpec := { name := "checkForms", fn := fun _ => fun
  | [d1, d2, d3] => { results := [.lit (.bool false)], args := [d1, d2, d3] }
  | _ => none }
def CheckFormsWrongFalsely : Prop := checkFormsRow.holds Try.pinned (OpenSpec.ofChange checkFormsWrong)

/-- 'pedagoguelaw16.CheckJust': WHATEVER THE INPUT: true; the input reads as it did. -/
def checkJustSpec : ChangeSpec := { name := "checkJust", fn := fun _ => fun
  | [d1, d2, d3, d4] => { results := [.lit (.bool true)], args := [d1, d2, d3, d4] }
  | _ => none }
def checkJustRow : OpenClaim := { program := "ytkileiikffomlaa", sum := "697213d6d4ea061f4aa3441f760991e8170e241e7645ea39d633640c8171f81f", func := "pedagogue/pedagoguelaw16.CheckJust", spec := "checkJust", apart := false }
def CheckJustSaid : Prop := checkJustRow.holds Try.pinned (OpenSpec.ofChange checkJustSpec)

/-- ITS FALSE NEIGHBOUR: 'it returns false'. Refute it at one input. -/
def checkJustWrong : ChangeSpec := { name := "checkJust", fn := fun _ => fun
  | [d1, d2, d3, d4] => { results := [.lit (.bool false)], args := [d1, d2, d3, d4] }
  | _ => none }
def CheckJustWrongFalsely : Prop := checkJustRow.holds Try.pinned (OpenSpec.ofChange checkJustWrong)

/-- 'pedagoguelaw16.CheckWitness': WHATEVER THE INPUT: true; the input reads as it did. -/
def checkWitnessSpec : ChangeSpec := { name := "checkWitness", fn := fun _ => fun
  | [d1, d2, d3] => { results := [.lit (.bool true)], args := [d1, d2, d3] }
  | _ => none }
def checkWitnessRow : OpenClaim := { program := "ytkileiikffomlaa", sum := "697213d6d4ea061f4aa3441f760991e8170e241e7645ea39d633640c8171f81f", func := "pedagogue/pedagoguelaw16.CheckWitness", spec := "checkWitness", apart := false }
def CheckWitnessSaid : Prop := checkWitnessRow.holds Try.pinned (OpenSpec.ofChange checkWitnessSpec)

/-- ITS FALSE NEIGHBOUR: 'it returns false'. Refute it at one input. -/
def checkWitnessWrong : ChangeSpec := { name := "checkWitness", fn := fun _ => fun
  | [d1, d2, d3] => { results := [.lit (.bool false)], args := [d1, d2, d3] }
  | _ => none }
def CheckWitnessWrongFalsely : Prop := checkWitnessRow.holds Try.pinned (OpenSpec.ofChange checkWitnessWrong)

/-- 'pedagoguelaw16.CheckGrows': WHATEVER THE INPUT: true; the input reads as it did. -/
def checkGrowsSpec : ChangeSpec := { name := "checkGrows", fn := fun _ => fun
  | [d1, d2] => { results := [.lit (.bool true)], args := [d1, d2] }
  | _ => none }
def checkGrowsRow : OpenClaim := { program := "ytkileiikffomlaa", sum := "697213d6d4ea061f4aa3441f760991e8170e241e7645ea39d633640c8171f81f", func := "pedagogue/pedagoguelaw16.CheckGrows", spec := "checkGrows", apart := false }
def CheckGrowsSaid : Prop := checkGrowsRow.holds Try.pinned (OpenSpec.ofChange checkGrowsSpec)

/-- ITS FALSE NEIGHBOUR: 'it returns false'. Refute it at one input. -/
def checkGrowsWrong : ChangeSpec := { name := "checkGrows", fn := fun _ => fun
  | [d1, d2] => { results := [.lit (.bool false)], args := [d1, d2] }
  | _ => none }
def CheckGrowsWrongFalsely : Prop := checkGrowsRow.holds Try.pinned (OpenSpec.ofChange checkGrowsWrong)

/-- 'pedagoguelaw16.CheckClasses': WHATEVER THE INPUT: true; the input reads as it did. -/
def checkClassesSpec : ChangeSpec := { name := "checkClasses", fn := fun _ => fun
  | [d1, d2, d3, d4] => { results := [.lit (.bool true)], args := [d1, d2, d3, d4] }
  | _ => none }
def checkClassesRow : OpenClaim := { program := "ytkileiikffomlaa", sum := "697213d6d4ea061f4aa3441f760991e8170e241e7645ea39d633640c8171f81f", func := "pedagogue/pedagoguelaw16.CheckClasses", spec := "checkClasses", apart := false }
def CheckClassesSaid : Prop := checkClassesRow.holds Try.pinned (OpenSpec.ofChange checkClassesSpec)

/-- ITS FALSE NEIGHBOUR: 'it returns false'. Refute it at one input. -/
def checkClassesWrong : ChangeSpec := { name := "checkClasses", fn := fun _ => fun
  | [d1, d2, d3, d4] => { results := [.lit (.bool false)], args := [d1, d2, d3, d4] }
  | _ => none }
def CheckClassesWrongFalsely : Prop := checkClassesRow.holds Try.pinned (OpenSpec.ofChange checkClassesWrong)

/-- 'pedagoguelaw17.ParamsSizes': WHATEVER THE INPUT: true; the input reads as it did. -/
def paramsSizesSpec : ChangeSpec := { name := "paramsSizes", fn := fun _ => fun
  | [d1, d2] => { results := [.lit (.bool true)], args := [d1, d2] }
  | _ => none }
def paramsSizesRow : OpenClaim := { program := "ytkileiikffomlaa", sum := "697213d6d4ea061f4aa3441f760991e8170e241e7645ea39d633640c8171f81f", func := "pedagogue/pedagoguelaw17.ParamsSizes", spec := "paramsSizes", apart := false }
def ParamsSizesSaid : Prop := paramsSizesRow.holds Try.pinned (OpenSpec.ofChange paramsSizesSpec)

/-- ITS FALSE NEIGHBOUR: 'it returns false'. Refute it at one input. -/
def paramsSizesWrong : ChangeSpec := { name := "paramsSizes", fn := fun _ => fun
  | [d1, d2] => { results := [.lit (.bool false)], args := [d1, d2] }
  | _ => none }
def ParamsSizesWrongFalsely : Prop := paramsSizesRow.holds Try.pinned (OpenSpec.ofChange paramsSizesWrong)

/-- 'pedagoguelaw17.ParamsInit': WHATEVER THE INPUT: true; the input reads as it did. -/
def paramsInitSpec : ChangeSpec := { name := "paramsInit", fn := fun _ => fun
  | [d1, d2] => { results := [.lit (.bool true)], args := [d1, d2] }
  | _ => none }
def paramsInitRow : OpenClaim := { program := "ytkileiikffomlaa", sum := "697213d6d4ea061f4aa3441f760991e8170e241e7645ea39d633640c8171f81f", func := "pedagogue/pedagoguelaw17.ParamsInit", spec := "paramsInit", unfollowed := true, recurses := true, apart := false }
def ParamsInitSaid : Prop := paramsInitRow.holds Try.pinned (OpenSpec.ofChange paramsInitSpec)

/-- ITS FALSE NEIGHBOUR: 'it returns false'. Refute it at one input. -/
def paramsInitWrong : ChangeSpec := { name := "paramsInit", fn := fun _ => fun
  | [d1, d2] => { results := [.lit (.bool false)], args := [d1, d2] }
  | _ => none }
def ParamsInitWrongFalsely : Prop := paramsInitRow.holds Try.pinned (OpenSpec.ofChange paramsInitWrong)

/-- 'pedagoguelaw17.ParamsSpoilt': WHATEVER THE INPUT: true; the input reads as it did. -/
def paramsSpoiltSpec : ChangeSpec := { name := "paramsSpoilt", fn := fun _ => fun
  | [d1, d2, d3, d4] => { results := [.lit (.bool true)], args := [d1, d2, d3, d4] }
  | _ => none }
def paramsSpoiltRow : OpenClaim := { program := "ytkileiikffomlaa", sum := "697213d6d4ea061f4aa3441f760991e8170e241e7645ea39d633640c8171f81f", func := "pedagogue/pedagoguelaw17.ParamsSpoilt", spec := "paramsSpoilt", unfollowed := true, recurses := true, apart := false }
def ParamsSpoiltSaid : Prop := paramsSpoiltRow.holds Try.pinned (OpenSpec.ofChange paramsSpoiltSpec)

/-- ITS FALSE NEIGHBOUR: 'it returns false'. Refute it at one input. -/
def paramsSpoiltWrong : ChangeSpec := { name := "paramsSpoilt", fn := fun _ => fun
  | [d1, d2, d3, d4] => { results := [.lit (.bool false)], args := [d1, d2, d3, d4] }
  | _ => none }
def ParamsSpoiltWrongFalsely : Prop := paramsSpoiltRow.holds Try.pinned (OpenSpec.ofChange paramsSpoiltWrong)

/- THE SECOND FORM. 'bulk': how many values and letters a reading holds, each counted each time it is reached (what is shared counts as often as it is met; a slice's spare places count too). A statement '..UptoSaid' is the law's where the arguments, and the package variables that the reading takes, are together of bulk at most 1048576: NARROWER than '..Said'. Prove '..Said' where nothing that the law and all that it calls make is longer than what came in: it says more and counts as full. Else prove '..UptoSaid'. A law counts once. -/
mutual
def uptoBulk {H : Type} : DataW H → Nat
  | .lit (.string bytes) => bytes.length + 1
  | .lit _ => 1
  | .nil => 1
  | .ptr d => uptoBulk d + 1
  | .slice elems spare => uptoBulkAll elems + uptoBulkAll spare + 1
  | .agg parts => uptoBulkAll parts + 1
  | .iface _ d => uptoBulk d + 1
  | .map entries => uptoBulkEntries entries + 1
  | .held _ => 1
def uptoBulkAll {H : Type} : List (DataW H) → Nat
  | [] => 0
  | d :: r => uptoBulk d + uptoBulkAll r
def uptoBulkEntries {H : Type} : List (Lit × DataW H) → Nat
  | [] => 0
  | x :: r => uptoBulkEntry x + uptoBulkEntries r
def uptoBulkEntry {H : Type} : Lit × DataW H → Nat
  | (.string bytes, d) => bytes.length + uptoBulk d + 1
  | (_, d) => uptoBulk d + 1
 end
def uptoSmall : (H : Type) → List (DataW H) → Bool := fun _ ds => decide (uptoBulkAll ds ≤ 1048576)
def OpenSpec.upto (s : _root_.Go.ChangeSpec) : _root_.Go.OpenSpec := { _root_.Go.OpenSpec.ofChange s with cond := some uptoSmall }

/-- 'pedagoguelaw16.CheckForms', WHERE WHAT IT READS IS OF BULK AT MOST 1048576: true; the input reads as it did. -/
def checkFormsUptoRow : OpenClaim := { program := "ytkileiikffomlaa", sum := "697213d6d4ea061f4aa3441f760991e8170e241e7645ea39d633640c8171f81f", func := "pedagogue/pedagoguelaw16.CheckForms", spec := "checkForms", apart := false, narrowed := true }
def CheckFormsUptoSaid : Prop := checkFormsUptoRow.holds Try.pinned (OpenSpec.upto checkFormsSpec)

/-- 'pedagoguelaw16.CheckJust', WHERE WHAT IT READS IS OF BULK AT MOST 1048576: true; the input reads as it did. -/
def checkJustUptoRow : OpenClaim := { program := "ytkileiikffomlaa", sum := "697213d6d4ea061f4aa3441f760991e8170e241e7645ea39d633640c8171f81f", func := "pedagogue/pedagoguelaw16.CheckJust", spec := "checkJust", apart := false, narrowed := true }
def CheckJustUptoSaid : Prop := checkJustUptoRow.holds Try.pinned (OpenSpec.upto checkJustSpec)

/-- 'pedagoguelaw16.CheckWitness', WHERE WHAT IT READS IS OF BULK AT MOST 1048576: true; the input reads as it did. -/
def checkWitnessUptoRow : OpenClaim := { program := "ytkileiikffomlaa", sum := "697213d6d4ea061f4aa3441f760991e8170e241e7645ea39d633640c8171f81f", func := "pedagogue/pedagoguelaw16.CheckWitness", spec := "checkWitness", apart := false, narrowed := true }
def CheckWitnessUptoSaid : Prop := checkWitnessUptoRow.holds Try.pinned (OpenSpec.upto checkWitnessSpec)

/-- 'pedagoguelaw16.CheckGrows', WHERE WHAT IT READS IS OF BULK AT MOST 1048576: true; the input reads as it did. -/
def checkGrowsUptoRow : OpenClaim := { program := "ytkileiikffomlaa", sum := "697213d6d4ea061f4aa3441f760991e8170e241e7645ea39d633640c8171f81f", func := "pedagogue/pedagoguelaw16.CheckGrows", spec := "checkGrows", apart := false, narrowed := true }
def CheckGrowsUptoSaid : Prop := checkGrowsUptoRow.holds Try.pinned (OpenSpec.upto checkGrowsSpec)

/-- 'pedagoguelaw16.CheckClasses', WHERE WHAT IT READS IS OF BULK AT MOST 1048576: true; the input reads as it did. -/
def checkClassesUptoRow : OpenClaim := { program := "ytkileiikffomlaa", sum := "697213d6d4ea061f4aa3441f760991e8170e241e7645ea39d633640c8171f81f", func := "pedagogue/pedagoguelaw16.CheckClasses", spec := "checkClasses", apart := false, narrowed := true }
def CheckClassesUptoSaid : Prop := checkClassesUptoRow.holds Try.pinned (OpenSpec.upto checkClassesSpec)

/-- 'pedagoguelaw17.ParamsSizes', WHERE WHAT IT READS IS OF BULK AT MOST 1048576: true; the input reads as it did. -/
def paramsSizesUptoRow : OpenClaim := { program := "ytkileiikffomlaa", sum := "697213d6d4ea061f4aa3441f760991e8170e241e7645ea39d633640c8171f81f", func := "pedagogue/pedagoguelaw17.ParamsSizes", spec := "paramsSizes", apart := false, narrowed := true }
def ParamsSizesUptoSaid : Prop := paramsSizesUptoRow.holds Try.pinned (OpenSpec.upto paramsSizesSpec)

/-- 'pedagoguelaw17.ParamsInit', WHERE WHAT IT READS IS OF BULK AT MOST 1048576: true; the input reads as it did. -/
def paramsInitUptoRow : OpenClaim := { program := "ytkileiikffomlaa", sum := "697213d6d4ea061f4aa3441f760991e8170e241e7645ea39d633640c8171f81f", func := "pedagogue/pedagoguelaw17.ParamsInit", spec := "paramsInit", unfollowed := true, recurses := true, apart := false, narrowed := true }
def ParamsInitUptoSaid : Prop := paramsInitUptoRow.holds Try.pinned (OpenSpec.upto paramsInitSpec)

/-- 'pedagoguelaw17.ParamsSpoilt', WHERE WHAT IT READS IS OF BULK AT MOST 1048576: true; the input reads as it did. -/
def paramsSpoiltUptoRow : OpenClaim := { program := "ytkileiikffomlaa", sum := "697213d6d4ea061f4aa3441f760991e8170e241e7645ea39d633640c8171f81f", func := "pedagogue/pedagoguelaw17.ParamsSpoilt", spec := "paramsSpoilt", unfollowed := true, recurses := true, apart := false, narrowed := true }
def ParamsSpoiltUptoSaid : Prop := paramsSpoiltUptoRow.holds Try.pinned (OpenSpec.upto paramsSpoiltSpec)

end Rows
end Go.Proofs.Ytkileiikffomlaa

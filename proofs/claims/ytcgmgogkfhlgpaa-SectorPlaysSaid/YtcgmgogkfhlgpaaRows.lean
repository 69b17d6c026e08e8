/-
  No cell of these rows narrows 'for every input' (looked for: loops, veiled, ifaces, maps, wideKeys, modest, calm, conditions, laid).
  DERIVED. THE GIVEN ROWS OF THIS SEAT. 7 by the template 'for every input the law returns true; each argument reads behind the call as it read before'; 0 by the template 'total and deterministic' (their statements: YtcgmgogkfhlgpaaTotals.lean).
  GIVEN WITH THE SEED: the statements are not yours to turn. If you find one false, say at which input.
  Laid BY PROGRAM, IN A SANDBOX (cutbox-rows.mjs): the forced cells as the released guide's own fill.sh prints them over the translation b8eb2b1324f254f1… (all of the seat's roots in one cut). By AI agents, Wed Nov 11 2026. No macro, syntax, notation, axiom, sorry.
-/
import Derived.Test.YtcgmgogkfhlgpaaChecked
import GoSem.Claim
import GoSem.ClaimJoined
import GoSem.ClaimMapViews
import Derived.JoinedTies
import Derived.KernelRfl
namespace Go.Proofs.Ytcgmgogkfhlgpaa
/- THE CELL 'sum', in the pinned program and in every row, IS THE sha256 OF THE DUMP (.gsa) THAT YtcgmgogkfhlgpaaProg.lean LOADS. Nothing in Lean hashes anything: it is a label: what it is worth is what the hold of that sum in a sandbox is worth. -/
noncomputable def Try.pinned : Pinned := { name := "ytcgmgogkfhlgpaa", sum := "b8eb2b1324f254f19f2963e64771cf8e078abaf75c386cdace2b6cc97d1fe008", checked := Try.checked }
namespace Rows
def none {H : Type} : Left H := { results := [], args := [] }

/-- 'pedagoguelaw5.SectorSure': WHATEVER THE INPUT: true; the input reads as it did. -/
def sectorSureSpec : ChangeSpec := { name := "sectorSure", fn := fun _ => fun
  | [d1, d2, d3, d4, d5] => { results := [.lit (.bool true)], args := [d1, d2, d3, d4, d5] }
  | _ => none }
def sectorSureRow : OpenClaim := { program := "ytcgmgogkfhlgpaa", sum := "b8eb2b1324f254f19f2963e64771cf8e078abaf75c386cdace2b6cc97d1fe008", func := "pedagogue/pedagoguelaw5.SectorSure", spec := "sectorSure", apart := false }
def SectorSureSaid : Prop := sectorSureRow.holds Try.pinned (OpenSpec.ofChange sectorSureSpec)

/-- ITS FALSE NEIGHBOUR: 'it returns false'. Refute it at one input. -/
def sectorSureWrong : ChangeSpec := { name := "sectorSure", fn := fun _ => fun
  | [d1, d2, d3, d4, d5] => { results := [.lit (.bool false)], args := [d1, d2, d3, d4, d5] }
  | _ => none }
def SectorSureWrongFalsely : Prop := sectorSureRow.holds Try.pinned (OpenSpec.ofChange sectorSureWrong)

/-- 'pedagoguelaw5.SectorFuse': WHATEVER THE INPUT: true; the input reads as it did. -/
def sectorFuseSpec : ChangeSpec := { name := "sectorFuse", fn := fun _ => fun
  | [d1, d2] => { results := [.lit (.bool true)], args := [d1, d2] }
  | _ => none }
def sectorFuseRow : OpenClaim := { program := "ytcgmgogkfhlgpaa", sum := "b8eb2b1324f254f19f2963e64771cf8e078abaf75c386cdace2b6cc97d1fe008", func := "pedagogue/pedagoguelaw5.SectorFuse", spec := "sectorFuse", apart := false }
def SectorFuseSaid : Prop := sectorFuseRow.holds Try.pinned (OpenSpec.ofChange sectorFuseSpec)

/-- ITS FALSE NEIGHBOUR: 'it returns false'. Refute it at one input. -/
def sectorFuseWrong : ChangeSpec := { name := "sectorFuse", fn := fun _ => fun
  | [d1, d2] => { results := [.lit (.bool false)], args := [d1, d2] }
  | _ => none }
def SectorFuseWrongFalsely : Prop := sectorFuseRow.holds Try.pinned (OpenSpec.ofChange sectorFuseWrong)

/-- 'pedagoguelaw5.SectorTwice': WHATEVER THE INPUT: true; the input reads as it did. -/
def sectorTwiceSpec : ChangeSpec := { name := "sectorTwice", fn := fun _ => fun
  | [d1, d2, d3] => { results := [.lit (.bool true)], args := [d1, d2, d3] }
  | _ => none }
def sectorTwiceRow : OpenClaim := { program := "ytcgmgogkfhlgpaa", sum := "b8eb2b1324f254f19f2963e64771cf8e078abaf75c386cdace2b6cc97d1fe008", func := "pedagogue/pedagoguelaw5.SectorTwice", spec := "sectorTwice", apart := false }
def SectorTwiceSaid : Prop := sectorTwiceRow.holds Try.pinned (OpenSpec.ofChange sectorTwiceSpec)

/-- ITS FALSE NEIGHBOUR: 'it returns false'. Refute it at one input. -/
def sectorTwiceWrong : ChangeSpec := { name := "sectorTwice", fn := fun _ => fun
  | [d1, d2, d3] => { results := [.lit (.bool false)], args := [d1, d2, d3] }
  | _ => none }
def SectorTwiceWrongFalsely : Prop := sectorTwiceRow.holds Try.pinned (OpenSpec.ofChange sectorTwiceWrong)

/-- 'pedagoguelaw5.SectorAll': WHATEVER THE INPUT: true; the input reads as it did. -/
def sectorAllSpec : ChangeSpec := { name := "sectorAll", fn := fun _ => fun
  | [d] => { results := [.lit (.bool true)], args := [d] }
  | _ => none }
def sectorAllRow : OpenClaim := { program := "ytcgmgogkfhlgpaa", sum := "b8eb2b1324f254f19f2963e64771cf8e078abaf75c386cdace2b6cc97d1fe008", func := "pedagogue/pedagoguelaw5.SectorAll", spec := "sectorAll", apart := false }
def SectorAllSaid : Prop := sectorAllRow.holds Try.pinned (OpenSpec.ofChange sectorAllSpec)

/-- ITS FALSE NEIGHBOUR: 'it returns false'. Refute it at one input. -/
def sectorAllWrong : ChangeSpec := { name := "sectorAll", fn := fun _ => fun
  | [d] => { results := [.lit (.bool false)], args := [d] }
  | _ => none }
def SectorAllWrongFalsely : Prop := sectorAllRow.holds Try.pinned (OpenSpec.ofChange sectorAllWrong)

/-- 'pedagoguelaw5.SectorApart': WHATEVER THE INPUT: true; the input reads as it did. -/
def sectorApartSpec : ChangeSpec := { name := "sectorApart", fn := fun _ => fun
  | [d1, d2, d3, d4] => { results := [.lit (.bool true)], args := [d1, d2, d3, d4] }
  | _ => none }
def sectorApartRow : OpenClaim := { program := "ytcgmgogkfhlgpaa", sum := "b8eb2b1324f254f19f2963e64771cf8e078abaf75c386cdace2b6cc97d1fe008", func := "pedagogue/pedagoguelaw5.SectorApart", spec := "sectorApart", apart := false }
def SectorApartSaid : Prop := sectorApartRow.holds Try.pinned (OpenSpec.ofChange sectorApartSpec)

/-- ITS FALSE NEIGHBOUR: 'it returns false'. Refute it at one input. -/
def sectorApartWrong : ChangeSpec := { name := "sectorApart", fn := fun _ => fun
  | [d1, d2, d3, d4] => { results := [.lit (.bool false)], args := [d1, d2, d3, d4] }
  | _ => none }
def SectorApartWrongFalsely : Prop := sectorApartRow.holds Try.pinned (OpenSpec.ofChange sectorApartWrong)

/-- 'pedagoguelaw5.SectorPlays': WHATEVER THE INPUT: true; the input reads as it did. -/
def sectorPlaysSpec : ChangeSpec := { name := "sectorPlays", fn := fun _ => fun
  | [d1, d2, d3] => { results := [.lit (.bool true)], args := [d1, d2, d3] }
  | _ => none }
def sectorPlaysRow : OpenClaim := { program := "ytcgmgogkfhlgpaa", sum := "b8eb2b1324f254f19f2963e64771cf8e078abaf75c386cdace2b6cc97d1fe008", func := "pedagogue/pedagoguelaw5.SectorPlays", spec := "sectorPlays", apart := false }
def SectorPlaysSaid : Prop := sectorPlaysRow.holds Try.pinned (OpenSpec.ofChange sectorPlaysSpec)

/-- ITS FALSE NEIGHBOUR: 'it returns false'. Refute it at one input. -/
def sectorPlaysWrong : ChangeSpec := { name := "sectorPlays", fn := fun _ => fun
  | [d1, d2, d3] => { results := [.lit (.bool false)], args := [d1, d2, d3] }
  | _ => none }
def SectorPlaysWrongFalsely : Prop := sectorPlaysRow.holds Try.pinned (OpenSpec.ofChange sectorPlaysWrong)

/-- 'pedagoguelaw5.SectorSizes': WHATEVER THE INPUT: true; the input reads as it did. -/
def sectorSizesSpec : ChangeSpec := { name := "sectorSizes", fn := fun _ => fun
  | [d1, d2] => { results := [.lit (.bool true)], args := [d1, d2] }
  | _ => none }
def sectorSizesRow : OpenClaim := { program := "ytcgmgogkfhlgpaa", sum := "b8eb2b1324f254f19f2963e64771cf8e078abaf75c386cdace2b6cc97d1fe008", func := "pedagogue/pedagoguelaw5.SectorSizes", spec := "sectorSizes", apart := false }
def SectorSizesSaid : Prop := sectorSizesRow.holds Try.pinned (OpenSpec.ofChange sectorSizesSpec)

/-- ITS FALSE NEIGHBOUR: 'it returns false'. Refute it at one input. -/
def sectorSizesWrong : ChangeSpec := { name := "sectorSizes", fn := fun _ => fun
  | [d1, d2] => { results := [.lit (.bool false)], args := [d1, d2] }
  | _ => none }
def SectorSizesWrongFalsely : Prop := sectorSizesRow.holds Try.pinned (OpenSpec.ofChange sectorSizesWrong)

/- THE SECOND FORM. 'bulk': how many values and letters a reading holds, each counted each time it is reached (what is shared counts as often as it is met; a slice's spare places count too). A statement '..UptoSaid' is the law's where the arguments, and the package variables that the reading takes, are together of bulk at most 1048576: NARROWER than '..Said'. Prove '..Said' where nothing that the law and all that it calls make is longer than what came in: it says more and counts as full. Else prove '..UptoSaid'. A law counts once. -/
mutual
def uptoBulk {H : Type} : DataW H → Nat
  | .lit (.string bytes) => bytes.length + 1
  | .lit _ => 1
  | .nil => 1
  | .ptr d => uptoBulk d + 1
  | .slice elems spare => uptoBulkAll elems + uptoBulkAll spare + 1
  | .agg parts => uptoBulkAll parts + 1
  | .iface _ d => uptoBulk d + 1
  | .map entries => uptoBulkEntries entries + 1
  | .held _ => 1
def uptoBulkAll {H : Type} : List (DataW H) → Nat
  | [] => 0
  | d :: r => uptoBulk d + uptoBulkAll r
def uptoBulkEntries {H : Type} : List (Lit × DataW H) → Nat
  | [] => 0
  | x :: r => uptoBulkEntry x + uptoBulkEntries r
def uptoBulkEntry {H : Type} : Lit × DataW H → Nat
  | (.string bytes, d) => bytes.length + uptoBulk d + 1
  | (_, d) => uptoBulk d + 1
 end
def uptoSmall : (H : Type) → List (DataW H) → Bool := fun _ ds => decide (uptoBulkAll ds ≤ 1048576)
def OpenSpec.upto (s : _root_.Go.ChangeSpec) : _root_.Go.OpenSpec := { _root_.Go.OpenSpec.ofChange s with cond := some uptoSmall }

/-- 'pedagoguelaw5.SectorSure', WHERE WHAT IT READS IS OF BULK AT MOST 1048576: true; the input reads as it did. -/
def sectorSureUptoRow : OpenClaim := { program := "ytcgmgogkfhlgpaa", sum := "b8eb2b1324f254f19f2963e64771cf8e078abaf75c386cdace2b6cc97d1fe008", func := "pedagogue/pedagoguelaw5.SectorSure", spec := "sectorSure", apart := false, narrowed := true }
def SectorSureUptoSaid : Prop := sectorSureUptoRow.holds Try.pinned (OpenSpec.upto sectorSureSpec)

/-- 'pedagoguelaw5.SectorFuse', WHERE WHAT IT READS IS OF BULK AT MOST 1048576: true; the input reads as it did. -/
def sectorFuseUptoRow : OpenClaim := { program := "ytcgmgogkfhlgpaa", sum := "b8eb2b1324f254f19f2963e64771cf8e078abaf75c386cdace2b6cc97d1fe008", func := "pedagogue/pedagoguelaw5.SectorFuse", spec := "sectorFuse", apart := false, narrowed := true }
def SectorFuseUptoSaid : Prop := sectorFuseUptoRow.holds Try.pinned (OpenSpec.upto sectorFuseSpec)

/-- 'pedagoguelaw5.SectorTwice', WHERE WHAT IT READS IS OF BULK AT MOST 1048576: true; the input reads as it did. -/
def sectorTwiceUptoRow : OpenClaim := { program := "ytcgmgogkfhlgpaa", sum := "b8eb2b1324f254f19f2963e64771cf8e078abaf75c386cdace2b6cc97d1fe008", func := "pedagogue/pedagoguelaw5.SectorTwice", spec := "sectorTwice", apart := false, narrowed := true }
def SectorTwiceUptoSaid : Prop := sectorTwiceUptoRow.holds Try.pinned (OpenSpec.upto sectorTwiceSpec)

/-- 'pedagoguelaw5.SectorAll', WHERE WHAT IT READS IS OF BULK AT MOST 1048576: true; the input reads as it did. -/
def sectorAllUptoRow : OpenClaim := { program := "ytcgmgogkfhlgpaa", sum := "b8eb2b1324f254f19f2963e64771cf8e078abaf75c386cdace2b6cc97d1fe008", func := "pedagogue/pedagoguelaw5.SectorAll", spec := "sectorAll", apart := false, narrowed := true }
def SectorAllUptoSaid : Prop := sectorAllUptoRow.holds Try.pinned (OpenSpec.upto sectorAllSpec)

/-- 'pedagoguelaw5.SectorApart', WHERE WHAT IT READS IS OF BULK AT MOST 1048576: true; the input reads as it did. -/
def sectorApartUptoRow : OpenClaim := { program := "ytcgmgogkfhlgpaa", sum := "b8eb2b1324f254f19f2963e64771cf8e078abaf75c386cdace2b6cc97d1fe008", func := "pedagogue/pedagoguelaw5.SectorApart", spec := "sectorApart", apart := false, narrowed := true }
def SectorApartUptoSaid : Prop := sectorApartUptoRow.holds Try.pinned (OpenSpec.upto sectorApartSpec)

/-- 'pedagoguelaw5.SectorPlays', WHERE WHAT IT READS IS OF BULK AT MOST 1048576: true; the input reads as it did. -/
def sectorPlaysUptoRow : OpenClaim := { program := "ytcgmgogkfhlgpaa", sum := "b8eb2b1324f254f19f2963e64771cf8e078abaf75c386cdace2b6cc97d1fe008", func := "pedagogue/pedagoguelaw5.SectorPlays", spec := "sectorPlays", apart := false, narrowed := true }
def SectorPlaysUptoSaid : Prop := sectorPlaysUptoRow.holds Try.pinned (OpenSpec.upto sectorPlaysSpec)

/-- 'pedagoguelaw5.SectorSizes', WHERE WHAT IT READS IS OF BULK AT MOST 1048576: true; the input reads as it did. -/
def sectorSizesUptoRow : OpenClaim := { program := "ytcgmgogkfhlgpaa", sum := "b8eb2b1324f254f19f2963e64771cf8e078abaf75c386cdace2b6cc97d1fe008", func := "pedagogue/pedagoguelaw5.SectorSizes", spec := "sectorSizes", apart := false, narrowed := true }
def SectorSizesUptoSaid : Prop := sectorSizesUptoRow.holds Try.pinned (OpenSpec.upto sectorSizesSpec)

end Rows
end Go.Proofs.Ytcgmgogkfhlgpaa

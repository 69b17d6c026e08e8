/-
  DERIVED. GIVEN WITH THE SEED: THE CARDS: each row of YtmmdapdbgfoecaaGreatDoorRows.lean that lists a variable, with what it lists TIED to the program's text (the seventh form; the later family's looks); each row that meets fmt, with fmt's text TOLD by the authors' own Lean function (tested against real Go, not proved from fmt's source: count such statements apart). THE CARD IS WHAT COUNTS. Prove the row's statement (the work); the ties are given (YtmmdapdbgfoecaaGreatDoorTie.lean); close each card by the builder's one call (the guide's Derived/Test/ToyasCard.lean, 'card_holds'). Laid BY PROGRAM, IN A SANDBOX (cutbox-door.mjs). By AI agents, Wed Nov 11 2026. No macro, syntax, notation, axiom, sorry.
-/
import Derived.Test.YtmmdapdbgfoecaaGreatDoorRows
import GoSem.ClaimSeven
namespace Go.Proofs.YtmmdapdbgfoecaaGreatDoor
namespace Rows

/-- THE TIED CARD OF 'pedagoguetop.TopFull'. -/
def topFullCard : Claim7 := { stood := { row := topFullRow, standIns := [], harness := (true, "b552d7cbcc5e53d862ff40e74d95dea5edc1cc93d21f4395b612e222efb769ea"), looks := true }, kinds := [], alts := [], laidByText := true, laidKinds := [.data, .data, .data, .data, .sentinel, .sentinel, .pinned], laidTests := true, laidLooks := .later }
def TopFullCardSaid : Prop := Claim7.holds Tryz.pinned (.plain (OpenSpec.ofChange topFullSpec)) topFullCard

/-- THE TIED CARD OF 'pedagoguetop.TopEpochs'. -/
def topEpochsCard : Claim7 := { stood := { row := topEpochsRow, standIns := [], harness := (true, "b552d7cbcc5e53d862ff40e74d95dea5edc1cc93d21f4395b612e222efb769ea"), looks := true }, kinds := [], alts := [], laidByText := true, laidKinds := [.data, .data, .data, .data, .sentinel, .sentinel, .pinned], laidTests := true, laidLooks := .later }
def TopEpochsCardSaid : Prop := Claim7.holds Tryz.pinned (.plain (OpenSpec.ofChange topEpochsSpec)) topEpochsCard

/-- THE TIED CARD OF 'pedagoguetop.TopBounds'. -/
def topBoundsCard : Claim7 := { stood := { row := topBoundsRow, standIns := [], harness := (true, "b552d7cbcc5e53d862ff40e74d95dea5edc1cc93d21f4395b612e222efb769ea"), looks := true }, kinds := [], alts := [], laidByText := true, laidKinds := [.data, .data, .data, .data, .sentinel, .sentinel, .pinned], laidTests := true, laidLooks := .later }
def TopBoundsCardSaid : Prop := Claim7.holds Tryz.pinned (.plain (OpenSpec.ofChange topBoundsSpec)) topBoundsCard

/-- THE SECOND FORM's CARD OF 'pedagoguetop.TopFull'. -/
def topFullUptoCard : Claim7 := { stood := { row := topFullUptoRow, standIns := [], harness := (true, "b552d7cbcc5e53d862ff40e74d95dea5edc1cc93d21f4395b612e222efb769ea"), looks := true }, kinds := [], alts := [], laidByText := true, laidKinds := [.data, .data, .data, .data, .sentinel, .sentinel, .pinned], laidTests := true, laidLooks := .later }
def TopFullUptoCardSaid : Prop := Claim7.holds Tryz.pinned (.plain (OpenSpec.upto topFullSpec)) topFullUptoCard

/-- THE SECOND FORM's CARD OF 'pedagoguetop.TopEpochs'. -/
def topEpochsUptoCard : Claim7 := { stood := { row := topEpochsUptoRow, standIns := [], harness := (true, "b552d7cbcc5e53d862ff40e74d95dea5edc1cc93d21f4395b612e222efb769ea"), looks := true }, kinds := [], alts := [], laidByText := true, laidKinds := [.data, .data, .data, .data, .sentinel, .sentinel, .pinned], laidTests := true, laidLooks := .later }
def TopEpochsUptoCardSaid : Prop := Claim7.holds Tryz.pinned (.plain (OpenSpec.upto topEpochsSpec)) topEpochsUptoCard

/-- THE SECOND FORM's CARD OF 'pedagoguetop.TopBounds'. -/
def topBoundsUptoCard : Claim7 := { stood := { row := topBoundsUptoRow, standIns := [], harness := (true, "b552d7cbcc5e53d862ff40e74d95dea5edc1cc93d21f4395b612e222efb769ea"), looks := true }, kinds := [], alts := [], laidByText := true, laidKinds := [.data, .data, .data, .data, .sentinel, .sentinel, .pinned], laidTests := true, laidLooks := .later }
def TopBoundsUptoCardSaid : Prop := Claim7.holds Tryz.pinned (.plain (OpenSpec.upto topBoundsSpec)) topBoundsUptoCard
end Rows
end Go.Proofs.YtmmdapdbgfoecaaGreatDoor

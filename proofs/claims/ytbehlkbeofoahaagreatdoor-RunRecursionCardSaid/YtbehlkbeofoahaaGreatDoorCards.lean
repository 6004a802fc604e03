/-
  DERIVED. GIVEN WITH THE SEED: THE CARDS: each row of YtbehlkbeofoahaaGreatDoorRows.lean that lists a variable, with what it lists TIED to the program's text (the seventh form; the later family's looks); each row that meets fmt, with fmt's text TOLD by the authors' own Lean function (tested against real Go, not proved from fmt's source: count such statements apart). THE CARD IS WHAT COUNTS. Prove the row's statement (the work); the ties are given (YtbehlkbeofoahaaGreatDoorTie.lean); close each card by the builder's one call (the guide's Derived/Test/ToyasCard.lean, 'card_holds'). Laid BY PROGRAM, IN A SANDBOX (cutbox-door.mjs). By AI agents, Wed Nov 11 2026. No macro, syntax, notation, axiom, sorry.
-/
import Derived.Test.YtbehlkbeofoahaaGreatDoorRows
import GoSem.ClaimSeven
namespace Go.Proofs.YtbehlkbeofoahaaGreatDoor
namespace Rows

/-- THE TIED CARD OF 'gneisslaw25.RunConfigs'. -/
def runConfigsCard : Claim7 := { stood := { row := runConfigsRow, standIns := [], harness := (true, "1079f25ad37c2ef5bd58db438085494c850a6ee59dd903de61aa31810cc6bffd"), looks := true }, kinds := [], alts := [], laidByText := true, laidKinds := [.listed, .data], laidTests := true, laidLooks := .later }
def RunConfigsCardSaid : Prop := Claim7.holds Tryz.pinned (.plain (OpenSpec.ofChange runConfigsSpec)) runConfigsCard

/-- THE TIED CARD OF 'gneisslaw25.RunIdle'. -/
def runIdleCard : Claim7 := { stood := { row := runIdleRow, standIns := [], harness := (true, "1079f25ad37c2ef5bd58db438085494c850a6ee59dd903de61aa31810cc6bffd"), looks := true }, kinds := [], alts := [], laidByText := true, laidKinds := [.listed, .data], laidTests := true, laidLooks := .later }
def RunIdleCardSaid : Prop := Claim7.holds Tryz.pinned (.plain (OpenSpec.ofChange runIdleSpec)) runIdleCard

/-- THE TIED CARD OF 'gneisslaw25.RunAriths'. -/
def runArithsCard : Claim7 := { stood := { row := runArithsRow, standIns := [], harness := (true, "1079f25ad37c2ef5bd58db438085494c850a6ee59dd903de61aa31810cc6bffd"), looks := true }, kinds := [], alts := [], laidByText := true, laidKinds := [.listed, .data], laidTests := true, laidLooks := .later }
def RunArithsCardSaid : Prop := Claim7.holds Tryz.pinned (.plain (OpenSpec.ofChange runArithsSpec)) runArithsCard

/-- THE TIED CARD OF 'gneisslaw25.RunArrays'. -/
def runArraysCard : Claim7 := { stood := { row := runArraysRow, standIns := [], harness := (true, "1079f25ad37c2ef5bd58db438085494c850a6ee59dd903de61aa31810cc6bffd"), looks := true }, kinds := [], alts := [], laidByText := true, laidKinds := [.listed, .data], laidTests := true, laidLooks := .later }
def RunArraysCardSaid : Prop := Claim7.holds Tryz.pinned (.plain (OpenSpec.ofChange runArraysSpec)) runArraysCard

/-- THE TIED CARD OF 'gneisslaw25.RunRefArrays'. -/
def runRefArraysCard : Claim7 := { stood := { row := runRefArraysRow, standIns := [], harness := (true, "1079f25ad37c2ef5bd58db438085494c850a6ee59dd903de61aa31810cc6bffd"), looks := true }, kinds := [], alts := [], laidByText := true, laidKinds := [.listed, .data], laidTests := true, laidLooks := .later }
def RunRefArraysCardSaid : Prop := Claim7.holds Tryz.pinned (.plain (OpenSpec.ofChange runRefArraysSpec)) runRefArraysCard

/-- THE TIED CARD OF 'gneisslaw25.RunRecursion'. -/
def runRecursionCard : Claim7 := { stood := { row := runRecursionRow, standIns := [], harness := (true, "1079f25ad37c2ef5bd58db438085494c850a6ee59dd903de61aa31810cc6bffd"), looks := true }, kinds := [], alts := [], laidByText := true, laidKinds := [.listed, .data], laidTests := true, laidLooks := .later }
def RunRecursionCardSaid : Prop := Claim7.holds Tryz.pinned (.plain (OpenSpec.ofChange runRecursionSpec)) runRecursionCard

/-- THE TIED CARD OF 'gneisslaw25.RunReads'. -/
def runReadsCard : Claim7 := { stood := { row := runReadsRow, standIns := [], harness := (true, "1079f25ad37c2ef5bd58db438085494c850a6ee59dd903de61aa31810cc6bffd"), looks := true }, kinds := [], alts := [], laidByText := true, laidKinds := [.listed, .data], laidTests := true, laidLooks := .later }
def RunReadsCardSaid : Prop := Claim7.holds Tryz.pinned (.plain (OpenSpec.ofChange runReadsSpec)) runReadsCard

/-- THE SECOND FORM's CARD OF 'gneisslaw25.RunConfigs'. -/
def runConfigsUptoCard : Claim7 := { stood := { row := runConfigsUptoRow, standIns := [], harness := (true, "1079f25ad37c2ef5bd58db438085494c850a6ee59dd903de61aa31810cc6bffd"), looks := true }, kinds := [], alts := [], laidByText := true, laidKinds := [.listed, .data], laidTests := true, laidLooks := .later }
def RunConfigsUptoCardSaid : Prop := Claim7.holds Tryz.pinned (.plain (OpenSpec.upto runConfigsSpec)) runConfigsUptoCard

/-- THE SECOND FORM's CARD OF 'gneisslaw25.RunIdle'. -/
def runIdleUptoCard : Claim7 := { stood := { row := runIdleUptoRow, standIns := [], harness := (true, "1079f25ad37c2ef5bd58db438085494c850a6ee59dd903de61aa31810cc6bffd"), looks := true }, kinds := [], alts := [], laidByText := true, laidKinds := [.listed, .data], laidTests := true, laidLooks := .later }
def RunIdleUptoCardSaid : Prop := Claim7.holds Tryz.pinned (.plain (OpenSpec.upto runIdleSpec)) runIdleUptoCard

/-- THE SECOND FORM's CARD OF 'gneisslaw25.RunAriths'. -/
def runArithsUptoCard : Claim7 := { stood := { row := runArithsUptoRow, standIns := [], harness := (true, "1079f25ad37c2ef5bd58db438085494c850a6ee59dd903de61aa31810cc6bffd"), looks := true }, kinds := [], alts := [], laidByText := true, laidKinds := [.listed, .data], laidTests := true, laidLooks := .later }
def RunArithsUptoCardSaid : Prop := Claim7.holds Tryz.pinned (.plain (OpenSpec.upto runArithsSpec)) runArithsUptoCard

/-- THE SECOND FORM's CARD OF 'gneisslaw25.RunArrays'. -/
def runArraysUptoCard : Claim7 := { stood := { row := runArraysUptoRow, standIns := [], harness := (true, "1079f25ad37c2ef5bd58db438085494c850a6ee59dd903de61aa31810cc6bffd"), looks := true }, kinds := [], alts := [], laidByText := true, laidKinds := [.listed, .data], laidTests := true, laidLooks := .later }
def RunArraysUptoCardSaid : Prop := Claim7.holds Tryz.pinned (.plain (OpenSpec.upto runArraysSpec)) runArraysUptoCard

/-- THE SECOND FORM's CARD OF 'gneisslaw25.RunRefArrays'. -/
def runRefArraysUptoCard : Claim7 := { stood := { row := runRefArraysUptoRow, standIns := [], harness := (true, "1079f25ad37c2ef5bd58db438085494c850a6ee59dd903de61aa31810cc6bffd"), looks := true }, kinds := [], alts := [], laidByText := true, laidKinds := [.listed, .data], laidTests := true, laidLooks := .later }
def RunRefArraysUptoCardSaid : Prop := Claim7.holds Tryz.pinned (.plain (OpenSpec.upto runRefArraysSpec)) runRefArraysUptoCard

/-- THE SECOND FORM's CARD OF 'gneisslaw25.RunRecursion'. -/
def runRecursionUptoCard : Claim7 := { stood := { row := runRecursionUptoRow, standIns := [], harness := (true, "1079f25ad37c2ef5bd58db438085494c850a6ee59dd903de61aa31810cc6bffd"), looks := true }, kinds := [], alts := [], laidByText := true, laidKinds := [.listed, .data], laidTests := true, laidLooks := .later }
def RunRecursionUptoCardSaid : Prop := Claim7.holds Tryz.pinned (.plain (OpenSpec.upto runRecursionSpec)) runRecursionUptoCard

/-- THE SECOND FORM's CARD OF 'gneisslaw25.RunReads'. -/
def runReadsUptoCard : Claim7 := { stood := { row := runReadsUptoRow, standIns := [], harness := (true, "1079f25ad37c2ef5bd58db438085494c850a6ee59dd903de61aa31810cc6bffd"), looks := true }, kinds := [], alts := [], laidByText := true, laidKinds := [.listed, .data], laidTests := true, laidLooks := .later }
def RunReadsUptoCardSaid : Prop := Claim7.holds Tryz.pinned (.plain (OpenSpec.upto runReadsSpec)) runReadsUptoCard
end Rows
end Go.Proofs.YtbehlkbeofoahaaGreatDoor

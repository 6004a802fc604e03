/-
  DERIVED. GIVEN WITH THE SEED: THE CARDS: each row of YtjpjiognghcojaaGreatDoorRows.lean that lists a variable, with what it lists TIED to the program's text (the seventh form; the later family's looks); each row that meets fmt, with fmt's text TOLD by the authors' own Lean function (tested against real Go, not proved from fmt's source: count such statements apart). THE CARD IS WHAT COUNTS. Prove the row's statement (the work); the ties are given (YtjpjiognghcojaaGreatDoorTie.lean); close each card by the builder's one call (the guide's Derived/Test/ToyasCard.lean, 'card_holds'). Laid BY PROGRAM, IN A SANDBOX (cutbox-door.mjs). By AI agents, Wed Nov 11 2026. No macro, syntax, notation, axiom, sorry.
-/
import Derived.Test.YtjpjiognghcojaaGreatDoorRows
import GoSem.ClaimSeven
namespace Go.Proofs.YtjpjiognghcojaaGreatDoor
namespace Rows

/-- THE TIED CARD OF 'gneisslaw26.CorpusTaken'. -/
def corpusTakenCard : Claim7 := { stood := { row := corpusTakenRow, standIns := [], harness := (true, "6e2b3a6a7015fbc411b5dc0e843bca222aefd55748d735be82c2d0175ccaec5e"), looks := true }, kinds := [], alts := [], laidByText := true, laidKinds := [.data, .data, .data, .data, .sentinel, .sentinel, .listed, .data, .pinned], laidTests := true, laidLooks := .later }
def CorpusTakenCardSaid : Prop := Claim7.holds Tryz.pinned (.plain (OpenSpec.ofChange corpusTakenSpec)) corpusTakenCard

/-- THE TIED CARD OF 'gneisslaw26.CorpusCovers'. -/
def corpusCoversCard : Claim7 := { stood := { row := corpusCoversRow, standIns := [], harness := (true, "6e2b3a6a7015fbc411b5dc0e843bca222aefd55748d735be82c2d0175ccaec5e"), looks := true }, kinds := [], alts := [], laidByText := true, laidKinds := [.data, .data, .data, .data, .sentinel, .sentinel, .listed, .data, .pinned], laidTests := true, laidLooks := .later }
def CorpusCoversCardSaid : Prop := Claim7.holds Tryz.pinned (.plain (OpenSpec.ofChange corpusCoversSpec)) corpusCoversCard

/-- THE SECOND FORM's CARD OF 'gneisslaw26.CorpusTaken'. -/
def corpusTakenUptoCard : Claim7 := { stood := { row := corpusTakenUptoRow, standIns := [], harness := (true, "6e2b3a6a7015fbc411b5dc0e843bca222aefd55748d735be82c2d0175ccaec5e"), looks := true }, kinds := [], alts := [], laidByText := true, laidKinds := [.data, .data, .data, .data, .sentinel, .sentinel, .listed, .data, .pinned], laidTests := true, laidLooks := .later }
def CorpusTakenUptoCardSaid : Prop := Claim7.holds Tryz.pinned (.plain (OpenSpec.upto corpusTakenSpec)) corpusTakenUptoCard

/-- THE SECOND FORM's CARD OF 'gneisslaw26.CorpusCovers'. -/
def corpusCoversUptoCard : Claim7 := { stood := { row := corpusCoversUptoRow, standIns := [], harness := (true, "6e2b3a6a7015fbc411b5dc0e843bca222aefd55748d735be82c2d0175ccaec5e"), looks := true }, kinds := [], alts := [], laidByText := true, laidKinds := [.data, .data, .data, .data, .sentinel, .sentinel, .listed, .data, .pinned], laidTests := true, laidLooks := .later }
def CorpusCoversUptoCardSaid : Prop := Claim7.holds Tryz.pinned (.plain (OpenSpec.upto corpusCoversSpec)) corpusCoversUptoCard
end Rows
end Go.Proofs.YtjpjiognghcojaaGreatDoor

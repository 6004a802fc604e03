/-
  DERIVED. GIVEN WITH THE SEED: THE CARDS: each row of YtjfmpdoenkfkeaaGreatDoorRows.lean that lists a variable, with what it lists TIED to the program's text (the seventh form; the later family's looks); each row that meets fmt, with fmt's text TOLD by the authors' own Lean function (tested against real Go, not proved from fmt's source: count such statements apart). THE CARD IS WHAT COUNTS. Prove the row's statement (the work); the ties are given (YtjfmpdoenkfkeaaGreatDoorTie.lean); close each card by the builder's one call (the guide's Derived/Test/ToyasCard.lean, 'card_holds'). Laid BY PROGRAM, IN A SANDBOX (cutbox-door.mjs). By AI agents, Wed Nov 11 2026. No macro, syntax, notation, axiom, sorry.
-/
import Derived.Test.YtjfmpdoenkfkeaaGreatDoorRows
import GoSem.ClaimSeven
namespace Go.Proofs.YtjfmpdoenkfkeaaGreatDoor
namespace Rows

/-- THE TIED CARD OF 'gneisslaw23.RealArrays'. -/
def realArraysCard : Claim7 := { stood := { row := realArraysRow, standIns := [], harness := (true, "b019e6ed2d2b67dfada0e8b7fbe14063258fef9c4a7a6d23ad48f7d78bb13aa4"), looks := true }, kinds := [], alts := [], laidByText := true, laidKinds := [.listed, .data], laidTests := true, laidLooks := .later }
def RealArraysCardSaid : Prop := Claim7.holds Tryz.pinned (.plain (OpenSpec.ofChange realArraysSpec)) realArraysCard

/-- THE SECOND FORM's CARD OF 'gneisslaw23.RealArrays'. -/
def realArraysUptoCard : Claim7 := { stood := { row := realArraysUptoRow, standIns := [], harness := (true, "b019e6ed2d2b67dfada0e8b7fbe14063258fef9c4a7a6d23ad48f7d78bb13aa4"), looks := true }, kinds := [], alts := [], laidByText := true, laidKinds := [.listed, .data], laidTests := true, laidLooks := .later }
def RealArraysUptoCardSaid : Prop := Claim7.holds Tryz.pinned (.plain (OpenSpec.upto realArraysSpec)) realArraysUptoCard
end Rows
end Go.Proofs.YtjfmpdoenkfkeaaGreatDoor

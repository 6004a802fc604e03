/-
  DERIVED. GIVEN WITH THE SEED: THE CARDS: each row of YtmbpojfjpiahiaaGreatDoorRows.lean that lists a variable, with what it lists TIED to the program's text (the seventh form; the later family's looks); each row that meets fmt, with fmt's text TOLD by the authors' own Lean function (tested against real Go, not proved from fmt's source: count such statements apart). THE CARD IS WHAT COUNTS. Prove the row's statement (the work); the ties are given (YtmbpojfjpiahiaaGreatDoorTie.lean); close each card by the builder's one call (the guide's Derived/Test/ToyasCard.lean, 'card_holds'). Laid BY PROGRAM, IN A SANDBOX (cutbox-door.mjs). By AI agents, Wed Nov 11 2026. No macro, syntax, notation, axiom, sorry.
-/
import Derived.Test.YtmbpojfjpiahiaaGreatDoorRows
import GoSem.ClaimSeven
namespace Go.Proofs.YtmbpojfjpiahiaaGreatDoor
namespace Rows

/-- THE TIED CARD OF 'gneisslaw23.RealAsks'. -/
def realAsksCard : Claim7 := { stood := { row := realAsksRow, standIns := [], harness := (true, "38439faf4b71ffbbd6fa85fed44bdafcdbe54932e61f08e919829cedff743667"), looks := true }, kinds := [], alts := [], laidByText := true, laidKinds := [.listed, .data], laidTests := true, laidLooks := .later }
def RealAsksCardSaid : Prop := Claim7.holds Tryz.pinned (.plain (OpenSpec.ofChange realAsksSpec)) realAsksCard

/-- THE SECOND FORM's CARD OF 'gneisslaw23.RealAsks'. -/
def realAsksUptoCard : Claim7 := { stood := { row := realAsksUptoRow, standIns := [], harness := (true, "38439faf4b71ffbbd6fa85fed44bdafcdbe54932e61f08e919829cedff743667"), looks := true }, kinds := [], alts := [], laidByText := true, laidKinds := [.listed, .data], laidTests := true, laidLooks := .later }
def RealAsksUptoCardSaid : Prop := Claim7.holds Tryz.pinned (.plain (OpenSpec.upto realAsksSpec)) realAsksUptoCard
end Rows
end Go.Proofs.YtmbpojfjpiahiaaGreatDoor

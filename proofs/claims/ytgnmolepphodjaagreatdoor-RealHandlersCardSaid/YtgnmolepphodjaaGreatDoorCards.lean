/-
  DERIVED. GIVEN WITH THE SEED: THE CARDS: each row of YtgnmolepphodjaaGreatDoorRows.lean that lists a variable, with what it lists TIED to the program's text (the seventh form; the later family's looks); each row that meets fmt, with fmt's text TOLD by the authors' own Lean function (tested against real Go, not proved from fmt's source: count such statements apart). THE CARD IS WHAT COUNTS. Prove the row's statement (the work); the ties are given (YtgnmolepphodjaaGreatDoorTie.lean); close each card by the builder's one call (the guide's Derived/Test/ToyasCard.lean, 'card_holds'). Laid BY PROGRAM, IN A SANDBOX (cutbox-door.mjs). By AI agents, Wed Nov 11 2026. No macro, syntax, notation, axiom, sorry.
-/
import Derived.Test.YtgnmolepphodjaaGreatDoorRows
import GoSem.ClaimSeven
namespace Go.Proofs.YtgnmolepphodjaaGreatDoor
namespace Rows

/-- THE TIED CARD OF 'gneisslaw23.RealRefs'. -/
def realRefsCard : Claim7 := { stood := { row := realRefsRow, standIns := [], harness := (true, "f1dffc4224963b3df0faf7874f5a088284be3220ab322fe575f3ea04534fcf50"), looks := true }, kinds := [], alts := [], laidByText := true, laidKinds := [.listed, .data], laidTests := true, laidLooks := .later }
def RealRefsCardSaid : Prop := Claim7.holds Tryz.pinned (.plain (OpenSpec.ofChange realRefsSpec)) realRefsCard

/-- THE TIED CARD OF 'gneisslaw23.RealVirtuals'. -/
def realVirtualsCard : Claim7 := { stood := { row := realVirtualsRow, standIns := [], harness := (true, "f1dffc4224963b3df0faf7874f5a088284be3220ab322fe575f3ea04534fcf50"), looks := true }, kinds := [], alts := [], laidByText := true, laidKinds := [.listed, .data], laidTests := true, laidLooks := .later }
def RealVirtualsCardSaid : Prop := Claim7.holds Tryz.pinned (.plain (OpenSpec.ofChange realVirtualsSpec)) realVirtualsCard

/-- THE TIED CARD OF 'gneisslaw23.RealCasts'. -/
def realCastsCard : Claim7 := { stood := { row := realCastsRow, standIns := [], harness := (true, "f1dffc4224963b3df0faf7874f5a088284be3220ab322fe575f3ea04534fcf50"), looks := true }, kinds := [], alts := [], laidByText := true, laidKinds := [.listed, .data], laidTests := true, laidLooks := .later }
def RealCastsCardSaid : Prop := Claim7.holds Tryz.pinned (.plain (OpenSpec.ofChange realCastsSpec)) realCastsCard

/-- THE TIED CARD OF 'gneisslaw23.RealHandlers'. -/
def realHandlersCard : Claim7 := { stood := { row := realHandlersRow, standIns := [], harness := (true, "f1dffc4224963b3df0faf7874f5a088284be3220ab322fe575f3ea04534fcf50"), looks := true }, kinds := [], alts := [], laidByText := true, laidKinds := [.listed, .data], laidTests := true, laidLooks := .later }
def RealHandlersCardSaid : Prop := Claim7.holds Tryz.pinned (.plain (OpenSpec.ofChange realHandlersSpec)) realHandlersCard

/-- THE TIED CARD OF 'gneisslaw23.RealCallers'. -/
def realCallersCard : Claim7 := { stood := { row := realCallersRow, standIns := [], harness := (true, "f1dffc4224963b3df0faf7874f5a088284be3220ab322fe575f3ea04534fcf50"), looks := true }, kinds := [], alts := [], laidByText := true, laidKinds := [.listed, .data], laidTests := true, laidLooks := .later }
def RealCallersCardSaid : Prop := Claim7.holds Tryz.pinned (.plain (OpenSpec.ofChange realCallersSpec)) realCallersCard

/-- THE TIED CARD OF 'gneisslaw23.RealStarts'. -/
def realStartsCard : Claim7 := { stood := { row := realStartsRow, standIns := [], harness := (true, "f1dffc4224963b3df0faf7874f5a088284be3220ab322fe575f3ea04534fcf50"), looks := true }, kinds := [], alts := [], laidByText := true, laidKinds := [.listed, .data], laidTests := true, laidLooks := .later }
def RealStartsCardSaid : Prop := Claim7.holds Tryz.pinned (.plain (OpenSpec.ofChange realStartsSpec)) realStartsCard

/-- THE SECOND FORM's CARD OF 'gneisslaw23.RealRefs'. -/
def realRefsUptoCard : Claim7 := { stood := { row := realRefsUptoRow, standIns := [], harness := (true, "f1dffc4224963b3df0faf7874f5a088284be3220ab322fe575f3ea04534fcf50"), looks := true }, kinds := [], alts := [], laidByText := true, laidKinds := [.listed, .data], laidTests := true, laidLooks := .later }
def RealRefsUptoCardSaid : Prop := Claim7.holds Tryz.pinned (.plain (OpenSpec.upto realRefsSpec)) realRefsUptoCard

/-- THE SECOND FORM's CARD OF 'gneisslaw23.RealVirtuals'. -/
def realVirtualsUptoCard : Claim7 := { stood := { row := realVirtualsUptoRow, standIns := [], harness := (true, "f1dffc4224963b3df0faf7874f5a088284be3220ab322fe575f3ea04534fcf50"), looks := true }, kinds := [], alts := [], laidByText := true, laidKinds := [.listed, .data], laidTests := true, laidLooks := .later }
def RealVirtualsUptoCardSaid : Prop := Claim7.holds Tryz.pinned (.plain (OpenSpec.upto realVirtualsSpec)) realVirtualsUptoCard

/-- THE SECOND FORM's CARD OF 'gneisslaw23.RealCasts'. -/
def realCastsUptoCard : Claim7 := { stood := { row := realCastsUptoRow, standIns := [], harness := (true, "f1dffc4224963b3df0faf7874f5a088284be3220ab322fe575f3ea04534fcf50"), looks := true }, kinds := [], alts := [], laidByText := true, laidKinds := [.listed, .data], laidTests := true, laidLooks := .later }
def RealCastsUptoCardSaid : Prop := Claim7.holds Tryz.pinned (.plain (OpenSpec.upto realCastsSpec)) realCastsUptoCard

/-- THE SECOND FORM's CARD OF 'gneisslaw23.RealHandlers'. -/
def realHandlersUptoCard : Claim7 := { stood := { row := realHandlersUptoRow, standIns := [], harness := (true, "f1dffc4224963b3df0faf7874f5a088284be3220ab322fe575f3ea04534fcf50"), looks := true }, kinds := [], alts := [], laidByText := true, laidKinds := [.listed, .data], laidTests := true, laidLooks := .later }
def RealHandlersUptoCardSaid : Prop := Claim7.holds Tryz.pinned (.plain (OpenSpec.upto realHandlersSpec)) realHandlersUptoCard

/-- THE SECOND FORM's CARD OF 'gneisslaw23.RealCallers'. -/
def realCallersUptoCard : Claim7 := { stood := { row := realCallersUptoRow, standIns := [], harness := (true, "f1dffc4224963b3df0faf7874f5a088284be3220ab322fe575f3ea04534fcf50"), looks := true }, kinds := [], alts := [], laidByText := true, laidKinds := [.listed, .data], laidTests := true, laidLooks := .later }
def RealCallersUptoCardSaid : Prop := Claim7.holds Tryz.pinned (.plain (OpenSpec.upto realCallersSpec)) realCallersUptoCard

/-- THE SECOND FORM's CARD OF 'gneisslaw23.RealStarts'. -/
def realStartsUptoCard : Claim7 := { stood := { row := realStartsUptoRow, standIns := [], harness := (true, "f1dffc4224963b3df0faf7874f5a088284be3220ab322fe575f3ea04534fcf50"), looks := true }, kinds := [], alts := [], laidByText := true, laidKinds := [.listed, .data], laidTests := true, laidLooks := .later }
def RealStartsUptoCardSaid : Prop := Claim7.holds Tryz.pinned (.plain (OpenSpec.upto realStartsSpec)) realStartsUptoCard
end Rows
end Go.Proofs.YtgnmolepphodjaaGreatDoor

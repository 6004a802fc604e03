/-
  DERIVED. GIVEN WITH THE SEED: THE CARDS: each row of YtmjccopjophgjaaGreatDoorRows.lean that lists a variable, with what it lists TIED to the program's text (the seventh form; the later family's looks); each row that meets fmt, with fmt's text TOLD by the authors' own Lean function (tested against real Go, not proved from fmt's source: count such statements apart). THE CARD IS WHAT COUNTS. Prove the row's statement (the work); the ties are given (YtmjccopjophgjaaGreatDoorTie.lean); close each card by the builder's one call (the guide's Derived/Test/ToyasCard.lean, 'card_holds'). Laid BY PROGRAM, IN A SANDBOX (cutbox-door.mjs). By AI agents, Wed Nov 11 2026. No macro, syntax, notation, axiom, sorry.
-/
import Derived.Test.YtmjccopjophgjaaGreatDoorRows
import GoSem.ClaimSeven
namespace Go.Proofs.YtmjccopjophgjaaGreatDoor
namespace Rows

/-- THE TIED CARD OF 'gneisslaw25.RunStacks'. -/
def runStacksCard : Claim7 := { stood := { row := runStacksRow, standIns := [], harness := (true, "42c5c9a293a1d67662a4f1fda4c9e1c59618d83a311accec3c30746335a666ee"), looks := true }, kinds := [], alts := [], laidByText := true, laidKinds := [.listed, .data], laidTests := true, laidLooks := .later }
def RunStacksCardSaid : Prop := Claim7.holds Tryz.pinned (.plain (OpenSpec.ofChange runStacksSpec)) runStacksCard

/-- THE TIED CARD OF 'gneisslaw25.RunLocals'. -/
def runLocalsCard : Claim7 := { stood := { row := runLocalsRow, standIns := [], harness := (true, "42c5c9a293a1d67662a4f1fda4c9e1c59618d83a311accec3c30746335a666ee"), looks := true }, kinds := [], alts := [], laidByText := true, laidKinds := [.listed, .data], laidTests := true, laidLooks := .later }
def RunLocalsCardSaid : Prop := Claim7.holds Tryz.pinned (.plain (OpenSpec.ofChange runLocalsSpec)) runLocalsCard

/-- THE TIED CARD OF 'gneisslaw25.RunJumps'. -/
def runJumpsCard : Claim7 := { stood := { row := runJumpsRow, standIns := [], harness := (true, "42c5c9a293a1d67662a4f1fda4c9e1c59618d83a311accec3c30746335a666ee"), looks := true }, kinds := [], alts := [], laidByText := true, laidKinds := [.listed, .data], laidTests := true, laidLooks := .later }
def RunJumpsCardSaid : Prop := Claim7.holds Tryz.pinned (.plain (OpenSpec.ofChange runJumpsSpec)) runJumpsCard

/-- THE TIED CARD OF 'gneisslaw25.RunRefs'. -/
def runRefsCard : Claim7 := { stood := { row := runRefsRow, standIns := [], harness := (true, "42c5c9a293a1d67662a4f1fda4c9e1c59618d83a311accec3c30746335a666ee"), looks := true }, kinds := [], alts := [], laidByText := true, laidKinds := [.listed, .data], laidTests := true, laidLooks := .later }
def RunRefsCardSaid : Prop := Claim7.holds Tryz.pinned (.plain (OpenSpec.ofChange runRefsSpec)) runRefsCard

/-- THE TIED CARD OF 'gneisslaw25.RunFields'. -/
def runFieldsCard : Claim7 := { stood := { row := runFieldsRow, standIns := [], harness := (true, "42c5c9a293a1d67662a4f1fda4c9e1c59618d83a311accec3c30746335a666ee"), looks := true }, kinds := [], alts := [], laidByText := true, laidKinds := [.listed, .data], laidTests := true, laidLooks := .later }
def RunFieldsCardSaid : Prop := Claim7.holds Tryz.pinned (.plain (OpenSpec.ofChange runFieldsSpec)) runFieldsCard

/-- THE TIED CARD OF 'gneisslaw25.RunRecursion'. -/
def runRecursionCard : Claim7 := { stood := { row := runRecursionRow, standIns := [], harness := (true, "42c5c9a293a1d67662a4f1fda4c9e1c59618d83a311accec3c30746335a666ee"), looks := true }, kinds := [], alts := [], laidByText := true, laidKinds := [.listed, .data], laidTests := true, laidLooks := .later }
def RunRecursionCardSaid : Prop := Claim7.holds Tryz.pinned (.plain (OpenSpec.ofChange runRecursionSpec)) runRecursionCard

/-- THE TIED CARD OF 'gneisslaw25.RunVirtuals'. -/
def runVirtualsCard : Claim7 := { stood := { row := runVirtualsRow, standIns := [], harness := (true, "42c5c9a293a1d67662a4f1fda4c9e1c59618d83a311accec3c30746335a666ee"), looks := true }, kinds := [], alts := [], laidByText := true, laidKinds := [.listed, .data], laidTests := true, laidLooks := .later }
def RunVirtualsCardSaid : Prop := Claim7.holds Tryz.pinned (.plain (OpenSpec.ofChange runVirtualsSpec)) runVirtualsCard

/-- THE TIED CARD OF 'gneisslaw25.RunCasts'. -/
def runCastsCard : Claim7 := { stood := { row := runCastsRow, standIns := [], harness := (true, "42c5c9a293a1d67662a4f1fda4c9e1c59618d83a311accec3c30746335a666ee"), looks := true }, kinds := [], alts := [], laidByText := true, laidKinds := [.listed, .data], laidTests := true, laidLooks := .later }
def RunCastsCardSaid : Prop := Claim7.holds Tryz.pinned (.plain (OpenSpec.ofChange runCastsSpec)) runCastsCard

/-- THE TIED CARD OF 'gneisslaw25.RunHandlers'. -/
def runHandlersCard : Claim7 := { stood := { row := runHandlersRow, standIns := [], harness := (true, "42c5c9a293a1d67662a4f1fda4c9e1c59618d83a311accec3c30746335a666ee"), looks := true }, kinds := [], alts := [], laidByText := true, laidKinds := [.listed, .data], laidTests := true, laidLooks := .later }
def RunHandlersCardSaid : Prop := Claim7.holds Tryz.pinned (.plain (OpenSpec.ofChange runHandlersSpec)) runHandlersCard

/-- THE TIED CARD OF 'gneisslaw25.RunCallers'. -/
def runCallersCard : Claim7 := { stood := { row := runCallersRow, standIns := [], harness := (true, "42c5c9a293a1d67662a4f1fda4c9e1c59618d83a311accec3c30746335a666ee"), looks := true }, kinds := [], alts := [], laidByText := true, laidKinds := [.listed, .data], laidTests := true, laidLooks := .later }
def RunCallersCardSaid : Prop := Claim7.holds Tryz.pinned (.plain (OpenSpec.ofChange runCallersSpec)) runCallersCard

/-- THE TIED CARD OF 'gneisslaw25.RunMonitors'. -/
def runMonitorsCard : Claim7 := { stood := { row := runMonitorsRow, standIns := [], harness := (true, "42c5c9a293a1d67662a4f1fda4c9e1c59618d83a311accec3c30746335a666ee"), looks := true }, kinds := [], alts := [], laidByText := true, laidKinds := [.listed, .data], laidTests := true, laidLooks := .later }
def RunMonitorsCardSaid : Prop := Claim7.holds Tryz.pinned (.plain (OpenSpec.ofChange runMonitorsSpec)) runMonitorsCard

/-- THE TIED CARD OF 'gneisslaw25.RunStarts'. -/
def runStartsCard : Claim7 := { stood := { row := runStartsRow, standIns := [], harness := (true, "42c5c9a293a1d67662a4f1fda4c9e1c59618d83a311accec3c30746335a666ee"), looks := true }, kinds := [], alts := [], laidByText := true, laidKinds := [.listed, .data], laidTests := true, laidLooks := .later }
def RunStartsCardSaid : Prop := Claim7.holds Tryz.pinned (.plain (OpenSpec.ofChange runStartsSpec)) runStartsCard

/-- THE SECOND FORM's CARD OF 'gneisslaw25.RunStacks'. -/
def runStacksUptoCard : Claim7 := { stood := { row := runStacksUptoRow, standIns := [], harness := (true, "42c5c9a293a1d67662a4f1fda4c9e1c59618d83a311accec3c30746335a666ee"), looks := true }, kinds := [], alts := [], laidByText := true, laidKinds := [.listed, .data], laidTests := true, laidLooks := .later }
def RunStacksUptoCardSaid : Prop := Claim7.holds Tryz.pinned (.plain (OpenSpec.upto runStacksSpec)) runStacksUptoCard

/-- THE SECOND FORM's CARD OF 'gneisslaw25.RunLocals'. -/
def runLocalsUptoCard : Claim7 := { stood := { row := runLocalsUptoRow, standIns := [], harness := (true, "42c5c9a293a1d67662a4f1fda4c9e1c59618d83a311accec3c30746335a666ee"), looks := true }, kinds := [], alts := [], laidByText := true, laidKinds := [.listed, .data], laidTests := true, laidLooks := .later }
def RunLocalsUptoCardSaid : Prop := Claim7.holds Tryz.pinned (.plain (OpenSpec.upto runLocalsSpec)) runLocalsUptoCard

/-- THE SECOND FORM's CARD OF 'gneisslaw25.RunJumps'. -/
def runJumpsUptoCard : Claim7 := { stood := { row := runJumpsUptoRow, standIns := [], harness := (true, "42c5c9a293a1d67662a4f1fda4c9e1c59618d83a311accec3c30746335a666ee"), looks := true }, kinds := [], alts := [], laidByText := true, laidKinds := [.listed, .data], laidTests := true, laidLooks := .later }
def RunJumpsUptoCardSaid : Prop := Claim7.holds Tryz.pinned (.plain (OpenSpec.upto runJumpsSpec)) runJumpsUptoCard

/-- THE SECOND FORM's CARD OF 'gneisslaw25.RunRefs'. -/
def runRefsUptoCard : Claim7 := { stood := { row := runRefsUptoRow, standIns := [], harness := (true, "42c5c9a293a1d67662a4f1fda4c9e1c59618d83a311accec3c30746335a666ee"), looks := true }, kinds := [], alts := [], laidByText := true, laidKinds := [.listed, .data], laidTests := true, laidLooks := .later }
def RunRefsUptoCardSaid : Prop := Claim7.holds Tryz.pinned (.plain (OpenSpec.upto runRefsSpec)) runRefsUptoCard

/-- THE SECOND FORM's CARD OF 'gneisslaw25.RunFields'. -/
def runFieldsUptoCard : Claim7 := { stood := { row := runFieldsUptoRow, standIns := [], harness := (true, "42c5c9a293a1d67662a4f1fda4c9e1c59618d83a311accec3c30746335a666ee"), looks := true }, kinds := [], alts := [], laidByText := true, laidKinds := [.listed, .data], laidTests := true, laidLooks := .later }
def RunFieldsUptoCardSaid : Prop := Claim7.holds Tryz.pinned (.plain (OpenSpec.upto runFieldsSpec)) runFieldsUptoCard

/-- THE SECOND FORM's CARD OF 'gneisslaw25.RunRecursion'. -/
def runRecursionUptoCard : Claim7 := { stood := { row := runRecursionUptoRow, standIns := [], harness := (true, "42c5c9a293a1d67662a4f1fda4c9e1c59618d83a311accec3c30746335a666ee"), looks := true }, kinds := [], alts := [], laidByText := true, laidKinds := [.listed, .data], laidTests := true, laidLooks := .later }
def RunRecursionUptoCardSaid : Prop := Claim7.holds Tryz.pinned (.plain (OpenSpec.upto runRecursionSpec)) runRecursionUptoCard

/-- THE SECOND FORM's CARD OF 'gneisslaw25.RunVirtuals'. -/
def runVirtualsUptoCard : Claim7 := { stood := { row := runVirtualsUptoRow, standIns := [], harness := (true, "42c5c9a293a1d67662a4f1fda4c9e1c59618d83a311accec3c30746335a666ee"), looks := true }, kinds := [], alts := [], laidByText := true, laidKinds := [.listed, .data], laidTests := true, laidLooks := .later }
def RunVirtualsUptoCardSaid : Prop := Claim7.holds Tryz.pinned (.plain (OpenSpec.upto runVirtualsSpec)) runVirtualsUptoCard

/-- THE SECOND FORM's CARD OF 'gneisslaw25.RunCasts'. -/
def runCastsUptoCard : Claim7 := { stood := { row := runCastsUptoRow, standIns := [], harness := (true, "42c5c9a293a1d67662a4f1fda4c9e1c59618d83a311accec3c30746335a666ee"), looks := true }, kinds := [], alts := [], laidByText := true, laidKinds := [.listed, .data], laidTests := true, laidLooks := .later }
def RunCastsUptoCardSaid : Prop := Claim7.holds Tryz.pinned (.plain (OpenSpec.upto runCastsSpec)) runCastsUptoCard

/-- THE SECOND FORM's CARD OF 'gneisslaw25.RunHandlers'. -/
def runHandlersUptoCard : Claim7 := { stood := { row := runHandlersUptoRow, standIns := [], harness := (true, "42c5c9a293a1d67662a4f1fda4c9e1c59618d83a311accec3c30746335a666ee"), looks := true }, kinds := [], alts := [], laidByText := true, laidKinds := [.listed, .data], laidTests := true, laidLooks := .later }
def RunHandlersUptoCardSaid : Prop := Claim7.holds Tryz.pinned (.plain (OpenSpec.upto runHandlersSpec)) runHandlersUptoCard

/-- THE SECOND FORM's CARD OF 'gneisslaw25.RunCallers'. -/
def runCallersUptoCard : Claim7 := { stood := { row := runCallersUptoRow, standIns := [], harness := (true, "42c5c9a293a1d67662a4f1fda4c9e1c59618d83a311accec3c30746335a666ee"), looks := true }, kinds := [], alts := [], laidByText := true, laidKinds := [.listed, .data], laidTests := true, laidLooks := .later }
def RunCallersUptoCardSaid : Prop := Claim7.holds Tryz.pinned (.plain (OpenSpec.upto runCallersSpec)) runCallersUptoCard

/-- THE SECOND FORM's CARD OF 'gneisslaw25.RunMonitors'. -/
def runMonitorsUptoCard : Claim7 := { stood := { row := runMonitorsUptoRow, standIns := [], harness := (true, "42c5c9a293a1d67662a4f1fda4c9e1c59618d83a311accec3c30746335a666ee"), looks := true }, kinds := [], alts := [], laidByText := true, laidKinds := [.listed, .data], laidTests := true, laidLooks := .later }
def RunMonitorsUptoCardSaid : Prop := Claim7.holds Tryz.pinned (.plain (OpenSpec.upto runMonitorsSpec)) runMonitorsUptoCard

/-- THE SECOND FORM's CARD OF 'gneisslaw25.RunStarts'. -/
def runStartsUptoCard : Claim7 := { stood := { row := runStartsUptoRow, standIns := [], harness := (true, "42c5c9a293a1d67662a4f1fda4c9e1c59618d83a311accec3c30746335a666ee"), looks := true }, kinds := [], alts := [], laidByText := true, laidKinds := [.listed, .data], laidTests := true, laidLooks := .later }
def RunStartsUptoCardSaid : Prop := Claim7.holds Tryz.pinned (.plain (OpenSpec.upto runStartsSpec)) runStartsUptoCard
end Rows
end Go.Proofs.YtmjccopjophgjaaGreatDoor

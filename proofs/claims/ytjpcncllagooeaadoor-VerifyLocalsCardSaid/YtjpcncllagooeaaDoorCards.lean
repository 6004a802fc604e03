/-
  DERIVED. GIVEN WITH THE SEED: THE CARDS: each row of YtjpcncllagooeaaDoorRows.lean that lists a variable, with what it lists TIED to the program's text (the seventh form; the later family's looks); each row that meets fmt, with fmt's text TOLD by the authors' own Lean function (tested against real Go, not proved from fmt's source: count such statements apart). THE CARD IS WHAT COUNTS. Prove the row's statement (the work); the ties are given (YtjpcncllagooeaaDoorTie.lean); close each card by the builder's one call (the guide's Derived/Test/ToyasCard.lean, 'card_holds'). Laid BY PROGRAM, IN A SANDBOX (cutbox-door.mjs). By AI agents, Wed Nov 11 2026. No macro, syntax, notation, axiom, sorry.
-/
import Derived.Test.YtjpcncllagooeaaDoorRows
import GoSem.ClaimSeven
namespace Go.Proofs.YtjpcncllagooeaaDoor
namespace Rows

/-- THE TIED CARD OF 'gneisslaw18.VerifyStacks'. -/
def verifyStacksCard : Claim7 := { stood := { row := verifyStacksRow, standIns := [], harness := (true, "723e1c8e6aae577151c2eb82f9142ce590763f8481064b04f69042648b11b070"), looks := true }, kinds := [], alts := [], laidByText := true, laidKinds := [.listed, .data], laidTests := true, laidLooks := .later }
def VerifyStacksCardSaid : Prop := Claim7.holds Tryd.pinned (.plain (OpenSpec.ofChange verifyStacksSpec)) verifyStacksCard

/-- THE TIED CARD OF 'gneisslaw18.VerifyLocals'. -/
def verifyLocalsCard : Claim7 := { stood := { row := verifyLocalsRow, standIns := [], harness := (true, "723e1c8e6aae577151c2eb82f9142ce590763f8481064b04f69042648b11b070"), looks := true }, kinds := [], alts := [], laidByText := true, laidKinds := [.listed, .data], laidTests := true, laidLooks := .later }
def VerifyLocalsCardSaid : Prop := Claim7.holds Tryd.pinned (.plain (OpenSpec.ofChange verifyLocalsSpec)) verifyLocalsCard

/-- THE TIED CARD OF 'gneisslaw18.VerifyTypes'. -/
def verifyTypesCard : Claim7 := { stood := { row := verifyTypesRow, standIns := [], harness := (true, "723e1c8e6aae577151c2eb82f9142ce590763f8481064b04f69042648b11b070"), looks := true }, kinds := [], alts := [], laidByText := true, laidKinds := [.listed, .data], laidTests := true, laidLooks := .later }
def VerifyTypesCardSaid : Prop := Claim7.holds Tryd.pinned (.plain (OpenSpec.ofChange verifyTypesSpec)) verifyTypesCard

/-- THE TIED CARD OF 'gneisslaw18.VerifyMaps'. -/
def verifyMapsCard : Claim7 := { stood := { row := verifyMapsRow, standIns := [], harness := (true, "723e1c8e6aae577151c2eb82f9142ce590763f8481064b04f69042648b11b070"), looks := true }, kinds := [], alts := [], laidByText := true, laidKinds := [.listed, .data], laidTests := true, laidLooks := .later }
def VerifyMapsCardSaid : Prop := Claim7.holds Tryd.pinned (.plain (OpenSpec.ofChange verifyMapsSpec)) verifyMapsCard

/-- THE TIED CARD OF 'gneisslaw18.VerifyEnds'. -/
def verifyEndsCard : Claim7 := { stood := { row := verifyEndsRow, standIns := [], harness := (true, "723e1c8e6aae577151c2eb82f9142ce590763f8481064b04f69042648b11b070"), looks := true }, kinds := [], alts := [], laidByText := true, laidKinds := [.listed, .data], laidTests := true, laidLooks := .later }
def VerifyEndsCardSaid : Prop := Claim7.holds Tryd.pinned (.plain (OpenSpec.ofChange verifyEndsSpec)) verifyEndsCard

/-- THE TIED CARD OF 'gneisslaw18.VerifyForms'. -/
def verifyFormsCard : Claim7 := { stood := { row := verifyFormsRow, standIns := [], harness := (true, "723e1c8e6aae577151c2eb82f9142ce590763f8481064b04f69042648b11b070"), looks := true }, kinds := [], alts := [], laidByText := true, laidKinds := [.listed, .data], laidTests := true, laidLooks := .later }
def VerifyFormsCardSaid : Prop := Claim7.holds Tryd.pinned (.plain (OpenSpec.ofChange verifyFormsSpec)) verifyFormsCard

/-- THE TIED CARD OF 'gneisslaw18.VerifyTables'. -/
def verifyTablesCard : Claim7 := { stood := { row := verifyTablesRow, standIns := [], harness := (true, "723e1c8e6aae577151c2eb82f9142ce590763f8481064b04f69042648b11b070"), looks := true }, kinds := [], alts := [], laidByText := true, laidKinds := [.listed, .data], laidTests := true, laidLooks := .later }
def VerifyTablesCardSaid : Prop := Claim7.holds Tryd.pinned (.plain (OpenSpec.ofChange verifyTablesSpec)) verifyTablesCard

/-- THE TIED CARD OF 'gneisslaw18.VerifyReturns'. -/
def verifyReturnsCard : Claim7 := { stood := { row := verifyReturnsRow, standIns := [], harness := (true, "723e1c8e6aae577151c2eb82f9142ce590763f8481064b04f69042648b11b070"), looks := true }, kinds := [], alts := [], laidByText := true, laidKinds := [.listed, .data], laidTests := true, laidLooks := .later }
def VerifyReturnsCardSaid : Prop := Claim7.holds Tryd.pinned (.plain (OpenSpec.ofChange verifyReturnsSpec)) verifyReturnsCard

/-- THE TIED CARD OF 'gneisslaw18.VerifyCalls'. -/
def verifyCallsCard : Claim7 := { stood := { row := verifyCallsRow, standIns := [], harness := (true, "723e1c8e6aae577151c2eb82f9142ce590763f8481064b04f69042648b11b070"), looks := true }, kinds := [], alts := [], laidByText := true, laidKinds := [.listed, .data], laidTests := true, laidLooks := .later }
def VerifyCallsCardSaid : Prop := Claim7.holds Tryd.pinned (.plain (OpenSpec.ofChange verifyCallsSpec)) verifyCallsCard

/-- THE TIED CARD OF 'gneisslaw18.VerifyFields'. -/
def verifyFieldsCard : Claim7 := { stood := { row := verifyFieldsRow, standIns := [], harness := (true, "723e1c8e6aae577151c2eb82f9142ce590763f8481064b04f69042648b11b070"), looks := true }, kinds := [], alts := [], laidByText := true, laidKinds := [.listed, .data], laidTests := true, laidLooks := .later }
def VerifyFieldsCardSaid : Prop := Claim7.holds Tryd.pinned (.plain (OpenSpec.ofChange verifyFieldsSpec)) verifyFieldsCard

/-- THE TIED CARD OF 'gneisslaw18.VerifyPushes'. -/
def verifyPushesCard : Claim7 := { stood := { row := verifyPushesRow, standIns := [], harness := (true, "723e1c8e6aae577151c2eb82f9142ce590763f8481064b04f69042648b11b070"), looks := true }, kinds := [], alts := [], laidByText := true, laidKinds := [.listed, .data], laidTests := true, laidLooks := .later }
def VerifyPushesCardSaid : Prop := Claim7.holds Tryd.pinned (.plain (OpenSpec.ofChange verifyPushesSpec)) verifyPushesCard

/-- THE TIED CARD OF 'gneisslaw18.VerifyArrays'. -/
def verifyArraysCard : Claim7 := { stood := { row := verifyArraysRow, standIns := [], harness := (true, "723e1c8e6aae577151c2eb82f9142ce590763f8481064b04f69042648b11b070"), looks := true }, kinds := [], alts := [], laidByText := true, laidKinds := [.listed, .data], laidTests := true, laidLooks := .later }
def VerifyArraysCardSaid : Prop := Claim7.holds Tryd.pinned (.plain (OpenSpec.ofChange verifyArraysSpec)) verifyArraysCard

/-- THE TIED CARD OF 'gneisslaw18.VerifyCovers'. -/
def verifyCoversCard : Claim7 := { stood := { row := verifyCoversRow, standIns := [], harness := (true, "723e1c8e6aae577151c2eb82f9142ce590763f8481064b04f69042648b11b070"), looks := true }, kinds := [], alts := [], laidByText := true, laidKinds := [.listed, .data], laidTests := true, laidLooks := .later }
def VerifyCoversCardSaid : Prop := Claim7.holds Tryd.pinned (.plain (OpenSpec.ofChange verifyCoversSpec)) verifyCoversCard

/-- THE SECOND FORM's CARD OF 'gneisslaw18.VerifyStacks'. -/
def verifyStacksUptoCard : Claim7 := { stood := { row := verifyStacksUptoRow, standIns := [], harness := (true, "723e1c8e6aae577151c2eb82f9142ce590763f8481064b04f69042648b11b070"), looks := true }, kinds := [], alts := [], laidByText := true, laidKinds := [.listed, .data], laidTests := true, laidLooks := .later }
def VerifyStacksUptoCardSaid : Prop := Claim7.holds Tryd.pinned (.plain (OpenSpec.upto verifyStacksSpec)) verifyStacksUptoCard

/-- THE SECOND FORM's CARD OF 'gneisslaw18.VerifyLocals'. -/
def verifyLocalsUptoCard : Claim7 := { stood := { row := verifyLocalsUptoRow, standIns := [], harness := (true, "723e1c8e6aae577151c2eb82f9142ce590763f8481064b04f69042648b11b070"), looks := true }, kinds := [], alts := [], laidByText := true, laidKinds := [.listed, .data], laidTests := true, laidLooks := .later }
def VerifyLocalsUptoCardSaid : Prop := Claim7.holds Tryd.pinned (.plain (OpenSpec.upto verifyLocalsSpec)) verifyLocalsUptoCard

/-- THE SECOND FORM's CARD OF 'gneisslaw18.VerifyTypes'. -/
def verifyTypesUptoCard : Claim7 := { stood := { row := verifyTypesUptoRow, standIns := [], harness := (true, "723e1c8e6aae577151c2eb82f9142ce590763f8481064b04f69042648b11b070"), looks := true }, kinds := [], alts := [], laidByText := true, laidKinds := [.listed, .data], laidTests := true, laidLooks := .later }
def VerifyTypesUptoCardSaid : Prop := Claim7.holds Tryd.pinned (.plain (OpenSpec.upto verifyTypesSpec)) verifyTypesUptoCard

/-- THE SECOND FORM's CARD OF 'gneisslaw18.VerifyMaps'. -/
def verifyMapsUptoCard : Claim7 := { stood := { row := verifyMapsUptoRow, standIns := [], harness := (true, "723e1c8e6aae577151c2eb82f9142ce590763f8481064b04f69042648b11b070"), looks := true }, kinds := [], alts := [], laidByText := true, laidKinds := [.listed, .data], laidTests := true, laidLooks := .later }
def VerifyMapsUptoCardSaid : Prop := Claim7.holds Tryd.pinned (.plain (OpenSpec.upto verifyMapsSpec)) verifyMapsUptoCard

/-- THE SECOND FORM's CARD OF 'gneisslaw18.VerifyEnds'. -/
def verifyEndsUptoCard : Claim7 := { stood := { row := verifyEndsUptoRow, standIns := [], harness := (true, "723e1c8e6aae577151c2eb82f9142ce590763f8481064b04f69042648b11b070"), looks := true }, kinds := [], alts := [], laidByText := true, laidKinds := [.listed, .data], laidTests := true, laidLooks := .later }
def VerifyEndsUptoCardSaid : Prop := Claim7.holds Tryd.pinned (.plain (OpenSpec.upto verifyEndsSpec)) verifyEndsUptoCard

/-- THE SECOND FORM's CARD OF 'gneisslaw18.VerifyForms'. -/
def verifyFormsUptoCard : Claim7 := { stood := { row := verifyFormsUptoRow, standIns := [], harness := (true, "723e1c8e6aae577151c2eb82f9142ce590763f8481064b04f69042648b11b070"), looks := true }, kinds := [], alts := [], laidByText := true, laidKinds := [.listed, .data], laidTests := true, laidLooks := .later }
def VerifyFormsUptoCardSaid : Prop := Claim7.holds Tryd.pinned (.plain (OpenSpec.upto verifyFormsSpec)) verifyFormsUptoCard

/-- THE SECOND FORM's CARD OF 'gneisslaw18.VerifyTables'. -/
def verifyTablesUptoCard : Claim7 := { stood := { row := verifyTablesUptoRow, standIns := [], harness := (true, "723e1c8e6aae577151c2eb82f9142ce590763f8481064b04f69042648b11b070"), looks := true }, kinds := [], alts := [], laidByText := true, laidKinds := [.listed, .data], laidTests := true, laidLooks := .later }
def VerifyTablesUptoCardSaid : Prop := Claim7.holds Tryd.pinned (.plain (OpenSpec.upto verifyTablesSpec)) verifyTablesUptoCard

/-- THE SECOND FORM's CARD OF 'gneisslaw18.VerifyReturns'. -/
def verifyReturnsUptoCard : Claim7 := { stood := { row := verifyReturnsUptoRow, standIns := [], harness := (true, "723e1c8e6aae577151c2eb82f9142ce590763f8481064b04f69042648b11b070"), looks := true }, kinds := [], alts := [], laidByText := true, laidKinds := [.listed, .data], laidTests := true, laidLooks := .later }
def VerifyReturnsUptoCardSaid : Prop := Claim7.holds Tryd.pinned (.plain (OpenSpec.upto verifyReturnsSpec)) verifyReturnsUptoCard

/-- THE SECOND FORM's CARD OF 'gneisslaw18.VerifyCalls'. -/
def verifyCallsUptoCard : Claim7 := { stood := { row := verifyCallsUptoRow, standIns := [], harness := (true, "723e1c8e6aae577151c2eb82f9142ce590763f8481064b04f69042648b11b070"), looks := true }, kinds := [], alts := [], laidByText := true, laidKinds := [.listed, .data], laidTests := true, laidLooks := .later }
def VerifyCallsUptoCardSaid : Prop := Claim7.holds Tryd.pinned (.plain (OpenSpec.upto verifyCallsSpec)) verifyCallsUptoCard

/-- THE SECOND FORM's CARD OF 'gneisslaw18.VerifyFields'. -/
def verifyFieldsUptoCard : Claim7 := { stood := { row := verifyFieldsUptoRow, standIns := [], harness := (true, "723e1c8e6aae577151c2eb82f9142ce590763f8481064b04f69042648b11b070"), looks := true }, kinds := [], alts := [], laidByText := true, laidKinds := [.listed, .data], laidTests := true, laidLooks := .later }
def VerifyFieldsUptoCardSaid : Prop := Claim7.holds Tryd.pinned (.plain (OpenSpec.upto verifyFieldsSpec)) verifyFieldsUptoCard

/-- THE SECOND FORM's CARD OF 'gneisslaw18.VerifyPushes'. -/
def verifyPushesUptoCard : Claim7 := { stood := { row := verifyPushesUptoRow, standIns := [], harness := (true, "723e1c8e6aae577151c2eb82f9142ce590763f8481064b04f69042648b11b070"), looks := true }, kinds := [], alts := [], laidByText := true, laidKinds := [.listed, .data], laidTests := true, laidLooks := .later }
def VerifyPushesUptoCardSaid : Prop := Claim7.holds Tryd.pinned (.plain (OpenSpec.upto verifyPushesSpec)) verifyPushesUptoCard

/-- THE SECOND FORM's CARD OF 'gneisslaw18.VerifyArrays'. -/
def verifyArraysUptoCard : Claim7 := { stood := { row := verifyArraysUptoRow, standIns := [], harness := (true, "723e1c8e6aae577151c2eb82f9142ce590763f8481064b04f69042648b11b070"), looks := true }, kinds := [], alts := [], laidByText := true, laidKinds := [.listed, .data], laidTests := true, laidLooks := .later }
def VerifyArraysUptoCardSaid : Prop := Claim7.holds Tryd.pinned (.plain (OpenSpec.upto verifyArraysSpec)) verifyArraysUptoCard

/-- THE SECOND FORM's CARD OF 'gneisslaw18.VerifyCovers'. -/
def verifyCoversUptoCard : Claim7 := { stood := { row := verifyCoversUptoRow, standIns := [], harness := (true, "723e1c8e6aae577151c2eb82f9142ce590763f8481064b04f69042648b11b070"), looks := true }, kinds := [], alts := [], laidByText := true, laidKinds := [.listed, .data], laidTests := true, laidLooks := .later }
def VerifyCoversUptoCardSaid : Prop := Claim7.holds Tryd.pinned (.plain (OpenSpec.upto verifyCoversSpec)) verifyCoversUptoCard
end Rows
end Go.Proofs.YtjpcncllagooeaaDoor

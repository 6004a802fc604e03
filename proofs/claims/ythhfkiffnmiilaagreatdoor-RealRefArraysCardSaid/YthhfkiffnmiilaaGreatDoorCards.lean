/-
  DERIVED. GIVEN WITH THE SEED: THE CARDS: each row of YthhfkiffnmiilaaGreatDoorRows.lean that lists a variable, with what it lists TIED to the program's text (the seventh form; the later family's looks); each row that meets fmt, with fmt's text TOLD by the authors' own Lean function (tested against real Go, not proved from fmt's source: count such statements apart). THE CARD IS WHAT COUNTS. Prove the row's statement (the work); the ties are given (YthhfkiffnmiilaaGreatDoorTie.lean); close each card by the builder's one call (the guide's Derived/Test/ToyasCard.lean, 'card_holds'). Laid BY PROGRAM, IN A SANDBOX (cutbox-door.mjs). By AI agents, Wed Nov 11 2026. No macro, syntax, notation, axiom, sorry.
-/
import Derived.Test.YthhfkiffnmiilaaGreatDoorRows
import GoSem.ClaimSeven
namespace Go.Proofs.YthhfkiffnmiilaaGreatDoor
namespace Rows

/-- THE TIED CARD OF 'gneisslaw23.RealAsks'. -/
def realAsksCard : Claim7 := { stood := { row := realAsksRow, standIns := [], harness := (true, "2c7b8122bf9629d35cde12ff020b26732298799ede7d57cf691079540f7bcff5"), looks := true }, kinds := [], alts := [], laidByText := true, laidKinds := [.listed, .data], laidTests := true, laidLooks := .later }
def RealAsksCardSaid : Prop := Claim7.holds Tryz.pinned (.plain (OpenSpec.ofChange realAsksSpec)) realAsksCard

/-- THE TIED CARD OF 'gneisslaw23.RealAriths'. -/
def realArithsCard : Claim7 := { stood := { row := realArithsRow, standIns := [], harness := (true, "2c7b8122bf9629d35cde12ff020b26732298799ede7d57cf691079540f7bcff5"), looks := true }, kinds := [], alts := [], laidByText := true, laidKinds := [.listed, .data], laidTests := true, laidLooks := .later }
def RealArithsCardSaid : Prop := Claim7.holds Tryz.pinned (.plain (OpenSpec.ofChange realArithsSpec)) realArithsCard

/-- THE TIED CARD OF 'gneisslaw23.RealStacks'. -/
def realStacksCard : Claim7 := { stood := { row := realStacksRow, standIns := [], harness := (true, "2c7b8122bf9629d35cde12ff020b26732298799ede7d57cf691079540f7bcff5"), looks := true }, kinds := [], alts := [], laidByText := true, laidKinds := [.listed, .data], laidTests := true, laidLooks := .later }
def RealStacksCardSaid : Prop := Claim7.holds Tryz.pinned (.plain (OpenSpec.ofChange realStacksSpec)) realStacksCard

/-- THE TIED CARD OF 'gneisslaw23.RealLocals'. -/
def realLocalsCard : Claim7 := { stood := { row := realLocalsRow, standIns := [], harness := (true, "2c7b8122bf9629d35cde12ff020b26732298799ede7d57cf691079540f7bcff5"), looks := true }, kinds := [], alts := [], laidByText := true, laidKinds := [.listed, .data], laidTests := true, laidLooks := .later }
def RealLocalsCardSaid : Prop := Claim7.holds Tryz.pinned (.plain (OpenSpec.ofChange realLocalsSpec)) realLocalsCard

/-- THE TIED CARD OF 'gneisslaw23.RealJumps'. -/
def realJumpsCard : Claim7 := { stood := { row := realJumpsRow, standIns := [], harness := (true, "2c7b8122bf9629d35cde12ff020b26732298799ede7d57cf691079540f7bcff5"), looks := true }, kinds := [], alts := [], laidByText := true, laidKinds := [.listed, .data], laidTests := true, laidLooks := .later }
def RealJumpsCardSaid : Prop := Claim7.holds Tryz.pinned (.plain (OpenSpec.ofChange realJumpsSpec)) realJumpsCard

/-- THE TIED CARD OF 'gneisslaw23.RealFields'. -/
def realFieldsCard : Claim7 := { stood := { row := realFieldsRow, standIns := [], harness := (true, "2c7b8122bf9629d35cde12ff020b26732298799ede7d57cf691079540f7bcff5"), looks := true }, kinds := [], alts := [], laidByText := true, laidKinds := [.listed, .data], laidTests := true, laidLooks := .later }
def RealFieldsCardSaid : Prop := Claim7.holds Tryz.pinned (.plain (OpenSpec.ofChange realFieldsSpec)) realFieldsCard

/-- THE TIED CARD OF 'gneisslaw23.RealArrays'. -/
def realArraysCard : Claim7 := { stood := { row := realArraysRow, standIns := [], harness := (true, "2c7b8122bf9629d35cde12ff020b26732298799ede7d57cf691079540f7bcff5"), looks := true }, kinds := [], alts := [], laidByText := true, laidKinds := [.listed, .data], laidTests := true, laidLooks := .later }
def RealArraysCardSaid : Prop := Claim7.holds Tryz.pinned (.plain (OpenSpec.ofChange realArraysSpec)) realArraysCard

/-- THE TIED CARD OF 'gneisslaw23.RealRefArrays'. -/
def realRefArraysCard : Claim7 := { stood := { row := realRefArraysRow, standIns := [], harness := (true, "2c7b8122bf9629d35cde12ff020b26732298799ede7d57cf691079540f7bcff5"), looks := true }, kinds := [], alts := [], laidByText := true, laidKinds := [.listed, .data], laidTests := true, laidLooks := .later }
def RealRefArraysCardSaid : Prop := Claim7.holds Tryz.pinned (.plain (OpenSpec.ofChange realRefArraysSpec)) realRefArraysCard

/-- THE TIED CARD OF 'gneisslaw23.RealRecursion'. -/
def realRecursionCard : Claim7 := { stood := { row := realRecursionRow, standIns := [], harness := (true, "2c7b8122bf9629d35cde12ff020b26732298799ede7d57cf691079540f7bcff5"), looks := true }, kinds := [], alts := [], laidByText := true, laidKinds := [.listed, .data], laidTests := true, laidLooks := .later }
def RealRecursionCardSaid : Prop := Claim7.holds Tryz.pinned (.plain (OpenSpec.ofChange realRecursionSpec)) realRecursionCard

/-- THE TIED CARD OF 'gneisslaw23.RealMonitors'. -/
def realMonitorsCard : Claim7 := { stood := { row := realMonitorsRow, standIns := [], harness := (true, "2c7b8122bf9629d35cde12ff020b26732298799ede7d57cf691079540f7bcff5"), looks := true }, kinds := [], alts := [], laidByText := true, laidKinds := [.listed, .data], laidTests := true, laidLooks := .later }
def RealMonitorsCardSaid : Prop := Claim7.holds Tryz.pinned (.plain (OpenSpec.ofChange realMonitorsSpec)) realMonitorsCard

/-- THE TIED CARD OF 'gneisslaw23.RealReads'. -/
def realReadsCard : Claim7 := { stood := { row := realReadsRow, standIns := [], harness := (true, "2c7b8122bf9629d35cde12ff020b26732298799ede7d57cf691079540f7bcff5"), looks := true }, kinds := [], alts := [], laidByText := true, laidKinds := [.listed, .data], laidTests := true, laidLooks := .later }
def RealReadsCardSaid : Prop := Claim7.holds Tryz.pinned (.plain (OpenSpec.ofChange realReadsSpec)) realReadsCard

/-- THE SECOND FORM's CARD OF 'gneisslaw23.RealAsks'. -/
def realAsksUptoCard : Claim7 := { stood := { row := realAsksUptoRow, standIns := [], harness := (true, "2c7b8122bf9629d35cde12ff020b26732298799ede7d57cf691079540f7bcff5"), looks := true }, kinds := [], alts := [], laidByText := true, laidKinds := [.listed, .data], laidTests := true, laidLooks := .later }
def RealAsksUptoCardSaid : Prop := Claim7.holds Tryz.pinned (.plain (OpenSpec.upto realAsksSpec)) realAsksUptoCard

/-- THE SECOND FORM's CARD OF 'gneisslaw23.RealAriths'. -/
def realArithsUptoCard : Claim7 := { stood := { row := realArithsUptoRow, standIns := [], harness := (true, "2c7b8122bf9629d35cde12ff020b26732298799ede7d57cf691079540f7bcff5"), looks := true }, kinds := [], alts := [], laidByText := true, laidKinds := [.listed, .data], laidTests := true, laidLooks := .later }
def RealArithsUptoCardSaid : Prop := Claim7.holds Tryz.pinned (.plain (OpenSpec.upto realArithsSpec)) realArithsUptoCard

/-- THE SECOND FORM's CARD OF 'gneisslaw23.RealStacks'. -/
def realStacksUptoCard : Claim7 := { stood := { row := realStacksUptoRow, standIns := [], harness := (true, "2c7b8122bf9629d35cde12ff020b26732298799ede7d57cf691079540f7bcff5"), looks := true }, kinds := [], alts := [], laidByText := true, laidKinds := [.listed, .data], laidTests := true, laidLooks := .later }
def RealStacksUptoCardSaid : Prop := Claim7.holds Tryz.pinned (.plain (OpenSpec.upto realStacksSpec)) realStacksUptoCard

/-- THE SECOND FORM's CARD OF 'gneisslaw23.RealLocals'. -/
def realLocalsUptoCard : Claim7 := { stood := { row := realLocalsUptoRow, standIns := [], harness := (true, "2c7b8122bf9629d35cde12ff020b26732298799ede7d57cf691079540f7bcff5"), looks := true }, kinds := [], alts := [], laidByText := true, laidKinds := [.listed, .data], laidTests := true, laidLooks := .later }
def RealLocalsUptoCardSaid : Prop := Claim7.holds Tryz.pinned (.plain (OpenSpec.upto realLocalsSpec)) realLocalsUptoCard

/-- THE SECOND FORM's CARD OF 'gneisslaw23.RealJumps'. -/
def realJumpsUptoCard : Claim7 := { stood := { row := realJumpsUptoRow, standIns := [], harness := (true, "2c7b8122bf9629d35cde12ff020b26732298799ede7d57cf691079540f7bcff5"), looks := true }, kinds := [], alts := [], laidByText := true, laidKinds := [.listed, .data], laidTests := true, laidLooks := .later }
def RealJumpsUptoCardSaid : Prop := Claim7.holds Tryz.pinned (.plain (OpenSpec.upto realJumpsSpec)) realJumpsUptoCard

/-- THE SECOND FORM's CARD OF 'gneisslaw23.RealFields'. -/
def realFieldsUptoCard : Claim7 := { stood := { row := realFieldsUptoRow, standIns := [], harness := (true, "2c7b8122bf9629d35cde12ff020b26732298799ede7d57cf691079540f7bcff5"), looks := true }, kinds := [], alts := [], laidByText := true, laidKinds := [.listed, .data], laidTests := true, laidLooks := .later }
def RealFieldsUptoCardSaid : Prop := Claim7.holds Tryz.pinned (.plain (OpenSpec.upto realFieldsSpec)) realFieldsUptoCard

/-- THE SECOND FORM's CARD OF 'gneisslaw23.RealArrays'. -/
def realArraysUptoCard : Claim7 := { stood := { row := realArraysUptoRow, standIns := [], harness := (true, "2c7b8122bf9629d35cde12ff020b26732298799ede7d57cf691079540f7bcff5"), looks := true }, kinds := [], alts := [], laidByText := true, laidKinds := [.listed, .data], laidTests := true, laidLooks := .later }
def RealArraysUptoCardSaid : Prop := Claim7.holds Tryz.pinned (.plain (OpenSpec.upto realArraysSpec)) realArraysUptoCard

/-- THE SECOND FORM's CARD OF 'gneisslaw23.RealRefArrays'. -/
def realRefArraysUptoCard : Claim7 := { stood := { row := realRefArraysUptoRow, standIns := [], harness := (true, "2c7b8122bf9629d35cde12ff020b26732298799ede7d57cf691079540f7bcff5"), looks := true }, kinds := [], alts := [], laidByText := true, laidKinds := [.listed, .data], laidTests := true, laidLooks := .later }
def RealRefArraysUptoCardSaid : Prop := Claim7.holds Tryz.pinned (.plain (OpenSpec.upto realRefArraysSpec)) realRefArraysUptoCard

/-- THE SECOND FORM's CARD OF 'gneisslaw23.RealRecursion'. -/
def realRecursionUptoCard : Claim7 := { stood := { row := realRecursionUptoRow, standIns := [], harness := (true, "2c7b8122bf9629d35cde12ff020b26732298799ede7d57cf691079540f7bcff5"), looks := true }, kinds := [], alts := [], laidByText := true, laidKinds := [.listed, .data], laidTests := true, laidLooks := .later }
def RealRecursionUptoCardSaid : Prop := Claim7.holds Tryz.pinned (.plain (OpenSpec.upto realRecursionSpec)) realRecursionUptoCard

/-- THE SECOND FORM's CARD OF 'gneisslaw23.RealMonitors'. -/
def realMonitorsUptoCard : Claim7 := { stood := { row := realMonitorsUptoRow, standIns := [], harness := (true, "2c7b8122bf9629d35cde12ff020b26732298799ede7d57cf691079540f7bcff5"), looks := true }, kinds := [], alts := [], laidByText := true, laidKinds := [.listed, .data], laidTests := true, laidLooks := .later }
def RealMonitorsUptoCardSaid : Prop := Claim7.holds Tryz.pinned (.plain (OpenSpec.upto realMonitorsSpec)) realMonitorsUptoCard

/-- THE SECOND FORM's CARD OF 'gneisslaw23.RealReads'. -/
def realReadsUptoCard : Claim7 := { stood := { row := realReadsUptoRow, standIns := [], harness := (true, "2c7b8122bf9629d35cde12ff020b26732298799ede7d57cf691079540f7bcff5"), looks := true }, kinds := [], alts := [], laidByText := true, laidKinds := [.listed, .data], laidTests := true, laidLooks := .later }
def RealReadsUptoCardSaid : Prop := Claim7.holds Tryz.pinned (.plain (OpenSpec.upto realReadsSpec)) realReadsUptoCard
end Rows
end Go.Proofs.YthhfkiffnmiilaaGreatDoor

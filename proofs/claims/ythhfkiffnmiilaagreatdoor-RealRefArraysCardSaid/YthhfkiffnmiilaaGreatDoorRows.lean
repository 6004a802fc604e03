/-
  NARROWER THAN 'FOR EVERY INPUT', by the rows' own cells (each row's printed sentence says how): RealAsks: laid · RealAriths: laid · RealStacks: laid · RealLocals: laid · RealJumps: laid · RealFields: laid · RealArrays: laid · RealRefArrays: laid · RealRecursion: laid · RealMonitors: laid · RealReads: laid.
  DERIVED. THE GIVEN ROWS OF THIS SEAT. 11 by the template 'for every input the law returns true; each argument reads behind the call as it read before'; 0 by the template 'total and deterministic' (their statements: YthhfkiffnmiilaaGreatDoorTotals.lean).
  GIVEN WITH THE SEED: the statements are not yours to turn. If you find one false, say at which input.
  Laid BY PROGRAM, IN A SANDBOX (cutbox-rows.mjs): the forced cells as the released guide's own fill.sh prints them over the translation 0434af80f9e89ef0… (all of the seat's roots in one cut). By AI agents, Wed Nov 11 2026. No macro, syntax, notation, axiom, sorry.
-/
import Derived.Test.YthhfkiffnmiilaaGreatDoorChecked
import GoSem.Claim
import GoSem.ClaimJoined
import GoSem.ClaimMapViews
import Derived.JoinedTies
import Derived.KernelRfl
namespace Go.Proofs.YthhfkiffnmiilaaGreatDoor
/- THE CELL 'sum', in the pinned program and in every row, IS THE sha256 OF THE DUMP (.gsa) THAT YthhfkiffnmiilaaGreatDoorProg.lean LOADS. Nothing in Lean hashes anything: it is a label: what it is worth is what the hold of that sum in a sandbox is worth. -/
noncomputable def Tryz.pinned : Pinned := { name := "ythhfkiffnmiilaagreatdoor", sum := "0434af80f9e89ef09dd3589b094ef145b55f98a44e0660abce18266bfd94e52e", checked := Tryz.checked }
namespace Rows
def none {H : Type} : Left H := { results := [], args := [] }

/- WHAT THE LISTED PACKAGE-LEVEL VARIABLES READ AS WHEN THE CALL BEGINS. Each datum BY PROGRAM (the guide's laid-datum.mjs) off the statement by which the dump's own 'gosem.cut.vars' lays the variable. In a bare row this is a premise. The card (YthhfkiffnmiilaaGreatDoorCards.lean) ties it to the program's text. -/
def laid_unicode_White_Space {H : Type} : DataW H := .ptr (.agg [.slice [.agg [.lit (.int .u16 9), .lit (.int .u16 13), .lit (.int .u16 1)], .agg [.lit (.int .u16 32), .lit (.int .u16 133), .lit (.int .u16 101)], .agg [.lit (.int .u16 160), .lit (.int .u16 5760), .lit (.int .u16 5600)], .agg [.lit (.int .u16 8192), .lit (.int .u16 8202), .lit (.int .u16 1)], .agg [.lit (.int .u16 8232), .lit (.int .u16 8233), .lit (.int .u16 1)], .agg [.lit (.int .u16 8239), .lit (.int .u16 8287), .lit (.int .u16 48)], .agg [.lit (.int .u16 12288), .lit (.int .u16 12288), .lit (.int .u16 1)]] [], .nil, .lit (.int .i64 2)])
def laid_strings_asciiSpace {H : Type} : DataW H := .agg [.lit (.int .u8 0), .lit (.int .u8 0), .lit (.int .u8 0), .lit (.int .u8 0), .lit (.int .u8 0), .lit (.int .u8 0), .lit (.int .u8 0), .lit (.int .u8 0), .lit (.int .u8 0), .lit (.int .u8 1), .lit (.int .u8 1), .lit (.int .u8 1), .lit (.int .u8 1), .lit (.int .u8 1), .lit (.int .u8 0), .lit (.int .u8 0), .lit (.int .u8 0), .lit (.int .u8 0), .lit (.int .u8 0), .lit (.int .u8 0), .lit (.int .u8 0), .lit (.int .u8 0), .lit (.int .u8 0), .lit (.int .u8 0), .lit (.int .u8 0), .lit (.int .u8 0), .lit (.int .u8 0), .lit (.int .u8 0), .lit (.int .u8 0), .lit (.int .u8 0), .lit (.int .u8 0), .lit (.int .u8 0), .lit (.int .u8 1), .lit (.int .u8 0), .lit (.int .u8 0), .lit (.int .u8 0), .lit (.int .u8 0), .lit (.int .u8 0), .lit (.int .u8 0), .lit (.int .u8 0), .lit (.int .u8 0), .lit (.int .u8 0), .lit (.int .u8 0), .lit (.int .u8 0), .lit (.int .u8 0), .lit (.int .u8 0), .lit (.int .u8 0), .lit (.int .u8 0), .lit (.int .u8 0), .lit (.int .u8 0), .lit (.int .u8 0), .lit (.int .u8 0), .lit (.int .u8 0), .lit (.int .u8 0), .lit (.int .u8 0), .lit (.int .u8 0), .lit (.int .u8 0), .lit (.int .u8 0), .lit (.int .u8 0), .lit (.int .u8 0), .lit (.int .u8 0), .lit (.int .u8 0), .lit (.int .u8 0), .lit (.int .u8 0), .lit (.int .u8 0), .lit (.int .u8 0), .lit (.int .u8 0), .lit (.int .u8 0), .lit (.int .u8 0), .lit (.int .u8 0), .lit (.int .u8 0), .lit (.int .u8 0), .lit (.int .u8 0), .lit (.int .u8 0), .lit (.int .u8 0), .lit (.int .u8 0), .lit (.int .u8 0), .lit (.int .u8 0), .lit (.int .u8 0), .lit (.int .u8 0), .lit (.int .u8 0), .lit (.int .u8 0), .lit (.int .u8 0), .lit (.int .u8 0), .lit (.int .u8 0), .lit (.int .u8 0), .lit (.int .u8 0), .lit (.int .u8 0), .lit (.int .u8 0), .lit (.int .u8 0), .lit (.int .u8 0), .lit (.int .u8 0), .lit (.int .u8 0), .lit (.int .u8 0), .lit (.int .u8 0), .lit (.int .u8 0), .lit (.int .u8 0), .lit (.int .u8 0), .lit (.int .u8 0), .lit (.int .u8 0), .lit (.int .u8 0), .lit (.int .u8 0), .lit (.int .u8 0), .lit (.int .u8 0), .lit (.int .u8 0), .lit (.int .u8 0), .lit (.int .u8 0), .lit (.int .u8 0), .lit (.int .u8 0), .lit (.int .u8 0), .lit (.int .u8 0), .lit (.int .u8 0), .lit (.int .u8 0), .lit (.int .u8 0), .lit (.int .u8 0), .lit (.int .u8 0), .lit (.int .u8 0), .lit (.int .u8 0), .lit (.int .u8 0), .lit (.int .u8 0), .lit (.int .u8 0), .lit (.int .u8 0), .lit (.int .u8 0), .lit (.int .u8 0), .lit (.int .u8 0), .lit (.int .u8 0), .lit (.int .u8 0), .lit (.int .u8 0), .lit (.int .u8 0), .lit (.int .u8 0), .lit (.int .u8 0), .lit (.int .u8 0), .lit (.int .u8 0), .lit (.int .u8 0), .lit (.int .u8 0), .lit (.int .u8 0), .lit (.int .u8 0), .lit (.int .u8 0), .lit (.int .u8 0), .lit (.int .u8 0), .lit (.int .u8 0), .lit (.int .u8 0), .lit (.int .u8 0), .lit (.int .u8 0), .lit (.int .u8 0), .lit (.int .u8 0), .lit (.int .u8 0), .lit (.int .u8 0), .lit (.int .u8 0), .lit (.int .u8 0), .lit (.int .u8 0), .lit (.int .u8 0), .lit (.int .u8 0), .lit (.int .u8 0), .lit (.int .u8 0), .lit (.int .u8 0), .lit (.int .u8 0), .lit (.int .u8 0), .lit (.int .u8 0), .lit (.int .u8 0), .lit (.int .u8 0), .lit (.int .u8 0), .lit (.int .u8 0), .lit (.int .u8 0), .lit (.int .u8 0), .lit (.int .u8 0), .lit (.int .u8 0), .lit (.int .u8 0), .lit (.int .u8 0), .lit (.int .u8 0), .lit (.int .u8 0), .lit (.int .u8 0), .lit (.int .u8 0), .lit (.int .u8 0), .lit (.int .u8 0), .lit (.int .u8 0), .lit (.int .u8 0), .lit (.int .u8 0), .lit (.int .u8 0), .lit (.int .u8 0), .lit (.int .u8 0), .lit (.int .u8 0), .lit (.int .u8 0), .lit (.int .u8 0), .lit (.int .u8 0), .lit (.int .u8 0), .lit (.int .u8 0), .lit (.int .u8 0), .lit (.int .u8 0), .lit (.int .u8 0), .lit (.int .u8 0), .lit (.int .u8 0), .lit (.int .u8 0), .lit (.int .u8 0), .lit (.int .u8 0), .lit (.int .u8 0), .lit (.int .u8 0), .lit (.int .u8 0), .lit (.int .u8 0), .lit (.int .u8 0), .lit (.int .u8 0), .lit (.int .u8 0), .lit (.int .u8 0), .lit (.int .u8 0), .lit (.int .u8 0), .lit (.int .u8 0), .lit (.int .u8 0), .lit (.int .u8 0), .lit (.int .u8 0), .lit (.int .u8 0), .lit (.int .u8 0), .lit (.int .u8 0), .lit (.int .u8 0), .lit (.int .u8 0), .lit (.int .u8 0), .lit (.int .u8 0), .lit (.int .u8 0), .lit (.int .u8 0), .lit (.int .u8 0), .lit (.int .u8 0), .lit (.int .u8 0), .lit (.int .u8 0), .lit (.int .u8 0), .lit (.int .u8 0), .lit (.int .u8 0), .lit (.int .u8 0), .lit (.int .u8 0), .lit (.int .u8 0), .lit (.int .u8 0), .lit (.int .u8 0), .lit (.int .u8 0), .lit (.int .u8 0), .lit (.int .u8 0), .lit (.int .u8 0), .lit (.int .u8 0), .lit (.int .u8 0), .lit (.int .u8 0), .lit (.int .u8 0), .lit (.int .u8 0), .lit (.int .u8 0), .lit (.int .u8 0), .lit (.int .u8 0), .lit (.int .u8 0), .lit (.int .u8 0), .lit (.int .u8 0), .lit (.int .u8 0), .lit (.int .u8 0), .lit (.int .u8 0), .lit (.int .u8 0), .lit (.int .u8 0), .lit (.int .u8 0), .lit (.int .u8 0), .lit (.int .u8 0), .lit (.int .u8 0), .lit (.int .u8 0), .lit (.int .u8 0)]

/-- 'gneisslaw23.RealAsks': WHATEVER THE INPUT: true; the input reads as it did. -/
def realAsksSpec : ChangeSpec := { name := "realAsks", fn := fun _ => fun
  | [d1, d2] => { results := [.lit (.bool true)], args := [d1, d2] }
  | _ => none }
def realAsksRow : OpenClaim := { program := "ythhfkiffnmiilaagreatdoor", sum := "0434af80f9e89ef09dd3589b094ef145b55f98a44e0660abce18266bfd94e52e", func := "gneiss/gneisslaw23.RealAsks", spec := "realAsks", unfollowed := true, recurses := true, named := ["strings.asciiSpace", "unicode.White_Space"], plainKeys := false, apart := false, laid := [("unicode.White_Space", laid_unicode_White_Space), ("strings.asciiSpace", laid_strings_asciiSpace)] }
def RealAsksSaid : Prop := realAsksRow.holds Tryz.pinned (OpenSpec.ofChange realAsksSpec)

/-- ITS FALSE NEIGHBOUR: 'it returns false'. Refute it at one input. -/
def realAsksWrong : ChangeSpec := { name := "realAsks", fn := fun _ => fun
  | [d1, d2] => { results := [.lit (.bool false)], args := [d1, d2] }
  | _ => none }
def RealAsksWrongFalsely : Prop := realAsksRow.holds Tryz.pinned (OpenSpec.ofChange realAsksWrong)

/-- 'gneisslaw23.RealAriths': WHATEVER THE INPUT: true; the input reads as it did. -/
def realArithsSpec : ChangeSpec := { name := "realAriths", fn := fun _ => fun
  | [d1, d2, d3] => { results := [.lit (.bool true)], args := [d1, d2, d3] }
  | _ => none }
def realArithsRow : OpenClaim := { program := "ythhfkiffnmiilaagreatdoor", sum := "0434af80f9e89ef09dd3589b094ef145b55f98a44e0660abce18266bfd94e52e", func := "gneiss/gneisslaw23.RealAriths", spec := "realAriths", unfollowed := true, recurses := true, named := ["strings.asciiSpace", "unicode.White_Space"], plainKeys := false, apart := false, laid := [("unicode.White_Space", laid_unicode_White_Space), ("strings.asciiSpace", laid_strings_asciiSpace)] }
def RealArithsSaid : Prop := realArithsRow.holds Tryz.pinned (OpenSpec.ofChange realArithsSpec)

/-- ITS FALSE NEIGHBOUR: 'it returns false'. Refute it at one input. -/
def realArithsWrong : ChangeSpec := { name := "realAriths", fn := fun _ => fun
  | [d1, d2, d3] => { results := [.lit (.bool false)], args := [d1, d2, d3] }
  | _ => none }
def RealArithsWrongFalsely : Prop := realArithsRow.holds Tryz.pinned (OpenSpec.ofChange realArithsWrong)

/-- 'gneisslaw23.RealStacks': WHATEVER THE INPUT: true; the input reads as it did. -/
def realStacksSpec : ChangeSpec := { name := "realStacks", fn := fun _ => fun
  | [d1, d2] => { results := [.lit (.bool true)], args := [d1, d2] }
  | _ => none }
def realStacksRow : OpenClaim := { program := "ythhfkiffnmiilaagreatdoor", sum := "0434af80f9e89ef09dd3589b094ef145b55f98a44e0660abce18266bfd94e52e", func := "gneiss/gneisslaw23.RealStacks", spec := "realStacks", unfollowed := true, recurses := true, named := ["strings.asciiSpace", "unicode.White_Space"], plainKeys := false, apart := false, laid := [("unicode.White_Space", laid_unicode_White_Space), ("strings.asciiSpace", laid_strings_asciiSpace)] }
def RealStacksSaid : Prop := realStacksRow.holds Tryz.pinned (OpenSpec.ofChange realStacksSpec)

/-- ITS FALSE NEIGHBOUR: 'it returns false'. Refute it at one input. -/
def realStacksWrong : ChangeSpec := { name := "realStacks", fn := fun _ => fun
  | [d1, d2] => { results := [.lit (.bool false)], args := [d1, d2] }
  | _ => none }
def RealStacksWrongFalsely : Prop := realStacksRow.holds Tryz.pinned (OpenSpec.ofChange realStacksWrong)

/-- 'gneisslaw23.RealLocals': WHATEVER THE INPUT: true; the input reads as it did. -/
def realLocalsSpec : ChangeSpec := { name := "realLocals", fn := fun _ => fun
  | [d1, d2] => { results := [.lit (.bool true)], args := [d1, d2] }
  | _ => none }
def realLocalsRow : OpenClaim := { program := "ythhfkiffnmiilaagreatdoor", sum := "0434af80f9e89ef09dd3589b094ef145b55f98a44e0660abce18266bfd94e52e", func := "gneiss/gneisslaw23.RealLocals", spec := "realLocals", unfollowed := true, recurses := true, named := ["strings.asciiSpace", "unicode.White_Space"], plainKeys := false, apart := false, laid := [("unicode.White_Space", laid_unicode_White_Space), ("strings.asciiSpace", laid_strings_asciiSpace)] }
def RealLocalsSaid : Prop := realLocalsRow.holds Tryz.pinned (OpenSpec.ofChange realLocalsSpec)

/-- ITS FALSE NEIGHBOUR: 'it returns false'. Refute it at one input. -/
def realLocalsWrong : ChangeSpec := { name := "realLocals", fn := fun _ => fun
  | [d1, d2] => { results := [.lit (.bool false)], args := [d1, d2] }
  | _ => none }
def RealLocalsWrongFalsely : Prop := realLocalsRow.holds Tryz.pinned (OpenSpec.ofChange realLocalsWrong)

/-- 'gneisslaw23.RealJumps': WHATEVER THE INPUT: true; the input reads as it did. -/
def realJumpsSpec : ChangeSpec := { name := "realJumps", fn := fun _ => fun
  | [d1, d2] => { results := [.lit (.bool true)], args := [d1, d2] }
  | _ => none }
def realJumpsRow : OpenClaim := { program := "ythhfkiffnmiilaagreatdoor", sum := "0434af80f9e89ef09dd3589b094ef145b55f98a44e0660abce18266bfd94e52e", func := "gneiss/gneisslaw23.RealJumps", spec := "realJumps", unfollowed := true, recurses := true, named := ["strings.asciiSpace", "unicode.White_Space"], plainKeys := false, apart := false, laid := [("unicode.White_Space", laid_unicode_White_Space), ("strings.asciiSpace", laid_strings_asciiSpace)] }
def RealJumpsSaid : Prop := realJumpsRow.holds Tryz.pinned (OpenSpec.ofChange realJumpsSpec)

/-- ITS FALSE NEIGHBOUR: 'it returns false'. Refute it at one input. -/
def realJumpsWrong : ChangeSpec := { name := "realJumps", fn := fun _ => fun
  | [d1, d2] => { results := [.lit (.bool false)], args := [d1, d2] }
  | _ => none }
def RealJumpsWrongFalsely : Prop := realJumpsRow.holds Tryz.pinned (OpenSpec.ofChange realJumpsWrong)

/-- 'gneisslaw23.RealFields': WHATEVER THE INPUT: true; the input reads as it did. -/
def realFieldsSpec : ChangeSpec := { name := "realFields", fn := fun _ => fun
  | [d] => { results := [.lit (.bool true)], args := [d] }
  | _ => none }
def realFieldsRow : OpenClaim := { program := "ythhfkiffnmiilaagreatdoor", sum := "0434af80f9e89ef09dd3589b094ef145b55f98a44e0660abce18266bfd94e52e", func := "gneiss/gneisslaw23.RealFields", spec := "realFields", unfollowed := true, recurses := true, named := ["strings.asciiSpace", "unicode.White_Space"], plainKeys := false, apart := false, laid := [("unicode.White_Space", laid_unicode_White_Space), ("strings.asciiSpace", laid_strings_asciiSpace)] }
def RealFieldsSaid : Prop := realFieldsRow.holds Tryz.pinned (OpenSpec.ofChange realFieldsSpec)

/-- ITS FALSE NEIGHBOUR: 'it returns false'. Refute it at one input. -/
def realFieldsWrong : ChangeSpec := { name := "realFields", fn := fun _ => fun
  | [d] => { results := [.lit (.bool false)], args := [d] }
  | _ => none }
def RealFieldsWrongFalsely : Prop := realFieldsRow.holds Tryz.pinned (OpenSpec.ofChange realFieldsWrong)

/-- 'gneisslaw23.RealArrays': WHATEVER THE INPUT: true; the input reads as it did. -/
def realArraysSpec : ChangeSpec := { name := "realArrays", fn := fun _ => fun
  | [d1, d2, d3] => { results := [.lit (.bool true)], args := [d1, d2, d3] }
  | _ => none }
def realArraysRow : OpenClaim := { program := "ythhfkiffnmiilaagreatdoor", sum := "0434af80f9e89ef09dd3589b094ef145b55f98a44e0660abce18266bfd94e52e", func := "gneiss/gneisslaw23.RealArrays", spec := "realArrays", unfollowed := true, recurses := true, named := ["strings.asciiSpace", "unicode.White_Space"], plainKeys := false, apart := false, laid := [("unicode.White_Space", laid_unicode_White_Space), ("strings.asciiSpace", laid_strings_asciiSpace)] }
def RealArraysSaid : Prop := realArraysRow.holds Tryz.pinned (OpenSpec.ofChange realArraysSpec)

/-- ITS FALSE NEIGHBOUR: 'it returns false'. Refute it at one input. -/
def realArraysWrong : ChangeSpec := { name := "realArrays", fn := fun _ => fun
  | [d1, d2, d3] => { results := [.lit (.bool false)], args := [d1, d2, d3] }
  | _ => none }
def RealArraysWrongFalsely : Prop := realArraysRow.holds Tryz.pinned (OpenSpec.ofChange realArraysWrong)

/-- 'gneisslaw23.RealRefArrays': WHATEVER THE INPUT: true; the input reads as it did. -/
def realRefArraysSpec : ChangeSpec := { name := "realRefArrays", fn := fun _ => fun
  | [d1, d2] => { results := [.lit (.bool true)], args := [d1, d2] }
  | _ => none }
def realRefArraysRow : OpenClaim := { program := "ythhfkiffnmiilaagreatdoor", sum := "0434af80f9e89ef09dd3589b094ef145b55f98a44e0660abce18266bfd94e52e", func := "gneiss/gneisslaw23.RealRefArrays", spec := "realRefArrays", unfollowed := true, recurses := true, named := ["strings.asciiSpace", "unicode.White_Space"], plainKeys := false, apart := false, laid := [("unicode.White_Space", laid_unicode_White_Space), ("strings.asciiSpace", laid_strings_asciiSpace)] }
def RealRefArraysSaid : Prop := realRefArraysRow.holds Tryz.pinned (OpenSpec.ofChange realRefArraysSpec)

/-- ITS FALSE NEIGHBOUR: 'it returns false'. Refute it at one input. -/
def realRefArraysWrong : ChangeSpec := { name := "realRefArrays", fn := fun _ => fun
  | [d1, d2] => { results := [.lit (.bool false)], args := [d1, d2] }
  | _ => none }
def RealRefArraysWrongFalsely : Prop := realRefArraysRow.holds Tryz.pinned (OpenSpec.ofChange realRefArraysWrong)

/-- 'gneisslaw23.RealRecursion': WHATEVER THE INPUT: true; the input reads as it did. -/
def realRecursionSpec : ChangeSpec := { name := "realRecursion", fn := fun _ => fun
  | [d] => { results := [.lit (.bool true)], args := [d] }
  | _ => none }
def realRecursionRow : OpenClaim := { program := "ythhfkiffnmiilaagreatdoor", sum := "0434af80f9e89ef09dd3589b094ef145b55f98a44e0660abce18266bfd94e52e", func := "gneiss/gneisslaw23.RealRecursion", spec := "realRecursion", unfollowed := true, recurses := true, named := ["strings.asciiSpace", "unicode.White_Space"], plainKeys := false, apart := false, laid := [("unicode.White_Space", laid_unicode_White_Space), ("strings.asciiSpace", laid_strings_asciiSpace)] }
def RealRecursionSaid : Prop := realRecursionRow.holds Tryz.pinned (OpenSpec.ofChange realRecursionSpec)

/-- ITS FALSE NEIGHBOUR: 'it returns false'. Refute it at one input. -/
def realRecursionWrong : ChangeSpec := { name := "realRecursion", fn := fun _ => fun
  | [d] => { results := [.lit (.bool false)], args := [d] }
  | _ => none }
def RealRecursionWrongFalsely : Prop := realRecursionRow.holds Tryz.pinned (OpenSpec.ofChange realRecursionWrong)

/-- 'gneisslaw23.RealMonitors': WHATEVER THE INPUT: true; the input reads as it did. -/
def realMonitorsSpec : ChangeSpec := { name := "realMonitors", fn := fun _ => fun
  | [d1, d2] => { results := [.lit (.bool true)], args := [d1, d2] }
  | _ => none }
def realMonitorsRow : OpenClaim := { program := "ythhfkiffnmiilaagreatdoor", sum := "0434af80f9e89ef09dd3589b094ef145b55f98a44e0660abce18266bfd94e52e", func := "gneiss/gneisslaw23.RealMonitors", spec := "realMonitors", unfollowed := true, recurses := true, named := ["strings.asciiSpace", "unicode.White_Space"], plainKeys := false, apart := false, laid := [("unicode.White_Space", laid_unicode_White_Space), ("strings.asciiSpace", laid_strings_asciiSpace)] }
def RealMonitorsSaid : Prop := realMonitorsRow.holds Tryz.pinned (OpenSpec.ofChange realMonitorsSpec)

/-- ITS FALSE NEIGHBOUR: 'it returns false'. Refute it at one input. -/
def realMonitorsWrong : ChangeSpec := { name := "realMonitors", fn := fun _ => fun
  | [d1, d2] => { results := [.lit (.bool false)], args := [d1, d2] }
  | _ => none }
def RealMonitorsWrongFalsely : Prop := realMonitorsRow.holds Tryz.pinned (OpenSpec.ofChange realMonitorsWrong)

/-- 'gneisslaw23.RealReads': WHATEVER THE INPUT: true; the input reads as it did. -/
def realReadsSpec : ChangeSpec := { name := "realReads", fn := fun _ => fun
  | [d1, d2] => { results := [.lit (.bool true)], args := [d1, d2] }
  | _ => none }
def realReadsRow : OpenClaim := { program := "ythhfkiffnmiilaagreatdoor", sum := "0434af80f9e89ef09dd3589b094ef145b55f98a44e0660abce18266bfd94e52e", func := "gneiss/gneisslaw23.RealReads", spec := "realReads", unfollowed := true, recurses := true, named := ["strings.asciiSpace", "unicode.White_Space"], plainKeys := false, apart := false, laid := [("unicode.White_Space", laid_unicode_White_Space), ("strings.asciiSpace", laid_strings_asciiSpace)] }
def RealReadsSaid : Prop := realReadsRow.holds Tryz.pinned (OpenSpec.ofChange realReadsSpec)

/-- ITS FALSE NEIGHBOUR: 'it returns false'. Refute it at one input. -/
def realReadsWrong : ChangeSpec := { name := "realReads", fn := fun _ => fun
  | [d1, d2] => { results := [.lit (.bool false)], args := [d1, d2] }
  | _ => none }
def RealReadsWrongFalsely : Prop := realReadsRow.holds Tryz.pinned (OpenSpec.ofChange realReadsWrong)

/- THE SECOND FORM. 'bulk': how many values and letters a reading holds, each counted each time it is reached (what is shared counts as often as it is met; a slice's spare places count too). A statement '..UptoSaid' is the law's where the arguments, and the package variables that the reading takes, are together of bulk at most 1048576: NARROWER than '..Said'. Prove '..Said' where nothing that the law and all that it calls make is longer than what came in: it says more and counts as full. Else prove '..UptoSaid'. A law counts once. -/
mutual
def uptoBulk {H : Type} : DataW H → Nat
  | .lit (.string bytes) => bytes.length + 1
  | .lit _ => 1
  | .nil => 1
  | .ptr d => uptoBulk d + 1
  | .slice elems spare => uptoBulkAll elems + uptoBulkAll spare + 1
  | .agg parts => uptoBulkAll parts + 1
  | .iface _ d => uptoBulk d + 1
  | .map entries => uptoBulkEntries entries + 1
  | .held _ => 1
def uptoBulkAll {H : Type} : List (DataW H) → Nat
  | [] => 0
  | d :: r => uptoBulk d + uptoBulkAll r
def uptoBulkEntries {H : Type} : List (Lit × DataW H) → Nat
  | [] => 0
  | x :: r => uptoBulkEntry x + uptoBulkEntries r
def uptoBulkEntry {H : Type} : Lit × DataW H → Nat
  | (.string bytes, d) => bytes.length + uptoBulk d + 1
  | (_, d) => uptoBulk d + 1
 end
def uptoSmall : (H : Type) → List (DataW H) → Bool := fun _ ds => decide (uptoBulkAll ds ≤ 1048576)
def OpenSpec.upto (s : _root_.Go.ChangeSpec) : _root_.Go.OpenSpec := { _root_.Go.OpenSpec.ofChange s with cond := some uptoSmall }

/-- 'gneisslaw23.RealAsks', WHERE WHAT IT READS IS OF BULK AT MOST 1048576: true; the input reads as it did. -/
def realAsksUptoRow : OpenClaim := { program := "ythhfkiffnmiilaagreatdoor", sum := "0434af80f9e89ef09dd3589b094ef145b55f98a44e0660abce18266bfd94e52e", func := "gneiss/gneisslaw23.RealAsks", spec := "realAsks", unfollowed := true, recurses := true, named := ["strings.asciiSpace", "unicode.White_Space"], plainKeys := false, apart := false, laid := [("unicode.White_Space", laid_unicode_White_Space), ("strings.asciiSpace", laid_strings_asciiSpace)], narrowed := true }
def RealAsksUptoSaid : Prop := realAsksUptoRow.holds Tryz.pinned (OpenSpec.upto realAsksSpec)

/-- 'gneisslaw23.RealAriths', WHERE WHAT IT READS IS OF BULK AT MOST 1048576: true; the input reads as it did. -/
def realArithsUptoRow : OpenClaim := { program := "ythhfkiffnmiilaagreatdoor", sum := "0434af80f9e89ef09dd3589b094ef145b55f98a44e0660abce18266bfd94e52e", func := "gneiss/gneisslaw23.RealAriths", spec := "realAriths", unfollowed := true, recurses := true, named := ["strings.asciiSpace", "unicode.White_Space"], plainKeys := false, apart := false, laid := [("unicode.White_Space", laid_unicode_White_Space), ("strings.asciiSpace", laid_strings_asciiSpace)], narrowed := true }
def RealArithsUptoSaid : Prop := realArithsUptoRow.holds Tryz.pinned (OpenSpec.upto realArithsSpec)

/-- 'gneisslaw23.RealStacks', WHERE WHAT IT READS IS OF BULK AT MOST 1048576: true; the input reads as it did. -/
def realStacksUptoRow : OpenClaim := { program := "ythhfkiffnmiilaagreatdoor", sum := "0434af80f9e89ef09dd3589b094ef145b55f98a44e0660abce18266bfd94e52e", func := "gneiss/gneisslaw23.RealStacks", spec := "realStacks", unfollowed := true, recurses := true, named := ["strings.asciiSpace", "unicode.White_Space"], plainKeys := false, apart := false, laid := [("unicode.White_Space", laid_unicode_White_Space), ("strings.asciiSpace", laid_strings_asciiSpace)], narrowed := true }
def RealStacksUptoSaid : Prop := realStacksUptoRow.holds Tryz.pinned (OpenSpec.upto realStacksSpec)

/-- 'gneisslaw23.RealLocals', WHERE WHAT IT READS IS OF BULK AT MOST 1048576: true; the input reads as it did. -/
def realLocalsUptoRow : OpenClaim := { program := "ythhfkiffnmiilaagreatdoor", sum := "0434af80f9e89ef09dd3589b094ef145b55f98a44e0660abce18266bfd94e52e", func := "gneiss/gneisslaw23.RealLocals", spec := "realLocals", unfollowed := true, recurses := true, named := ["strings.asciiSpace", "unicode.White_Space"], plainKeys := false, apart := false, laid := [("unicode.White_Space", laid_unicode_White_Space), ("strings.asciiSpace", laid_strings_asciiSpace)], narrowed := true }
def RealLocalsUptoSaid : Prop := realLocalsUptoRow.holds Tryz.pinned (OpenSpec.upto realLocalsSpec)

/-- 'gneisslaw23.RealJumps', WHERE WHAT IT READS IS OF BULK AT MOST 1048576: true; the input reads as it did. -/
def realJumpsUptoRow : OpenClaim := { program := "ythhfkiffnmiilaagreatdoor", sum := "0434af80f9e89ef09dd3589b094ef145b55f98a44e0660abce18266bfd94e52e", func := "gneiss/gneisslaw23.RealJumps", spec := "realJumps", unfollowed := true, recurses := true, named := ["strings.asciiSpace", "unicode.White_Space"], plainKeys := false, apart := false, laid := [("unicode.White_Space", laid_unicode_White_Space), ("strings.asciiSpace", laid_strings_asciiSpace)], narrowed := true }
def RealJumpsUptoSaid : Prop := realJumpsUptoRow.holds Tryz.pinned (OpenSpec.upto realJumpsSpec)

/-- 'gneisslaw23.RealFields', WHERE WHAT IT READS IS OF BULK AT MOST 1048576: true; the input reads as it did. -/
def realFieldsUptoRow : OpenClaim := { program := "ythhfkiffnmiilaagreatdoor", sum := "0434af80f9e89ef09dd3589b094ef145b55f98a44e0660abce18266bfd94e52e", func := "gneiss/gneisslaw23.RealFields", spec := "realFields", unfollowed := true, recurses := true, named := ["strings.asciiSpace", "unicode.White_Space"], plainKeys := false, apart := false, laid := [("unicode.White_Space", laid_unicode_White_Space), ("strings.asciiSpace", laid_strings_asciiSpace)], narrowed := true }
def RealFieldsUptoSaid : Prop := realFieldsUptoRow.holds Tryz.pinned (OpenSpec.upto realFieldsSpec)

/-- 'gneisslaw23.RealArrays', WHERE WHAT IT READS IS OF BULK AT MOST 1048576: true; the input reads as it did. -/
def realArraysUptoRow : OpenClaim := { program := "ythhfkiffnmiilaagreatdoor", sum := "0434af80f9e89ef09dd3589b094ef145b55f98a44e0660abce18266bfd94e52e", func := "gneiss/gneisslaw23.RealArrays", spec := "realArrays", unfollowed := true, recurses := true, named := ["strings.asciiSpace", "unicode.White_Space"], plainKeys := false, apart := false, laid := [("unicode.White_Space", laid_unicode_White_Space), ("strings.asciiSpace", laid_strings_asciiSpace)], narrowed := true }
def RealArraysUptoSaid : Prop := realArraysUptoRow.holds Tryz.pinned (OpenSpec.upto realArraysSpec)

/-- 'gneisslaw23.RealRefArrays', WHERE WHAT IT READS IS OF BULK AT MOST 1048576: true; the input reads as it did. -/
def realRefArraysUptoRow : OpenClaim := { program := "ythhfkiffnmiilaagreatdoor", sum := "0434af80f9e89ef09dd3589b094ef145b55f98a44e0660abce18266bfd94e52e", func := "gneiss/gneisslaw23.RealRefArrays", spec := "realRefArrays", unfollowed := true, recurses := true, named := ["strings.asciiSpace", "unicode.White_Space"], plainKeys := false, apart := false, laid := [("unicode.White_Space", laid_unicode_White_Space), ("strings.asciiSpace", laid_strings_asciiSpace)], narrowed := true }
def RealRefArraysUptoSaid : Prop := realRefArraysUptoRow.holds Tryz.pinned (OpenSpec.upto realRefArraysSpec)

/-- 'gneisslaw23.RealRecursion', WHERE WHAT IT READS IS OF BULK AT MOST 1048576: true; the input reads as it did. -/
def realRecursionUptoRow : OpenClaim := { program := "ythhfkiffnmiilaagreatdoor", sum := "0434af80f9e89ef09dd3589b094ef145b55f98a44e0660abce18266bfd94e52e", func := "gneiss/gneisslaw23.RealRecursion", spec := "realRecursion", unfollowed := true, recurses := true, named := ["strings.asciiSpace", "unicode.White_Space"], plainKeys := false, apart := false, laid := [("unicode.White_Space", laid_unicode_White_Space), ("strings.asciiSpace", laid_strings_asciiSpace)], narrowed := true }
def RealRecursionUptoSaid : Prop := realRecursionUptoRow.holds Tryz.pinned (OpenSpec.upto realRecursionSpec)

/-- 'gneisslaw23.RealMonitors', WHERE WHAT IT READS IS OF BULK AT MOST 1048576: true; the input reads as it did. -/
def realMonitorsUptoRow : OpenClaim := { program := "ythhfkiffnmiilaagreatdoor", sum := "0434af80f9e89ef09dd3589b094ef145b55f98a44e0660abce18266bfd94e52e", func := "gneiss/gneisslaw23.RealMonitors", spec := "realMonitors", unfollowed := true, recurses := true, named := ["strings.asciiSpace", "unicode.White_Space"], plainKeys := false, apart := false, laid := [("unicode.White_Space", laid_unicode_White_Space), ("strings.asciiSpace", laid_strings_asciiSpace)], narrowed := true }
def RealMonitorsUptoSaid : Prop := realMonitorsUptoRow.holds Tryz.pinned (OpenSpec.upto realMonitorsSpec)

/-- 'gneisslaw23.RealReads', WHERE WHAT IT READS IS OF BULK AT MOST 1048576: true; the input reads as it did. -/
def realReadsUptoRow : OpenClaim := { program := "ythhfkiffnmiilaagreatdoor", sum := "0434af80f9e89ef09dd3589b094ef145b55f98a44e0660abce18266bfd94e52e", func := "gneiss/gneisslaw23.RealReads", spec := "realReads", unfollowed := true, recurses := true, named := ["strings.asciiSpace", "unicode.White_Space"], plainKeys := false, apart := false, laid := [("unicode.White_Space", laid_unicode_White_Space), ("strings.asciiSpace", laid_strings_asciiSpace)], narrowed := true }
def RealReadsUptoSaid : Prop := realReadsUptoRow.holds Tryz.pinned (OpenSpec.upto realReadsSpec)

end Rows
end Go.Proofs.YthhfkiffnmiilaaGreatDoor

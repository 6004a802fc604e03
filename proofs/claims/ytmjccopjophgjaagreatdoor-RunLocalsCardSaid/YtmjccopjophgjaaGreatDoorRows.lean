/-
  NARROWER THAN 'FOR EVERY INPUT', by the rows' own cells (each row's printed sentence says how): RunStacks: laid · RunLocals: laid · RunJumps: laid · RunRefs: laid · RunFields: laid · RunRecursion: laid · RunVirtuals: laid · RunCasts: laid · RunHandlers: laid · RunCallers: laid · RunMonitors: laid · RunStarts: laid.
  DERIVED. THE GIVEN ROWS OF THIS SEAT. 12 by the template 'for every input the law returns true; each argument reads behind the call as it read before'; 0 by the template 'total and deterministic' (their statements: YtmjccopjophgjaaGreatDoorTotals.lean).
  GIVEN WITH THE SEED: the statements are not yours to turn. If you find one false, say at which input.
  Laid BY PROGRAM, IN A SANDBOX (cutbox-rows.mjs): the forced cells as the released guide's own fill.sh prints them over the translation 2e597a913a28d56f… (all of the seat's roots in one cut). By AI agents, Wed Nov 11 2026. No macro, syntax, notation, axiom, sorry.
-/
import Derived.Test.YtmjccopjophgjaaGreatDoorChecked
import GoSem.Claim
import GoSem.ClaimJoined
import GoSem.ClaimMapViews
import Derived.JoinedTies
import Derived.KernelRfl
namespace Go.Proofs.YtmjccopjophgjaaGreatDoor
/- THE CELL 'sum', in the pinned program and in every row, IS THE sha256 OF THE DUMP (.gsa) THAT YtmjccopjophgjaaGreatDoorProg.lean LOADS. Nothing in Lean hashes anything: it is a label: what it is worth is what the hold of that sum in a sandbox is worth. -/
noncomputable def Tryz.pinned : Pinned := { name := "ytmjccopjophgjaagreatdoor", sum := "2e597a913a28d56fc521b36520d42d570adf2952ff5ca75257fb6db30312e77d", checked := Tryz.checked }
namespace Rows
def none {H : Type} : Left H := { results := [], args := [] }

/- WHAT THE LISTED PACKAGE-LEVEL VARIABLES READ AS WHEN THE CALL BEGINS. Each datum BY PROGRAM (the guide's laid-datum.mjs) off the statement by which the dump's own 'gosem.cut.vars' lays the variable. In a bare row this is a premise. The card (YtmjccopjophgjaaGreatDoorCards.lean) ties it to the program's text. -/
def laid_unicode_White_Space {H : Type} : DataW H := .ptr (.agg [.slice [.agg [.lit (.int .u16 9), .lit (.int .u16 13), .lit (.int .u16 1)], .agg [.lit (.int .u16 32), .lit (.int .u16 133), .lit (.int .u16 101)], .agg [.lit (.int .u16 160), .lit (.int .u16 5760), .lit (.int .u16 5600)], .agg [.lit (.int .u16 8192), .lit (.int .u16 8202), .lit (.int .u16 1)], .agg [.lit (.int .u16 8232), .lit (.int .u16 8233), .lit (.int .u16 1)], .agg [.lit (.int .u16 8239), .lit (.int .u16 8287), .lit (.int .u16 48)], .agg [.lit (.int .u16 12288), .lit (.int .u16 12288), .lit (.int .u16 1)]] [], .nil, .lit (.int .i64 2)])
def laid_strings_asciiSpace {H : Type} : DataW H := .agg [.lit (.int .u8 0), .lit (.int .u8 0), .lit (.int .u8 0), .lit (.int .u8 0), .lit (.int .u8 0), .lit (.int .u8 0), .lit (.int .u8 0), .lit (.int .u8 0), .lit (.int .u8 0), .lit (.int .u8 1), .lit (.int .u8 1), .lit (.int .u8 1), .lit (.int .u8 1), .lit (.int .u8 1), .lit (.int .u8 0), .lit (.int .u8 0), .lit (.int .u8 0), .lit (.int .u8 0), .lit (.int .u8 0), .lit (.int .u8 0), .lit (.int .u8 0), .lit (.int .u8 0), .lit (.int .u8 0), .lit (.int .u8 0), .lit (.int .u8 0), .lit (.int .u8 0), .lit (.int .u8 0), .lit (.int .u8 0), .lit (.int .u8 0), .lit (.int .u8 0), .lit (.int .u8 0), .lit (.int .u8 0), .lit (.int .u8 1), .lit (.int .u8 0), .lit (.int .u8 0), .lit (.int .u8 0), .lit (.int .u8 0), .lit (.int .u8 0), .lit (.int .u8 0), .lit (.int .u8 0), .lit (.int .u8 0), .lit (.int .u8 0), .lit (.int .u8 0), .lit (.int .u8 0), .lit (.int .u8 0), .lit (.int .u8 0), .lit (.int .u8 0), .lit (.int .u8 0), .lit (.int .u8 0), .lit (.int .u8 0), .lit (.int .u8 0), .lit (.int .u8 0), .lit (.int .u8 0), .lit (.int .u8 0), .lit (.int .u8 0), .lit (.int .u8 0), .lit (.int .u8 0), .lit (.int .u8 0), .lit (.int .u8 0), .lit (.int .u8 0), .lit (.int .u8 0), .lit (.int .u8 0), .lit (.int .u8 0), .lit (.int .u8 0), .lit (.int .u8 0), .lit (.int .u8 0), .lit (.int .u8 0), .lit (.int .u8 0), .lit (.int .u8 0), .lit (.int .u8 0), .lit (.int .u8 0), .lit (.int .u8 0), .lit (.int .u8 0), .lit (.int .u8 0), .lit (.int .u8 0), .lit (.int .u8 0), .lit (.int .u8 0), .lit (.int .u8 0), .lit (.int .u8 0), .lit (.int .u8 0), .lit (.int .u8 0), .lit (.int .u8 0), .lit (.int .u8 0), .lit (.int .u8 0), .lit (.int .u8 0), .lit (.int .u8 0), .lit (.int .u8 0), .lit (.int .u8 0), .lit (.int .u8 0), .lit (.int .u8 0), .lit (.int .u8 0), .lit (.int .u8 0), .lit (.int .u8 0), .lit (.int .u8 0), .lit (.int .u8 0), .lit (.int .u8 0), .lit (.int .u8 0), .lit (.int .u8 0), .lit (.int .u8 0), .lit (.int .u8 0), .lit (.int .u8 0), .lit (.int .u8 0), .lit (.int .u8 0), .lit (.int .u8 0), .lit (.int .u8 0), .lit (.int .u8 0), .lit (.int .u8 0), .lit (.int .u8 0), .lit (.int .u8 0), .lit (.int .u8 0), .lit (.int .u8 0), .lit (.int .u8 0), .lit (.int .u8 0), .lit (.int .u8 0), .lit (.int .u8 0), .lit (.int .u8 0), .lit (.int .u8 0), .lit (.int .u8 0), .lit (.int .u8 0), .lit (.int .u8 0), .lit (.int .u8 0), .lit (.int .u8 0), .lit (.int .u8 0), .lit (.int .u8 0), .lit (.int .u8 0), .lit (.int .u8 0), .lit (.int .u8 0), .lit (.int .u8 0), .lit (.int .u8 0), .lit (.int .u8 0), .lit (.int .u8 0), .lit (.int .u8 0), .lit (.int .u8 0), .lit (.int .u8 0), .lit (.int .u8 0), .lit (.int .u8 0), .lit (.int .u8 0), .lit (.int .u8 0), .lit (.int .u8 0), .lit (.int .u8 0), .lit (.int .u8 0), .lit (.int .u8 0), .lit (.int .u8 0), .lit (.int .u8 0), .lit (.int .u8 0), .lit (.int .u8 0), .lit (.int .u8 0), .lit (.int .u8 0), .lit (.int .u8 0), .lit (.int .u8 0), .lit (.int .u8 0), .lit (.int .u8 0), .lit (.int .u8 0), .lit (.int .u8 0), .lit (.int .u8 0), .lit (.int .u8 0), .lit (.int .u8 0), .lit (.int .u8 0), .lit (.int .u8 0), .lit (.int .u8 0), .lit (.int .u8 0), .lit (.int .u8 0), .lit (.int .u8 0), .lit (.int .u8 0), .lit (.int .u8 0), .lit (.int .u8 0), .lit (.int .u8 0), .lit (.int .u8 0), .lit (.int .u8 0), .lit (.int .u8 0), .lit (.int .u8 0), .lit (.int .u8 0), .lit (.int .u8 0), .lit (.int .u8 0), .lit (.int .u8 0), .lit (.int .u8 0), .lit (.int .u8 0), .lit (.int .u8 0), .lit (.int .u8 0), .lit (.int .u8 0), .lit (.int .u8 0), .lit (.int .u8 0), .lit (.int .u8 0), .lit (.int .u8 0), .lit (.int .u8 0), .lit (.int .u8 0), .lit (.int .u8 0), .lit (.int .u8 0), .lit (.int .u8 0), .lit (.int .u8 0), .lit (.int .u8 0), .lit (.int .u8 0), .lit (.int .u8 0), .lit (.int .u8 0), .lit (.int .u8 0), .lit (.int .u8 0), .lit (.int .u8 0), .lit (.int .u8 0), .lit (.int .u8 0), .lit (.int .u8 0), .lit (.int .u8 0), .lit (.int .u8 0), .lit (.int .u8 0), .lit (.int .u8 0), .lit (.int .u8 0), .lit (.int .u8 0), .lit (.int .u8 0), .lit (.int .u8 0), .lit (.int .u8 0), .lit (.int .u8 0), .lit (.int .u8 0), .lit (.int .u8 0), .lit (.int .u8 0), .lit (.int .u8 0), .lit (.int .u8 0), .lit (.int .u8 0), .lit (.int .u8 0), .lit (.int .u8 0), .lit (.int .u8 0), .lit (.int .u8 0), .lit (.int .u8 0), .lit (.int .u8 0), .lit (.int .u8 0), .lit (.int .u8 0), .lit (.int .u8 0), .lit (.int .u8 0), .lit (.int .u8 0), .lit (.int .u8 0), .lit (.int .u8 0), .lit (.int .u8 0), .lit (.int .u8 0), .lit (.int .u8 0), .lit (.int .u8 0), .lit (.int .u8 0), .lit (.int .u8 0), .lit (.int .u8 0), .lit (.int .u8 0), .lit (.int .u8 0), .lit (.int .u8 0), .lit (.int .u8 0), .lit (.int .u8 0), .lit (.int .u8 0), .lit (.int .u8 0), .lit (.int .u8 0), .lit (.int .u8 0), .lit (.int .u8 0), .lit (.int .u8 0), .lit (.int .u8 0), .lit (.int .u8 0), .lit (.int .u8 0), .lit (.int .u8 0), .lit (.int .u8 0), .lit (.int .u8 0), .lit (.int .u8 0), .lit (.int .u8 0), .lit (.int .u8 0)]

/-- 'gneisslaw25.RunStacks': WHATEVER THE INPUT: true; the input reads as it did. -/
def runStacksSpec : ChangeSpec := { name := "runStacks", fn := fun _ => fun
  | [d1, d2] => { results := [.lit (.bool true)], args := [d1, d2] }
  | _ => none }
def runStacksRow : OpenClaim := { program := "ytmjccopjophgjaagreatdoor", sum := "2e597a913a28d56fc521b36520d42d570adf2952ff5ca75257fb6db30312e77d", func := "gneiss/gneisslaw25.RunStacks", spec := "runStacks", unfollowed := true, recurses := true, named := ["strings.asciiSpace", "unicode.White_Space"], plainKeys := false, apart := false, laid := [("unicode.White_Space", laid_unicode_White_Space), ("strings.asciiSpace", laid_strings_asciiSpace)] }
def RunStacksSaid : Prop := runStacksRow.holds Tryz.pinned (OpenSpec.ofChange runStacksSpec)

/-- ITS FALSE NEIGHBOUR: 'it returns false'. Refute it at one input. -/
def runStacksWrong : ChangeSpec := { name := "runStacks", fn := fun _ => fun
  | [d1, d2] => { results := [.lit (.bool false)], args := [d1, d2] }
  | _ => none }
def RunStacksWrongFalsely : Prop := runStacksRow.holds Tryz.pinned (OpenSpec.ofChange runStacksWrong)

/-- 'gneisslaw25.RunLocals': WHATEVER THE INPUT: true; the input reads as it did. -/
def runLocalsSpec : ChangeSpec := { name := "runLocals", fn := fun _ => fun
  | [d1, d2] => { results := [.lit (.bool true)], args := [d1, d2] }
  | _ => none }
def runLocalsRow : OpenClaim := { program := "ytmjccopjophgjaagreatdoor", sum := "2e597a913a28d56fc521b36520d42d570adf2952ff5ca75257fb6db30312e77d", func := "gneiss/gneisslaw25.RunLocals", spec := "runLocals", unfollowed := true, recurses := true, named := ["strings.asciiSpace", "unicode.White_Space"], plainKeys := false, apart := false, laid := [("unicode.White_Space", laid_unicode_White_Space), ("strings.asciiSpace", laid_strings_asciiSpace)] }
def RunLocalsSaid : Prop := runLocalsRow.holds Tryz.pinned (OpenSpec.ofChange runLocalsSpec)

/-- ITS FALSE NEIGHBOUR: 'it returns false'. Refute it at one input. -/
def runLocalsWrong : ChangeSpec := { name := "runLocals", fn := fun _ => fun
  | [d1, d2] => { results := [.lit (.bool false)], args := [d1, d2] }
  | _ => none }
def RunLocalsWrongFalsely : Prop := runLocalsRow.holds Tryz.pinned (OpenSpec.ofChange runLocalsWrong)

/-- 'gneisslaw25.RunJumps': WHATEVER THE INPUT: true; the input reads as it did. -/
def runJumpsSpec : ChangeSpec := { name := "runJumps", fn := fun _ => fun
  | [d1, d2] => { results := [.lit (.bool true)], args := [d1, d2] }
  | _ => none }
def runJumpsRow : OpenClaim := { program := "ytmjccopjophgjaagreatdoor", sum := "2e597a913a28d56fc521b36520d42d570adf2952ff5ca75257fb6db30312e77d", func := "gneiss/gneisslaw25.RunJumps", spec := "runJumps", unfollowed := true, recurses := true, named := ["strings.asciiSpace", "unicode.White_Space"], plainKeys := false, apart := false, laid := [("unicode.White_Space", laid_unicode_White_Space), ("strings.asciiSpace", laid_strings_asciiSpace)] }
def RunJumpsSaid : Prop := runJumpsRow.holds Tryz.pinned (OpenSpec.ofChange runJumpsSpec)

/-- ITS FALSE NEIGHBOUR: 'it returns false'. Refute it at one input. -/
def runJumpsWrong : ChangeSpec := { name := "runJumps", fn := fun _ => fun
  | [d1, d2] => { results := [.lit (.bool false)], args := [d1, d2] }
  | _ => none }
def RunJumpsWrongFalsely : Prop := runJumpsRow.holds Tryz.pinned (OpenSpec.ofChange runJumpsWrong)

/-- 'gneisslaw25.RunRefs': WHATEVER THE INPUT: true; the input reads as it did. -/
def runRefsSpec : ChangeSpec := { name := "runRefs", fn := fun _ => fun
  | [d] => { results := [.lit (.bool true)], args := [d] }
  | _ => none }
def runRefsRow : OpenClaim := { program := "ytmjccopjophgjaagreatdoor", sum := "2e597a913a28d56fc521b36520d42d570adf2952ff5ca75257fb6db30312e77d", func := "gneiss/gneisslaw25.RunRefs", spec := "runRefs", unfollowed := true, recurses := true, named := ["strings.asciiSpace", "unicode.White_Space"], plainKeys := false, apart := false, laid := [("unicode.White_Space", laid_unicode_White_Space), ("strings.asciiSpace", laid_strings_asciiSpace)] }
def RunRefsSaid : Prop := runRefsRow.holds Tryz.pinned (OpenSpec.ofChange runRefsSpec)

/-- ITS FALSE NEIGHBOUR: 'it returns false'. Refute it at one input. -/
def runRefsWrong : ChangeSpec := { name := "runRefs", fn := fun _ => fun
  | [d] => { results := [.lit (.bool false)], args := [d] }
  | _ => none }
def RunRefsWrongFalsely : Prop := runRefsRow.holds Tryz.pinned (OpenSpec.ofChange runRefsWrong)

/-- 'gneisslaw25.RunFields': WHATEVER THE INPUT: true; the input reads as it did. -/
def runFieldsSpec : ChangeSpec := { name := "runFields", fn := fun _ => fun
  | [d] => { results := [.lit (.bool true)], args := [d] }
  | _ => none }
def runFieldsRow : OpenClaim := { program := "ytmjccopjophgjaagreatdoor", sum := "2e597a913a28d56fc521b36520d42d570adf2952ff5ca75257fb6db30312e77d", func := "gneiss/gneisslaw25.RunFields", spec := "runFields", unfollowed := true, recurses := true, named := ["strings.asciiSpace", "unicode.White_Space"], plainKeys := false, apart := false, laid := [("unicode.White_Space", laid_unicode_White_Space), ("strings.asciiSpace", laid_strings_asciiSpace)] }
def RunFieldsSaid : Prop := runFieldsRow.holds Tryz.pinned (OpenSpec.ofChange runFieldsSpec)

/-- ITS FALSE NEIGHBOUR: 'it returns false'. Refute it at one input. -/
def runFieldsWrong : ChangeSpec := { name := "runFields", fn := fun _ => fun
  | [d] => { results := [.lit (.bool false)], args := [d] }
  | _ => none }
def RunFieldsWrongFalsely : Prop := runFieldsRow.holds Tryz.pinned (OpenSpec.ofChange runFieldsWrong)

/-- 'gneisslaw25.RunRecursion': WHATEVER THE INPUT: true; the input reads as it did. -/
def runRecursionSpec : ChangeSpec := { name := "runRecursion", fn := fun _ => fun
  | [d] => { results := [.lit (.bool true)], args := [d] }
  | _ => none }
def runRecursionRow : OpenClaim := { program := "ytmjccopjophgjaagreatdoor", sum := "2e597a913a28d56fc521b36520d42d570adf2952ff5ca75257fb6db30312e77d", func := "gneiss/gneisslaw25.RunRecursion", spec := "runRecursion", unfollowed := true, recurses := true, named := ["strings.asciiSpace", "unicode.White_Space"], plainKeys := false, apart := false, laid := [("unicode.White_Space", laid_unicode_White_Space), ("strings.asciiSpace", laid_strings_asciiSpace)] }
def RunRecursionSaid : Prop := runRecursionRow.holds Tryz.pinned (OpenSpec.ofChange runRecursionSpec)

/-- ITS FALSE NEIGHBOUR: 'it returns false'. Refute it at one input. -/
def runRecursionWrong : ChangeSpec := { name := "runRecursion", fn := fun _ => fun
  | [d] => { results := [.lit (.bool false)], args := [d] }
  | _ => none }
def RunRecursionWrongFalsely : Prop := runRecursionRow.holds Tryz.pinned (OpenSpec.ofChange runRecursionWrong)

/-- 'gneisslaw25.RunVirtuals': WHATEVER THE INPUT: true; the input reads as it did. -/
def runVirtualsSpec : ChangeSpec := { name := "runVirtuals", fn := fun _ => fun
  | [d1, d2] => { results := [.lit (.bool true)], args := [d1, d2] }
  | _ => none }
def runVirtualsRow : OpenClaim := { program := "ytmjccopjophgjaagreatdoor", sum := "2e597a913a28d56fc521b36520d42d570adf2952ff5ca75257fb6db30312e77d", func := "gneiss/gneisslaw25.RunVirtuals", spec := "runVirtuals", unfollowed := true, recurses := true, named := ["strings.asciiSpace", "unicode.White_Space"], plainKeys := false, apart := false, laid := [("unicode.White_Space", laid_unicode_White_Space), ("strings.asciiSpace", laid_strings_asciiSpace)] }
def RunVirtualsSaid : Prop := runVirtualsRow.holds Tryz.pinned (OpenSpec.ofChange runVirtualsSpec)

/-- ITS FALSE NEIGHBOUR: 'it returns false'. Refute it at one input. -/
def runVirtualsWrong : ChangeSpec := { name := "runVirtuals", fn := fun _ => fun
  | [d1, d2] => { results := [.lit (.bool false)], args := [d1, d2] }
  | _ => none }
def RunVirtualsWrongFalsely : Prop := runVirtualsRow.holds Tryz.pinned (OpenSpec.ofChange runVirtualsWrong)

/-- 'gneisslaw25.RunCasts': WHATEVER THE INPUT: true; the input reads as it did. -/
def runCastsSpec : ChangeSpec := { name := "runCasts", fn := fun _ => fun
  | [d1, d2] => { results := [.lit (.bool true)], args := [d1, d2] }
  | _ => none }
def runCastsRow : OpenClaim := { program := "ytmjccopjophgjaagreatdoor", sum := "2e597a913a28d56fc521b36520d42d570adf2952ff5ca75257fb6db30312e77d", func := "gneiss/gneisslaw25.RunCasts", spec := "runCasts", unfollowed := true, recurses := true, named := ["strings.asciiSpace", "unicode.White_Space"], plainKeys := false, apart := false, laid := [("unicode.White_Space", laid_unicode_White_Space), ("strings.asciiSpace", laid_strings_asciiSpace)] }
def RunCastsSaid : Prop := runCastsRow.holds Tryz.pinned (OpenSpec.ofChange runCastsSpec)

/-- ITS FALSE NEIGHBOUR: 'it returns false'. Refute it at one input. -/
def runCastsWrong : ChangeSpec := { name := "runCasts", fn := fun _ => fun
  | [d1, d2] => { results := [.lit (.bool false)], args := [d1, d2] }
  | _ => none }
def RunCastsWrongFalsely : Prop := runCastsRow.holds Tryz.pinned (OpenSpec.ofChange runCastsWrong)

/-- 'gneisslaw25.RunHandlers': WHATEVER THE INPUT: true; the input reads as it did. -/
def runHandlersSpec : ChangeSpec := { name := "runHandlers", fn := fun _ => fun
  | [d1, d2, d3] => { results := [.lit (.bool true)], args := [d1, d2, d3] }
  | _ => none }
def runHandlersRow : OpenClaim := { program := "ytmjccopjophgjaagreatdoor", sum := "2e597a913a28d56fc521b36520d42d570adf2952ff5ca75257fb6db30312e77d", func := "gneiss/gneisslaw25.RunHandlers", spec := "runHandlers", unfollowed := true, recurses := true, named := ["strings.asciiSpace", "unicode.White_Space"], plainKeys := false, apart := false, laid := [("unicode.White_Space", laid_unicode_White_Space), ("strings.asciiSpace", laid_strings_asciiSpace)] }
def RunHandlersSaid : Prop := runHandlersRow.holds Tryz.pinned (OpenSpec.ofChange runHandlersSpec)

/-- ITS FALSE NEIGHBOUR: 'it returns false'. Refute it at one input. -/
def runHandlersWrong : ChangeSpec := { name := "runHandlers", fn := fun _ => fun
  | [d1, d2, d3] => { results := [.lit (.bool false)], args := [d1, d2, d3] }
  | _ => none }
def RunHandlersWrongFalsely : Prop := runHandlersRow.holds Tryz.pinned (OpenSpec.ofChange runHandlersWrong)

/-- 'gneisslaw25.RunCallers': WHATEVER THE INPUT: true; the input reads as it did. -/
def runCallersSpec : ChangeSpec := { name := "runCallers", fn := fun _ => fun
  | [d] => { results := [.lit (.bool true)], args := [d] }
  | _ => none }
def runCallersRow : OpenClaim := { program := "ytmjccopjophgjaagreatdoor", sum := "2e597a913a28d56fc521b36520d42d570adf2952ff5ca75257fb6db30312e77d", func := "gneiss/gneisslaw25.RunCallers", spec := "runCallers", unfollowed := true, recurses := true, named := ["strings.asciiSpace", "unicode.White_Space"], plainKeys := false, apart := false, laid := [("unicode.White_Space", laid_unicode_White_Space), ("strings.asciiSpace", laid_strings_asciiSpace)] }
def RunCallersSaid : Prop := runCallersRow.holds Tryz.pinned (OpenSpec.ofChange runCallersSpec)

/-- ITS FALSE NEIGHBOUR: 'it returns false'. Refute it at one input. -/
def runCallersWrong : ChangeSpec := { name := "runCallers", fn := fun _ => fun
  | [d] => { results := [.lit (.bool false)], args := [d] }
  | _ => none }
def RunCallersWrongFalsely : Prop := runCallersRow.holds Tryz.pinned (OpenSpec.ofChange runCallersWrong)

/-- 'gneisslaw25.RunMonitors': WHATEVER THE INPUT: true; the input reads as it did. -/
def runMonitorsSpec : ChangeSpec := { name := "runMonitors", fn := fun _ => fun
  | [d1, d2] => { results := [.lit (.bool true)], args := [d1, d2] }
  | _ => none }
def runMonitorsRow : OpenClaim := { program := "ytmjccopjophgjaagreatdoor", sum := "2e597a913a28d56fc521b36520d42d570adf2952ff5ca75257fb6db30312e77d", func := "gneiss/gneisslaw25.RunMonitors", spec := "runMonitors", unfollowed := true, recurses := true, named := ["strings.asciiSpace", "unicode.White_Space"], plainKeys := false, apart := false, laid := [("unicode.White_Space", laid_unicode_White_Space), ("strings.asciiSpace", laid_strings_asciiSpace)] }
def RunMonitorsSaid : Prop := runMonitorsRow.holds Tryz.pinned (OpenSpec.ofChange runMonitorsSpec)

/-- ITS FALSE NEIGHBOUR: 'it returns false'. Refute it at one input. -/
def runMonitorsWrong : ChangeSpec := { name := "runMonitors", fn := fun _ => fun
  | [d1, d2] => { results := [.lit (.bool false)], args := [d1, d2] }
  | _ => none }
def RunMonitorsWrongFalsely : Prop := runMonitorsRow.holds Tryz.pinned (OpenSpec.ofChange runMonitorsWrong)

/-- 'gneisslaw25.RunStarts': WHATEVER THE INPUT: true; the input reads as it did. -/
def runStartsSpec : ChangeSpec := { name := "runStarts", fn := fun _ => fun
  | [d1, d2] => { results := [.lit (.bool true)], args := [d1, d2] }
  | _ => none }
def runStartsRow : OpenClaim := { program := "ytmjccopjophgjaagreatdoor", sum := "2e597a913a28d56fc521b36520d42d570adf2952ff5ca75257fb6db30312e77d", func := "gneiss/gneisslaw25.RunStarts", spec := "runStarts", unfollowed := true, recurses := true, named := ["strings.asciiSpace", "unicode.White_Space"], plainKeys := false, apart := false, laid := [("unicode.White_Space", laid_unicode_White_Space), ("strings.asciiSpace", laid_strings_asciiSpace)] }
def RunStartsSaid : Prop := runStartsRow.holds Tryz.pinned (OpenSpec.ofChange runStartsSpec)

/-- ITS FALSE NEIGHBOUR: 'it returns false'. Refute it at one input. -/
def runStartsWrong : ChangeSpec := { name := "runStarts", fn := fun _ => fun
  | [d1, d2] => { results := [.lit (.bool false)], args := [d1, d2] }
  | _ => none }
def RunStartsWrongFalsely : Prop := runStartsRow.holds Tryz.pinned (OpenSpec.ofChange runStartsWrong)

/- THE SECOND FORM. 'bulk': how many values and letters a reading holds, each counted each time it is reached (what is shared counts as often as it is met; a slice's spare places count too). A statement '..UptoSaid' is the law's where the arguments, and the package variables that the reading takes, are together of bulk at most 1048576: NARROWER than '..Said'. Prove '..Said' where nothing that the law and all that it calls make is longer than what came in: it says more and counts as full. Else prove '..UptoSaid'. A law counts once. -/
mutual
def uptoBulk {H : Type} : DataW H → Nat
  | .lit (.string bytes) => bytes.length + 1
  | .lit _ => 1
  | .nil => 1
  | .ptr d => uptoBulk d + 1
  | .slice elems spare => uptoBulkAll elems + uptoBulkAll spare + 1
  | .agg parts => uptoBulkAll parts + 1
  | .iface _ d => uptoBulk d + 1
  | .map entries => uptoBulkEntries entries + 1
  | .held _ => 1
def uptoBulkAll {H : Type} : List (DataW H) → Nat
  | [] => 0
  | d :: r => uptoBulk d + uptoBulkAll r
def uptoBulkEntries {H : Type} : List (Lit × DataW H) → Nat
  | [] => 0
  | x :: r => uptoBulkEntry x + uptoBulkEntries r
def uptoBulkEntry {H : Type} : Lit × DataW H → Nat
  | (.string bytes, d) => bytes.length + uptoBulk d + 1
  | (_, d) => uptoBulk d + 1
 end
def uptoSmall : (H : Type) → List (DataW H) → Bool := fun _ ds => decide (uptoBulkAll ds ≤ 1048576)
def OpenSpec.upto (s : _root_.Go.ChangeSpec) : _root_.Go.OpenSpec := { _root_.Go.OpenSpec.ofChange s with cond := some uptoSmall }

/-- 'gneisslaw25.RunStacks', WHERE WHAT IT READS IS OF BULK AT MOST 1048576: true; the input reads as it did. -/
def runStacksUptoRow : OpenClaim := { program := "ytmjccopjophgjaagreatdoor", sum := "2e597a913a28d56fc521b36520d42d570adf2952ff5ca75257fb6db30312e77d", func := "gneiss/gneisslaw25.RunStacks", spec := "runStacks", unfollowed := true, recurses := true, named := ["strings.asciiSpace", "unicode.White_Space"], plainKeys := false, apart := false, laid := [("unicode.White_Space", laid_unicode_White_Space), ("strings.asciiSpace", laid_strings_asciiSpace)], narrowed := true }
def RunStacksUptoSaid : Prop := runStacksUptoRow.holds Tryz.pinned (OpenSpec.upto runStacksSpec)

/-- 'gneisslaw25.RunLocals', WHERE WHAT IT READS IS OF BULK AT MOST 1048576: true; the input reads as it did. -/
def runLocalsUptoRow : OpenClaim := { program := "ytmjccopjophgjaagreatdoor", sum := "2e597a913a28d56fc521b36520d42d570adf2952ff5ca75257fb6db30312e77d", func := "gneiss/gneisslaw25.RunLocals", spec := "runLocals", unfollowed := true, recurses := true, named := ["strings.asciiSpace", "unicode.White_Space"], plainKeys := false, apart := false, laid := [("unicode.White_Space", laid_unicode_White_Space), ("strings.asciiSpace", laid_strings_asciiSpace)], narrowed := true }
def RunLocalsUptoSaid : Prop := runLocalsUptoRow.holds Tryz.pinned (OpenSpec.upto runLocalsSpec)

/-- 'gneisslaw25.RunJumps', WHERE WHAT IT READS IS OF BULK AT MOST 1048576: true; the input reads as it did. -/
def runJumpsUptoRow : OpenClaim := { program := "ytmjccopjophgjaagreatdoor", sum := "2e597a913a28d56fc521b36520d42d570adf2952ff5ca75257fb6db30312e77d", func := "gneiss/gneisslaw25.RunJumps", spec := "runJumps", unfollowed := true, recurses := true, named := ["strings.asciiSpace", "unicode.White_Space"], plainKeys := false, apart := false, laid := [("unicode.White_Space", laid_unicode_White_Space), ("strings.asciiSpace", laid_strings_asciiSpace)], narrowed := true }
def RunJumpsUptoSaid : Prop := runJumpsUptoRow.holds Tryz.pinned (OpenSpec.upto runJumpsSpec)

/-- 'gneisslaw25.RunRefs', WHERE WHAT IT READS IS OF BULK AT MOST 1048576: true; the input reads as it did. -/
def runRefsUptoRow : OpenClaim := { program := "ytmjccopjophgjaagreatdoor", sum := "2e597a913a28d56fc521b36520d42d570adf2952ff5ca75257fb6db30312e77d", func := "gneiss/gneisslaw25.RunRefs", spec := "runRefs", unfollowed := true, recurses := true, named := ["strings.asciiSpace", "unicode.White_Space"], plainKeys := false, apart := false, laid := [("unicode.White_Space", laid_unicode_White_Space), ("strings.asciiSpace", laid_strings_asciiSpace)], narrowed := true }
def RunRefsUptoSaid : Prop := runRefsUptoRow.holds Tryz.pinned (OpenSpec.upto runRefsSpec)

/-- 'gneisslaw25.RunFields', WHERE WHAT IT READS IS OF BULK AT MOST 1048576: true; the input reads as it did. -/
def runFieldsUptoRow : OpenClaim := { program := "ytmjccopjophgjaagreatdoor", sum := "2e597a913a28d56fc521b36520d42d570adf2952ff5ca75257fb6db30312e77d", func := "gneiss/gneisslaw25.RunFields", spec := "runFields", unfollowed := true, recurses := true, named := ["strings.asciiSpace", "unicode.White_Space"], plainKeys := false, apart := false, laid := [("unicode.White_Space", laid_unicode_White_Space), ("strings.asciiSpace", laid_strings_asciiSpace)], narrowed := true }
def RunFieldsUptoSaid : Prop := runFieldsUptoRow.holds Tryz.pinned (OpenSpec.upto runFieldsSpec)

/-- 'gneisslaw25.RunRecursion', WHERE WHAT IT READS IS OF BULK AT MOST 1048576: true; the input reads as it did. -/
def runRecursionUptoRow : OpenClaim := { program := "ytmjccopjophgjaagreatdoor", sum := "2e597a913a28d56fc521b36520d42d570adf2952ff5ca75257fb6db30312e77d", func := "gneiss/gneisslaw25.RunRecursion", spec := "runRecursion", unfollowed := true, recurses := true, named := ["strings.asciiSpace", "unicode.White_Space"], plainKeys := false, apart := false, laid := [("unicode.White_Space", laid_unicode_White_Space), ("strings.asciiSpace", laid_strings_asciiSpace)], narrowed := true }
def RunRecursionUptoSaid : Prop := runRecursionUptoRow.holds Tryz.pinned (OpenSpec.upto runRecursionSpec)

/-- 'gneisslaw25.RunVirtuals', WHERE WHAT IT READS IS OF BULK AT MOST 1048576: true; the input reads as it did. -/
def runVirtualsUptoRow : OpenClaim := { program := "ytmjccopjophgjaagreatdoor", sum := "2e597a913a28d56fc521b36520d42d570adf2952ff5ca75257fb6db30312e77d", func := "gneiss/gneisslaw25.RunVirtuals", spec := "runVirtuals", unfollowed := true, recurses := true, named := ["strings.asciiSpace", "unicode.White_Space"], plainKeys := false, apart := false, laid := [("unicode.White_Space", laid_unicode_White_Space), ("strings.asciiSpace", laid_strings_asciiSpace)], narrowed := true }
def RunVirtualsUptoSaid : Prop := runVirtualsUptoRow.holds Tryz.pinned (OpenSpec.upto runVirtualsSpec)

/-- 'gneisslaw25.RunCasts', WHERE WHAT IT READS IS OF BULK AT MOST 1048576: true; the input reads as it did. -/
def runCastsUptoRow : OpenClaim := { program := "ytmjccopjophgjaagreatdoor", sum := "2e597a913a28d56fc521b36520d42d570adf2952ff5ca75257fb6db30312e77d", func := "gneiss/gneisslaw25.RunCasts", spec := "runCasts", unfollowed := true, recurses := true, named := ["strings.asciiSpace", "unicode.White_Space"], plainKeys := false, apart := false, laid := [("unicode.White_Space", laid_unicode_White_Space), ("strings.asciiSpace", laid_strings_asciiSpace)], narrowed := true }
def RunCastsUptoSaid : Prop := runCastsUptoRow.holds Tryz.pinned (OpenSpec.upto runCastsSpec)

/-- 'gneisslaw25.RunHandlers', WHERE WHAT IT READS IS OF BULK AT MOST 1048576: true; the input reads as it did. -/
def runHandlersUptoRow : OpenClaim := { program := "ytmjccopjophgjaagreatdoor", sum := "2e597a913a28d56fc521b36520d42d570adf2952ff5ca75257fb6db30312e77d", func := "gneiss/gneisslaw25.RunHandlers", spec := "runHandlers", unfollowed := true, recurses := true, named := ["strings.asciiSpace", "unicode.White_Space"], plainKeys := false, apart := false, laid := [("unicode.White_Space", laid_unicode_White_Space), ("strings.asciiSpace", laid_strings_asciiSpace)], narrowed := true }
def RunHandlersUptoSaid : Prop := runHandlersUptoRow.holds Tryz.pinned (OpenSpec.upto runHandlersSpec)

/-- 'gneisslaw25.RunCallers', WHERE WHAT IT READS IS OF BULK AT MOST 1048576: true; the input reads as it did. -/
def runCallersUptoRow : OpenClaim := { program := "ytmjccopjophgjaagreatdoor", sum := "2e597a913a28d56fc521b36520d42d570adf2952ff5ca75257fb6db30312e77d", func := "gneiss/gneisslaw25.RunCallers", spec := "runCallers", unfollowed := true, recurses := true, named := ["strings.asciiSpace", "unicode.White_Space"], plainKeys := false, apart := false, laid := [("unicode.White_Space", laid_unicode_White_Space), ("strings.asciiSpace", laid_strings_asciiSpace)], narrowed := true }
def RunCallersUptoSaid : Prop := runCallersUptoRow.holds Tryz.pinned (OpenSpec.upto runCallersSpec)

/-- 'gneisslaw25.RunMonitors', WHERE WHAT IT READS IS OF BULK AT MOST 1048576: true; the input reads as it did. -/
def runMonitorsUptoRow : OpenClaim := { program := "ytmjccopjophgjaagreatdoor", sum := "2e597a913a28d56fc521b36520d42d570adf2952ff5ca75257fb6db30312e77d", func := "gneiss/gneisslaw25.RunMonitors", spec := "runMonitors", unfollowed := true, recurses := true, named := ["strings.asciiSpace", "unicode.White_Space"], plainKeys := false, apart := false, laid := [("unicode.White_Space", laid_unicode_White_Space), ("strings.asciiSpace", laid_strings_asciiSpace)], narrowed := true }
def RunMonitorsUptoSaid : Prop := runMonitorsUptoRow.holds Tryz.pinned (OpenSpec.upto runMonitorsSpec)

/-- 'gneisslaw25.RunStarts', WHERE WHAT IT READS IS OF BULK AT MOST 1048576: true; the input reads as it did. -/
def runStartsUptoRow : OpenClaim := { program := "ytmjccopjophgjaagreatdoor", sum := "2e597a913a28d56fc521b36520d42d570adf2952ff5ca75257fb6db30312e77d", func := "gneiss/gneisslaw25.RunStarts", spec := "runStarts", unfollowed := true, recurses := true, named := ["strings.asciiSpace", "unicode.White_Space"], plainKeys := false, apart := false, laid := [("unicode.White_Space", laid_unicode_White_Space), ("strings.asciiSpace", laid_strings_asciiSpace)], narrowed := true }
def RunStartsUptoSaid : Prop := runStartsUptoRow.holds Tryz.pinned (OpenSpec.upto runStartsSpec)

end Rows
end Go.Proofs.YtmjccopjophgjaaGreatDoor

/-
  NARROWER THAN 'FOR EVERY INPUT', by the rows' own cells (each row's printed sentence says how): RunConfigs: laid · RunIdle: laid · RunAriths: laid · RunArrays: laid · RunRefArrays: laid · RunRecursion: laid · RunReads: laid.
  DERIVED. THE GIVEN ROWS OF THIS SEAT. 7 by the template 'for every input the law returns true; each argument reads behind the call as it read before'; 0 by the template 'total and deterministic' (their statements: YtbehlkbeofoahaaGreatDoorTotals.lean).
  GIVEN WITH THE SEED: the statements are not yours to turn. If you find one false, say at which input.
  Laid BY PROGRAM, IN A SANDBOX (cutbox-rows.mjs): the forced cells as the released guide's own fill.sh prints them over the translation a9f2d06ec17f6ae4… (all of the seat's roots in one cut). By AI agents, Wed Nov 11 2026. No macro, syntax, notation, axiom, sorry.
-/
import Derived.Test.YtbehlkbeofoahaaGreatDoorChecked
import GoSem.Claim
import GoSem.ClaimJoined
import GoSem.ClaimMapViews
import Derived.JoinedTies
import Derived.KernelRfl
namespace Go.Proofs.YtbehlkbeofoahaaGreatDoor
/- THE CELL 'sum', in the pinned program and in every row, IS THE sha256 OF THE DUMP (.gsa) THAT YtbehlkbeofoahaaGreatDoorProg.lean LOADS. Nothing in Lean hashes anything: it is a label: what it is worth is what the hold of that sum in a sandbox is worth. -/
noncomputable def Tryz.pinned : Pinned := { name := "ytbehlkbeofoahaagreatdoor", sum := "a9f2d06ec17f6ae41671642c60d0a31005e05d4d2a3642e8b434b0accdb93a06", checked := Tryz.checked }
namespace Rows
def none {H : Type} : Left H := { results := [], args := [] }

/- WHAT THE LISTED PACKAGE-LEVEL VARIABLES READ AS WHEN THE CALL BEGINS. Each datum BY PROGRAM (the guide's laid-datum.mjs) off the statement by which the dump's own 'gosem.cut.vars' lays the variable. In a bare row this is a premise. The card (YtbehlkbeofoahaaGreatDoorCards.lean) ties it to the program's text. -/
def laid_unicode_White_Space {H : Type} : DataW H := .ptr (.agg [.slice [.agg [.lit (.int .u16 9), .lit (.int .u16 13), .lit (.int .u16 1)], .agg [.lit (.int .u16 32), .lit (.int .u16 133), .lit (.int .u16 101)], .agg [.lit (.int .u16 160), .lit (.int .u16 5760), .lit (.int .u16 5600)], .agg [.lit (.int .u16 8192), .lit (.int .u16 8202), .lit (.int .u16 1)], .agg [.lit (.int .u16 8232), .lit (.int .u16 8233), .lit (.int .u16 1)], .agg [.lit (.int .u16 8239), .lit (.int .u16 8287), .lit (.int .u16 48)], .agg [.lit (.int .u16 12288), .lit (.int .u16 12288), .lit (.int .u16 1)]] [], .nil, .lit (.int .i64 2)])
def laid_strings_asciiSpace {H : Type} : DataW H := .agg [.lit (.int .u8 0), .lit (.int .u8 0), .lit (.int .u8 0), .lit (.int .u8 0), .lit (.int .u8 0), .lit (.int .u8 0), .lit (.int .u8 0), .lit (.int .u8 0), .lit (.int .u8 0), .lit (.int .u8 1), .lit (.int .u8 1), .lit (.int .u8 1), .lit (.int .u8 1), .lit (.int .u8 1), .lit (.int .u8 0), .lit (.int .u8 0), .lit (.int .u8 0), .lit (.int .u8 0), .lit (.int .u8 0), .lit (.int .u8 0), .lit (.int .u8 0), .lit (.int .u8 0), .lit (.int .u8 0), .lit (.int .u8 0), .lit (.int .u8 0), .lit (.int .u8 0), .lit (.int .u8 0), .lit (.int .u8 0), .lit (.int .u8 0), .lit (.int .u8 0), .lit (.int .u8 0), .lit (.int .u8 0), .lit (.int .u8 1), .lit (.int .u8 0), .lit (.int .u8 0), .lit (.int .u8 0), .lit (.int .u8 0), .lit (.int .u8 0), .lit (.int .u8 0), .lit (.int .u8 0), .lit (.int .u8 0), .lit (.int .u8 0), .lit (.int .u8 0), .lit (.int .u8 0), .lit (.int .u8 0), .lit (.int .u8 0), .lit (.int .u8 0), .lit (.int .u8 0), .lit (.int .u8 0), .lit (.int .u8 0), .lit (.int .u8 0), .lit (.int .u8 0), .lit (.int .u8 0), .lit (.int .u8 0), .lit (.int .u8 0), .lit (.int .u8 0), .lit (.int .u8 0), .lit (.int .u8 0), .lit (.int .u8 0), .lit (.int .u8 0), .lit (.int .u8 0), .lit (.int .u8 0), .lit (.int .u8 0), .lit (.int .u8 0), .lit (.int .u8 0), .lit (.int .u8 0), .lit (.int .u8 0), .lit (.int .u8 0), .lit (.int .u8 0), .lit (.int .u8 0), .lit (.int .u8 0), .lit (.int .u8 0), .lit (.int .u8 0), .lit (.int .u8 0), .lit (.int .u8 0), .lit (.int .u8 0), .lit (.int .u8 0), .lit (.int .u8 0), .lit (.int .u8 0), .lit (.int .u8 0), .lit (.int .u8 0), .lit (.int .u8 0), .lit (.int .u8 0), .lit (.int .u8 0), .lit (.int .u8 0), .lit (.int .u8 0), .lit (.int .u8 0), .lit (.int .u8 0), .lit (.int .u8 0), .lit (.int .u8 0), .lit (.int .u8 0), .lit (.int .u8 0), .lit (.int .u8 0), .lit (.int .u8 0), .lit (.int .u8 0), .lit (.int .u8 0), .lit (.int .u8 0), .lit (.int .u8 0), .lit (.int .u8 0), .lit (.int .u8 0), .lit (.int .u8 0), .lit (.int .u8 0), .lit (.int .u8 0), .lit (.int .u8 0), .lit (.int .u8 0), .lit (.int .u8 0), .lit (.int .u8 0), .lit (.int .u8 0), .lit (.int .u8 0), .lit (.int .u8 0), .lit (.int .u8 0), .lit (.int .u8 0), .lit (.int .u8 0), .lit (.int .u8 0), .lit (.int .u8 0), .lit (.int .u8 0), .lit (.int .u8 0), .lit (.int .u8 0), .lit (.int .u8 0), .lit (.int .u8 0), .lit (.int .u8 0), .lit (.int .u8 0), .lit (.int .u8 0), .lit (.int .u8 0), .lit (.int .u8 0), .lit (.int .u8 0), .lit (.int .u8 0), .lit (.int .u8 0), .lit (.int .u8 0), .lit (.int .u8 0), .lit (.int .u8 0), .lit (.int .u8 0), .lit (.int .u8 0), .lit (.int .u8 0), .lit (.int .u8 0), .lit (.int .u8 0), .lit (.int .u8 0), .lit (.int .u8 0), .lit (.int .u8 0), .lit (.int .u8 0), .lit (.int .u8 0), .lit (.int .u8 0), .lit (.int .u8 0), .lit (.int .u8 0), .lit (.int .u8 0), .lit (.int .u8 0), .lit (.int .u8 0), .lit (.int .u8 0), .lit (.int .u8 0), .lit (.int .u8 0), .lit (.int .u8 0), .lit (.int .u8 0), .lit (.int .u8 0), .lit (.int .u8 0), .lit (.int .u8 0), .lit (.int .u8 0), .lit (.int .u8 0), .lit (.int .u8 0), .lit (.int .u8 0), .lit (.int .u8 0), .lit (.int .u8 0), .lit (.int .u8 0), .lit (.int .u8 0), .lit (.int .u8 0), .lit (.int .u8 0), .lit (.int .u8 0), .lit (.int .u8 0), .lit (.int .u8 0), .lit (.int .u8 0), .lit (.int .u8 0), .lit (.int .u8 0), .lit (.int .u8 0), .lit (.int .u8 0), .lit (.int .u8 0), .lit (.int .u8 0), .lit (.int .u8 0), .lit (.int .u8 0), .lit (.int .u8 0), .lit (.int .u8 0), .lit (.int .u8 0), .lit (.int .u8 0), .lit (.int .u8 0), .lit (.int .u8 0), .lit (.int .u8 0), .lit (.int .u8 0), .lit (.int .u8 0), .lit (.int .u8 0), .lit (.int .u8 0), .lit (.int .u8 0), .lit (.int .u8 0), .lit (.int .u8 0), .lit (.int .u8 0), .lit (.int .u8 0), .lit (.int .u8 0), .lit (.int .u8 0), .lit (.int .u8 0), .lit (.int .u8 0), .lit (.int .u8 0), .lit (.int .u8 0), .lit (.int .u8 0), .lit (.int .u8 0), .lit (.int .u8 0), .lit (.int .u8 0), .lit (.int .u8 0), .lit (.int .u8 0), .lit (.int .u8 0), .lit (.int .u8 0), .lit (.int .u8 0), .lit (.int .u8 0), .lit (.int .u8 0), .lit (.int .u8 0), .lit (.int .u8 0), .lit (.int .u8 0), .lit (.int .u8 0), .lit (.int .u8 0), .lit (.int .u8 0), .lit (.int .u8 0), .lit (.int .u8 0), .lit (.int .u8 0), .lit (.int .u8 0), .lit (.int .u8 0), .lit (.int .u8 0), .lit (.int .u8 0), .lit (.int .u8 0), .lit (.int .u8 0), .lit (.int .u8 0), .lit (.int .u8 0), .lit (.int .u8 0), .lit (.int .u8 0), .lit (.int .u8 0), .lit (.int .u8 0), .lit (.int .u8 0), .lit (.int .u8 0), .lit (.int .u8 0), .lit (.int .u8 0), .lit (.int .u8 0), .lit (.int .u8 0), .lit (.int .u8 0), .lit (.int .u8 0), .lit (.int .u8 0), .lit (.int .u8 0), .lit (.int .u8 0), .lit (.int .u8 0), .lit (.int .u8 0), .lit (.int .u8 0), .lit (.int .u8 0), .lit (.int .u8 0), .lit (.int .u8 0), .lit (.int .u8 0), .lit (.int .u8 0), .lit (.int .u8 0), .lit (.int .u8 0), .lit (.int .u8 0), .lit (.int .u8 0), .lit (.int .u8 0), .lit (.int .u8 0)]

/-- 'gneisslaw25.RunConfigs': WHATEVER THE INPUT: true; the input reads as it did. -/
def runConfigsSpec : ChangeSpec := { name := "runConfigs", fn := fun _ => fun
  | [d1, d2, d3] => { results := [.lit (.bool true)], args := [d1, d2, d3] }
  | _ => none }
def runConfigsRow : OpenClaim := { program := "ytbehlkbeofoahaagreatdoor", sum := "a9f2d06ec17f6ae41671642c60d0a31005e05d4d2a3642e8b434b0accdb93a06", func := "gneiss/gneisslaw25.RunConfigs", spec := "runConfigs", unfollowed := true, recurses := true, named := ["strings.asciiSpace", "unicode.White_Space"], plainKeys := false, apart := false, laid := [("unicode.White_Space", laid_unicode_White_Space), ("strings.asciiSpace", laid_strings_asciiSpace)] }
def RunConfigsSaid : Prop := runConfigsRow.holds Tryz.pinned (OpenSpec.ofChange runConfigsSpec)

/-- ITS FALSE NEIGHBOUR: 'it returns false'. Refute it at one input. -/
def runConfigsWrong : ChangeSpec := { name := "runConfigs", fn := fun _ => fun
  | [d1, d2, d3] => { results := [.lit (.bool false)], args := [d1, d2, d3] }
  | _ => none }
def RunConfigsWrongFalsely : Prop := runConfigsRow.holds Tryz.pinned (OpenSpec.ofChange runConfigsWrong)

/-- 'gneisslaw25.RunIdle': WHATEVER THE INPUT: true; the input reads as it did. -/
def runIdleSpec : ChangeSpec := { name := "runIdle", fn := fun _ => fun
  | [d] => { results := [.lit (.bool true)], args := [d] }
  | _ => none }
def runIdleRow : OpenClaim := { program := "ytbehlkbeofoahaagreatdoor", sum := "a9f2d06ec17f6ae41671642c60d0a31005e05d4d2a3642e8b434b0accdb93a06", func := "gneiss/gneisslaw25.RunIdle", spec := "runIdle", unfollowed := true, recurses := true, named := ["strings.asciiSpace", "unicode.White_Space"], plainKeys := false, apart := false, laid := [("unicode.White_Space", laid_unicode_White_Space), ("strings.asciiSpace", laid_strings_asciiSpace)] }
def RunIdleSaid : Prop := runIdleRow.holds Tryz.pinned (OpenSpec.ofChange runIdleSpec)

/-- ITS FALSE NEIGHBOUR: 'it returns false'. Refute it at one input. -/
def runIdleWrong : ChangeSpec := { name := "runIdle", fn := fun _ => fun
  | [d] => { results := [.lit (.bool false)], args := [d] }
  | _ => none }
def RunIdleWrongFalsely : Prop := runIdleRow.holds Tryz.pinned (OpenSpec.ofChange runIdleWrong)

/-- 'gneisslaw25.RunAriths': WHATEVER THE INPUT: true; the input reads as it did. -/
def runArithsSpec : ChangeSpec := { name := "runAriths", fn := fun _ => fun
  | [d1, d2, d3] => { results := [.lit (.bool true)], args := [d1, d2, d3] }
  | _ => none }
def runArithsRow : OpenClaim := { program := "ytbehlkbeofoahaagreatdoor", sum := "a9f2d06ec17f6ae41671642c60d0a31005e05d4d2a3642e8b434b0accdb93a06", func := "gneiss/gneisslaw25.RunAriths", spec := "runAriths", unfollowed := true, recurses := true, named := ["strings.asciiSpace", "unicode.White_Space"], plainKeys := false, apart := false, laid := [("unicode.White_Space", laid_unicode_White_Space), ("strings.asciiSpace", laid_strings_asciiSpace)] }
def RunArithsSaid : Prop := runArithsRow.holds Tryz.pinned (OpenSpec.ofChange runArithsSpec)

/-- ITS FALSE NEIGHBOUR: 'it returns false'. Refute it at one input. -/
def runArithsWrong : ChangeSpec := { name := "runAriths", fn := fun _ => fun
  | [d1, d2, d3] => { results := [.lit (.bool false)], args := [d1, d2, d3] }
  | _ => none }
def RunArithsWrongFalsely : Prop := runArithsRow.holds Tryz.pinned (OpenSpec.ofChange runArithsWrong)

/-- 'gneisslaw25.RunArrays': WHATEVER THE INPUT: true; the input reads as it did. -/
def runArraysSpec : ChangeSpec := { name := "runArrays", fn := fun _ => fun
  | [d1, d2, d3] => { results := [.lit (.bool true)], args := [d1, d2, d3] }
  | _ => none }
def runArraysRow : OpenClaim := { program := "ytbehlkbeofoahaagreatdoor", sum := "a9f2d06ec17f6ae41671642c60d0a31005e05d4d2a3642e8b434b0accdb93a06", func := "gneiss/gneisslaw25.RunArrays", spec := "runArrays", unfollowed := true, recurses := true, named := ["strings.asciiSpace", "unicode.White_Space"], plainKeys := false, apart := false, laid := [("unicode.White_Space", laid_unicode_White_Space), ("strings.asciiSpace", laid_strings_asciiSpace)] }
def RunArraysSaid : Prop := runArraysRow.holds Tryz.pinned (OpenSpec.ofChange runArraysSpec)

/-- ITS FALSE NEIGHBOUR: 'it returns false'. Refute it at one input. -/
def runArraysWrong : ChangeSpec := { name := "runArrays", fn := fun _ => fun
  | [d1, d2, d3] => { results := [.lit (.bool false)], args := [d1, d2, d3] }
  | _ => none }
def RunArraysWrongFalsely : Prop := runArraysRow.holds Tryz.pinned (OpenSpec.ofChange runArraysWrong)

/-- 'gneisslaw25.RunRefArrays': WHATEVER THE INPUT: true; the input reads as it did. -/
def runRefArraysSpec : ChangeSpec := { name := "runRefArrays", fn := fun _ => fun
  | [d1, d2] => { results := [.lit (.bool true)], args := [d1, d2] }
  | _ => none }
def runRefArraysRow : OpenClaim := { program := "ytbehlkbeofoahaagreatdoor", sum := "a9f2d06ec17f6ae41671642c60d0a31005e05d4d2a3642e8b434b0accdb93a06", func := "gneiss/gneisslaw25.RunRefArrays", spec := "runRefArrays", unfollowed := true, recurses := true, named := ["strings.asciiSpace", "unicode.White_Space"], plainKeys := false, apart := false, laid := [("unicode.White_Space", laid_unicode_White_Space), ("strings.asciiSpace", laid_strings_asciiSpace)] }
def RunRefArraysSaid : Prop := runRefArraysRow.holds Tryz.pinned (OpenSpec.ofChange runRefArraysSpec)

/-- ITS FALSE NEIGHBOUR: 'it returns false'. Refute it at one input. -/
def runRefArraysWrong : ChangeSpec := { name := "runRefArrays", fn := fun _ => fun
  | [d1, d2] => { results := [.lit (.bool false)], args := [d1, d2] }
  | _ => none }
def RunRefArraysWrongFalsely : Prop := runRefArraysRow.holds Tryz.pinned (OpenSpec.ofChange runRefArraysWrong)

/-- 'gneisslaw25.RunRecursion': WHATEVER THE INPUT: true; the input reads as it did. -/
def runRecursionSpec : ChangeSpec := { name := "runRecursion", fn := fun _ => fun
  | [d] => { results := [.lit (.bool true)], args := [d] }
  | _ => none }
def runRecursionRow : OpenClaim := { program := "ytbehlkbeofoahaagreatdoor", sum := "a9f2d06ec17f6ae41671642c60d0a31005e05d4d2a3642e8b434b0accdb93a06", func := "gneiss/gneisslaw25.RunRecursion", spec := "runRecursion", unfollowed := true, recurses := true, named := ["strings.asciiSpace", "unicode.White_Space"], plainKeys := false, apart := false, laid := [("unicode.White_Space", laid_unicode_White_Space), ("strings.asciiSpace", laid_strings_asciiSpace)] }
def RunRecursionSaid : Prop := runRecursionRow.holds Tryz.pinned (OpenSpec.ofChange runRecursionSpec)

/-- ITS FALSE NEIGHBOUR: 'it returns false'. Refute it at one input. -/
def runRecursionWrong : ChangeSpec := { name := "runRecursion", fn := fun _ => fun
  | [d] => { results := [.lit (.bool false)], args := [d] }
  | _ => none }
def RunRecursionWrongFalsely : Prop := runRecursionRow.holds Tryz.pinned (OpenSpec.ofChange runRecursionWrong)

/-- 'gneisslaw25.RunReads': WHATEVER THE INPUT: true; the input reads as it did. -/
def runReadsSpec : ChangeSpec := { name := "runReads", fn := fun _ => fun
  | [d1, d2] => { results := [.lit (.bool true)], args := [d1, d2] }
  | _ => none }
def runReadsRow : OpenClaim := { program := "ytbehlkbeofoahaagreatdoor", sum := "a9f2d06ec17f6ae41671642c60d0a31005e05d4d2a3642e8b434b0accdb93a06", func := "gneiss/gneisslaw25.RunReads", spec := "runReads", unfollowed := true, recurses := true, named := ["strings.asciiSpace", "unicode.White_Space"], plainKeys := false, apart := false, laid := [("unicode.White_Space", laid_unicode_White_Space), ("strings.asciiSpace", laid_strings_asciiSpace)] }
def RunReadsSaid : Prop := runReadsRow.holds Tryz.pinned (OpenSpec.ofChange runReadsSpec)

/-- ITS FALSE NEIGHBOUR: 'it returns false'. Refute it at one input. -/
def runReadsWrong : ChangeSpec := { name := "runReads", fn := fun _ => fun
  | [d1, d2] => { results := [.lit (.bool false)], args := [d1, d2] }
  | _ => none }
def RunReadsWrongFalsely : Prop := runReadsRow.holds Tryz.pinned (OpenSpec.ofChange runReadsWrong)

/- THE SECOND FORM. 'bulk': how many values and letters a reading holds, each counted each time it is reached (what is shared counts as often as it is met; a slice's spare places count too). A statement '..UptoSaid' is the law's where the arguments, and the package variables that the reading takes, are together of bulk at most 1048576: NARROWER than '..Said'. Prove '..Said' where nothing that the law and all that it calls make is longer than what came in: it says more and counts as full. Else prove '..UptoSaid'. A law counts once. -/
mutual
def uptoBulk {H : Type} : DataW H → Nat
  | .lit (.string bytes) => bytes.length + 1
  | .lit _ => 1
  | .nil => 1
  | .ptr d => uptoBulk d + 1
  | .slice elems spare => uptoBulkAll elems + uptoBulkAll spare + 1
  | .agg parts => uptoBulkAll parts + 1
  | .iface _ d => uptoBulk d + 1
  | .map entries => uptoBulkEntries entries + 1
  | .held _ => 1
def uptoBulkAll {H : Type} : List (DataW H) → Nat
  | [] => 0
  | d :: r => uptoBulk d + uptoBulkAll r
def uptoBulkEntries {H : Type} : List (Lit × DataW H) → Nat
  | [] => 0
  | x :: r => uptoBulkEntry x + uptoBulkEntries r
def uptoBulkEntry {H : Type} : Lit × DataW H → Nat
  | (.string bytes, d) => bytes.length + uptoBulk d + 1
  | (_, d) => uptoBulk d + 1
 end
def uptoSmall : (H : Type) → List (DataW H) → Bool := fun _ ds => decide (uptoBulkAll ds ≤ 1048576)
def OpenSpec.upto (s : _root_.Go.ChangeSpec) : _root_.Go.OpenSpec := { _root_.Go.OpenSpec.ofChange s with cond := some uptoSmall }

/-- 'gneisslaw25.RunConfigs', WHERE WHAT IT READS IS OF BULK AT MOST 1048576: true; the input reads as it did. -/
def runConfigsUptoRow : OpenClaim := { program := "ytbehlkbeofoahaagreatdoor", sum := "a9f2d06ec17f6ae41671642c60d0a31005e05d4d2a3642e8b434b0accdb93a06", func := "gneiss/gneisslaw25.RunConfigs", spec := "runConfigs", unfollowed := true, recurses := true, named := ["strings.asciiSpace", "unicode.White_Space"], plainKeys := false, apart := false, laid := [("unicode.White_Space", laid_unicode_White_Space), ("strings.asciiSpace", laid_strings_asciiSpace)], narrowed := true }
def RunConfigsUptoSaid : Prop := runConfigsUptoRow.holds Tryz.pinned (OpenSpec.upto runConfigsSpec)

/-- 'gneisslaw25.RunIdle', WHERE WHAT IT READS IS OF BULK AT MOST 1048576: true; the input reads as it did. -/
def runIdleUptoRow : OpenClaim := { program := "ytbehlkbeofoahaagreatdoor", sum := "a9f2d06ec17f6ae41671642c60d0a31005e05d4d2a3642e8b434b0accdb93a06", func := "gneiss/gneisslaw25.RunIdle", spec := "runIdle", unfollowed := true, recurses := true, named := ["strings.asciiSpace", "unicode.White_Space"], plainKeys := false, apart := false, laid := [("unicode.White_Space", laid_unicode_White_Space), ("strings.asciiSpace", laid_strings_asciiSpace)], narrowed := true }
def RunIdleUptoSaid : Prop := runIdleUptoRow.holds Tryz.pinned (OpenSpec.upto runIdleSpec)

/-- 'gneisslaw25.RunAriths', WHERE WHAT IT READS IS OF BULK AT MOST 1048576: true; the input reads as it did. -/
def runArithsUptoRow : OpenClaim := { program := "ytbehlkbeofoahaagreatdoor", sum := "a9f2d06ec17f6ae41671642c60d0a31005e05d4d2a3642e8b434b0accdb93a06", func := "gneiss/gneisslaw25.RunAriths", spec := "runAriths", unfollowed := true, recurses := true, named := ["strings.asciiSpace", "unicode.White_Space"], plainKeys := false, apart := false, laid := [("unicode.White_Space", laid_unicode_White_Space), ("strings.asciiSpace", laid_strings_asciiSpace)], narrowed := true }
def RunArithsUptoSaid : Prop := runArithsUptoRow.holds Tryz.pinned (OpenSpec.upto runArithsSpec)

/-- 'gneisslaw25.RunArrays', WHERE WHAT IT READS IS OF BULK AT MOST 1048576: true; the input reads as it did. -/
def runArraysUptoRow : OpenClaim := { program := "ytbehlkbeofoahaagreatdoor", sum := "a9f2d06ec17f6ae41671642c60d0a31005e05d4d2a3642e8b434b0accdb93a06", func := "gneiss/gneisslaw25.RunArrays", spec := "runArrays", unfollowed := true, recurses := true, named := ["strings.asciiSpace", "unicode.White_Space"], plainKeys := false, apart := false, laid := [("unicode.White_Space", laid_unicode_White_Space), ("strings.asciiSpace", laid_strings_asciiSpace)], narrowed := true }
def RunArraysUptoSaid : Prop := runArraysUptoRow.holds Tryz.pinned (OpenSpec.upto runArraysSpec)

/-- 'gneisslaw25.RunRefArrays', WHERE WHAT IT READS IS OF BULK AT MOST 1048576: true; the input reads as it did. -/
def runRefArraysUptoRow : OpenClaim := { program := "ytbehlkbeofoahaagreatdoor", sum := "a9f2d06ec17f6ae41671642c60d0a31005e05d4d2a3642e8b434b0accdb93a06", func := "gneiss/gneisslaw25.RunRefArrays", spec := "runRefArrays", unfollowed := true, recurses := true, named := ["strings.asciiSpace", "unicode.White_Space"], plainKeys := false, apart := false, laid := [("unicode.White_Space", laid_unicode_White_Space), ("strings.asciiSpace", laid_strings_asciiSpace)], narrowed := true }
def RunRefArraysUptoSaid : Prop := runRefArraysUptoRow.holds Tryz.pinned (OpenSpec.upto runRefArraysSpec)

/-- 'gneisslaw25.RunRecursion', WHERE WHAT IT READS IS OF BULK AT MOST 1048576: true; the input reads as it did. -/
def runRecursionUptoRow : OpenClaim := { program := "ytbehlkbeofoahaagreatdoor", sum := "a9f2d06ec17f6ae41671642c60d0a31005e05d4d2a3642e8b434b0accdb93a06", func := "gneiss/gneisslaw25.RunRecursion", spec := "runRecursion", unfollowed := true, recurses := true, named := ["strings.asciiSpace", "unicode.White_Space"], plainKeys := false, apart := false, laid := [("unicode.White_Space", laid_unicode_White_Space), ("strings.asciiSpace", laid_strings_asciiSpace)], narrowed := true }
def RunRecursionUptoSaid : Prop := runRecursionUptoRow.holds Tryz.pinned (OpenSpec.upto runRecursionSpec)

/-- 'gneisslaw25.RunReads', WHERE WHAT IT READS IS OF BULK AT MOST 1048576: true; the input reads as it did. -/
def runReadsUptoRow : OpenClaim := { program := "ytbehlkbeofoahaagreatdoor", sum := "a9f2d06ec17f6ae41671642c60d0a31005e05d4d2a3642e8b434b0accdb93a06", func := "gneiss/gneisslaw25.RunReads", spec := "runReads", unfollowed := true, recurses := true, named := ["strings.asciiSpace", "unicode.White_Space"], plainKeys := false, apart := false, laid := [("unicode.White_Space", laid_unicode_White_Space), ("strings.asciiSpace", laid_strings_asciiSpace)], narrowed := true }
def RunReadsUptoSaid : Prop := runReadsUptoRow.holds Tryz.pinned (OpenSpec.upto runReadsSpec)

end Rows
end Go.Proofs.YtbehlkbeofoahaaGreatDoor

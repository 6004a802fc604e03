/-
  NARROWER THAN 'FOR EVERY INPUT', by the rows' own cells (each row's printed sentence says how): VerifyStacks: laid · VerifyLocals: laid · VerifyTypes: laid · VerifyMaps: laid · VerifyEnds: laid · VerifyForms: laid · VerifyTables: laid · VerifyReturns: laid · VerifyCalls: laid · VerifyFields: laid · VerifyPushes: laid · VerifyArrays: laid · VerifyCovers: laid.
  DERIVED. THE GIVEN ROWS OF THIS SEAT. 13 by the template 'for every input the law returns true; each argument reads behind the call as it read before'; 0 by the template 'total and deterministic' (their statements: YtjpcncllagooeaaDoorTotals.lean).
  GIVEN WITH THE SEED: the statements are not yours to turn. If you find one false, say at which input.
  Laid BY PROGRAM, IN A SANDBOX (cutbox-rows.mjs): the forced cells as the released guide's own fill.sh prints them over the translation 8731dfb8c6d56ab8… (all of the seat's roots in one cut). By AI agents, Wed Nov 11 2026. No macro, syntax, notation, axiom, sorry.
-/
import Derived.Test.YtjpcncllagooeaaDoorChecked
import GoSem.Claim
import GoSem.ClaimJoined
import GoSem.ClaimMapViews
import Derived.JoinedTies
import Derived.KernelRfl
namespace Go.Proofs.YtjpcncllagooeaaDoor
/- THE CELL 'sum', in the pinned program and in every row, IS THE sha256 OF THE DUMP (.gsa) THAT YtjpcncllagooeaaDoorProg.lean LOADS. Nothing in Lean hashes anything: it is a label: what it is worth is what the hold of that sum in a sandbox is worth. -/
noncomputable def Tryd.pinned : Pinned := { name := "ytjpcncllagooeaadoor", sum := "8731dfb8c6d56ab8c9cf042d5226c5f44ed2481f956c54ac7802e566f4b1283e", checked := Tryd.checked }
namespace Rows
def none {H : Type} : Left H := { results := [], args := [] }

/- WHAT THE LISTED PACKAGE-LEVEL VARIABLES READ AS WHEN THE CALL BEGINS. Each datum BY PROGRAM (the guide's laid-datum.mjs) off the statement by which the dump's own 'gosem.cut.vars' lays the variable. In a bare row this is a premise. The card (YtjpcncllagooeaaDoorCards.lean) ties it to the program's text. -/
def laid_unicode_White_Space {H : Type} : DataW H := .ptr (.agg [.slice [.agg [.lit (.int .u16 9), .lit (.int .u16 13), .lit (.int .u16 1)], .agg [.lit (.int .u16 32), .lit (.int .u16 133), .lit (.int .u16 101)], .agg [.lit (.int .u16 160), .lit (.int .u16 5760), .lit (.int .u16 5600)], .agg [.lit (.int .u16 8192), .lit (.int .u16 8202), .lit (.int .u16 1)], .agg [.lit (.int .u16 8232), .lit (.int .u16 8233), .lit (.int .u16 1)], .agg [.lit (.int .u16 8239), .lit (.int .u16 8287), .lit (.int .u16 48)], .agg [.lit (.int .u16 12288), .lit (.int .u16 12288), .lit (.int .u16 1)]] [], .nil, .lit (.int .i64 2)])
def laid_strings_asciiSpace {H : Type} : DataW H := .agg [.lit (.int .u8 0), .lit (.int .u8 0), .lit (.int .u8 0), .lit (.int .u8 0), .lit (.int .u8 0), .lit (.int .u8 0), .lit (.int .u8 0), .lit (.int .u8 0), .lit (.int .u8 0), .lit (.int .u8 1), .lit (.int .u8 1), .lit (.int .u8 1), .lit (.int .u8 1), .lit (.int .u8 1), .lit (.int .u8 0), .lit (.int .u8 0), .lit (.int .u8 0), .lit (.int .u8 0), .lit (.int .u8 0), .lit (.int .u8 0), .lit (.int .u8 0), .lit (.int .u8 0), .lit (.int .u8 0), .lit (.int .u8 0), .lit (.int .u8 0), .lit (.int .u8 0), .lit (.int .u8 0), .lit (.int .u8 0), .lit (.int .u8 0), .lit (.int .u8 0), .lit (.int .u8 0), .lit (.int .u8 0), .lit (.int .u8 1), .lit (.int .u8 0), .lit (.int .u8 0), .lit (.int .u8 0), .lit (.int .u8 0), .lit (.int .u8 0), .lit (.int .u8 0), .lit (.int .u8 0), .lit (.int .u8 0), .lit (.int .u8 0), .lit (.int .u8 0), .lit (.int .u8 0), .lit (.int .u8 0), .lit (.int .u8 0), .lit (.int .u8 0), .lit (.int .u8 0), .lit (.int .u8 0), .lit (.int .u8 0), .lit (.int .u8 0), .lit (.int .u8 0), .lit (.int .u8 0), .lit (.int .u8 0), .lit (.int .u8 0), .lit (.int .u8 0), .lit (.int .u8 0), .lit (.int .u8 0), .lit (.int .u8 0), .lit (.int .u8 0), .lit (.int .u8 0), .lit (.int .u8 0), .lit (.int .u8 0), .lit (.int .u8 0), .lit (.int .u8 0), .lit (.int .u8 0), .lit (.int .u8 0), .lit (.int .u8 0), .lit (.int .u8 0), .lit (.int .u8 0), .lit (.int .u8 0), .lit (.int .u8 0), .lit (.int .u8 0), .lit (.int .u8 0), .lit (.int .u8 0), .lit (.int .u8 0), .lit (.int .u8 0), .lit (.int .u8 0), .lit (.int .u8 0), .lit (.int .u8 0), .lit (.int .u8 0), .lit (.int .u8 0), .lit (.int .u8 0), .lit (.int .u8 0), .lit (.int .u8 0), .lit (.int .u8 0), .lit (.int .u8 0), .lit (.int .u8 0), .lit (.int .u8 0), .lit (.int .u8 0), .lit (.int .u8 0), .lit (.int .u8 0), .lit (.int .u8 0), .lit (.int .u8 0), .lit (.int .u8 0), .lit (.int .u8 0), .lit (.int .u8 0), .lit (.int .u8 0), .lit (.int .u8 0), .lit (.int .u8 0), .lit (.int .u8 0), .lit (.int .u8 0), .lit (.int .u8 0), .lit (.int .u8 0), .lit (.int .u8 0), .lit (.int .u8 0), .lit (.int .u8 0), .lit (.int .u8 0), .lit (.int .u8 0), .lit (.int .u8 0), .lit (.int .u8 0), .lit (.int .u8 0), .lit (.int .u8 0), .lit (.int .u8 0), .lit (.int .u8 0), .lit (.int .u8 0), .lit (.int .u8 0), .lit (.int .u8 0), .lit (.int .u8 0), .lit (.int .u8 0), .lit (.int .u8 0), .lit (.int .u8 0), .lit (.int .u8 0), .lit (.int .u8 0), .lit (.int .u8 0), .lit (.int .u8 0), .lit (.int .u8 0), .lit (.int .u8 0), .lit (.int .u8 0), .lit (.int .u8 0), .lit (.int .u8 0), .lit (.int .u8 0), .lit (.int .u8 0), .lit (.int .u8 0), .lit (.int .u8 0), .lit (.int .u8 0), .lit (.int .u8 0), .lit (.int .u8 0), .lit (.int .u8 0), .lit (.int .u8 0), .lit (.int .u8 0), .lit (.int .u8 0), .lit (.int .u8 0), .lit (.int .u8 0), .lit (.int .u8 0), .lit (.int .u8 0), .lit (.int .u8 0), .lit (.int .u8 0), .lit (.int .u8 0), .lit (.int .u8 0), .lit (.int .u8 0), .lit (.int .u8 0), .lit (.int .u8 0), .lit (.int .u8 0), .lit (.int .u8 0), .lit (.int .u8 0), .lit (.int .u8 0), .lit (.int .u8 0), .lit (.int .u8 0), .lit (.int .u8 0), .lit (.int .u8 0), .lit (.int .u8 0), .lit (.int .u8 0), .lit (.int .u8 0), .lit (.int .u8 0), .lit (.int .u8 0), .lit (.int .u8 0), .lit (.int .u8 0), .lit (.int .u8 0), .lit (.int .u8 0), .lit (.int .u8 0), .lit (.int .u8 0), .lit (.int .u8 0), .lit (.int .u8 0), .lit (.int .u8 0), .lit (.int .u8 0), .lit (.int .u8 0), .lit (.int .u8 0), .lit (.int .u8 0), .lit (.int .u8 0), .lit (.int .u8 0), .lit (.int .u8 0), .lit (.int .u8 0), .lit (.int .u8 0), .lit (.int .u8 0), .lit (.int .u8 0), .lit (.int .u8 0), .lit (.int .u8 0), .lit (.int .u8 0), .lit (.int .u8 0), .lit (.int .u8 0), .lit (.int .u8 0), .lit (.int .u8 0), .lit (.int .u8 0), .lit (.int .u8 0), .lit (.int .u8 0), .lit (.int .u8 0), .lit (.int .u8 0), .lit (.int .u8 0), .lit (.int .u8 0), .lit (.int .u8 0), .lit (.int .u8 0), .lit (.int .u8 0), .lit (.int .u8 0), .lit (.int .u8 0), .lit (.int .u8 0), .lit (.int .u8 0), .lit (.int .u8 0), .lit (.int .u8 0), .lit (.int .u8 0), .lit (.int .u8 0), .lit (.int .u8 0), .lit (.int .u8 0), .lit (.int .u8 0), .lit (.int .u8 0), .lit (.int .u8 0), .lit (.int .u8 0), .lit (.int .u8 0), .lit (.int .u8 0), .lit (.int .u8 0), .lit (.int .u8 0), .lit (.int .u8 0), .lit (.int .u8 0), .lit (.int .u8 0), .lit (.int .u8 0), .lit (.int .u8 0), .lit (.int .u8 0), .lit (.int .u8 0), .lit (.int .u8 0), .lit (.int .u8 0), .lit (.int .u8 0), .lit (.int .u8 0), .lit (.int .u8 0), .lit (.int .u8 0), .lit (.int .u8 0), .lit (.int .u8 0), .lit (.int .u8 0), .lit (.int .u8 0), .lit (.int .u8 0), .lit (.int .u8 0), .lit (.int .u8 0), .lit (.int .u8 0), .lit (.int .u8 0), .lit (.int .u8 0), .lit (.int .u8 0), .lit (.int .u8 0), .lit (.int .u8 0), .lit (.int .u8 0), .lit (.int .u8 0), .lit (.int .u8 0), .lit (.int .u8 0), .lit (.int .u8 0), .lit (.int .u8 0), .lit (.int .u8 0), .lit (.int .u8 0), .lit (.int .u8 0)]

/-- 'gneisslaw18.VerifyStacks': WHATEVER THE INPUT: true; the input reads as it did. -/
def verifyStacksSpec : ChangeSpec := { name := "verifyStacks", fn := fun _ => fun
  | [d1, d2] => { results := [.lit (.bool true)], args := [d1, d2] }
  | _ => none }
def verifyStacksRow : OpenClaim := { program := "ytjpcncllagooeaadoor", sum := "8731dfb8c6d56ab8c9cf042d5226c5f44ed2481f956c54ac7802e566f4b1283e", func := "gneiss/gneisslaw18.VerifyStacks", spec := "verifyStacks", unfollowed := true, recurses := true, named := ["strings.asciiSpace", "unicode.White_Space"], apart := false, laid := [("unicode.White_Space", laid_unicode_White_Space), ("strings.asciiSpace", laid_strings_asciiSpace)] }
def VerifyStacksSaid : Prop := verifyStacksRow.holds Tryd.pinned (OpenSpec.ofChange verifyStacksSpec)

/-- ITS FALSE NEIGHBOUR: 'it returns false'. Refute it at one input. -/
def verifyStacksWrong : ChangeSpec := { name := "verifyStacks", fn := fun _ => fun
  | [d1, d2] => { results := [.lit (.bool false)], args := [d1, d2] }
  | _ => none }
def VerifyStacksWrongFalsely : Prop := verifyStacksRow.holds Tryd.pinned (OpenSpec.ofChange verifyStacksWrong)

/-- 'gneisslaw18.VerifyLocals': WHATEVER THE INPUT: true; the input reads as it did. -/
def verifyLocalsSpec : ChangeSpec := { name := "verifyLocals", fn := fun _ => fun
  | [d1, d2] => { results := [.lit (.bool true)], args := [d1, d2] }
  | _ => none }
def verifyLocalsRow : OpenClaim := { program := "ytjpcncllagooeaadoor", sum := "8731dfb8c6d56ab8c9cf042d5226c5f44ed2481f956c54ac7802e566f4b1283e", func := "gneiss/gneisslaw18.VerifyLocals", spec := "verifyLocals", unfollowed := true, recurses := true, named := ["strings.asciiSpace", "unicode.White_Space"], apart := false, laid := [("unicode.White_Space", laid_unicode_White_Space), ("strings.asciiSpace", laid_strings_asciiSpace)] }
def VerifyLocalsSaid : Prop := verifyLocalsRow.holds Tryd.pinned (OpenSpec.ofChange verifyLocalsSpec)

/-- ITS FALSE NEIGHBOUR: 'it returns false'. Refute it at one input. -/
def verifyLocalsWrong : ChangeSpec := { name := "verifyLocals", fn := fun _ => fun
  | [d1, d2] => { results := [.lit (.bool false)], args := [d1, d2] }
  | _ => none }
def VerifyLocalsWrongFalsely : Prop := verifyLocalsRow.holds Tryd.pinned (OpenSpec.ofChange verifyLocalsWrong)

/-- 'gneisslaw18.VerifyTypes': WHATEVER THE INPUT: true; the input reads as it did. -/
def verifyTypesSpec : ChangeSpec := { name := "verifyTypes", fn := fun _ => fun
  | [d1, d2] => { results := [.lit (.bool true)], args := [d1, d2] }
  | _ => none }
def verifyTypesRow : OpenClaim := { program := "ytjpcncllagooeaadoor", sum := "8731dfb8c6d56ab8c9cf042d5226c5f44ed2481f956c54ac7802e566f4b1283e", func := "gneiss/gneisslaw18.VerifyTypes", spec := "verifyTypes", unfollowed := true, recurses := true, named := ["strings.asciiSpace", "unicode.White_Space"], apart := false, laid := [("unicode.White_Space", laid_unicode_White_Space), ("strings.asciiSpace", laid_strings_asciiSpace)] }
def VerifyTypesSaid : Prop := verifyTypesRow.holds Tryd.pinned (OpenSpec.ofChange verifyTypesSpec)

/-- ITS FALSE NEIGHBOUR: 'it returns false'. Refute it at one input. -/
def verifyTypesWrong : ChangeSpec := { name := "verifyTypes", fn := fun _ => fun
  | [d1, d2] => { results := [.lit (.bool false)], args := [d1, d2] }
  | _ => none }
def VerifyTypesWrongFalsely : Prop := verifyTypesRow.holds Tryd.pinned (OpenSpec.ofChange verifyTypesWrong)

/-- 'gneisslaw18.VerifyMaps': WHATEVER THE INPUT: true; the input reads as it did. -/
def verifyMapsSpec : ChangeSpec := { name := "verifyMaps", fn := fun _ => fun
  | [d] => { results := [.lit (.bool true)], args := [d] }
  | _ => none }
def verifyMapsRow : OpenClaim := { program := "ytjpcncllagooeaadoor", sum := "8731dfb8c6d56ab8c9cf042d5226c5f44ed2481f956c54ac7802e566f4b1283e", func := "gneiss/gneisslaw18.VerifyMaps", spec := "verifyMaps", unfollowed := true, recurses := true, named := ["strings.asciiSpace", "unicode.White_Space"], apart := false, laid := [("unicode.White_Space", laid_unicode_White_Space), ("strings.asciiSpace", laid_strings_asciiSpace)] }
def VerifyMapsSaid : Prop := verifyMapsRow.holds Tryd.pinned (OpenSpec.ofChange verifyMapsSpec)

/-- ITS FALSE NEIGHBOUR: 'it returns false'. Refute it at one input. -/
def verifyMapsWrong : ChangeSpec := { name := "verifyMaps", fn := fun _ => fun
  | [d] => { results := [.lit (.bool false)], args := [d] }
  | _ => none }
def VerifyMapsWrongFalsely : Prop := verifyMapsRow.holds Tryd.pinned (OpenSpec.ofChange verifyMapsWrong)

/-- 'gneisslaw18.VerifyEnds': WHATEVER THE INPUT: true; the input reads as it did. -/
def verifyEndsSpec : ChangeSpec := { name := "verifyEnds", fn := fun _ => fun
  | [d] => { results := [.lit (.bool true)], args := [d] }
  | _ => none }
def verifyEndsRow : OpenClaim := { program := "ytjpcncllagooeaadoor", sum := "8731dfb8c6d56ab8c9cf042d5226c5f44ed2481f956c54ac7802e566f4b1283e", func := "gneiss/gneisslaw18.VerifyEnds", spec := "verifyEnds", unfollowed := true, recurses := true, named := ["strings.asciiSpace", "unicode.White_Space"], apart := false, laid := [("unicode.White_Space", laid_unicode_White_Space), ("strings.asciiSpace", laid_strings_asciiSpace)] }
def VerifyEndsSaid : Prop := verifyEndsRow.holds Tryd.pinned (OpenSpec.ofChange verifyEndsSpec)

/-- ITS FALSE NEIGHBOUR: 'it returns false'. Refute it at one input. -/
def verifyEndsWrong : ChangeSpec := { name := "verifyEnds", fn := fun _ => fun
  | [d] => { results := [.lit (.bool false)], args := [d] }
  | _ => none }
def VerifyEndsWrongFalsely : Prop := verifyEndsRow.holds Tryd.pinned (OpenSpec.ofChange verifyEndsWrong)

/-- 'gneisslaw18.VerifyForms': WHATEVER THE INPUT: true; the input reads as it did. -/
def verifyFormsSpec : ChangeSpec := { name := "verifyForms", fn := fun _ => fun
  | [d1, d2] => { results := [.lit (.bool true)], args := [d1, d2] }
  | _ => none }
def verifyFormsRow : OpenClaim := { program := "ytjpcncllagooeaadoor", sum := "8731dfb8c6d56ab8c9cf042d5226c5f44ed2481f956c54ac7802e566f4b1283e", func := "gneiss/gneisslaw18.VerifyForms", spec := "verifyForms", unfollowed := true, recurses := true, named := ["strings.asciiSpace", "unicode.White_Space"], apart := false, laid := [("unicode.White_Space", laid_unicode_White_Space), ("strings.asciiSpace", laid_strings_asciiSpace)] }
def VerifyFormsSaid : Prop := verifyFormsRow.holds Tryd.pinned (OpenSpec.ofChange verifyFormsSpec)

/-- ITS FALSE NEIGHBOUR: 'it returns false'. Refute it at one input. -/
def verifyFormsWrong : ChangeSpec := { name := "verifyForms", fn := fun _ => fun
  | [d1, d2] => { results := [.lit (.bool false)], args := [d1, d2] }
  | _ => none }
def VerifyFormsWrongFalsely : Prop := verifyFormsRow.holds Tryd.pinned (OpenSpec.ofChange verifyFormsWrong)

/-- 'gneisslaw18.VerifyTables': WHATEVER THE INPUT: true; the input reads as it did. -/
def verifyTablesSpec : ChangeSpec := { name := "verifyTables", fn := fun _ => fun
  | [d] => { results := [.lit (.bool true)], args := [d] }
  | _ => none }
def verifyTablesRow : OpenClaim := { program := "ytjpcncllagooeaadoor", sum := "8731dfb8c6d56ab8c9cf042d5226c5f44ed2481f956c54ac7802e566f4b1283e", func := "gneiss/gneisslaw18.VerifyTables", spec := "verifyTables", unfollowed := true, recurses := true, named := ["strings.asciiSpace", "unicode.White_Space"], apart := false, laid := [("unicode.White_Space", laid_unicode_White_Space), ("strings.asciiSpace", laid_strings_asciiSpace)] }
def VerifyTablesSaid : Prop := verifyTablesRow.holds Tryd.pinned (OpenSpec.ofChange verifyTablesSpec)

/-- ITS FALSE NEIGHBOUR: 'it returns false'. Refute it at one input. -/
def verifyTablesWrong : ChangeSpec := { name := "verifyTables", fn := fun _ => fun
  | [d] => { results := [.lit (.bool false)], args := [d] }
  | _ => none }
def VerifyTablesWrongFalsely : Prop := verifyTablesRow.holds Tryd.pinned (OpenSpec.ofChange verifyTablesWrong)

/-- 'gneisslaw18.VerifyReturns': WHATEVER THE INPUT: true; the input reads as it did. -/
def verifyReturnsSpec : ChangeSpec := { name := "verifyReturns", fn := fun _ => fun
  | [d1, d2] => { results := [.lit (.bool true)], args := [d1, d2] }
  | _ => none }
def verifyReturnsRow : OpenClaim := { program := "ytjpcncllagooeaadoor", sum := "8731dfb8c6d56ab8c9cf042d5226c5f44ed2481f956c54ac7802e566f4b1283e", func := "gneiss/gneisslaw18.VerifyReturns", spec := "verifyReturns", unfollowed := true, recurses := true, named := ["strings.asciiSpace", "unicode.White_Space"], apart := false, laid := [("unicode.White_Space", laid_unicode_White_Space), ("strings.asciiSpace", laid_strings_asciiSpace)] }
def VerifyReturnsSaid : Prop := verifyReturnsRow.holds Tryd.pinned (OpenSpec.ofChange verifyReturnsSpec)

/-- ITS FALSE NEIGHBOUR: 'it returns false'. Refute it at one input. -/
def verifyReturnsWrong : ChangeSpec := { name := "verifyReturns", fn := fun _ => fun
  | [d1, d2] => { results := [.lit (.bool false)], args := [d1, d2] }
  | _ => none }
def VerifyReturnsWrongFalsely : Prop := verifyReturnsRow.holds Tryd.pinned (OpenSpec.ofChange verifyReturnsWrong)

/-- 'gneisslaw18.VerifyCalls': WHATEVER THE INPUT: true; the input reads as it did. -/
def verifyCallsSpec : ChangeSpec := { name := "verifyCalls", fn := fun _ => fun
  | [d1, d2] => { results := [.lit (.bool true)], args := [d1, d2] }
  | _ => none }
def verifyCallsRow : OpenClaim := { program := "ytjpcncllagooeaadoor", sum := "8731dfb8c6d56ab8c9cf042d5226c5f44ed2481f956c54ac7802e566f4b1283e", func := "gneiss/gneisslaw18.VerifyCalls", spec := "verifyCalls", unfollowed := true, recurses := true, named := ["strings.asciiSpace", "unicode.White_Space"], apart := false, laid := [("unicode.White_Space", laid_unicode_White_Space), ("strings.asciiSpace", laid_strings_asciiSpace)] }
def VerifyCallsSaid : Prop := verifyCallsRow.holds Tryd.pinned (OpenSpec.ofChange verifyCallsSpec)

/-- ITS FALSE NEIGHBOUR: 'it returns false'. Refute it at one input. -/
def verifyCallsWrong : ChangeSpec := { name := "verifyCalls", fn := fun _ => fun
  | [d1, d2] => { results := [.lit (.bool false)], args := [d1, d2] }
  | _ => none }
def VerifyCallsWrongFalsely : Prop := verifyCallsRow.holds Tryd.pinned (OpenSpec.ofChange verifyCallsWrong)

/-- 'gneisslaw18.VerifyFields': WHATEVER THE INPUT: true; the input reads as it did. -/
def verifyFieldsSpec : ChangeSpec := { name := "verifyFields", fn := fun _ => fun
  | [d1, d2] => { results := [.lit (.bool true)], args := [d1, d2] }
  | _ => none }
def verifyFieldsRow : OpenClaim := { program := "ytjpcncllagooeaadoor", sum := "8731dfb8c6d56ab8c9cf042d5226c5f44ed2481f956c54ac7802e566f4b1283e", func := "gneiss/gneisslaw18.VerifyFields", spec := "verifyFields", unfollowed := true, recurses := true, named := ["strings.asciiSpace", "unicode.White_Space"], apart := false, laid := [("unicode.White_Space", laid_unicode_White_Space), ("strings.asciiSpace", laid_strings_asciiSpace)] }
def VerifyFieldsSaid : Prop := verifyFieldsRow.holds Tryd.pinned (OpenSpec.ofChange verifyFieldsSpec)

/-- ITS FALSE NEIGHBOUR: 'it returns false'. Refute it at one input. -/
def verifyFieldsWrong : ChangeSpec := { name := "verifyFields", fn := fun _ => fun
  | [d1, d2] => { results := [.lit (.bool false)], args := [d1, d2] }
  | _ => none }
def VerifyFieldsWrongFalsely : Prop := verifyFieldsRow.holds Tryd.pinned (OpenSpec.ofChange verifyFieldsWrong)

/-- 'gneisslaw18.VerifyPushes': WHATEVER THE INPUT: true; the input reads as it did. -/
def verifyPushesSpec : ChangeSpec := { name := "verifyPushes", fn := fun _ => fun
  | [d] => { results := [.lit (.bool true)], args := [d] }
  | _ => none }
def verifyPushesRow : OpenClaim := { program := "ytjpcncllagooeaadoor", sum := "8731dfb8c6d56ab8c9cf042d5226c5f44ed2481f956c54ac7802e566f4b1283e", func := "gneiss/gneisslaw18.VerifyPushes", spec := "verifyPushes", unfollowed := true, recurses := true, named := ["strings.asciiSpace", "unicode.White_Space"], apart := false, laid := [("unicode.White_Space", laid_unicode_White_Space), ("strings.asciiSpace", laid_strings_asciiSpace)] }
def VerifyPushesSaid : Prop := verifyPushesRow.holds Tryd.pinned (OpenSpec.ofChange verifyPushesSpec)

/-- ITS FALSE NEIGHBOUR: 'it returns false'. Refute it at one input. -/
def verifyPushesWrong : ChangeSpec := { name := "verifyPushes", fn := fun _ => fun
  | [d] => { results := [.lit (.bool false)], args := [d] }
  | _ => none }
def VerifyPushesWrongFalsely : Prop := verifyPushesRow.holds Tryd.pinned (OpenSpec.ofChange verifyPushesWrong)

/-- 'gneisslaw18.VerifyArrays': WHATEVER THE INPUT: true; the input reads as it did. -/
def verifyArraysSpec : ChangeSpec := { name := "verifyArrays", fn := fun _ => fun
  | [d1, d2] => { results := [.lit (.bool true)], args := [d1, d2] }
  | _ => none }
def verifyArraysRow : OpenClaim := { program := "ytjpcncllagooeaadoor", sum := "8731dfb8c6d56ab8c9cf042d5226c5f44ed2481f956c54ac7802e566f4b1283e", func := "gneiss/gneisslaw18.VerifyArrays", spec := "verifyArrays", unfollowed := true, recurses := true, named := ["strings.asciiSpace", "unicode.White_Space"], apart := false, laid := [("unicode.White_Space", laid_unicode_White_Space), ("strings.asciiSpace", laid_strings_asciiSpace)] }
def VerifyArraysSaid : Prop := verifyArraysRow.holds Tryd.pinned (OpenSpec.ofChange verifyArraysSpec)

/-- ITS FALSE NEIGHBOUR: 'it returns false'. Refute it at one input. -/
def verifyArraysWrong : ChangeSpec := { name := "verifyArrays", fn := fun _ => fun
  | [d1, d2] => { results := [.lit (.bool false)], args := [d1, d2] }
  | _ => none }
def VerifyArraysWrongFalsely : Prop := verifyArraysRow.holds Tryd.pinned (OpenSpec.ofChange verifyArraysWrong)

/-- 'gneisslaw18.VerifyCovers': WHATEVER THE INPUT: true; the input reads as it did. -/
def verifyCoversSpec : ChangeSpec := { name := "verifyCovers", fn := fun _ => fun
  | [d] => { results := [.lit (.bool true)], args := [d] }
  | _ => none }
def verifyCoversRow : OpenClaim := { program := "ytjpcncllagooeaadoor", sum := "8731dfb8c6d56ab8c9cf042d5226c5f44ed2481f956c54ac7802e566f4b1283e", func := "gneiss/gneisslaw18.VerifyCovers", spec := "verifyCovers", unfollowed := true, recurses := true, named := ["strings.asciiSpace", "unicode.White_Space"], apart := false, laid := [("unicode.White_Space", laid_unicode_White_Space), ("strings.asciiSpace", laid_strings_asciiSpace)] }
def VerifyCoversSaid : Prop := verifyCoversRow.holds Tryd.pinned (OpenSpec.ofChange verifyCoversSpec)

/-- ITS FALSE NEIGHBOUR: 'it returns false'. Refute it at one input. -/
def verifyCoversWrong : ChangeSpec := { name := "verifyCovers", fn := fun _ => fun
  | [d] => { results := [.lit (.bool false)], args := [d] }
  | _ => none }
def VerifyCoversWrongFalsely : Prop := verifyCoversRow.holds Tryd.pinned (OpenSpec.ofChange verifyCoversWrong)

/- THE SECOND FORM. 'bulk': how many values and letters a reading holds, each counted each time it is reached (what is shared counts as often as it is met; a slice's spare places count too). A statement '..UptoSaid' is the law's where the arguments, and the package variables that the reading takes, are together of bulk at most 1048576: NARROWER than '..Said'. Prove '..Said' where nothing that the law and all that it calls make is longer than what came in: it says more and counts as full. Else prove '..UptoSaid'. A law counts once. -/
mutual
def uptoBulk {H : Type} : DataW H → Nat
  | .lit (.string bytes) => bytes.length + 1
  | .lit _ => 1
  | .nil => 1
  | .ptr d => uptoBulk d + 1
  | .slice elems spare => uptoBulkAll elems + uptoBulkAll spare + 1
  | .agg parts => uptoBulkAll parts + 1
  | .iface _ d => uptoBulk d + 1
  | .map entries => uptoBulkEntries entries + 1
  | .held _ => 1
def uptoBulkAll {H : Type} : List (DataW H) → Nat
  | [] => 0
  | d :: r => uptoBulk d + uptoBulkAll r
def uptoBulkEntries {H : Type} : List (Lit × DataW H) → Nat
  | [] => 0
  | x :: r => uptoBulkEntry x + uptoBulkEntries r
def uptoBulkEntry {H : Type} : Lit × DataW H → Nat
  | (.string bytes, d) => bytes.length + uptoBulk d + 1
  | (_, d) => uptoBulk d + 1
 end
def uptoSmall : (H : Type) → List (DataW H) → Bool := fun _ ds => decide (uptoBulkAll ds ≤ 1048576)
def OpenSpec.upto (s : _root_.Go.ChangeSpec) : _root_.Go.OpenSpec := { _root_.Go.OpenSpec.ofChange s with cond := some uptoSmall }

/-- 'gneisslaw18.VerifyStacks', WHERE WHAT IT READS IS OF BULK AT MOST 1048576: true; the input reads as it did. -/
def verifyStacksUptoRow : OpenClaim := { program := "ytjpcncllagooeaadoor", sum := "8731dfb8c6d56ab8c9cf042d5226c5f44ed2481f956c54ac7802e566f4b1283e", func := "gneiss/gneisslaw18.VerifyStacks", spec := "verifyStacks", unfollowed := true, recurses := true, named := ["strings.asciiSpace", "unicode.White_Space"], apart := false, laid := [("unicode.White_Space", laid_unicode_White_Space), ("strings.asciiSpace", laid_strings_asciiSpace)], narrowed := true }
def VerifyStacksUptoSaid : Prop := verifyStacksUptoRow.holds Tryd.pinned (OpenSpec.upto verifyStacksSpec)

/-- 'gneisslaw18.VerifyLocals', WHERE WHAT IT READS IS OF BULK AT MOST 1048576: true; the input reads as it did. -/
def verifyLocalsUptoRow : OpenClaim := { program := "ytjpcncllagooeaadoor", sum := "8731dfb8c6d56ab8c9cf042d5226c5f44ed2481f956c54ac7802e566f4b1283e", func := "gneiss/gneisslaw18.VerifyLocals", spec := "verifyLocals", unfollowed := true, recurses := true, named := ["strings.asciiSpace", "unicode.White_Space"], apart := false, laid := [("unicode.White_Space", laid_unicode_White_Space), ("strings.asciiSpace", laid_strings_asciiSpace)], narrowed := true }
def VerifyLocalsUptoSaid : Prop := verifyLocalsUptoRow.holds Tryd.pinned (OpenSpec.upto verifyLocalsSpec)

/-- 'gneisslaw18.VerifyTypes', WHERE WHAT IT READS IS OF BULK AT MOST 1048576: true; the input reads as it did. -/
def verifyTypesUptoRow : OpenClaim := { program := "ytjpcncllagooeaadoor", sum := "8731dfb8c6d56ab8c9cf042d5226c5f44ed2481f956c54ac7802e566f4b1283e", func := "gneiss/gneisslaw18.VerifyTypes", spec := "verifyTypes", unfollowed := true, recurses := true, named := ["strings.asciiSpace", "unicode.White_Space"], apart := false, laid := [("unicode.White_Space", laid_unicode_White_Space), ("strings.asciiSpace", laid_strings_asciiSpace)], narrowed := true }
def VerifyTypesUptoSaid : Prop := verifyTypesUptoRow.holds Tryd.pinned (OpenSpec.upto verifyTypesSpec)

/-- 'gneisslaw18.VerifyMaps', WHERE WHAT IT READS IS OF BULK AT MOST 1048576: true; the input reads as it did. -/
def verifyMapsUptoRow : OpenClaim := { program := "ytjpcncllagooeaadoor", sum := "8731dfb8c6d56ab8c9cf042d5226c5f44ed2481f956c54ac7802e566f4b1283e", func := "gneiss/gneisslaw18.VerifyMaps", spec := "verifyMaps", unfollowed := true, recurses := true, named := ["strings.asciiSpace", "unicode.White_Space"], apart := false, laid := [("unicode.White_Space", laid_unicode_White_Space), ("strings.asciiSpace", laid_strings_asciiSpace)], narrowed := true }
def VerifyMapsUptoSaid : Prop := verifyMapsUptoRow.holds Tryd.pinned (OpenSpec.upto verifyMapsSpec)

/-- 'gneisslaw18.VerifyEnds', WHERE WHAT IT READS IS OF BULK AT MOST 1048576: true; the input reads as it did. -/
def verifyEndsUptoRow : OpenClaim := { program := "ytjpcncllagooeaadoor", sum := "8731dfb8c6d56ab8c9cf042d5226c5f44ed2481f956c54ac7802e566f4b1283e", func := "gneiss/gneisslaw18.VerifyEnds", spec := "verifyEnds", unfollowed := true, recurses := true, named := ["strings.asciiSpace", "unicode.White_Space"], apart := false, laid := [("unicode.White_Space", laid_unicode_White_Space), ("strings.asciiSpace", laid_strings_asciiSpace)], narrowed := true }
def VerifyEndsUptoSaid : Prop := verifyEndsUptoRow.holds Tryd.pinned (OpenSpec.upto verifyEndsSpec)

/-- 'gneisslaw18.VerifyForms', WHERE WHAT IT READS IS OF BULK AT MOST 1048576: true; the input reads as it did. -/
def verifyFormsUptoRow : OpenClaim := { program := "ytjpcncllagooeaadoor", sum := "8731dfb8c6d56ab8c9cf042d5226c5f44ed2481f956c54ac7802e566f4b1283e", func := "gneiss/gneisslaw18.VerifyForms", spec := "verifyForms", unfollowed := true, recurses := true, named := ["strings.asciiSpace", "unicode.White_Space"], apart := false, laid := [("unicode.White_Space", laid_unicode_White_Space), ("strings.asciiSpace", laid_strings_asciiSpace)], narrowed := true }
def VerifyFormsUptoSaid : Prop := verifyFormsUptoRow.holds Tryd.pinned (OpenSpec.upto verifyFormsSpec)

/-- 'gneisslaw18.VerifyTables', WHERE WHAT IT READS IS OF BULK AT MOST 1048576: true; the input reads as it did. -/
def verifyTablesUptoRow : OpenClaim := { program := "ytjpcncllagooeaadoor", sum := "8731dfb8c6d56ab8c9cf042d5226c5f44ed2481f956c54ac7802e566f4b1283e", func := "gneiss/gneisslaw18.VerifyTables", spec := "verifyTables", unfollowed := true, recurses := true, named := ["strings.asciiSpace", "unicode.White_Space"], apart := false, laid := [("unicode.White_Space", laid_unicode_White_Space), ("strings.asciiSpace", laid_strings_asciiSpace)], narrowed := true }
def VerifyTablesUptoSaid : Prop := verifyTablesUptoRow.holds Tryd.pinned (OpenSpec.upto verifyTablesSpec)

/-- 'gneisslaw18.VerifyReturns', WHERE WHAT IT READS IS OF BULK AT MOST 1048576: true; the input reads as it did. -/
def verifyReturnsUptoRow : OpenClaim := { program := "ytjpcncllagooeaadoor", sum := "8731dfb8c6d56ab8c9cf042d5226c5f44ed2481f956c54ac7802e566f4b1283e", func := "gneiss/gneisslaw18.VerifyReturns", spec := "verifyReturns", unfollowed := true, recurses := true, named := ["strings.asciiSpace", "unicode.White_Space"], apart := false, laid := [("unicode.White_Space", laid_unicode_White_Space), ("strings.asciiSpace", laid_strings_asciiSpace)], narrowed := true }
def VerifyReturnsUptoSaid : Prop := verifyReturnsUptoRow.holds Tryd.pinned (OpenSpec.upto verifyReturnsSpec)

/-- 'gneisslaw18.VerifyCalls', WHERE WHAT IT READS IS OF BULK AT MOST 1048576: true; the input reads as it did. -/
def verifyCallsUptoRow : OpenClaim := { program := "ytjpcncllagooeaadoor", sum := "8731dfb8c6d56ab8c9cf042d5226c5f44ed2481f956c54ac7802e566f4b1283e", func := "gneiss/gneisslaw18.VerifyCalls", spec := "verifyCalls", unfollowed := true, recurses := true, named := ["strings.asciiSpace", "unicode.White_Space"], apart := false, laid := [("unicode.White_Space", laid_unicode_White_Space), ("strings.asciiSpace", laid_strings_asciiSpace)], narrowed := true }
def VerifyCallsUptoSaid : Prop := verifyCallsUptoRow.holds Tryd.pinned (OpenSpec.upto verifyCallsSpec)

/-- 'gneisslaw18.VerifyFields', WHERE WHAT IT READS IS OF BULK AT MOST 1048576: true; the input reads as it did. -/
def verifyFieldsUptoRow : OpenClaim := { program := "ytjpcncllagooeaadoor", sum := "8731dfb8c6d56ab8c9cf042d5226c5f44ed2481f956c54ac7802e566f4b1283e", func := "gneiss/gneisslaw18.VerifyFields", spec := "verifyFields", unfollowed := true, recurses := true, named := ["strings.asciiSpace", "unicode.White_Space"], apart := false, laid := [("unicode.White_Space", laid_unicode_White_Space), ("strings.asciiSpace", laid_strings_asciiSpace)], narrowed := true }
def VerifyFieldsUptoSaid : Prop := verifyFieldsUptoRow.holds Tryd.pinned (OpenSpec.upto verifyFieldsSpec)

/-- 'gneisslaw18.VerifyPushes', WHERE WHAT IT READS IS OF BULK AT MOST 1048576: true; the input reads as it did. -/
def verifyPushesUptoRow : OpenClaim := { program := "ytjpcncllagooeaadoor", sum := "8731dfb8c6d56ab8c9cf042d5226c5f44ed2481f956c54ac7802e566f4b1283e", func := "gneiss/gneisslaw18.VerifyPushes", spec := "verifyPushes", unfollowed := true, recurses := true, named := ["strings.asciiSpace", "unicode.White_Space"], apart := false, laid := [("unicode.White_Space", laid_unicode_White_Space), ("strings.asciiSpace", laid_strings_asciiSpace)], narrowed := true }
def VerifyPushesUptoSaid : Prop := verifyPushesUptoRow.holds Tryd.pinned (OpenSpec.upto verifyPushesSpec)

/-- 'gneisslaw18.VerifyArrays', WHERE WHAT IT READS IS OF BULK AT MOST 1048576: true; the input reads as it did. -/
def verifyArraysUptoRow : OpenClaim := { program := "ytjpcncllagooeaadoor", sum := "8731dfb8c6d56ab8c9cf042d5226c5f44ed2481f956c54ac7802e566f4b1283e", func := "gneiss/gneisslaw18.VerifyArrays", spec := "verifyArrays", unfollowed := true, recurses := true, named := ["strings.asciiSpace", "unicode.White_Space"], apart := false, laid := [("unicode.White_Space", laid_unicode_White_Space), ("strings.asciiSpace", laid_strings_asciiSpace)], narrowed := true }
def VerifyArraysUptoSaid : Prop := verifyArraysUptoRow.holds Tryd.pinned (OpenSpec.upto verifyArraysSpec)

/-- 'gneisslaw18.VerifyCovers', WHERE WHAT IT READS IS OF BULK AT MOST 1048576: true; the input reads as it did. -/
def verifyCoversUptoRow : OpenClaim := { program := "ytjpcncllagooeaadoor", sum := "8731dfb8c6d56ab8c9cf042d5226c5f44ed2481f956c54ac7802e566f4b1283e", func := "gneiss/gneisslaw18.VerifyCovers", spec := "verifyCovers", unfollowed := true, recurses := true, named := ["strings.asciiSpace", "unicode.White_Space"], apart := false, laid := [("unicode.White_Space", laid_unicode_White_Space), ("strings.asciiSpace", laid_strings_asciiSpace)], narrowed := true }
def VerifyCoversUptoSaid : Prop := verifyCoversUptoRow.holds Tryd.pinned (OpenSpec.upto verifyCoversSpec)

end Rows
end Go.Proofs.YtjpcncllagooeaaDoor

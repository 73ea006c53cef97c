/-
  NARROWER THAN 'FOR EVERY INPUT', by the rows' own cells (each row's printed sentence says how): ScanScans: laid · EbmFull: laid · EbmAll: laid · EbmFormats: laid · EbmLooks: laid · EbmPlays: laid · EbmCuts: laid · EbmAgain: laid.
  DERIVED. THE GIVEN ROWS OF THIS SEAT. 8 by the template 'for every input the law returns true; each argument reads behind the call as it read before'; 0 by the template 'total and deterministic' (their statements: YtdlimghdimkadaaGreatDoorTotals.lean).
  GIVEN WITH THE SEED: the statements are not yours to turn. If you find one false, say at which input.
  Laid BY PROGRAM, IN A SANDBOX (cutbox-rows.mjs): the forced cells as the released guide's own fill.sh prints them over the translation 1fff303c074aaef9… (all of the seat's roots in one cut). By AI agents, Wed Nov 11 2026. No macro, syntax, notation, axiom, sorry.
-/
import Derived.Test.YtdlimghdimkadaaGreatDoorChecked
import GoSem.Claim
import GoSem.ClaimJoined
import GoSem.ClaimMapViews
import Derived.JoinedTies
import Derived.KernelRfl
namespace Go.Proofs.YtdlimghdimkadaaGreatDoor
/- THE CELL 'sum', in the pinned program and in every row, IS THE sha256 OF THE DUMP (.gsa) THAT YtdlimghdimkadaaGreatDoorProg.lean LOADS. Nothing in Lean hashes anything: it is a label: what it is worth is what the hold of that sum in a sandbox is worth. -/
noncomputable def Tryz.pinned : Pinned := { name := "ytdlimghdimkadaagreatdoor", sum := "1fff303c074aaef9a8fe2beb3de95e420f44f737e7f32fcfc453c959f0ffa6f4", checked := Tryz.checked }
namespace Rows
def none {H : Type} : Left H := { results := [], args := [] }

/- WHAT THE LISTED PACKAGE-LEVEL VARIABLES READ AS WHEN THE CALL BEGINS. Each datum BY PROGRAM (the guide's laid-datum.mjs) off the statement by which the dump's own 'gosem.cut.vars' lays the variable. In a bare row this is a premise. The card (YtdlimghdimkadaaGreatDoorCards.lean) ties it to the program's text. -/
def laid_pumice_header_errNone {H : Type} : DataW H := .iface "*errors.errorString" (.ptr (.agg [.lit (.string [110, 111, 32, 105, 109, 97, 103, 101])]))
def laid_errors_errorType {H : Type} : DataW H := .iface "internal/reflectlite.rtype" (.agg [.ptr (.lit (.string [101, 114, 114, 111, 114]))])

/-- 'pumicelaw07.ScanScans': WHATEVER THE INPUT: true; the input reads as it did. -/
def scanScansSpec : ChangeSpec := { name := "scanScans", fn := fun _ => fun
  | [d1, d2] => { results := [.lit (.bool true)], args := [d1, d2] }
  | _ => none }
def scanScansRow : OpenClaim := { program := "ytdlimghdimkadaagreatdoor", sum := "1fff303c074aaef9a8fe2beb3de95e420f44f737e7f32fcfc453c959f0ffa6f4", func := "pumice/pumicelaw07.ScanScans", spec := "scanScans", inPlace := ["internal/reflectlite.TypeOf"], unfollowed := true, recurses := true, named := ["pumice/header.errNone"], apart := false, laid := [("pumice/header.errNone", laid_pumice_header_errNone)] }
def ScanScansSaid : Prop := scanScansRow.holds Tryz.pinned (OpenSpec.ofChange scanScansSpec)

/-- ITS FALSE NEIGHBOUR: 'it returns false'. Refute it at one input. -/
def scanScansWrong : ChangeSpec := { name := "scanScans", fn := fun _ => fun
  | [d1, d2] => { results := [.lit (.bool false)], args := [d1, d2] }
  | _ => none }
def ScanScansWrongFalsely : Prop := scanScansRow.holds Tryz.pinned (OpenSpec.ofChange scanScansWrong)

/-- 'pumicelaw09.EbmFull': WHATEVER THE INPUT: true; the input reads as it did. -/
def ebmFullSpec : ChangeSpec := { name := "ebmFull", fn := fun _ => fun
  | [d1, d2, d3] => { results := [.lit (.bool true)], args := [d1, d2, d3] }
  | _ => none }
def ebmFullRow : OpenClaim := { program := "ytdlimghdimkadaagreatdoor", sum := "1fff303c074aaef9a8fe2beb3de95e420f44f737e7f32fcfc453c959f0ffa6f4", func := "pumice/pumicelaw09.EbmFull", spec := "ebmFull", inPlace := ["internal/reflectlite.TypeOf", "internal/reflectlite.ValueOf", "(internal/reflectlite.Value).Type", "(internal/reflectlite.Value).IsNil", "(internal/reflectlite.Value).Elem", "(internal/reflectlite.Value).Set"], unfollowed := true, recurses := true, named := ["pumice/header.errNone", "errors.errorType"], apart := false, laid := [("errors.errorType", laid_errors_errorType), ("pumice/header.errNone", laid_pumice_header_errNone)] }
def EbmFullSaid : Prop := ebmFullRow.holds Tryz.pinned (OpenSpec.ofChange ebmFullSpec)

/-- ITS FALSE NEIGHBOUR: 'it returns false'. Refute it at one input. -/
def ebmFullWrong : ChangeSpec := { name := "ebmFull", fn := fun _ => fun
  | [d1, d2, d3] => { results := [.lit (.bool false)], args := [d1, d2, d3] }
  | _ => none }
def EbmFullWrongFalsely : Prop := ebmFullRow.holds Tryz.pinned (OpenSpec.ofChange ebmFullWrong)

/-- 'pumicelaw09.EbmAll': WHATEVER THE INPUT: true; the input reads as it did. -/
def ebmAllSpec : ChangeSpec := { name := "ebmAll", fn := fun _ => fun
  | [d1, d2, d3] => { results := [.lit (.bool true)], args := [d1, d2, d3] }
  | _ => none }
def ebmAllRow : OpenClaim := { program := "ytdlimghdimkadaagreatdoor", sum := "1fff303c074aaef9a8fe2beb3de95e420f44f737e7f32fcfc453c959f0ffa6f4", func := "pumice/pumicelaw09.EbmAll", spec := "ebmAll", inPlace := ["internal/reflectlite.TypeOf", "internal/reflectlite.ValueOf", "(internal/reflectlite.Value).Type", "(internal/reflectlite.Value).IsNil", "(internal/reflectlite.Value).Elem", "(internal/reflectlite.Value).Set"], unfollowed := true, recurses := true, named := ["pumice/header.errNone", "errors.errorType"], apart := false, laid := [("errors.errorType", laid_errors_errorType), ("pumice/header.errNone", laid_pumice_header_errNone)] }
def EbmAllSaid : Prop := ebmAllRow.holds Tryz.pinned (OpenSpec.ofChange ebmAllSpec)

/-- ITS FALSE NEIGHBOUR: 'it returns false'. Refute it at one input. -/
def ebmAllWrong : ChangeSpec := { name := "ebmAll", fn := fun _ => fun
  | [d1, d2, d3] => { results := [.lit (.bool false)], args := [d1, d2, d3] }
  | _ => none }
def EbmAllWrongFalsely : Prop := ebmAllRow.holds Tryz.pinned (OpenSpec.ofChange ebmAllWrong)

/-- 'pumicelaw09.EbmFormats': WHATEVER THE INPUT: true; the input reads as it did. -/
def ebmFormatsSpec : ChangeSpec := { name := "ebmFormats", fn := fun _ => fun
  | [d1, d2] => { results := [.lit (.bool true)], args := [d1, d2] }
  | _ => none }
def ebmFormatsRow : OpenClaim := { program := "ytdlimghdimkadaagreatdoor", sum := "1fff303c074aaef9a8fe2beb3de95e420f44f737e7f32fcfc453c959f0ffa6f4", func := "pumice/pumicelaw09.EbmFormats", spec := "ebmFormats", inPlace := ["internal/reflectlite.TypeOf", "internal/reflectlite.ValueOf", "(internal/reflectlite.Value).Type", "(internal/reflectlite.Value).IsNil", "(internal/reflectlite.Value).Elem", "(internal/reflectlite.Value).Set"], unfollowed := true, recurses := true, named := ["pumice/header.errNone", "errors.errorType"], apart := false, laid := [("errors.errorType", laid_errors_errorType), ("pumice/header.errNone", laid_pumice_header_errNone)] }
def EbmFormatsSaid : Prop := ebmFormatsRow.holds Tryz.pinned (OpenSpec.ofChange ebmFormatsSpec)

/-- ITS FALSE NEIGHBOUR: 'it returns false'. Refute it at one input. -/
def ebmFormatsWrong : ChangeSpec := { name := "ebmFormats", fn := fun _ => fun
  | [d1, d2] => { results := [.lit (.bool false)], args := [d1, d2] }
  | _ => none }
def EbmFormatsWrongFalsely : Prop := ebmFormatsRow.holds Tryz.pinned (OpenSpec.ofChange ebmFormatsWrong)

/-- 'pumicelaw09.EbmLooks': WHATEVER THE INPUT: true; the input reads as it did. -/
def ebmLooksSpec : ChangeSpec := { name := "ebmLooks", fn := fun _ => fun
  | [d1, d2, d3, d4] => { results := [.lit (.bool true)], args := [d1, d2, d3, d4] }
  | _ => none }
def ebmLooksRow : OpenClaim := { program := "ytdlimghdimkadaagreatdoor", sum := "1fff303c074aaef9a8fe2beb3de95e420f44f737e7f32fcfc453c959f0ffa6f4", func := "pumice/pumicelaw09.EbmLooks", spec := "ebmLooks", inPlace := ["internal/reflectlite.TypeOf", "internal/reflectlite.ValueOf", "(internal/reflectlite.Value).Type", "(internal/reflectlite.Value).IsNil", "(internal/reflectlite.Value).Elem", "(internal/reflectlite.Value).Set"], unfollowed := true, recurses := true, named := ["errors.errorType", "pumice/header.errNone"], apart := false, laid := [("errors.errorType", laid_errors_errorType), ("pumice/header.errNone", laid_pumice_header_errNone)] }
def EbmLooksSaid : Prop := ebmLooksRow.holds Tryz.pinned (OpenSpec.ofChange ebmLooksSpec)

/-- ITS FALSE NEIGHBOUR: 'it returns false'. Refute it at one input. -/
def ebmLooksWrong : ChangeSpec := { name := "ebmLooks", fn := fun _ => fun
  | [d1, d2, d3, d4] => { results := [.lit (.bool false)], args := [d1, d2, d3, d4] }
  | _ => none }
def EbmLooksWrongFalsely : Prop := ebmLooksRow.holds Tryz.pinned (OpenSpec.ofChange ebmLooksWrong)

/-- 'pumicelaw09.EbmPlays': WHATEVER THE INPUT: true; the input reads as it did. -/
def ebmPlaysSpec : ChangeSpec := { name := "ebmPlays", fn := fun _ => fun
  | [d1, d2, d3] => { results := [.lit (.bool true)], args := [d1, d2, d3] }
  | _ => none }
def ebmPlaysRow : OpenClaim := { program := "ytdlimghdimkadaagreatdoor", sum := "1fff303c074aaef9a8fe2beb3de95e420f44f737e7f32fcfc453c959f0ffa6f4", func := "pumice/pumicelaw09.EbmPlays", spec := "ebmPlays", inPlace := ["internal/reflectlite.TypeOf", "internal/reflectlite.ValueOf", "(internal/reflectlite.Value).Type", "(internal/reflectlite.Value).IsNil", "(internal/reflectlite.Value).Elem", "(internal/reflectlite.Value).Set"], unfollowed := true, recurses := true, named := ["pumice/header.errNone", "errors.errorType"], apart := false, laid := [("errors.errorType", laid_errors_errorType), ("pumice/header.errNone", laid_pumice_header_errNone)] }
def EbmPlaysSaid : Prop := ebmPlaysRow.holds Tryz.pinned (OpenSpec.ofChange ebmPlaysSpec)

/-- ITS FALSE NEIGHBOUR: 'it returns false'. Refute it at one input. -/
def ebmPlaysWrong : ChangeSpec := { name := "ebmPlays", fn := fun _ => fun
  | [d1, d2, d3] => { results := [.lit (.bool false)], args := [d1, d2, d3] }
  | _ => none }
def EbmPlaysWrongFalsely : Prop := ebmPlaysRow.holds Tryz.pinned (OpenSpec.ofChange ebmPlaysWrong)

/-- 'pumicelaw09.EbmCuts': WHATEVER THE INPUT: true; the input reads as it did. -/
def ebmCutsSpec : ChangeSpec := { name := "ebmCuts", fn := fun _ => fun
  | [d1, d2, d3, d4] => { results := [.lit (.bool true)], args := [d1, d2, d3, d4] }
  | _ => none }
def ebmCutsRow : OpenClaim := { program := "ytdlimghdimkadaagreatdoor", sum := "1fff303c074aaef9a8fe2beb3de95e420f44f737e7f32fcfc453c959f0ffa6f4", func := "pumice/pumicelaw09.EbmCuts", spec := "ebmCuts", inPlace := ["internal/reflectlite.TypeOf", "internal/reflectlite.ValueOf", "(internal/reflectlite.Value).Type", "(internal/reflectlite.Value).IsNil", "(internal/reflectlite.Value).Elem", "(internal/reflectlite.Value).Set"], unfollowed := true, recurses := true, named := ["pumice/header.errNone", "errors.errorType"], apart := false, laid := [("errors.errorType", laid_errors_errorType), ("pumice/header.errNone", laid_pumice_header_errNone)] }
def EbmCutsSaid : Prop := ebmCutsRow.holds Tryz.pinned (OpenSpec.ofChange ebmCutsSpec)

/-- ITS FALSE NEIGHBOUR: 'it returns false'. Refute it at one input. -/
def ebmCutsWrong : ChangeSpec := { name := "ebmCuts", fn := fun _ => fun
  | [d1, d2, d3, d4] => { results := [.lit (.bool false)], args := [d1, d2, d3, d4] }
  | _ => none }
def EbmCutsWrongFalsely : Prop := ebmCutsRow.holds Tryz.pinned (OpenSpec.ofChange ebmCutsWrong)

/-- 'pumicelaw09.EbmAgain': WHATEVER THE INPUT: true; the input reads as it did. -/
def ebmAgainSpec : ChangeSpec := { name := "ebmAgain", fn := fun _ => fun
  | [d1, d2, d3] => { results := [.lit (.bool true)], args := [d1, d2, d3] }
  | _ => none }
def ebmAgainRow : OpenClaim := { program := "ytdlimghdimkadaagreatdoor", sum := "1fff303c074aaef9a8fe2beb3de95e420f44f737e7f32fcfc453c959f0ffa6f4", func := "pumice/pumicelaw09.EbmAgain", spec := "ebmAgain", inPlace := ["internal/reflectlite.TypeOf", "internal/reflectlite.ValueOf", "(internal/reflectlite.Value).Type", "(internal/reflectlite.Value).IsNil", "(internal/reflectlite.Value).Elem", "(internal/reflectlite.Value).Set"], unfollowed := true, recurses := true, named := ["pumice/header.errNone", "errors.errorType"], apart := false, laid := [("errors.errorType", laid_errors_errorType), ("pumice/header.errNone", laid_pumice_header_errNone)] }
def EbmAgainSaid : Prop := ebmAgainRow.holds Tryz.pinned (OpenSpec.ofChange ebmAgainSpec)

/-- ITS FALSE NEIGHBOUR: 'it returns false'. Refute it at one input. -/
def ebmAgainWrong : ChangeSpec := { name := "ebmAgain", fn := fun _ => fun
  | [d1, d2, d3] => { results := [.lit (.bool false)], args := [d1, d2, d3] }
  | _ => none }
def EbmAgainWrongFalsely : Prop := ebmAgainRow.holds Tryz.pinned (OpenSpec.ofChange ebmAgainWrong)

/- THE SECOND FORM. 'bulk': how many values and letters a reading holds, each counted each time it is reached (what is shared counts as often as it is met; a slice's spare places count too). A statement '..UptoSaid' is the law's where the arguments, and the package variables that the reading takes, are together of bulk at most 1048576: NARROWER than '..Said'. Prove '..Said' where nothing that the law and all that it calls make is longer than what came in: it says more and counts as full. Else prove '..UptoSaid'. A law counts once. -/
mutual
def uptoBulk {H : Type} : DataW H → Nat
  | .lit (.string bytes) => bytes.length + 1
  | .lit _ => 1
  | .nil => 1
  | .ptr d => uptoBulk d + 1
  | .slice elems spare => uptoBulkAll elems + uptoBulkAll spare + 1
  | .agg parts => uptoBulkAll parts + 1
  | .iface _ d => uptoBulk d + 1
  | .map entries => uptoBulkEntries entries + 1
  | .held _ => 1
def uptoBulkAll {H : Type} : List (DataW H) → Nat
  | [] => 0
  | d :: r => uptoBulk d + uptoBulkAll r
def uptoBulkEntries {H : Type} : List (Lit × DataW H) → Nat
  | [] => 0
  | x :: r => uptoBulkEntry x + uptoBulkEntries r
def uptoBulkEntry {H : Type} : Lit × DataW H → Nat
  | (.string bytes, d) => bytes.length + uptoBulk d + 1
  | (_, d) => uptoBulk d + 1
 end
def uptoSmall : (H : Type) → List (DataW H) → Bool := fun _ ds => decide (uptoBulkAll ds ≤ 1048576)
def OpenSpec.upto (s : _root_.Go.ChangeSpec) : _root_.Go.OpenSpec := { _root_.Go.OpenSpec.ofChange s with cond := some uptoSmall }

/-- 'pumicelaw07.ScanScans', WHERE WHAT IT READS IS OF BULK AT MOST 1048576: true; the input reads as it did. -/
def scanScansUptoRow : OpenClaim := { program := "ytdlimghdimkadaagreatdoor", sum := "1fff303c074aaef9a8fe2beb3de95e420f44f737e7f32fcfc453c959f0ffa6f4", func := "pumice/pumicelaw07.ScanScans", spec := "scanScans", inPlace := ["internal/reflectlite.TypeOf"], unfollowed := true, recurses := true, named := ["pumice/header.errNone"], apart := false, laid := [("pumice/header.errNone", laid_pumice_header_errNone)], narrowed := true }
def ScanScansUptoSaid : Prop := scanScansUptoRow.holds Tryz.pinned (OpenSpec.upto scanScansSpec)

/-- 'pumicelaw09.EbmFull', WHERE WHAT IT READS IS OF BULK AT MOST 1048576: true; the input reads as it did. -/
def ebmFullUptoRow : OpenClaim := { program := "ytdlimghdimkadaagreatdoor", sum := "1fff303c074aaef9a8fe2beb3de95e420f44f737e7f32fcfc453c959f0ffa6f4", func := "pumice/pumicelaw09.EbmFull", spec := "ebmFull", inPlace := ["internal/reflectlite.TypeOf", "internal/reflectlite.ValueOf", "(internal/reflectlite.Value).Type", "(internal/reflectlite.Value).IsNil", "(internal/reflectlite.Value).Elem", "(internal/reflectlite.Value).Set"], unfollowed := true, recurses := true, named := ["pumice/header.errNone", "errors.errorType"], apart := false, laid := [("errors.errorType", laid_errors_errorType), ("pumice/header.errNone", laid_pumice_header_errNone)], narrowed := true }
def EbmFullUptoSaid : Prop := ebmFullUptoRow.holds Tryz.pinned (OpenSpec.upto ebmFullSpec)

/-- 'pumicelaw09.EbmAll', WHERE WHAT IT READS IS OF BULK AT MOST 1048576: true; the input reads as it did. -/
def ebmAllUptoRow : OpenClaim := { program := "ytdlimghdimkadaagreatdoor", sum := "1fff303c074aaef9a8fe2beb3de95e420f44f737e7f32fcfc453c959f0ffa6f4", func := "pumice/pumicelaw09.EbmAll", spec := "ebmAll", inPlace := ["internal/reflectlite.TypeOf", "internal/reflectlite.ValueOf", "(internal/reflectlite.Value).Type", "(internal/reflectlite.Value).IsNil", "(internal/reflectlite.Value).Elem", "(internal/reflectlite.Value).Set"], unfollowed := true, recurses := true, named := ["pumice/header.errNone", "errors.errorType"], apart := false, laid := [("errors.errorType", laid_errors_errorType), ("pumice/header.errNone", laid_pumice_header_errNone)], narrowed := true }
def EbmAllUptoSaid : Prop := ebmAllUptoRow.holds Tryz.pinned (OpenSpec.upto ebmAllSpec)

/-- 'pumicelaw09.EbmFormats', WHERE WHAT IT READS IS OF BULK AT MOST 1048576: true; the input reads as it did. -/
def ebmFormatsUptoRow : OpenClaim := { program := "ytdlimghdimkadaagreatdoor", sum := "1fff303c074aaef9a8fe2beb3de95e420f44f737e7f32fcfc453c959f0ffa6f4", func := "pumice/pumicelaw09.EbmFormats", spec := "ebmFormats", inPlace := ["internal/reflectlite.TypeOf", "internal/reflectlite.ValueOf", "(internal/reflectlite.Value).Type", "(internal/reflectlite.Value).IsNil", "(internal/reflectlite.Value).Elem", "(internal/reflectlite.Value).Set"], unfollowed := true, recurses := true, named := ["pumice/header.errNone", "errors.errorType"], apart := false, laid := [("errors.errorType", laid_errors_errorType), ("pumice/header.errNone", laid_pumice_header_errNone)], narrowed := true }
def EbmFormatsUptoSaid : Prop := ebmFormatsUptoRow.holds Tryz.pinned (OpenSpec.upto ebmFormatsSpec)

/-- 'pumicelaw09.EbmLooks', WHERE WHAT IT READS IS OF BULK AT MOST 1048576: true; the input reads as it did. -/
def ebmLooksUptoRow : OpenClaim := { program := "ytdlimghdimkadaagreatdoor", sum := "1fff303c074aaef9a8fe2beb3de95e420f44f737e7f32fcfc453c959f0ffa6f4", func := "pumice/pumicelaw09.EbmLooks", spec := "ebmLooks", inPlace := ["internal/reflectlite.TypeOf", "internal/reflectlite.ValueOf", "(internal/reflectlite.Value).Type", "(internal/reflectlite.Value).IsNil", "(internal/reflectlite.Value).Elem", "(internal/reflectlite.Value).Set"], unfollowed := true, recurses := true, named := ["errors.errorType", "pumice/header.errNone"], apart := false, laid := [("errors.errorType", laid_errors_errorType), ("pumice/header.errNone", laid_pumice_header_errNone)], narrowed := true }
def EbmLooksUptoSaid : Prop := ebmLooksUptoRow.holds Tryz.pinned (OpenSpec.upto ebmLooksSpec)

/-- 'pumicelaw09.EbmPlays', WHERE WHAT IT READS IS OF BULK AT MOST 1048576: true; the input reads as it did. -/
def ebmPlaysUptoRow : OpenClaim := { program := "ytdlimghdimkadaagreatdoor", sum := "1fff303c074aaef9a8fe2beb3de95e420f44f737e7f32fcfc453c959f0ffa6f4", func := "pumice/pumicelaw09.EbmPlays", spec := "ebmPlays", inPlace := ["internal/reflectlite.TypeOf", "internal/reflectlite.ValueOf", "(internal/reflectlite.Value).Type", "(internal/reflectlite.Value).IsNil", "(internal/reflectlite.Value).Elem", "(internal/reflectlite.Value).Set"], unfollowed := true, recurses := true, named := ["pumice/header.errNone", "errors.errorType"], apart := false, laid := [("errors.errorType", laid_errors_errorType), ("pumice/header.errNone", laid_pumice_header_errNone)], narrowed := true }
def EbmPlaysUptoSaid : Prop := ebmPlaysUptoRow.holds Tryz.pinned (OpenSpec.upto ebmPlaysSpec)

/-- 'pumicelaw09.EbmCuts', WHERE WHAT IT READS IS OF BULK AT MOST 1048576: true; the input reads as it did. -/
def ebmCutsUptoRow : OpenClaim := { program := "ytdlimghdimkadaagreatdoor", sum := "1fff303c074aaef9a8fe2beb3de95e420f44f737e7f32fcfc453c959f0ffa6f4", func := "pumice/pumicelaw09.EbmCuts", spec := "ebmCuts", inPlace := ["internal/reflectlite.TypeOf", "internal/reflectlite.ValueOf", "(internal/reflectlite.Value).Type", "(internal/reflectlite.Value).IsNil", "(internal/reflectlite.Value).Elem", "(internal/reflectlite.Value).Set"], unfollowed := true, recurses := true, named := ["pumice/header.errNone", "errors.errorType"], apart := false, laid := [("errors.errorType", laid_errors_errorType), ("pumice/header.errNone", laid_pumice_header_errNone)], narrowed := true }
def EbmCutsUptoSaid : Prop := ebmCutsUptoRow.holds Tryz.pinned (OpenSpec.upto ebmCutsSpec)

/-- 'pumicelaw09.EbmAgain', WHERE WHAT IT READS IS OF BULK AT MOST 1048576: true; the input reads as it did. -/
def ebmAgainUptoRow : OpenClaim := { program := "ytdlimghdimkadaagreatdoor", sum := "1fff303c074aaef9a8fe2beb3de95e420f44f737e7f32fcfc453c959f0ffa6f4", func := "pumice/pumicelaw09.EbmAgain", spec := "ebmAgain", inPlace := ["internal/reflectlite.TypeOf", "internal/reflectlite.ValueOf", "(internal/reflectlite.Value).Type", "(internal/reflectlite.Value).IsNil", "(internal/reflectlite.Value).Elem", "(internal/reflectlite.Value).Set"], unfollowed := true, recurses := true, named := ["pumice/header.errNone", "errors.errorType"], apart := false, laid := [("errors.errorType", laid_errors_errorType), ("pumice/header.errNone", laid_pumice_header_errNone)], narrowed := true }
def EbmAgainUptoSaid : Prop := ebmAgainUptoRow.holds Tryz.pinned (OpenSpec.upto ebmAgainSpec)

end Rows
end Go.Proofs.YtdlimghdimkadaaGreatDoor

/-
  NARROWER THAN 'FOR EVERY INPUT', by the rows' own cells (each row's printed sentence says how): HeaderMakes: laid · HeaderParses: laid · HeaderBack: laid · HeaderUnlike: laid.
  DERIVED. THE GIVEN ROWS OF THIS SEAT. 4 by the template 'for every input the law returns true; each argument reads behind the call as it read before'; 0 by the template 'total and deterministic' (their statements: YtnhlfbkpohidpaaDoorTotals.lean).
  GIVEN WITH THE SEED: the statements are not yours to turn. If you find one false, say at which input.
  Laid BY PROGRAM, IN A SANDBOX (cutbox-rows.mjs): the forced cells as the released guide's own fill.sh prints them over the translation 1811c0fb33022849… (all of the seat's roots in one cut). By AI agents, Wed Nov 11 2026. No macro, syntax, notation, axiom, sorry.
-/
import Derived.Test.YtnhlfbkpohidpaaDoorChecked
import GoSem.Claim
import GoSem.ClaimJoined
import GoSem.ClaimMapViews
import Derived.JoinedTies
import Derived.KernelRfl
namespace Go.Proofs.YtnhlfbkpohidpaaDoor
/- THE CELL 'sum', in the pinned program and in every row, IS THE sha256 OF THE DUMP (.gsa) THAT YtnhlfbkpohidpaaDoorProg.lean LOADS. Nothing in Lean hashes anything: it is a label: what it is worth is what the hold of that sum in a sandbox is worth. -/
noncomputable def Tryd.pinned : Pinned := { name := "ytnhlfbkpohidpaadoor", sum := "1811c0fb3302284919a8d071c452552af23ebd35f89d6a8963037cef162570e2", checked := Tryd.checked }
namespace Rows
def none {H : Type} : Left H := { results := [], args := [] }

/- WHAT THE LISTED PACKAGE-LEVEL VARIABLES READ AS WHEN THE CALL BEGINS. Each datum BY PROGRAM (the guide's laid-datum.mjs) off the statement by which the dump's own 'gosem.cut.vars' lays the variable. In a bare row this is a premise. The card (YtnhlfbkpohidpaaDoorCards.lean) ties it to the program's text. -/
def laid_pumice_header_errNone {H : Type} : DataW H := .iface "*errors.errorString" (.ptr (.agg [.lit (.string [110, 111, 32, 105, 109, 97, 103, 101])]))

/-- 'pumicelaw05.HeaderMakes': WHATEVER THE INPUT: true; the input reads as it did. -/
def headerMakesSpec : ChangeSpec := { name := "headerMakes", fn := fun _ => fun
  | [d1, d2, d3] => { results := [.lit (.bool true)], args := [d1, d2, d3] }
  | _ => none }
def headerMakesRow : OpenClaim := { program := "ytnhlfbkpohidpaadoor", sum := "1811c0fb3302284919a8d071c452552af23ebd35f89d6a8963037cef162570e2", func := "pumice/pumicelaw05.HeaderMakes", spec := "headerMakes", inPlace := ["internal/reflectlite.TypeOf"], unfollowed := true, recurses := true, named := ["pumice/header.errNone"], apart := false, laid := [("pumice/header.errNone", laid_pumice_header_errNone)] }
def HeaderMakesSaid : Prop := headerMakesRow.holds Tryd.pinned (OpenSpec.ofChange headerMakesSpec)

/-- ITS FALSE NEIGHBOUR: 'it returns false'. Refute it at one input. -/
def headerMakesWrong : ChangeSpec := { name := "headerMakes", fn := fun _ => fun
  | [d1, d2, d3] => { results := [.lit (.bool false)], args := [d1, d2, d3] }
  | _ => none }
def HeaderMakesWrongFalsely : Prop := headerMakesRow.holds Tryd.pinned (OpenSpec.ofChange headerMakesWrong)

/-- 'pumicelaw05.HeaderParses': WHATEVER THE INPUT: true; the input reads as it did. -/
def headerParsesSpec : ChangeSpec := { name := "headerParses", fn := fun _ => fun
  | [d] => { results := [.lit (.bool true)], args := [d] }
  | _ => none }
def headerParsesRow : OpenClaim := { program := "ytnhlfbkpohidpaadoor", sum := "1811c0fb3302284919a8d071c452552af23ebd35f89d6a8963037cef162570e2", func := "pumice/pumicelaw05.HeaderParses", spec := "headerParses", inPlace := ["internal/reflectlite.TypeOf"], unfollowed := true, recurses := true, named := ["pumice/header.errNone"], apart := false, laid := [("pumice/header.errNone", laid_pumice_header_errNone)] }
def HeaderParsesSaid : Prop := headerParsesRow.holds Tryd.pinned (OpenSpec.ofChange headerParsesSpec)

/-- ITS FALSE NEIGHBOUR: 'it returns false'. Refute it at one input. -/
def headerParsesWrong : ChangeSpec := { name := "headerParses", fn := fun _ => fun
  | [d] => { results := [.lit (.bool false)], args := [d] }
  | _ => none }
def HeaderParsesWrongFalsely : Prop := headerParsesRow.holds Tryd.pinned (OpenSpec.ofChange headerParsesWrong)

/-- 'pumicelaw05.HeaderBack': WHATEVER THE INPUT: true; the input reads as it did. -/
def headerBackSpec : ChangeSpec := { name := "headerBack", fn := fun _ => fun
  | [d1, d2, d3, d4, d5] => { results := [.lit (.bool true)], args := [d1, d2, d3, d4, d5] }
  | _ => none }
def headerBackRow : OpenClaim := { program := "ytnhlfbkpohidpaadoor", sum := "1811c0fb3302284919a8d071c452552af23ebd35f89d6a8963037cef162570e2", func := "pumice/pumicelaw05.HeaderBack", spec := "headerBack", inPlace := ["internal/reflectlite.TypeOf"], unfollowed := true, recurses := true, named := ["pumice/header.errNone"], apart := false, laid := [("pumice/header.errNone", laid_pumice_header_errNone)] }
def HeaderBackSaid : Prop := headerBackRow.holds Tryd.pinned (OpenSpec.ofChange headerBackSpec)

/-- ITS FALSE NEIGHBOUR: 'it returns false'. Refute it at one input. -/
def headerBackWrong : ChangeSpec := { name := "headerBack", fn := fun _ => fun
  | [d1, d2, d3, d4, d5] => { results := [.lit (.bool false)], args := [d1, d2, d3, d4, d5] }
  | _ => none }
def HeaderBackWrongFalsely : Prop := headerBackRow.holds Tryd.pinned (OpenSpec.ofChange headerBackWrong)

/-- 'pumicelaw05.HeaderUnlike': WHATEVER THE INPUT: true; the input reads as it did. -/
def headerUnlikeSpec : ChangeSpec := { name := "headerUnlike", fn := fun _ => fun
  | [d1, d2, d3, d4, d5] => { results := [.lit (.bool true)], args := [d1, d2, d3, d4, d5] }
  | _ => none }
def headerUnlikeRow : OpenClaim := { program := "ytnhlfbkpohidpaadoor", sum := "1811c0fb3302284919a8d071c452552af23ebd35f89d6a8963037cef162570e2", func := "pumice/pumicelaw05.HeaderUnlike", spec := "headerUnlike", inPlace := ["internal/reflectlite.TypeOf"], unfollowed := true, recurses := true, named := ["pumice/header.errNone"], apart := false, laid := [("pumice/header.errNone", laid_pumice_header_errNone)] }
def HeaderUnlikeSaid : Prop := headerUnlikeRow.holds Tryd.pinned (OpenSpec.ofChange headerUnlikeSpec)

/-- ITS FALSE NEIGHBOUR: 'it returns false'. Refute it at one input. -/
def headerUnlikeWrong : ChangeSpec := { name := "headerUnlike", fn := fun _ => fun
  | [d1, d2, d3, d4, d5] => { results := [.lit (.bool false)], args := [d1, d2, d3, d4, d5] }
  | _ => none }
def HeaderUnlikeWrongFalsely : Prop := headerUnlikeRow.holds Tryd.pinned (OpenSpec.ofChange headerUnlikeWrong)

/- THE SECOND FORM. 'bulk': how many values and letters a reading holds, each counted each time it is reached (what is shared counts as often as it is met; a slice's spare places count too). A statement '..UptoSaid' is the law's where the arguments, and the package variables that the reading takes, are together of bulk at most 1048576: NARROWER than '..Said'. Prove '..Said' where nothing that the law and all that it calls make is longer than what came in: it says more and counts as full. Else prove '..UptoSaid'. A law counts once. -/
mutual
def uptoBulk {H : Type} : DataW H → Nat
  | .lit (.string bytes) => bytes.length + 1
  | .lit _ => 1
  | .nil => 1
  | .ptr d => uptoBulk d + 1
  | .slice elems spare => uptoBulkAll elems + uptoBulkAll spare + 1
  | .agg parts => uptoBulkAll parts + 1
  | .iface _ d => uptoBulk d + 1
  | .map entries => uptoBulkEntries entries + 1
  | .held _ => 1
def uptoBulkAll {H : Type} : List (DataW H) → Nat
  | [] => 0
  | d :: r => uptoBulk d + uptoBulkAll r
def uptoBulkEntries {H : Type} : List (Lit × DataW H) → Nat
  | [] => 0
  | x :: r => uptoBulkEntry x + uptoBulkEntries r
def uptoBulkEntry {H : Type} : Lit × DataW H → Nat
  | (.string bytes, d) => bytes.length + uptoBulk d + 1
  | (_, d) => uptoBulk d + 1
 end
def uptoSmall : (H : Type) → List (DataW H) → Bool := fun _ ds => decide (uptoBulkAll ds ≤ 1048576)
def OpenSpec.upto (s : _root_.Go.ChangeSpec) : _root_.Go.OpenSpec := { _root_.Go.OpenSpec.ofChange s with cond := some uptoSmall }

/-- 'pumicelaw05.HeaderMakes', WHERE WHAT IT READS IS OF BULK AT MOST 1048576: true; the input reads as it did. -/
def headerMakesUptoRow : OpenClaim := { program := "ytnhlfbkpohidpaadoor", sum := "1811c0fb3302284919a8d071c452552af23ebd35f89d6a8963037cef162570e2", func := "pumice/pumicelaw05.HeaderMakes", spec := "headerMakes", inPlace := ["internal/reflectlite.TypeOf"], unfollowed := true, recurses := true, named := ["pumice/header.errNone"], apart := false, laid := [("pumice/header.errNone", laid_pumice_header_errNone)], narrowed := true }
def HeaderMakesUptoSaid : Prop := headerMakesUptoRow.holds Tryd.pinned (OpenSpec.upto headerMakesSpec)

/-- 'pumicelaw05.HeaderParses', WHERE WHAT IT READS IS OF BULK AT MOST 1048576: true; the input reads as it did. -/
def headerParsesUptoRow : OpenClaim := { program := "ytnhlfbkpohidpaadoor", sum := "1811c0fb3302284919a8d071c452552af23ebd35f89d6a8963037cef162570e2", func := "pumice/pumicelaw05.HeaderParses", spec := "headerParses", inPlace := ["internal/reflectlite.TypeOf"], unfollowed := true, recurses := true, named := ["pumice/header.errNone"], apart := false, laid := [("pumice/header.errNone", laid_pumice_header_errNone)], narrowed := true }
def HeaderParsesUptoSaid : Prop := headerParsesUptoRow.holds Tryd.pinned (OpenSpec.upto headerParsesSpec)

/-- 'pumicelaw05.HeaderBack', WHERE WHAT IT READS IS OF BULK AT MOST 1048576: true; the input reads as it did. -/
def headerBackUptoRow : OpenClaim := { program := "ytnhlfbkpohidpaadoor", sum := "1811c0fb3302284919a8d071c452552af23ebd35f89d6a8963037cef162570e2", func := "pumice/pumicelaw05.HeaderBack", spec := "headerBack", inPlace := ["internal/reflectlite.TypeOf"], unfollowed := true, recurses := true, named := ["pumice/header.errNone"], apart := false, laid := [("pumice/header.errNone", laid_pumice_header_errNone)], narrowed := true }
def HeaderBackUptoSaid : Prop := headerBackUptoRow.holds Tryd.pinned (OpenSpec.upto headerBackSpec)

/-- 'pumicelaw05.HeaderUnlike', WHERE WHAT IT READS IS OF BULK AT MOST 1048576: true; the input reads as it did. -/
def headerUnlikeUptoRow : OpenClaim := { program := "ytnhlfbkpohidpaadoor", sum := "1811c0fb3302284919a8d071c452552af23ebd35f89d6a8963037cef162570e2", func := "pumice/pumicelaw05.HeaderUnlike", spec := "headerUnlike", inPlace := ["internal/reflectlite.TypeOf"], unfollowed := true, recurses := true, named := ["pumice/header.errNone"], apart := false, laid := [("pumice/header.errNone", laid_pumice_header_errNone)], narrowed := true }
def HeaderUnlikeUptoSaid : Prop := headerUnlikeUptoRow.holds Tryd.pinned (OpenSpec.upto headerUnlikeSpec)

end Rows
end Go.Proofs.YtnhlfbkpohidpaaDoor

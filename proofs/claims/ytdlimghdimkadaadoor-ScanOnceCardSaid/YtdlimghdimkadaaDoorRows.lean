/-
  NARROWER THAN 'FOR EVERY INPUT', by the rows' own cells (each row's printed sentence says how): ScanLooks: laid · ScanNewer: laid · ScanOnce: laid.
  DERIVED. THE GIVEN ROWS OF THIS SEAT. 3 by the template 'for every input the law returns true; each argument reads behind the call as it read before'; 0 by the template 'total and deterministic' (their statements: YtdlimghdimkadaaDoorTotals.lean).
  GIVEN WITH THE SEED: the statements are not yours to turn. If you find one false, say at which input.
  Laid BY PROGRAM, IN A SANDBOX (cutbox-rows.mjs): the forced cells as the released guide's own fill.sh prints them over the translation 5542405f335897b1… (all of the seat's roots in one cut). By AI agents, Wed Nov 11 2026. No macro, syntax, notation, axiom, sorry.
-/
import Derived.Test.YtdlimghdimkadaaDoorChecked
import GoSem.Claim
import GoSem.ClaimJoined
import GoSem.ClaimMapViews
import Derived.JoinedTies
import Derived.KernelRfl
namespace Go.Proofs.YtdlimghdimkadaaDoor
/- THE CELL 'sum', in the pinned program and in every row, IS THE sha256 OF THE DUMP (.gsa) THAT YtdlimghdimkadaaDoorProg.lean LOADS. Nothing in Lean hashes anything: it is a label: what it is worth is what the hold of that sum in a sandbox is worth. -/
noncomputable def Tryd.pinned : Pinned := { name := "ytdlimghdimkadaadoor", sum := "5542405f335897b15c8ce6ff5a38b06fd21cc3d8f0e6c2d0001c8fabeed5b906", checked := Tryd.checked }
namespace Rows
def none {H : Type} : Left H := { results := [], args := [] }

/- WHAT THE LISTED PACKAGE-LEVEL VARIABLES READ AS WHEN THE CALL BEGINS. Each datum BY PROGRAM (the guide's laid-datum.mjs) off the statement by which the dump's own 'gosem.cut.vars' lays the variable. In a bare row this is a premise. The card (YtdlimghdimkadaaDoorCards.lean) ties it to the program's text. -/
def laid_pumice_header_errNone {H : Type} : DataW H := .iface "*errors.errorString" (.ptr (.agg [.lit (.string [110, 111, 32, 105, 109, 97, 103, 101])]))

/-- 'pumicelaw07.ScanLooks': WHATEVER THE INPUT: true; the input reads as it did. -/
def scanLooksSpec : ChangeSpec := { name := "scanLooks", fn := fun _ => fun
  | [d1, d2] => { results := [.lit (.bool true)], args := [d1, d2] }
  | _ => none }
def scanLooksRow : OpenClaim := { program := "ytdlimghdimkadaadoor", sum := "5542405f335897b15c8ce6ff5a38b06fd21cc3d8f0e6c2d0001c8fabeed5b906", func := "pumice/pumicelaw07.ScanLooks", spec := "scanLooks", inPlace := ["internal/reflectlite.TypeOf"], unfollowed := true, recurses := true, named := ["pumice/header.errNone"], apart := false, laid := [("pumice/header.errNone", laid_pumice_header_errNone)] }
def ScanLooksSaid : Prop := scanLooksRow.holds Tryd.pinned (OpenSpec.ofChange scanLooksSpec)

/-- ITS FALSE NEIGHBOUR: 'it returns false'. Refute it at one input. -/
def scanLooksWrong : ChangeSpec := { name := "scanLooks", fn := fun _ => fun
  | [d1, d2] => { results := [.lit (.bool false)], args := [d1, d2] }
  | _ => none }
def ScanLooksWrongFalsely : Prop := scanLooksRow.holds Tryd.pinned (OpenSpec.ofChange scanLooksWrong)

/-- 'pumicelaw07.ScanNewer': WHATEVER THE INPUT: true; the input reads as it did. -/
def scanNewerSpec : ChangeSpec := { name := "scanNewer", fn := fun _ => fun
  | [d1, d2, d3, d4] => { results := [.lit (.bool true)], args := [d1, d2, d3, d4] }
  | _ => none }
def scanNewerRow : OpenClaim := { program := "ytdlimghdimkadaadoor", sum := "5542405f335897b15c8ce6ff5a38b06fd21cc3d8f0e6c2d0001c8fabeed5b906", func := "pumice/pumicelaw07.ScanNewer", spec := "scanNewer", inPlace := ["internal/reflectlite.TypeOf"], unfollowed := true, recurses := true, named := ["pumice/header.errNone"], apart := false, laid := [("pumice/header.errNone", laid_pumice_header_errNone)] }
def ScanNewerSaid : Prop := scanNewerRow.holds Tryd.pinned (OpenSpec.ofChange scanNewerSpec)

/-- ITS FALSE NEIGHBOUR: 'it returns false'. Refute it at one input. -/
def scanNewerWrong : ChangeSpec := { name := "scanNewer", fn := fun _ => fun
  | [d1, d2, d3, d4] => { results := [.lit (.bool false)], args := [d1, d2, d3, d4] }
  | _ => none }
def ScanNewerWrongFalsely : Prop := scanNewerRow.holds Tryd.pinned (OpenSpec.ofChange scanNewerWrong)

/-- 'pumicelaw07.ScanOnce': WHATEVER THE INPUT: true; the input reads as it did. -/
def scanOnceSpec : ChangeSpec := { name := "scanOnce", fn := fun _ => fun
  | [d1, d2] => { results := [.lit (.bool true)], args := [d1, d2] }
  | _ => none }
def scanOnceRow : OpenClaim := { program := "ytdlimghdimkadaadoor", sum := "5542405f335897b15c8ce6ff5a38b06fd21cc3d8f0e6c2d0001c8fabeed5b906", func := "pumice/pumicelaw07.ScanOnce", spec := "scanOnce", inPlace := ["internal/reflectlite.TypeOf"], unfollowed := true, recurses := true, named := ["pumice/header.errNone"], apart := false, laid := [("pumice/header.errNone", laid_pumice_header_errNone)] }
def ScanOnceSaid : Prop := scanOnceRow.holds Tryd.pinned (OpenSpec.ofChange scanOnceSpec)

/-- ITS FALSE NEIGHBOUR: 'it returns false'. Refute it at one input. -/
def scanOnceWrong : ChangeSpec := { name := "scanOnce", fn := fun _ => fun
  | [d1, d2] => { results := [.lit (.bool false)], args := [d1, d2] }
  | _ => none }
def ScanOnceWrongFalsely : Prop := scanOnceRow.holds Tryd.pinned (OpenSpec.ofChange scanOnceWrong)

/- THE SECOND FORM. 'bulk': how many values and letters a reading holds, each counted each time it is reached (what is shared counts as often as it is met; a slice's spare places count too). A statement '..UptoSaid' is the law's where the arguments, and the package variables that the reading takes, are together of bulk at most 1048576: NARROWER than '..Said'. Prove '..Said' where nothing that the law and all that it calls make is longer than what came in: it says more and counts as full. Else prove '..UptoSaid'. A law counts once. -/
mutual
def uptoBulk {H : Type} : DataW H → Nat
  | .lit (.string bytes) => bytes.length + 1
  | .lit _ => 1
  | .nil => 1
  | .ptr d => uptoBulk d + 1
  | .slice elems spare => uptoBulkAll elems + uptoBulkAll spare + 1
  | .agg parts => uptoBulkAll parts + 1
  | .iface _ d => uptoBulk d + 1
  | .map entries => uptoBulkEntries entries + 1
  | .held _ => 1
def uptoBulkAll {H : Type} : List (DataW H) → Nat
  | [] => 0
  | d :: r => uptoBulk d + uptoBulkAll r
def uptoBulkEntries {H : Type} : List (Lit × DataW H) → Nat
  | [] => 0
  | x :: r => uptoBulkEntry x + uptoBulkEntries r
def uptoBulkEntry {H : Type} : Lit × DataW H → Nat
  | (.string bytes, d) => bytes.length + uptoBulk d + 1
  | (_, d) => uptoBulk d + 1
 end
def uptoSmall : (H : Type) → List (DataW H) → Bool := fun _ ds => decide (uptoBulkAll ds ≤ 1048576)
def OpenSpec.upto (s : _root_.Go.ChangeSpec) : _root_.Go.OpenSpec := { _root_.Go.OpenSpec.ofChange s with cond := some uptoSmall }

/-- 'pumicelaw07.ScanLooks', WHERE WHAT IT READS IS OF BULK AT MOST 1048576: true; the input reads as it did. -/
def scanLooksUptoRow : OpenClaim := { program := "ytdlimghdimkadaadoor", sum := "5542405f335897b15c8ce6ff5a38b06fd21cc3d8f0e6c2d0001c8fabeed5b906", func := "pumice/pumicelaw07.ScanLooks", spec := "scanLooks", inPlace := ["internal/reflectlite.TypeOf"], unfollowed := true, recurses := true, named := ["pumice/header.errNone"], apart := false, laid := [("pumice/header.errNone", laid_pumice_header_errNone)], narrowed := true }
def ScanLooksUptoSaid : Prop := scanLooksUptoRow.holds Tryd.pinned (OpenSpec.upto scanLooksSpec)

/-- 'pumicelaw07.ScanNewer', WHERE WHAT IT READS IS OF BULK AT MOST 1048576: true; the input reads as it did. -/
def scanNewerUptoRow : OpenClaim := { program := "ytdlimghdimkadaadoor", sum := "5542405f335897b15c8ce6ff5a38b06fd21cc3d8f0e6c2d0001c8fabeed5b906", func := "pumice/pumicelaw07.ScanNewer", spec := "scanNewer", inPlace := ["internal/reflectlite.TypeOf"], unfollowed := true, recurses := true, named := ["pumice/header.errNone"], apart := false, laid := [("pumice/header.errNone", laid_pumice_header_errNone)], narrowed := true }
def ScanNewerUptoSaid : Prop := scanNewerUptoRow.holds Tryd.pinned (OpenSpec.upto scanNewerSpec)

/-- 'pumicelaw07.ScanOnce', WHERE WHAT IT READS IS OF BULK AT MOST 1048576: true; the input reads as it did. -/
def scanOnceUptoRow : OpenClaim := { program := "ytdlimghdimkadaadoor", sum := "5542405f335897b15c8ce6ff5a38b06fd21cc3d8f0e6c2d0001c8fabeed5b906", func := "pumice/pumicelaw07.ScanOnce", spec := "scanOnce", inPlace := ["internal/reflectlite.TypeOf"], unfollowed := true, recurses := true, named := ["pumice/header.errNone"], apart := false, laid := [("pumice/header.errNone", laid_pumice_header_errNone)], narrowed := true }
def ScanOnceUptoSaid : Prop := scanOnceUptoRow.holds Tryd.pinned (OpenSpec.upto scanOnceSpec)

end Rows
end Go.Proofs.YtdlimghdimkadaaDoor

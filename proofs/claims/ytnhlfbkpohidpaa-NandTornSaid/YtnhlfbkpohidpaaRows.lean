/-
  No cell of these rows narrows 'for every input' (looked for: loops, veiled, ifaces, maps, wideKeys, modest, calm, conditions, laid).
  DERIVED. THE GIVEN ROWS OF THIS SEAT. 3 by the template 'for every input the law returns true; each argument reads behind the call as it read before'; 0 by the template 'total and deterministic' (their statements: YtnhlfbkpohidpaaTotals.lean).
  GIVEN WITH THE SEED: the statements are not yours to turn. If you find one false, say at which input.
  Laid BY PROGRAM, IN A SANDBOX (cutbox-rows.mjs): the forced cells as the released guide's own fill.sh prints them over the translation 5d2a8542c1ef1cd9… (all of the seat's roots in one cut). By AI agents, Wed Nov 11 2026. No macro, syntax, notation, axiom, sorry.
-/
import Derived.Test.YtnhlfbkpohidpaaChecked
import GoSem.Claim
import GoSem.ClaimJoined
import GoSem.ClaimMapViews
import Derived.JoinedTies
import Derived.KernelRfl
namespace Go.Proofs.Ytnhlfbkpohidpaa
/- THE CELL 'sum', in the pinned program and in every row, IS THE sha256 OF THE DUMP (.gsa) THAT YtnhlfbkpohidpaaProg.lean LOADS. Nothing in Lean hashes anything: it is a label: what it is worth is what the hold of that sum in a sandbox is worth. -/
noncomputable def Try.pinned : Pinned := { name := "ytnhlfbkpohidpaa", sum := "5d2a8542c1ef1cd96dfa814d86e744aaa953a8943a14f69748cf8a8fef7793e3", checked := Try.checked }
namespace Rows
def none {H : Type} : Left H := { results := [], args := [] }

/-- 'pumicelaw03.NandOnce': WHATEVER THE INPUT: true; the input reads as it did. -/
def nandOnceSpec : ChangeSpec := { name := "nandOnce", fn := fun _ => fun
  | [d1, d2, d3] => { results := [.lit (.bool true)], args := [d1, d2, d3] }
  | _ => none }
def nandOnceRow : OpenClaim := { program := "ytnhlfbkpohidpaa", sum := "5d2a8542c1ef1cd96dfa814d86e744aaa953a8943a14f69748cf8a8fef7793e3", func := "pumice/pumicelaw03.NandOnce", spec := "nandOnce", unfollowed := true, recurses := true, apart := false }
def NandOnceSaid : Prop := nandOnceRow.holds Try.pinned (OpenSpec.ofChange nandOnceSpec)

/-- ITS FALSE NEIGHBOUR: 'it returns false'. Refute it at one input. -/
def nandOnceWrong : ChangeSpec := { name := "nandOnce", fn := fun _ => fun
  | [d1, d2, d3] => { results := [.lit (.bool false)], args := [d1, d2, d3] }
  | _ => none }
def NandOnceWrongFalsely : Prop := nandOnceRow.holds Try.pinned (OpenSpec.ofChange nandOnceWrong)

/-- 'pumicelaw03.NandTorn': WHATEVER THE INPUT: true; the input reads as it did. -/
def nandTornSpec : ChangeSpec := { name := "nandTorn", fn := fun _ => fun
  | [d1, d2, d3, d4] => { results := [.lit (.bool true)], args := [d1, d2, d3, d4] }
  | _ => none }
def nandTornRow : OpenClaim := { program := "ytnhlfbkpohidpaa", sum := "5d2a8542c1ef1cd96dfa814d86e744aaa953a8943a14f69748cf8a8fef7793e3", func := "pumice/pumicelaw03.NandTorn", spec := "nandTorn", unfollowed := true, recurses := true, apart := false }
def NandTornSaid : Prop := nandTornRow.holds Try.pinned (OpenSpec.ofChange nandTornSpec)

/-- ITS FALSE NEIGHBOUR: 'it returns false'. Refute it at one input. -/
def nandTornWrong : ChangeSpec := { name := "nandTorn", fn := fun _ => fun
  | [d1, d2, d3, d4] => { results := [.lit (.bool false)], args := [d1, d2, d3, d4] }
  | _ => none }
def NandTornWrongFalsely : Prop := nandTornRow.holds Try.pinned (OpenSpec.ofChange nandTornWrong)

/-- 'pumicelaw03.NandNils': WHATEVER THE INPUT: true; the input reads as it did. -/
def nandNilsSpec : ChangeSpec := { name := "nandNils", fn := fun _ => fun
  | [d1, d2, d3, d4] => { results := [.lit (.bool true)], args := [d1, d2, d3, d4] }
  | _ => none }
def nandNilsRow : OpenClaim := { program := "ytnhlfbkpohidpaa", sum := "5d2a8542c1ef1cd96dfa814d86e744aaa953a8943a14f69748cf8a8fef7793e3", func := "pumice/pumicelaw03.NandNils", spec := "nandNils", unfollowed := true, recurses := true, apart := false }
def NandNilsSaid : Prop := nandNilsRow.holds Try.pinned (OpenSpec.ofChange nandNilsSpec)

/-- ITS FALSE NEIGHBOUR: 'it returns false'. Refute it at one input. -/
def nandNilsWrong : ChangeSpec := { name := "nandNils", fn := fun _ => fun
  | [d1, d2, d3, d4] => { results := [.lit (.bool false)], args := [d1, d2, d3, d4] }
  | _ => none }
def NandNilsWrongFalsely : Prop := nandNilsRow.holds Try.pinned (OpenSpec.ofChange nandNilsWrong)

/- THE SECOND FORM. 'bulk': how many values and letters a reading holds, each counted each time it is reached (what is shared counts as often as it is met; a slice's spare places count too). A statement '..UptoSaid' is the law's where the arguments, and the package variables that the reading takes, are together of bulk at most 1048576: NARROWER than '..Said'. Prove '..Said' where nothing that the law and all that it calls make is longer than what came in: it says more and counts as full. Else prove '..UptoSaid'. A law counts once. -/
mutual
def uptoBulk {H : Type} : DataW H → Nat
  | .lit (.string bytes) => bytes.length + 1
  | .lit _ => 1
  | .nil => 1
  | .ptr d => uptoBulk d + 1
  | .slice elems spare => uptoBulkAll elems + uptoBulkAll spare + 1
  | .agg parts => uptoBulkAll parts + 1
  | .iface _ d => uptoBulk d + 1
  | .map entries => uptoBulkEntries entries + 1
  | .held _ => 1
def uptoBulkAll {H : Type} : List (DataW H) → Nat
  | [] => 0
  | d :: r => uptoBulk d + uptoBulkAll r
def uptoBulkEntries {H : Type} : List (Lit × DataW H) → Nat
  | [] => 0
  | x :: r => uptoBulkEntry x + uptoBulkEntries r
def uptoBulkEntry {H : Type} : Lit × DataW H → Nat
  | (.string bytes, d) => bytes.length + uptoBulk d + 1
  | (_, d) => uptoBulk d + 1
 end
def uptoSmall : (H : Type) → List (DataW H) → Bool := fun _ ds => decide (uptoBulkAll ds ≤ 1048576)
def OpenSpec.upto (s : _root_.Go.ChangeSpec) : _root_.Go.OpenSpec := { _root_.Go.OpenSpec.ofChange s with cond := some uptoSmall }

/-- 'pumicelaw03.NandOnce', WHERE WHAT IT READS IS OF BULK AT MOST 1048576: true; the input reads as it did. -/
def nandOnceUptoRow : OpenClaim := { program := "ytnhlfbkpohidpaa", sum := "5d2a8542c1ef1cd96dfa814d86e744aaa953a8943a14f69748cf8a8fef7793e3", func := "pumice/pumicelaw03.NandOnce", spec := "nandOnce", unfollowed := true, recurses := true, apart := false, narrowed := true }
def NandOnceUptoSaid : Prop := nandOnceUptoRow.holds Try.pinned (OpenSpec.upto nandOnceSpec)

/-- 'pumicelaw03.NandTorn', WHERE WHAT IT READS IS OF BULK AT MOST 1048576: true; the input reads as it did. -/
def nandTornUptoRow : OpenClaim := { program := "ytnhlfbkpohidpaa", sum := "5d2a8542c1ef1cd96dfa814d86e744aaa953a8943a14f69748cf8a8fef7793e3", func := "pumice/pumicelaw03.NandTorn", spec := "nandTorn", unfollowed := true, recurses := true, apart := false, narrowed := true }
def NandTornUptoSaid : Prop := nandTornUptoRow.holds Try.pinned (OpenSpec.upto nandTornSpec)

/-- 'pumicelaw03.NandNils', WHERE WHAT IT READS IS OF BULK AT MOST 1048576: true; the input reads as it did. -/
def nandNilsUptoRow : OpenClaim := { program := "ytnhlfbkpohidpaa", sum := "5d2a8542c1ef1cd96dfa814d86e744aaa953a8943a14f69748cf8a8fef7793e3", func := "pumice/pumicelaw03.NandNils", spec := "nandNils", unfollowed := true, recurses := true, apart := false, narrowed := true }
def NandNilsUptoSaid : Prop := nandNilsUptoRow.holds Try.pinned (OpenSpec.upto nandNilsSpec)

end Rows
end Go.Proofs.Ytnhlfbkpohidpaa

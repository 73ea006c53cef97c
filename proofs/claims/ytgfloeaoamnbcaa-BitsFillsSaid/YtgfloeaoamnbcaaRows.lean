/-
  No cell of these rows narrows 'for every input' (looked for: loops, veiled, ifaces, maps, wideKeys, modest, calm, conditions, laid).
  DERIVED. THE GIVEN ROWS OF THIS SEAT. 6 by the template 'for every input the law returns true; each argument reads behind the call as it read before'; 0 by the template 'total and deterministic' (their statements: YtgfloeaoamnbcaaTotals.lean).
  GIVEN WITH THE SEED: the statements are not yours to turn. If you find one false, say at which input.
  Laid BY PROGRAM, IN A SANDBOX (cutbox-rows.mjs): the forced cells as the released guide's own fill.sh prints them over the translation 5701294be55d00a1… (all of the seat's roots in one cut). By AI agents, Wed Nov 11 2026. No macro, syntax, notation, axiom, sorry.
-/
import Derived.Test.YtgfloeaoamnbcaaChecked
import GoSem.Claim
import GoSem.ClaimJoined
import GoSem.ClaimMapViews
import Derived.JoinedTies
import Derived.KernelRfl
namespace Go.Proofs.Ytgfloeaoamnbcaa
/- THE CELL 'sum', in the pinned program and in every row, IS THE sha256 OF THE DUMP (.gsa) THAT YtgfloeaoamnbcaaProg.lean LOADS. Nothing in Lean hashes anything: it is a label: what it is worth is what the hold of that sum in a sandbox is worth. -/
noncomputable def Try.pinned : Pinned := { name := "ytgfloeaoamnbcaa", sum := "5701294be55d00a1268f0d3b5699c0b02c69d07b674bf4a8f2fe43a43ebead9e", checked := Try.checked }
namespace Rows
def none {H : Type} : Left H := { results := [], args := [] }

/-- 'pumicelaw01.BitsFrames': WHATEVER THE INPUT: true; the input reads as it did. -/
def bitsFramesSpec : ChangeSpec := { name := "bitsFrames", fn := fun _ => fun
  | [d] => { results := [.lit (.bool true)], args := [d] }
  | _ => none }
def bitsFramesRow : OpenClaim := { program := "ytgfloeaoamnbcaa", sum := "5701294be55d00a1268f0d3b5699c0b02c69d07b674bf4a8f2fe43a43ebead9e", func := "pumice/pumicelaw01.BitsFrames", spec := "bitsFrames", apart := false }
def BitsFramesSaid : Prop := bitsFramesRow.holds Try.pinned (OpenSpec.ofChange bitsFramesSpec)

/-- ITS FALSE NEIGHBOUR: 'it returns false'. Refute it at one input. -/
def bitsFramesWrong : ChangeSpec := { name := "bitsFrames", fn := fun _ => fun
  | [d] => { results := [.lit (.bool false)], args := [d] }
  | _ => none }
def BitsFramesWrongFalsely : Prop := bitsFramesRow.holds Try.pinned (OpenSpec.ofChange bitsFramesWrong)

/-- 'pumicelaw01.BitsBack': WHATEVER THE INPUT: true; the input reads as it did. -/
def bitsBackSpec : ChangeSpec := { name := "bitsBack", fn := fun _ => fun
  | [d1, d2, d3, d4] => { results := [.lit (.bool true)], args := [d1, d2, d3, d4] }
  | _ => none }
def bitsBackRow : OpenClaim := { program := "ytgfloeaoamnbcaa", sum := "5701294be55d00a1268f0d3b5699c0b02c69d07b674bf4a8f2fe43a43ebead9e", func := "pumice/pumicelaw01.BitsBack", spec := "bitsBack", apart := false }
def BitsBackSaid : Prop := bitsBackRow.holds Try.pinned (OpenSpec.ofChange bitsBackSpec)

/-- ITS FALSE NEIGHBOUR: 'it returns false'. Refute it at one input. -/
def bitsBackWrong : ChangeSpec := { name := "bitsBack", fn := fun _ => fun
  | [d1, d2, d3, d4] => { results := [.lit (.bool false)], args := [d1, d2, d3, d4] }
  | _ => none }
def BitsBackWrongFalsely : Prop := bitsBackRow.holds Try.pinned (OpenSpec.ofChange bitsBackWrong)

/-- 'pumicelaw01.BitsGet': WHATEVER THE INPUT: true; the input reads as it did. -/
def bitsGetSpec : ChangeSpec := { name := "bitsGet", fn := fun _ => fun
  | [d1, d2] => { results := [.lit (.bool true)], args := [d1, d2] }
  | _ => none }
def bitsGetRow : OpenClaim := { program := "ytgfloeaoamnbcaa", sum := "5701294be55d00a1268f0d3b5699c0b02c69d07b674bf4a8f2fe43a43ebead9e", func := "pumice/pumicelaw01.BitsGet", spec := "bitsGet", apart := false }
def BitsGetSaid : Prop := bitsGetRow.holds Try.pinned (OpenSpec.ofChange bitsGetSpec)

/-- ITS FALSE NEIGHBOUR: 'it returns false'. Refute it at one input. -/
def bitsGetWrong : ChangeSpec := { name := "bitsGet", fn := fun _ => fun
  | [d1, d2] => { results := [.lit (.bool false)], args := [d1, d2] }
  | _ => none }
def BitsGetWrongFalsely : Prop := bitsGetRow.holds Try.pinned (OpenSpec.ofChange bitsGetWrong)

/-- 'pumicelaw01.BitsLinear': WHATEVER THE INPUT: true; the input reads as it did. -/
def bitsLinearSpec : ChangeSpec := { name := "bitsLinear", fn := fun _ => fun
  | [d1, d2, d3] => { results := [.lit (.bool true)], args := [d1, d2, d3] }
  | _ => none }
def bitsLinearRow : OpenClaim := { program := "ytgfloeaoamnbcaa", sum := "5701294be55d00a1268f0d3b5699c0b02c69d07b674bf4a8f2fe43a43ebead9e", func := "pumice/pumicelaw01.BitsLinear", spec := "bitsLinear", apart := false }
def BitsLinearSaid : Prop := bitsLinearRow.holds Try.pinned (OpenSpec.ofChange bitsLinearSpec)

/-- ITS FALSE NEIGHBOUR: 'it returns false'. Refute it at one input. -/
def bitsLinearWrong : ChangeSpec := { name := "bitsLinear", fn := fun _ => fun
  | [d1, d2, d3] => { results := [.lit (.bool false)], args := [d1, d2, d3] }
  | _ => none }
def BitsLinearWrongFalsely : Prop := bitsLinearRow.holds Try.pinned (OpenSpec.ofChange bitsLinearWrong)

/-- 'pumicelaw01.BitsNumbers': WHATEVER THE INPUT: true; the input reads as it did. -/
def bitsNumbersSpec : ChangeSpec := { name := "bitsNumbers", fn := fun _ => fun
  | [d1, d2, d3, d4, d5] => { results := [.lit (.bool true)], args := [d1, d2, d3, d4, d5] }
  | _ => none }
def bitsNumbersRow : OpenClaim := { program := "ytgfloeaoamnbcaa", sum := "5701294be55d00a1268f0d3b5699c0b02c69d07b674bf4a8f2fe43a43ebead9e", func := "pumice/pumicelaw01.BitsNumbers", spec := "bitsNumbers", apart := false }
def BitsNumbersSaid : Prop := bitsNumbersRow.holds Try.pinned (OpenSpec.ofChange bitsNumbersSpec)

/-- ITS FALSE NEIGHBOUR: 'it returns false'. Refute it at one input. -/
def bitsNumbersWrong : ChangeSpec := { name := "bitsNumbers", fn := fun _ => fun
  | [d1, d2, d3, d4, d5] => { results := [.lit (.bool false)], args := [d1, d2, d3, d4, d5] }
  | _ => none }
def BitsNumbersWrongFalsely : Prop := bitsNumbersRow.holds Try.pinned (OpenSpec.ofChange bitsNumbersWrong)

/-- 'pumicelaw01.BitsFills': WHATEVER THE INPUT: true; the input reads as it did. -/
def bitsFillsSpec : ChangeSpec := { name := "bitsFills", fn := fun _ => fun
  | [d1, d2] => { results := [.lit (.bool true)], args := [d1, d2] }
  | _ => none }
def bitsFillsRow : OpenClaim := { program := "ytgfloeaoamnbcaa", sum := "5701294be55d00a1268f0d3b5699c0b02c69d07b674bf4a8f2fe43a43ebead9e", func := "pumice/pumicelaw01.BitsFills", spec := "bitsFills", apart := false }
def BitsFillsSaid : Prop := bitsFillsRow.holds Try.pinned (OpenSpec.ofChange bitsFillsSpec)

/-- ITS FALSE NEIGHBOUR: 'it returns false'. Refute it at one input. -/
def bitsFillsWrong : ChangeSpec := { name := "bitsFills", fn := fun _ => fun
  | [d1, d2] => { results := [.lit (.bool false)], args := [d1, d2] }
  | _ => none }
def BitsFillsWrongFalsely : Prop := bitsFillsRow.holds Try.pinned (OpenSpec.ofChange bitsFillsWrong)

/- THE SECOND FORM. 'bulk': how many values and letters a reading holds, each counted each time it is reached (what is shared counts as often as it is met; a slice's spare places count too). A statement '..UptoSaid' is the law's where the arguments, and the package variables that the reading takes, are together of bulk at most 1048576: NARROWER than '..Said'. Prove '..Said' where nothing that the law and all that it calls make is longer than what came in: it says more and counts as full. Else prove '..UptoSaid'. A law counts once. -/
mutual
def uptoBulk {H : Type} : DataW H → Nat
  | .lit (.string bytes) => bytes.length + 1
  | .lit _ => 1
  | .nil => 1
  | .ptr d => uptoBulk d + 1
  | .slice elems spare => uptoBulkAll elems + uptoBulkAll spare + 1
  | .agg parts => uptoBulkAll parts + 1
  | .iface _ d => uptoBulk d + 1
  | .map entries => uptoBulkEntries entries + 1
  | .held _ => 1
def uptoBulkAll {H : Type} : List (DataW H) → Nat
  | [] => 0
  | d :: r => uptoBulk d + uptoBulkAll r
def uptoBulkEntries {H : Type} : List (Lit × DataW H) → Nat
  | [] => 0
  | x :: r => uptoBulkEntry x + uptoBulkEntries r
def uptoBulkEntry {H : Type} : Lit × DataW H → Nat
  | (.string bytes, d) => bytes.length + uptoBulk d + 1
  | (_, d) => uptoBulk d + 1
 end
def uptoSmall : (H : Type) → List (DataW H) → Bool := fun _ ds => decide (uptoBulkAll ds ≤ 1048576)
def OpenSpec.upto (s : _root_.Go.ChangeSpec) : _root_.Go.OpenSpec := { _root_.Go.OpenSpec.ofChange s with cond := some uptoSmall }

/-- 'pumicelaw01.BitsFrames', WHERE WHAT IT READS IS OF BULK AT MOST 1048576: true; the input reads as it did. -/
def bitsFramesUptoRow : OpenClaim := { program := "ytgfloeaoamnbcaa", sum := "5701294be55d00a1268f0d3b5699c0b02c69d07b674bf4a8f2fe43a43ebead9e", func := "pumice/pumicelaw01.BitsFrames", spec := "bitsFrames", apart := false, narrowed := true }
def BitsFramesUptoSaid : Prop := bitsFramesUptoRow.holds Try.pinned (OpenSpec.upto bitsFramesSpec)

/-- 'pumicelaw01.BitsBack', WHERE WHAT IT READS IS OF BULK AT MOST 1048576: true; the input reads as it did. -/
def bitsBackUptoRow : OpenClaim := { program := "ytgfloeaoamnbcaa", sum := "5701294be55d00a1268f0d3b5699c0b02c69d07b674bf4a8f2fe43a43ebead9e", func := "pumice/pumicelaw01.BitsBack", spec := "bitsBack", apart := false, narrowed := true }
def BitsBackUptoSaid : Prop := bitsBackUptoRow.holds Try.pinned (OpenSpec.upto bitsBackSpec)

/-- 'pumicelaw01.BitsGet', WHERE WHAT IT READS IS OF BULK AT MOST 1048576: true; the input reads as it did. -/
def bitsGetUptoRow : OpenClaim := { program := "ytgfloeaoamnbcaa", sum := "5701294be55d00a1268f0d3b5699c0b02c69d07b674bf4a8f2fe43a43ebead9e", func := "pumice/pumicelaw01.BitsGet", spec := "bitsGet", apart := false, narrowed := true }
def BitsGetUptoSaid : Prop := bitsGetUptoRow.holds Try.pinned (OpenSpec.upto bitsGetSpec)

/-- 'pumicelaw01.BitsLinear', WHERE WHAT IT READS IS OF BULK AT MOST 1048576: true; the input reads as it did. -/
def bitsLinearUptoRow : OpenClaim := { program := "ytgfloeaoamnbcaa", sum := "5701294be55d00a1268f0d3b5699c0b02c69d07b674bf4a8f2fe43a43ebead9e", func := "pumice/pumicelaw01.BitsLinear", spec := "bitsLinear", apart := false, narrowed := true }
def BitsLinearUptoSaid : Prop := bitsLinearUptoRow.holds Try.pinned (OpenSpec.upto bitsLinearSpec)

/-- 'pumicelaw01.BitsNumbers', WHERE WHAT IT READS IS OF BULK AT MOST 1048576: true; the input reads as it did. -/
def bitsNumbersUptoRow : OpenClaim := { program := "ytgfloeaoamnbcaa", sum := "5701294be55d00a1268f0d3b5699c0b02c69d07b674bf4a8f2fe43a43ebead9e", func := "pumice/pumicelaw01.BitsNumbers", spec := "bitsNumbers", apart := false, narrowed := true }
def BitsNumbersUptoSaid : Prop := bitsNumbersUptoRow.holds Try.pinned (OpenSpec.upto bitsNumbersSpec)

/-- 'pumicelaw01.BitsFills', WHERE WHAT IT READS IS OF BULK AT MOST 1048576: true; the input reads as it did. -/
def bitsFillsUptoRow : OpenClaim := { program := "ytgfloeaoamnbcaa", sum := "5701294be55d00a1268f0d3b5699c0b02c69d07b674bf4a8f2fe43a43ebead9e", func := "pumice/pumicelaw01.BitsFills", spec := "bitsFills", apart := false, narrowed := true }
def BitsFillsUptoSaid : Prop := bitsFillsUptoRow.holds Try.pinned (OpenSpec.upto bitsFillsSpec)

end Rows
end Go.Proofs.Ytgfloeaoamnbcaa

/-
  No cell of these rows narrows 'for every input' (looked for: loops, veiled, ifaces, maps, wideKeys, modest, calm, conditions, laid).
  DERIVED. THE GIVEN ROWS OF THIS SEAT. 8 by the template 'for every input the law returns true; each argument reads behind the call as it read before'; 0 by the template 'total and deterministic' (their statements: YtpllpagbdmikpaaTotals.lean).
  GIVEN WITH THE SEED: the statements are not yours to turn. If you find one false, say at which input.
  Laid BY PROGRAM, IN A SANDBOX (cutbox-rows.mjs): the forced cells as the released guide's own fill.sh prints them over the translation e31ab1ca544f7853… (all of the seat's roots in one cut). By AI agents, Wed Nov 11 2026. No macro, syntax, notation, axiom, sorry.
-/
import Derived.Test.YtpllpagbdmikpaaChecked
import GoSem.Claim
import GoSem.ClaimJoined
import GoSem.ClaimMapViews
import Derived.JoinedTies
import Derived.KernelRfl
namespace Go.Proofs.Ytpllpagbdmikpaa
/- THE CELL 'sum', in the pinned program and in every row, IS THE sha256 OF THE DUMP (.gsa) THAT YtpllpagbdmikpaaProg.lean LOADS. Nothing in Lean hashes anything: it is a label: what it is worth is what the hold of that sum in a sandbox is worth. -/
noncomputable def Try.pinned : Pinned := { name := "ytpllpagbdmikpaa", sum := "e31ab1ca544f7853de3e198f2aff5802dde39959c1abfea2ed185299965c35a2", checked := Try.checked }
namespace Rows
def none {H : Type} : Left H := { results := [], args := [] }

/-- 'pumicelaw10.ImageSplit': WHATEVER THE INPUT: true; the input reads as it did. -/
def imageSplitSpec : ChangeSpec := { name := "imageSplit", fn := fun _ => fun
  | [d] => { results := [.lit (.bool true)], args := [d] }
  | _ => none }
def imageSplitRow : OpenClaim := { program := "ytpllpagbdmikpaa", sum := "e31ab1ca544f7853de3e198f2aff5802dde39959c1abfea2ed185299965c35a2", func := "pumice/pumicelaw10.ImageSplit", spec := "imageSplit", apart := false }
def ImageSplitSaid : Prop := imageSplitRow.holds Try.pinned (OpenSpec.ofChange imageSplitSpec)

/-- ITS FALSE NEIGHBOUR: 'it returns false'. Refute it at one input. -/
def imageSplitWrong : ChangeSpec := { name := "imageSplit", fn := fun _ => fun
  | [d] => { results := [.lit (.bool false)], args := [d] }
  | _ => none }
def ImageSplitWrongFalsely : Prop := imageSplitRow.holds Try.pinned (OpenSpec.ofChange imageSplitWrong)

/-- 'pumicelaw10.ImagePacks': WHATEVER THE INPUT: true; the input reads as it did. -/
def imagePacksSpec : ChangeSpec := { name := "imagePacks", fn := fun _ => fun
  | [d] => { results := [.lit (.bool true)], args := [d] }
  | _ => none }
def imagePacksRow : OpenClaim := { program := "ytpllpagbdmikpaa", sum := "e31ab1ca544f7853de3e198f2aff5802dde39959c1abfea2ed185299965c35a2", func := "pumice/pumicelaw10.ImagePacks", spec := "imagePacks", apart := false }
def ImagePacksSaid : Prop := imagePacksRow.holds Try.pinned (OpenSpec.ofChange imagePacksSpec)

/-- ITS FALSE NEIGHBOUR: 'it returns false'. Refute it at one input. -/
def imagePacksWrong : ChangeSpec := { name := "imagePacks", fn := fun _ => fun
  | [d] => { results := [.lit (.bool false)], args := [d] }
  | _ => none }
def ImagePacksWrongFalsely : Prop := imagePacksRow.holds Try.pinned (OpenSpec.ofChange imagePacksWrong)

/-- 'pumicelaw10.ImageChildren': WHATEVER THE INPUT: true; the input reads as it did. -/
def imageChildrenSpec : ChangeSpec := { name := "imageChildren", fn := fun _ => fun
  | [d1, d2] => { results := [.lit (.bool true)], args := [d1, d2] }
  | _ => none }
def imageChildrenRow : OpenClaim := { program := "ytpllpagbdmikpaa", sum := "e31ab1ca544f7853de3e198f2aff5802dde39959c1abfea2ed185299965c35a2", func := "pumice/pumicelaw10.ImageChildren", spec := "imageChildren", unfollowed := true, recurses := true, apart := false }
def ImageChildrenSaid : Prop := imageChildrenRow.holds Try.pinned (OpenSpec.ofChange imageChildrenSpec)

/-- ITS FALSE NEIGHBOUR: 'it returns false'. Refute it at one input. -/
def imageChildrenWrong : ChangeSpec := { name := "imageChildren", fn := fun _ => fun
  | [d1, d2] => { results := [.lit (.bool false)], args := [d1, d2] }
  | _ => none }
def ImageChildrenWrongFalsely : Prop := imageChildrenRow.holds Try.pinned (OpenSpec.ofChange imageChildrenWrong)

/-- 'pumicelaw10.ImageChild': WHATEVER THE INPUT: true; the input reads as it did. -/
def imageChildSpec : ChangeSpec := { name := "imageChild", fn := fun _ => fun
  | [d1, d2, d3] => { results := [.lit (.bool true)], args := [d1, d2, d3] }
  | _ => none }
def imageChildRow : OpenClaim := { program := "ytpllpagbdmikpaa", sum := "e31ab1ca544f7853de3e198f2aff5802dde39959c1abfea2ed185299965c35a2", func := "pumice/pumicelaw10.ImageChild", spec := "imageChild", unfollowed := true, recurses := true, apart := false }
def ImageChildSaid : Prop := imageChildRow.holds Try.pinned (OpenSpec.ofChange imageChildSpec)

/-- ITS FALSE NEIGHBOUR: 'it returns false'. Refute it at one input. -/
def imageChildWrong : ChangeSpec := { name := "imageChild", fn := fun _ => fun
  | [d1, d2, d3] => { results := [.lit (.bool false)], args := [d1, d2, d3] }
  | _ => none }
def ImageChildWrongFalsely : Prop := imageChildRow.holds Try.pinned (OpenSpec.ofChange imageChildWrong)

/-- 'pumicelaw10.ImageUnpacks': WHATEVER THE INPUT: true; the input reads as it did. -/
def imageUnpacksSpec : ChangeSpec := { name := "imageUnpacks", fn := fun _ => fun
  | [d] => { results := [.lit (.bool true)], args := [d] }
  | _ => none }
def imageUnpacksRow : OpenClaim := { program := "ytpllpagbdmikpaa", sum := "e31ab1ca544f7853de3e198f2aff5802dde39959c1abfea2ed185299965c35a2", func := "pumice/pumicelaw10.ImageUnpacks", spec := "imageUnpacks", apart := false }
def ImageUnpacksSaid : Prop := imageUnpacksRow.holds Try.pinned (OpenSpec.ofChange imageUnpacksSpec)

/-- ITS FALSE NEIGHBOUR: 'it returns false'. Refute it at one input. -/
def imageUnpacksWrong : ChangeSpec := { name := "imageUnpacks", fn := fun _ => fun
  | [d] => { results := [.lit (.bool false)], args := [d] }
  | _ => none }
def ImageUnpacksWrongFalsely : Prop := imageUnpacksRow.holds Try.pinned (OpenSpec.ofChange imageUnpacksWrong)

/-- 'pumicelaw10.ImageBack': WHATEVER THE INPUT: true; the input reads as it did. -/
def imageBackSpec : ChangeSpec := { name := "imageBack", fn := fun _ => fun
  | [d1, d2] => { results := [.lit (.bool true)], args := [d1, d2] }
  | _ => none }
def imageBackRow : OpenClaim := { program := "ytpllpagbdmikpaa", sum := "e31ab1ca544f7853de3e198f2aff5802dde39959c1abfea2ed185299965c35a2", func := "pumice/pumicelaw10.ImageBack", spec := "imageBack", apart := false }
def ImageBackSaid : Prop := imageBackRow.holds Try.pinned (OpenSpec.ofChange imageBackSpec)

/-- ITS FALSE NEIGHBOUR: 'it returns false'. Refute it at one input. -/
def imageBackWrong : ChangeSpec := { name := "imageBack", fn := fun _ => fun
  | [d1, d2] => { results := [.lit (.bool false)], args := [d1, d2] }
  | _ => none }
def ImageBackWrongFalsely : Prop := imageBackRow.holds Try.pinned (OpenSpec.ofChange imageBackWrong)

/-- 'pumicelaw10.ImageSplits': WHATEVER THE INPUT: true; the input reads as it did. -/
def imageSplitsSpec : ChangeSpec := { name := "imageSplits", fn := fun _ => fun
  | [d1, d2, d3] => { results := [.lit (.bool true)], args := [d1, d2, d3] }
  | _ => none }
def imageSplitsRow : OpenClaim := { program := "ytpllpagbdmikpaa", sum := "e31ab1ca544f7853de3e198f2aff5802dde39959c1abfea2ed185299965c35a2", func := "pumice/pumicelaw10.ImageSplits", spec := "imageSplits", unfollowed := true, recurses := true, apart := false }
def ImageSplitsSaid : Prop := imageSplitsRow.holds Try.pinned (OpenSpec.ofChange imageSplitsSpec)

/-- ITS FALSE NEIGHBOUR: 'it returns false'. Refute it at one input. -/
def imageSplitsWrong : ChangeSpec := { name := "imageSplits", fn := fun _ => fun
  | [d1, d2, d3] => { results := [.lit (.bool false)], args := [d1, d2, d3] }
  | _ => none }
def ImageSplitsWrongFalsely : Prop := imageSplitsRow.holds Try.pinned (OpenSpec.ofChange imageSplitsWrong)

/-- 'pumicelaw10.ImageBound': WHATEVER THE INPUT: true; the input reads as it did. -/
def imageBoundSpec : ChangeSpec := { name := "imageBound", fn := fun _ => fun
  | [d] => { results := [.lit (.bool true)], args := [d] }
  | _ => none }
def imageBoundRow : OpenClaim := { program := "ytpllpagbdmikpaa", sum := "e31ab1ca544f7853de3e198f2aff5802dde39959c1abfea2ed185299965c35a2", func := "pumice/pumicelaw10.ImageBound", spec := "imageBound", unfollowed := true, recurses := true, apart := false }
def ImageBoundSaid : Prop := imageBoundRow.holds Try.pinned (OpenSpec.ofChange imageBoundSpec)

/-- ITS FALSE NEIGHBOUR: 'it returns false'. Refute it at one input. -/
def imageBoundWrong : ChangeSpec := { name := "imageBound", fn := fun _ => fun
  | [d] => { results := [.lit (.bool false)], args := [d] }
  | _ => none }
def ImageBoundWrongFalsely : Prop := imageBoundRow.holds Try.pinned (OpenSpec.ofChange imageBoundWrong)

/- THE SECOND FORM. 'bulk': how many values and letters a reading holds, each counted each time it is reached (what is shared counts as often as it is met; a slice's spare places count too). A statement '..UptoSaid' is the law's where the arguments, and the package variables that the reading takes, are together of bulk at most 1048576: NARROWER than '..Said'. Prove '..Said' where nothing that the law and all that it calls make is longer than what came in: it says more and counts as full. Else prove '..UptoSaid'. A law counts once. -/
mutual
def uptoBulk {H : Type} : DataW H → Nat
  | .lit (.string bytes) => bytes.length + 1
  | .lit _ => 1
  | .nil => 1
  | .ptr d => uptoBulk d + 1
  | .slice elems spare => uptoBulkAll elems + uptoBulkAll spare + 1
  | .agg parts => uptoBulkAll parts + 1
  | .iface _ d => uptoBulk d + 1
  | .map entries => uptoBulkEntries entries + 1
  | .held _ => 1
def uptoBulkAll {H : Type} : List (DataW H) → Nat
  | [] => 0
  | d :: r => uptoBulk d + uptoBulkAll r
def uptoBulkEntries {H : Type} : List (Lit × DataW H) → Nat
  | [] => 0
  | x :: r => uptoBulkEntry x + uptoBulkEntries r
def uptoBulkEntry {H : Type} : Lit × DataW H → Nat
  | (.string bytes, d) => bytes.length + uptoBulk d + 1
  | (_, d) => uptoBulk d + 1
 end
def uptoSmall : (H : Type) → List (DataW H) → Bool := fun _ ds => decide (uptoBulkAll ds ≤ 1048576)
def OpenSpec.upto (s : _root_.Go.ChangeSpec) : _root_.Go.OpenSpec := { _root_.Go.OpenSpec.ofChange s with cond := some uptoSmall }

/-- 'pumicelaw10.ImageSplit', WHERE WHAT IT READS IS OF BULK AT MOST 1048576: true; the input reads as it did. -/
def imageSplitUptoRow : OpenClaim := { program := "ytpllpagbdmikpaa", sum := "e31ab1ca544f7853de3e198f2aff5802dde39959c1abfea2ed185299965c35a2", func := "pumice/pumicelaw10.ImageSplit", spec := "imageSplit", apart := false, narrowed := true }
def ImageSplitUptoSaid : Prop := imageSplitUptoRow.holds Try.pinned (OpenSpec.upto imageSplitSpec)

/-- 'pumicelaw10.ImagePacks', WHERE WHAT IT READS IS OF BULK AT MOST 1048576: true; the input reads as it did. -/
def imagePacksUptoRow : OpenClaim := { program := "ytpllpagbdmikpaa", sum := "e31ab1ca544f7853de3e198f2aff5802dde39959c1abfea2ed185299965c35a2", func := "pumice/pumicelaw10.ImagePacks", spec := "imagePacks", apart := false, narrowed := true }
def ImagePacksUptoSaid : Prop := imagePacksUptoRow.holds Try.pinned (OpenSpec.upto imagePacksSpec)

/-- 'pumicelaw10.ImageChildren', WHERE WHAT IT READS IS OF BULK AT MOST 1048576: true; the input reads as it did. -/
def imageChildrenUptoRow : OpenClaim := { program := "ytpllpagbdmikpaa", sum := "e31ab1ca544f7853de3e198f2aff5802dde39959c1abfea2ed185299965c35a2", func := "pumice/pumicelaw10.ImageChildren", spec := "imageChildren", unfollowed := true, recurses := true, apart := false, narrowed := true }
def ImageChildrenUptoSaid : Prop := imageChildrenUptoRow.holds Try.pinned (OpenSpec.upto imageChildrenSpec)

/-- 'pumicelaw10.ImageChild', WHERE WHAT IT READS IS OF BULK AT MOST 1048576: true; the input reads as it did. -/
def imageChildUptoRow : OpenClaim := { program := "ytpllpagbdmikpaa", sum := "e31ab1ca544f7853de3e198f2aff5802dde39959c1abfea2ed185299965c35a2", func := "pumice/pumicelaw10.ImageChild", spec := "imageChild", unfollowed := true, recurses := true, apart := false, narrowed := true }
def ImageChildUptoSaid : Prop := imageChildUptoRow.holds Try.pinned (OpenSpec.upto imageChildSpec)

/-- 'pumicelaw10.ImageUnpacks', WHERE WHAT IT READS IS OF BULK AT MOST 1048576: true; the input reads as it did. -/
def imageUnpacksUptoRow : OpenClaim := { program := "ytpllpagbdmikpaa", sum := "e31ab1ca544f7853de3e198f2aff5802dde39959c1abfea2ed185299965c35a2", func := "pumice/pumicelaw10.ImageUnpacks", spec := "imageUnpacks", apart := false, narrowed := true }
def ImageUnpacksUptoSaid : Prop := imageUnpacksUptoRow.holds Try.pinned (OpenSpec.upto imageUnpacksSpec)

/-- 'pumicelaw10.ImageBack', WHERE WHAT IT READS IS OF BULK AT MOST 1048576: true; the input reads as it did. -/
def imageBackUptoRow : OpenClaim := { program := "ytpllpagbdmikpaa", sum := "e31ab1ca544f7853de3e198f2aff5802dde39959c1abfea2ed185299965c35a2", func := "pumice/pumicelaw10.ImageBack", spec := "imageBack", apart := false, narrowed := true }
def ImageBackUptoSaid : Prop := imageBackUptoRow.holds Try.pinned (OpenSpec.upto imageBackSpec)

/-- 'pumicelaw10.ImageSplits', WHERE WHAT IT READS IS OF BULK AT MOST 1048576: true; the input reads as it did. -/
def imageSplitsUptoRow : OpenClaim := { program := "ytpllpagbdmikpaa", sum := "e31ab1ca544f7853de3e198f2aff5802dde39959c1abfea2ed185299965c35a2", func := "pumice/pumicelaw10.ImageSplits", spec := "imageSplits", unfollowed := true, recurses := true, apart := false, narrowed := true }
def ImageSplitsUptoSaid : Prop := imageSplitsUptoRow.holds Try.pinned (OpenSpec.upto imageSplitsSpec)

/-- 'pumicelaw10.ImageBound', WHERE WHAT IT READS IS OF BULK AT MOST 1048576: true; the input reads as it did. -/
def imageBoundUptoRow : OpenClaim := { program := "ytpllpagbdmikpaa", sum := "e31ab1ca544f7853de3e198f2aff5802dde39959c1abfea2ed185299965c35a2", func := "pumice/pumicelaw10.ImageBound", spec := "imageBound", unfollowed := true, recurses := true, apart := false, narrowed := true }
def ImageBoundUptoSaid : Prop := imageBoundUptoRow.holds Try.pinned (OpenSpec.upto imageBoundSpec)

end Rows
end Go.Proofs.Ytpllpagbdmikpaa

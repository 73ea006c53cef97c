import Derived.Test.YtpllpagbdmikpaaHh
import Derived.Test.YtpllpagbdmikpaaPAllx11
namespace Go.Proofs.Ytpllpagbdmikpaa.PAll
open Go.RowKit Go.Proofs.YtpllpagbdmikpaaW.PrintWords Go.Proofs.YtpllpagbdmikpaaW.PrintLast Go.Proofs.YtpllpagbdmikpaaW.PrintMore
theorem same_l0 (l : List S50) (hl : l.length ≤ 9223372036854775806) : ∀ (d i : Nat), i + d = l.length → Ev (fun k => pumicelaw10_same.l0 k (l.map conv) l (i : Int)) true
  | 0, i, hi => by
    refine Ev.step (f := fun _ => some _) (fun k => ?_) (Ev.now _)
    simp only [pumicelaw10_same.l0]
    rw [if_neg (by rw [List.length_map]; omega)]
  | d + 1, i, hi => by
    have h2 := same_l0 l hl d (i + 1) (by omega)
    refine Ev.step (fun k => ?_) h2
    have hlt : i < l.length := by omega
    have hw : wrap64 ((i : Int) + 1) = ((i + 1 : Nat) : Int) := by rw [IntWalk.wrap64_in ((i : Int) + 1) (by omega)]; rfl
    have hx : rd_T50 l (i : Int) = l[i] := by simp [rd_T50, List.getD, hlt]
    have hy : rd_T69 (l.map conv) (i : Int) = conv l[i] := by simp [rd_T69, List.getD, hlt]
    simp only [pumicelaw10_same.l0]
    rw [if_pos (by rw [List.length_map]; omega), if_pos (by omega), if_pos (by omega), hx, hy, hw]
    rw [if_pos (show (conv l[i]).f0.toList = l[i].f0.toList from rfl), if_pos (show (conv l[i]).f1.f0 = l[i].f1.f0 from rfl), if_pos (show (conv l[i]).f1.f1 = l[i].f1.f1 from rfl), if_pos (show (conv l[i]).f1.f2 = l[i].f1.f2 from rfl)]
theorem same_ev (l : List S50) (hl : l.length ≤ 9223372036854775806) : ∃ K, pumicelaw10_same.f K (l.map conv) l = some true := by
  obtain ⟨K, hK⟩ := same_l0 l hl l.length 0 (by omega)
  refine ⟨K, ?_⟩
  unfold pumicelaw10_same.f
  rw [if_pos (by rw [List.length_map])]
  exact hK K (Nat.le_refl _)
end Go.Proofs.Ytpllpagbdmikpaa.PAll

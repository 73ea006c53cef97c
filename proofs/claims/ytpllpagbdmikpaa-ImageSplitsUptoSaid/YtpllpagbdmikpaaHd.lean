import Derived.Test.YtpllpagbdmikpaaHc
import Derived.Test.YtpllpagbdmikpaaPAllx2
import Derived.Test.YtpllpagbdmikpaaWRepsOne
import Derived.Lib.AppendStr
import Derived.Lib.SmallJoins
import Derived.Deep.RegionLaw
import Derived.WalkSpells
import Derived.Outline
namespace Go.Proofs.Ytpllpagbdmikpaa.PAll
open Go.RowKit Go.Proofs.YtpllpagbdmikpaaW.PrintWords Go.Proofs.YtpllpagbdmikpaaW.PrintLast Go.Proofs.YtpllpagbdmikpaaW.PrintMore
attribute [local go_sem] max2_int min2_int max_two min_two max_three min_three max_four min_four
/-! ### pumicelaw10.alive -/
theorem C_of_reps {α : Type} {d : Kd α} {W : World} {g e : Nat} {fr : Nat × Nat} {cs : Array Value} {xs : List α} (hh : W.heap[g]? = some (.cells cs e fr)) (hr : Reps (d.K W) d.sz xs cs.toList) (hl : xs.length ≤ 9223372036854775807) :
    d.C W (some ⟨g, 0, none⟩) xs.length xs := by
  refine ⟨rfl, hl, fun _ => ⟨_, rfl, fun j p hj => ⟨(cs.toList.drop (j * d.sz)).take d.sz, d.K_len (hr.2 j p hj), hr.2 j p hj, fun i u hu => ?_⟩⟩⟩
  have hi : i < d.sz := by
    have h2 := (List.getElem?_eq_some_iff.1 hu).1
    rw [List.length_take] at h2
    omega
  rw [List.getElem?_take, if_pos hi, List.getElem?_drop] at hu
  have h3 : cs[j * d.sz + i]? = some u := by rw [← Array.getElem?_toList]; exact hu
  have h4 := Joins.cell_of_block hh (j * d.sz + i)
  rw [h3] at h4
  rw [show (Addr.add ⟨g, 0, none⟩ (j * d.sz + i)) = (⟨g, j * d.sz + i, none⟩ : Addr) from by unfold Addr.add; split <;> simp_all]
  exact h4
theorem k69_one (W : World) (x : S69) : Reps (k69.K W) k69.sz [x] [.string x.f0, .int .i64 x.f1.f0, .int .i64 x.f1.f1, .int .i64 x.f1.f2] :=
  Reps.c4 (k69_mk W x) (Reps.none _ _)
theorem k69_nine (W : World) : Reps (k69.K W) k69.sz (List.replicate 9 z69) (madeCells (#[.string ⟨#[]⟩, .int .i64 0, .int .i64 0, .int .i64 0]) 36).toList := by
  exact Kd.reps_made (z := .agg #[.string ⟨#[]⟩, .int .i64 0, .int .i64 0, .int .i64 0]) rfl (by decide) (k69_mk W z69) 9
theorem addz (ad : Addr) : ad.add (Int.toNat 0 * (Kd.slice 69 k69).sz + 0) = ad := by unfold Addr.add; simp [Kd.slice]
def sA : S69 := ⟨⟨#[97]⟩, ⟨5, 258, 7⟩⟩
set_option maxHeartbeats 4000000 in
set_option maxRecDepth 100000 in
theorem alive_calls (w : World) : Calls Try.prog 14 #[] w fun e w' => e = .returned (.bool true) ∧ Below w.heap.size w w' := by
  have hR : rightB 0 [sA] = true := by kernel_rfl
  have hP : packL 0 [sA] = [84, 0, 1, 1, 97, 5, 0, 2, 1, 0, 7, 0] := by kernel_rfl
  have hL9 : image_Levels.f 9 9 = some 2 := by kernel_rfl
  have hL65 : image_Levels.f 9 65 = some 3 := by kernel_rfl
  have hS : splitL (List.replicate 9 z69) = [List.replicate 5 z69, List.replicate 4 z69] := by kernel_rfl
  have NR := Aside0.mk hR; have NP := Aside0.mk hP; have N9 := Aside0.mk hL9; have N65 := Aside0.mk hL65; have NS := Aside0.mk hS
  clear hR hP hL9 hL65 hS
  have hmk : ∀ w, (Instr.makeSlice 25 (.int .i64 9) (.int .i64 9)).run Try.prog w = .ok (.slice (some ⟨w.heap.size, 0, none⟩) 9 9) (w.alloc (.cells (madeCells (#[.string ⟨#[]⟩, .int .i64 0, .int .i64 0, .int .i64 0]) 36) 69)) := fun _ => by kernel_rfl
  have hu69 := Try.underlying69
  go_enter Try.func14, Try.ntmps14
  go_wp2_with (first
    | (go_at_call 15; (refine (pack_yes 0 (some ⟨_, 0, none⟩) 1 [sA] _ ?a1 (Nat.le_refl _) NR.out).mono ?_); (case a1 => exact C_of_reps (Array.getElem?_push_size) (k69_one _ sA) (by decide)); rintro e w1 ⟨v1, rfl, ho1, hb1⟩; rw [NP.out] at ho1; have HO1 := Aside0.mk ho1; have HB1 := Aside0.mk hb1; clear ho1 hb1; obtain ⟨A1, c1, e1⟩ := Kd.R_slice HO1.out; subst e1)
    | (go_at_call 11; (refine (split_any (some ⟨_, 0, none⟩) 9 (List.replicate 9 z69) _ ?b1 (Nat.le_refl _) (by decide)).mono ?_); (case b1 => exact C_of_reps (Array.getElem?_push_size) (k69_nine _) (by decide)); rintro e w2 ⟨v2, rfl, ho2, hb2⟩; rw [NS.out] at ho2; have HO2 := Aside0.mk ho2; have HB2 := Aside0.mk hb2; clear ho2 hb2; obtain ⟨A2, c2, e2⟩ := Kd.R_slice HO2.out; subst e2; obtain ⟨_, q2, q3⟩ := Kd.R_reads' HO2.out; clear q2; obtain ⟨ad2, cc2, rfl, _, hk2, hc2⟩ := Kd.C_get q3 [] 0 (by decide) (by decide); obtain ⟨A3, c3, rfl, q4, _⟩ := hk2; have x2 := hc2 0 _ rfl; rw [addz ad2] at x2; change w2.cell? ad2 = some (.slice A3 5 c3) at x2; have hcv : (convert 32 9 (.slice A1 12 c1)).run Try.prog w2 = .ok (.string ⟨#[84, 0, 1, 1, 97, 5, 0, 2, 1, 0, 7, 0]⟩) w2 := own_string (P := Try.prog) Try.underlying32 Try.underlying5 Try.underlying9 (Kd.own_of_R (Kd.R_below (Kd.R_alloc HO1.out _) HB2.out)))
    | (go_at_call 28; first | ((with_reducible refine (image_Levels.calls 9 9 _ _ N9.out).mono ?_); rintro e w3 ⟨rfl, hb3⟩; have HB3 := Aside0.mk hb3; clear hb3) | ((with_reducible refine (image_Levels.calls 9 65 _ _ N65.out).mono ?_); rintro e w4 ⟨rfl, hb4⟩; have HB4 := Aside0.mk hb4; clear hb4)))
  go_ret
  exact ⟨rfl, below_step (below_step (below_step (below_alloc (below_step (below_alloc (Below.refl _ _) _) HB1.out) _) HB2.out) HB3.out) HB4.out⟩

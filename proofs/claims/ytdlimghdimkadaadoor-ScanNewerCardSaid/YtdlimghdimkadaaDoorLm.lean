/- ScanLooks, walked; the kinds of its arguments. -/
import Derived.Test.YtdlimghdimkadaaDoorLl
import Derived.Test.YtdlimghdimkadaaDoorOpens
namespace Go.Proofs.YtdlimghdimkadaaDoor.PAll
open Go Go.RowKit Go.Shelf Go.Proofs.YtdlimghdimkadaaDoorW.PrintWords Go.Proofs.YtdlimghdimkadaaDoorW.PrintLast Go.Proofs.YtdlimghdimkadaaDoorW.PrintMore Go.Proofs.YtdlimghdimkadaaDoor.Plain Go.Proofs.YtdlimghdimkadaaDoor.Opens
set_option linter.unusedSimpArgs false
set_option linter.unusedVariables false
attribute [local go_sem] max2_int min2_int max_two min_two max_three min_three max_four min_four
def wf64 (n : Int) : Prop := (Lit.int .i64 n).wf = true
def wfU (n : Int) : Prop := (Lit.int .u64 n).wf = true
theorem wfU_le {n : Int} (h : wfU n) : 0 ≤ n ∧ n < 18446744073709551616 := by
  unfold wfU Lit.wf at h
  rw [Bool.and_eq_true, decide_eq_true_eq, decide_eq_true_eq] at h
  have h1 : (0 : Int) ≤ n := h.1
  have h2 : n ≤ 18446744073709551615 := h.2
  omega
theorem wf64_le {n : Int} (h : wf64 n) : -9223372036854775808 ≤ n ∧ n ≤ 9223372036854775807 := by
  unfold wf64 Lit.wf at h
  rw [Bool.and_eq_true, decide_eq_true_eq, decide_eq_true_eq] at h
  exact h
theorem opensI : Opens Tryd.prog 3 (Kd.int .i64) wf64 := Opens.int Tryd.underlying3
theorem opensU : Opens Tryd.prog 31 (Kd.int .u64) wfU := Opens.int Tryd.underlying31
theorem opensT : Opens Tryd.prog 4 Kd.bool (fun _ => True) := Opens.bool Tryd.underlying4
set_option maxRecDepth 100000 in
theorem opensRB : Opens Tryd.prog 63 k63 (fun _ => True) :=
  Opens.imp (Opens.iso (fun x : RBlk => (x.f0, x.f1, x.f2, x.f3, x.f4, x.f5)) (fun p => ⟨p.1, p.2.1, p.2.2.1, p.2.2.2.1, p.2.2.2.2.1, p.2.2.2.2.2⟩) (fun _ => rfl)
    (Opens.struct Tryd.underlying63 (by kernel_rfl) (OpensF.cons (by kernel_rfl) rfl opensI (OpensF.cons (by kernel_rfl) rfl opensI (OpensF.cons (by kernel_rfl) rfl opensI (OpensF.cons (by kernel_rfl) rfl opensI (OpensF.cons (by kernel_rfl) rfl opensU (OpensF.one (by kernel_rfl) opensT)))))))) (fun _ _ => trivial)
set_option maxRecDepth 100000 in
theorem opensRL : Opens Tryd.prog 22 (Kd.slice 63 k63) (fun l => l.length * 48 ≤ 140737488351232 ∧ ∀ a ∈ l, True) :=
  Opens.slice Tryd.underlying22 (by kernel_rfl) opensRB
set_option maxRecDepth 100000 in
set_option maxHeartbeats 16000000 in
theorem looks_law (A : Option Addr) (c : Nat) (l : List RBlk) (leb : Int) (aE : Addr) (w : World) (hr : Kd.C k63 w A l.length l) (hc : l.length ≤ c) (hl : l.length * 48 ≤ 140737488351232) (hg : gNone w aE) :
    Calls Tryd.prog 3 #[.slice A l.length c, .int .i64 leb] w fun e w' => e = .returned (.bool true) ∧ Below w.heap.size w w' := by
  have HR := Aside0.mk hr
  have HCC := Aside0.mk hc
  have HG := Aside0.mk hg
  have HL := Aside0.mk (show l.length ≤ 2932031007402 ∧ l.length < 4611686018427387904 by omega)
  have HLO : Aside0 ((l.map own63).length = l.length) := ⟨by simp⟩
  have HOW := Aside0.mk (own_is A c l w hr hc HL.out.1)
  clear hr hc hl hg
  obtain ⟨fl, hfl⟩ : ∃ x, x = findL leb (l.map own63) 0 := ⟨_, rfl⟩
  obtain ⟨ll, hll⟩ : ∃ x, x = leastL (l.map own63) := ⟨_, rfl⟩
  obtain ⟨gl, hgl⟩ : ∃ x, x = ((goodN (l.map own63) : Nat) : Int) := ⟨_, rfl⟩
  have HFL := Aside0.mk hfl
  have HLL := Aside0.mk hll
  have HGL := Aside0.mk hgl
  clear hfl hll hgl
  go_enter Tryd.func3, Tryd.ntmps3
  go_wp2_with (first
    | (go_at_call 6; (with_reducible refine HOW.out.mono ?_); rintro e w1 ⟨v1, rfl, hr1, hb1⟩; obtain ⟨A1, c1, e1⟩ := Kd.R_slice hr1; rw [HLO.out] at e1; subst e1; have HB1 := Aside0.mk hb1; have HR1 := Aside0.mk (Kd.C_below HR.out hb1); have HO1 := Aside0.mk (Kd.R_reads' hr1); have HF1 := Aside0.mk (show Calls Tryd.prog 7 #[.slice A1 l.length c1, .int .i64 leb] w1 (fun e w' => e = .returned (.int .i64 fl) ∧ Below w1.heap.size w1 w') from (by rw [HFL.out, ← HLO.out]; exact find_is A1 c1 (l.map own63) leb w1 HO1.out.2.2 (by rw [HLO.out]; exact HL.out.2))); clear hr1 hb1)
    | (go_at_call 7; (with_reducible refine HF1.out.mono ?_); rintro e w2 ⟨rfl, hb2⟩; have HB2 := Aside0.mk (below_step HB1.out hb2); have HR2 := Aside0.mk (Kd.C_below HR1.out hb2); have HO2 := Aside0.mk (Kd.C_below HO1.out.2.2 hb2); have HF2 := Aside0.mk (show Calls Tryd.prog 8 #[.slice A l.length c, .int .i64 leb] w2 (fun e w' => e = .returned (.int .i64 fl) ∧ Below w2.heap.size w2 w') from (by rw [HFL.out]; exact rfind_is A c l leb w2 HR2.out HCC.out HL.out.2)); clear hb2)
    | (go_at_call 8; (with_reducible refine HF2.out.mono ?_); rintro e w3 ⟨rfl, hb3⟩; have HB3 := Aside0.mk (below_step HB2.out hb3); have HR3 := Aside0.mk (Kd.C_below HR2.out hb3); have HO3 := Aside0.mk (Kd.C_below HO2.out hb3); have HF3 := Aside0.mk (show Calls Tryd.prog 9 #[.slice A1 l.length c1] w3 (fun e w' => e = .returned (.int .i64 ll) ∧ Below w3.heap.size w3 w') from (by rw [HLL.out, ← HLO.out]; exact least_is A1 c1 (l.map own63) w3 HO3.out (by rw [HLO.out]; exact HL.out.2))); clear hb3)
    | (go_at_call 9; (with_reducible refine HF3.out.mono ?_); rintro e w4 ⟨rfl, hb4⟩; have HB4 := Aside0.mk (below_step HB3.out hb4); have HR4 := Aside0.mk (Kd.C_below HR3.out hb4); have HO4 := Aside0.mk (Kd.C_below HO3.out hb4); have HF4 := Aside0.mk (show Calls Tryd.prog 10 #[.slice A l.length c] w4 (fun e w' => e = .returned (.int .i64 ll) ∧ Below w4.heap.size w4 w') from (by rw [HLL.out]; exact rleast_is A c l w4 HR4.out HCC.out HL.out.2)); clear hb4)
    | (go_at_call 10; (with_reducible refine HF4.out.mono ?_); rintro e w5 ⟨rfl, hb5⟩; have HB5 := Aside0.mk (below_step HB4.out hb5); have HR5 := Aside0.mk (Kd.C_below HR4.out hb5); have HO5 := Aside0.mk (Kd.C_below HO4.out hb5); have HF5 := Aside0.mk (show Calls Tryd.prog 11 #[.slice A1 l.length c1] w5 (fun e w' => e = .returned (.int .i64 gl) ∧ Below w5.heap.size w5 w') from (by rw [HGL.out, ← HLO.out]; exact good_is A1 c1 (l.map own63) w5 HO5.out (by rw [HLO.out]; exact HO1.out.2.1) (by rw [HLO.out]; exact HL.out.2))); clear hb5)
    | (go_at_call 11; (with_reducible refine HF5.out.mono ?_); rintro e w6 ⟨rfl, hb6⟩; have HB6 := Aside0.mk (below_step HB5.out hb6); have HR6 := Aside0.mk (Kd.C_below HR5.out hb6); have HF6 := Aside0.mk (show Calls Tryd.prog 12 #[.slice A l.length c] w6 (fun e w' => e = .returned (.int .i64 gl) ∧ Below w6.heap.size w6 w') from (by rw [HGL.out]; exact rgood_is A c l w6 HR6.out HCC.out HL.out.2)); clear hb6)
    | (go_at_call 12; (with_reducible refine HF6.out.mono ?_); rintro e w7 ⟨rfl, hb7⟩; have HB7 := Aside0.mk (below_step HB6.out hb7); have HF7 := Aside0.mk (salive_is aE w7 (cell_below HG.out HB7.out)); clear hb7)
    | (go_at_call 13; (with_reducible refine HF7.out.mono ?_); rintro e w8 ⟨rfl, hb8⟩; have HB8 := Aside0.mk (below_step HB7.out hb8); clear hb8))
  go_ret
  exact ⟨rfl, HB8.out⟩
end Go.Proofs.YtdlimghdimkadaaDoor.PAll

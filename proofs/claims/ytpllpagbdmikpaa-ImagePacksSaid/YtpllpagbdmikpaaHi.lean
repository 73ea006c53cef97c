import Derived.Test.YtpllpagbdmikpaaHh
import Derived.Test.YtpllpagbdmikpaaRel
import Derived.Lib.AppendStr
import Derived.Lib.SmallJoins
import Derived.Deep.RegionLaw
import Derived.WalkSpells
import Derived.Outline
namespace Go.Proofs.Ytpllpagbdmikpaa.PAll
open Go.RowKit Go.Proofs.YtpllpagbdmikpaaW.PrintWords Go.Proofs.YtpllpagbdmikpaaW.PrintLast Go.Proofs.YtpllpagbdmikpaaW.PrintMore
attribute [local go_sem] max2_int min2_int max_two min_two max_three min_three max_four min_four
/-! ### pumicelaw10.ImagePacks -/
set_option maxRecDepth 100000 in
set_option maxHeartbeats 8000000 in
theorem ImagePacks_calls (lv : Int) (A : Option Addr) (c : Nat) (l : List S50) (w : World) (hr : Kd.C k50 w A l.length l) (hc : l.length ≤ c) (hG : ∀ s ∈ l, s.f0.size ≤ 140737488351232) (hl : l.length ≤ 3518437208883) :
    Calls Try.prog 4 #[.agg #[.int .i64 lv, .slice A l.length c]] w fun e w' => e = .returned (.bool true) ∧ Below w.heap.size w w' := by
  obtain ⟨KR, hKR⟩ := rRight_ev lv l (fun s hs => by have := hG s hs; omega) (by omega)
  have HKR := Aside0.mk (hKR KR (Nat.le_refl _))
  obtain ⟨m, hm⟩ : ∃ m, m = l.map conv := ⟨_, rfl⟩
  obtain ⟨B, hB⟩ : ∃ B, B = packB lv m := ⟨_, rfl⟩
  obtain ⟨E, hE⟩ : ∃ E, E = packE lv m := ⟨_, rfl⟩
  obtain ⟨Z, hZ⟩ : ∃ Z, Z = sizeOf' lv m := ⟨_, rfl⟩
  obtain ⟨T, hT⟩ : ∃ T, T = rightB lv m := ⟨_, rfl⟩
  have NM := Aside0.mk (fun w => mine_any lv A c l w)
  have NP := Aside0.mk (fun A1 c1 w => pack_any lv A1 c1 m w)
  have NR := Aside0.mk (fun w h1 h2 => rpack_any lv A c l w h1 h2 hG hl)
  have NS := Aside0.mk (fun A1 c1 w => size_any lv A1 c1 m w)
  have NZ := Aside0.mk (fun w h1 h2 => rsize_any lv A c l w h1 h2 hG hl)
  have NT := Aside0.mk (fun A1 c1 w => right_any lv A1 c1 m w)
  rw [← hm] at NM NR NZ HKR
  rw [← hB, ← hE] at NP NR
  rw [← hZ] at NS NZ
  rw [← hT] at NT HKR
  have HR := Aside0.mk hr
  have HC := Aside0.mk hc
  have HL := Aside0.mk hl
  clear hKR hm hB hE hZ hT hr hc hG hl
  go_enter Try.func4, Try.ntmps4
  go_wp2_with (first
    | (go_at_call 16; (refine (NM.out _ ?a1 HC.out HL.out).mono ?_); (case a1 => exact Kd.C_alloc HR.out _); rintro e w1 ⟨A1, c1, rfl, hl1, hc1, hb1⟩; have HB1 := Aside0.mk hb1; have HX1 := Aside0.mk (keep_below (new_blk _ _ _) hb1); have HL1 := Aside0.mk hl1; have HC1 := Aside0.mk hc1; clear hb1 hl1 hc1)
    | (go_at_call 15; (refine (NP.out A1 c1 _ HC1.out HL1.out).mono ?_); rintro e w2 ⟨v2, rfl, ho2, hb2⟩; have HO2 := Aside0.mk ho2; have HB2 := Aside0.mk hb2; have hx := keep_below HX1.out hb2; have HX2 := Aside0.mk hx; have x0 := Joins.cell_of_block hx 0; have x1 := Joins.cell_of_block hx 1; obtain ⟨A2, c2, e2⟩ := Kd.R_slice HO2.out; subst e2; clear hb2 ho2 hx)
    | (go_at_call 17; (refine (NR.out _ ?a2 HC.out).mono ?_); (case a2 => exact Kd.C_below HR.out (below_step (below_step (below_alloc (Below.refl _ _) _) HB1.out) HB2.out)); rintro e w3 ⟨v3, rfl, ho3, hb3⟩; have HO3 := Aside0.mk ho3; have HB3 := Aside0.mk hb3; have hx := keep_below HX2.out hb3; have HX3 := Aside0.mk hx; obtain ⟨A3, c3, e3⟩ := Kd.R_slice HO3.out; subst e3; clear hb3 ho3 hx x0 x1))
  have HBw := Aside0.mk (show Below w.heap.size w w3 from below_step (below_step (below_step (below_alloc (Below.refl _ _) _) HB1.out) HB2.out) HB3.out)
  have HOa := Aside0.mk (Kd.R_below HO2.out HB3.out)
  refine Rel.rel [(0, 18, .inl ?r1v0), (1, 19, .inr (fun v w' => ∃ A1 c1, v = .agg #[.int .i64 lv, .slice A1 m.length c1] ∧ m.length ≤ c1 ∧ Kd.C k69 w' A1 m.length m)), (2, 20, .inl ?r1v2), (3, 21, .inl ?r1v3), (4, 22, .inl ?r1v4), (5, 23, .inl ?r1v5), (6, 24, .inl ?r1v6), (7, 25, .inl ?r1v7), (8, 26, .inl ?r1v8), (9, 27, .inl ?r1v9), (10, 28, .inl ?r1v10), (11, 29, .inl ?r1v11), (12, 30, .inl ?r1v12), (13, 31, .inl ?r1v13), (14, 32, .inl ?r1v14), (15, 33, .inl ?r1v15), (16, 34, .inl ?r1v16), (17, 35, .inl ?r1v17), (18, 36, .inl ?r1v18), (19, 37, .inl ?r1v19), (20, 38, .inr (fun v w' => ∃ A1 c1, v = .agg #[.int .i64 lv, .slice A1 m.length c1] ∧ m.length ≤ c1 ∧ Kd.C k69 w' A1 m.length m)), (21, 39, .inl ?r1v21), (22, 40, .inl ?r1v22), (23, 41, .inl ?r1v23), (24, 42, .inl ?r1v24), (25, 43, .inl ?r1v25), (26, 44, .inl ?r1v26), (27, 45, .inl ?r1v27), (28, 46, .inl ?r1v28), (29, 2, .inl ?r1v29)] (fun w' => w'.heap[w.heap.size]? = some (.cells #[.int .i64 lv, .slice A l.length c] 31 (0, 0)) ∧ Below w3.heap.size w3 w') (fun w' w'' => Below w'.heap.size w' w'') (by rfl) rfl (by kernel_rfl) ?r1S (Rel.stable_inl (Rel.stable_inr (fun v w w' hb ⟨A1, c1, h1, h2, h3⟩ => ⟨A1, c1, h1, h2, Kd.C_below h3 hb⟩) (Rel.stable_inl (Rel.stable_inl (Rel.stable_inl (Rel.stable_inl (Rel.stable_inl (Rel.stable_inl (Rel.stable_inl (Rel.stable_inl (Rel.stable_inl (Rel.stable_inl (Rel.stable_inl (Rel.stable_inl (Rel.stable_inl (Rel.stable_inl (Rel.stable_inl (Rel.stable_inl (Rel.stable_inl (Rel.stable_inl (Rel.stable_inr (fun v w w' hb ⟨A1, c1, h1, h2, h3⟩ => ⟨A1, c1, h1, h2, Kd.C_below h3 hb⟩) (Rel.stable_inl (Rel.stable_inl (Rel.stable_inl (Rel.stable_inl (Rel.stable_inl (Rel.stable_inl (Rel.stable_inl (Rel.stable_inl (Rel.stable_inl Rel.stable_nil)))))))))))))))))))))))))))))) ?r1steps ?r1okv ?r1hlt ?r1fin
  case r1S => exact ⟨HX3.out, (Below.refl _ _).drew⟩
  case r1steps =>
    refine Rel.from_some 0 rfl rfl (fun a wq hS hK K hC => ?_) ?_
    · refine Reg.step_on (by rfl) ?_
      have e1 := hK.off 1 _ rfl rfl
      have hS2 := hS
      obtain ⟨hx, _⟩ := hS2
      have f0 := Joins.cell_of_block hx 0
      have f1 := Joins.cell_of_block hx 1
      clear hx
      clear hK
      go_simp
      exact hC _ hS (Below.refl _ _)
    refine Rel.from_rel 1 rfl rfl (fun a wq hS hK K hC => ?_) ?_
    · refine Reg.step_on (by rfl) ?_
      have e18 := hK.slot 0 _ _ _ rfl (by kernel_rfl)
      clear hK
      go_simp
      refine (NM.out wq ?m1 HC.out HL.out).mono ?_
      case m1 => exact (Kd.C_below HR.out (below_step HBw.out hS.2))
      rintro e w' ⟨A1, c1, rfl, hl1, hc1, hb1⟩
      exact hC _ w' ⟨keep_below hS.1 hb1, below_step hS.2 hb1⟩ hb1 ⟨A1, c1, rfl, hl1, hc1⟩
    refine Rel.from_some 2 rfl rfl (fun a wq hS hK K hC => ?_) ?_
    · refine Reg.step_on (by rfl) ?_
      obtain ⟨u19, e19, q19⟩ := hK.rel 1 _ _ _ rfl (by kernel_rfl)
      obtain ⟨A1, c1, rfl, hl1, hc1⟩ := q19
      clear hK
      go_simp
      refine (NT.out A1 c1 _ hc1 hl1).mono ?_
      rintro e w' ⟨rfl, hb⟩
      exact hC w' ⟨keep_below hS.1 hb, below_step hS.2 hb⟩ hb
    refine Rel.from_some 3 rfl rfl (fun a wq hS hK K hC => ?_) ?_
    · refine Reg.step_on (by rfl) ?_
      have e1 := hK.off 1 _ rfl rfl
      have hS2 := hS
      obtain ⟨hx, _⟩ := hS2
      have f0 := Joins.cell_of_block hx 0
      have f1 := Joins.cell_of_block hx 1
      clear hx
      clear hK
      go_simp
      exact hC _ hS (Below.refl _ _)
    refine Rel.from_some 4 rfl rfl (fun a wq hS hK K hC => ?_) ?_
    · refine Reg.step_on (by rfl) ?_
      have e21 := hK.slot 3 _ _ _ rfl (by kernel_rfl)
      clear hK
      go_simp
      refine (pumiceref10_Right.calls KR lv A c l T _ (Kd.C_below HR.out (below_step HBw.out hS.2)) HC.out HKR.out).mono ?_
      rintro e w' ⟨rfl, hb⟩
      exact hC w' ⟨keep_below hS.1 hb, below_step hS.2 hb⟩ hb
    refine Rel.from_some 5 rfl rfl (fun a wq hS hK K hC => ?_) ?_
    · refine Reg.step_on (by rfl) ?_
      have e20 := hK.slot 2 _ _ _ rfl (by kernel_rfl)
      have e22 := hK.slot 4 _ _ _ rfl (by kernel_rfl)
      clear hK
      go_simp
      exact hC _ hS (Below.refl _ _)
    refine Rel.from_some 6 rfl rfl (fun a wq hS hK K hC => ?_) ?_
    · refine Reg.step_on (by rfl) ?_
      have e23 := hK.slot 5 _ _ _ rfl (by kernel_rfl)
      clear hK
      go_simp
      exact hC _ hS (Below.refl _ _)
    refine Rel.from_some 7 rfl rfl (fun a wq hS hK K hC => ?_) ?_
    · refine Reg.step_on (wanted_on (g := 6) rfl rfl rfl (hK.slot 6 _ _ _ rfl (by kernel_rfl))) ?_
      have e3 := hK.off 3 _ rfl rfl
      clear hK
      go_simp
      exact hC _ hS (Below.refl _ _)
    refine Rel.from_some 8 rfl rfl (fun a wq hS hK K hC => ?_) ?_
    · refine Reg.step_on (wanted_on (g := 6) rfl rfl rfl (hK.slot 6 _ _ _ rfl (by kernel_rfl))) ?_
      have e25 := hK.slot 7 _ _ _ rfl (by kernel_rfl)
      have hcv := own_string (P := Try.prog) (w := wq) Try.underlying32 Try.underlying5 Try.underlying9 (Kd.own_of_R (Kd.R_below HOa.out hS.2))
      clear hK
      go_simp
      exact hC _ hS (Below.refl _ _)
    refine Rel.from_some 9 rfl rfl (fun a wq hS hK K hC => ?_) ?_
    · refine Reg.step_on (wanted_on (g := 6) rfl rfl rfl (hK.slot 6 _ _ _ rfl (by kernel_rfl))) ?_
      have e5 := hK.off 5 _ rfl rfl
      clear hK
      go_simp
      exact hC _ hS (Below.refl _ _)
    refine Rel.from_some 10 rfl rfl (fun a wq hS hK K hC => ?_) ?_
    · refine Reg.step_on (wanted_on (g := 6) rfl rfl rfl (hK.slot 6 _ _ _ rfl (by kernel_rfl))) ?_
      have e27 := hK.slot 9 _ _ _ rfl (by kernel_rfl)
      have hcv := own_string (P := Try.prog) (w := wq) Try.underlying32 Try.underlying5 Try.underlying9 (Kd.own_of_R (Kd.R_below HO3.out hS.2))
      clear hK
      go_simp
      exact hC _ hS (Below.refl _ _)
    refine Rel.from_some 11 rfl rfl (fun a wq hS hK K hC => ?_) ?_
    · refine Reg.step_on (wanted_on (g := 6) rfl rfl rfl (hK.slot 6 _ _ _ rfl (by kernel_rfl))) ?_
      have e26 := hK.slot 8 _ _ _ rfl (by kernel_rfl)
      have e28 := hK.slot 10 _ _ _ rfl (by kernel_rfl)
      clear hK
      go_simp
      exact hC _ hS (Below.refl _ _)
    refine Rel.from_some 12 rfl rfl (fun a wq hS hK K hC => ?_) ?_
    · refine Reg.step_on (by rfl) ?_
      have e24 := hK.slot 6 _ _ _ rfl (by kernel_rfl)
      have e29 := hK.slot 11 _ _ _ rfl (by kernel_rfl)
      clear hK
      go_simp
      exact hC _ hS (Below.refl _ _)
    refine Rel.from_some 13 rfl rfl (fun a wq hS hK K hC => ?_) ?_
    · refine Reg.step_on (by rfl) ?_
      have e30 := hK.slot 12 _ _ _ rfl (by kernel_rfl)
      clear hK
      go_simp
      exact hC _ hS (Below.refl _ _)
    refine Rel.from_some 14 rfl rfl (fun a wq hS hK K hC => ?_) ?_
    · refine Reg.step_on (wanted_on (g := 13) rfl rfl rfl (hK.slot 13 _ _ _ rfl (by kernel_rfl))) ?_
      have e4 := hK.off 4 _ rfl rfl
      clear hK
      go_simp
      exact hC _ hS (Below.refl _ _)
    refine Rel.from_some 15 rfl rfl (fun a wq hS hK K hC => ?_) ?_
    · refine Reg.step_on (wanted_on (g := 13) rfl rfl rfl (hK.slot 13 _ _ _ rfl (by kernel_rfl))) ?_
      have e6 := hK.off 6 _ rfl rfl
      clear hK
      go_simp
      exact hC _ hS (Below.refl _ _)
    refine Rel.from_some 16 rfl rfl (fun a wq hS hK K hC => ?_) ?_
    · refine Reg.step_on (wanted_on (g := 13) rfl rfl rfl (hK.slot 13 _ _ _ rfl (by kernel_rfl))) ?_
      have e32 := hK.slot 14 _ _ _ rfl (by kernel_rfl)
      have e33 := hK.slot 15 _ _ _ rfl (by kernel_rfl)
      clear hK
      go_simp
      exact hC _ hS (Below.refl _ _)
    refine Rel.from_some 17 rfl rfl (fun a wq hS hK K hC => ?_) ?_
    · refine Reg.step_on (by rfl) ?_
      have e31 := hK.slot 13 _ _ _ rfl (by kernel_rfl)
      have e34 := hK.slot 16 _ _ _ rfl (by kernel_rfl)
      clear hK
      go_simp
      exact hC _ hS (Below.refl _ _)
    refine Rel.from_some 18 rfl rfl (fun a wq hS hK K hC => ?_) ?_
    · refine Reg.step_on (by rfl) ?_
      have e35 := hK.slot 17 _ _ _ rfl (by kernel_rfl)
      clear hK
      go_simp
      exact hC _ hS (Below.refl _ _)
    refine Rel.from_some 19 rfl rfl (fun a wq hS hK K hC => ?_) ?_
    · refine Reg.step_on (wanted_on (g := 18) rfl rfl rfl (hK.slot 18 _ _ _ rfl (by kernel_rfl))) ?_
      have e1 := hK.off 1 _ rfl rfl
      have hS2 := hS
      obtain ⟨hx, _⟩ := hS2
      have f0 := Joins.cell_of_block hx 0
      have f1 := Joins.cell_of_block hx 1
      clear hx
      clear hK
      go_simp
      exact hC _ hS (Below.refl _ _)
    refine Rel.from_rel 20 rfl rfl (fun a wq hS hK K hC => ?_) ?_
    · refine Reg.step_on (wanted_on (g := 18) rfl rfl rfl (hK.slot 18 _ _ _ rfl (by kernel_rfl))) ?_
      have e37 := hK.slot 19 _ _ _ rfl (by kernel_rfl)
      clear hK
      go_simp
      refine (NM.out wq ?n1 HC.out HL.out).mono ?_
      case n1 => exact (Kd.C_below HR.out (below_step HBw.out hS.2))
      rintro e w' ⟨A1, c1, rfl, hl1, hc1, hb1⟩
      exact hC _ w' ⟨keep_below hS.1 hb1, below_step hS.2 hb1⟩ hb1 ⟨A1, c1, rfl, hl1, hc1⟩
    refine Rel.from_some 21 rfl rfl (fun a wq hS hK K hC => ?_) ?_
    · refine Reg.step_on (wanted_on (g := 18) rfl rfl rfl (hK.slot 18 _ _ _ rfl (by kernel_rfl))) ?_
      obtain ⟨u38, e38, q38⟩ := hK.rel 20 _ _ _ rfl (by kernel_rfl)
      obtain ⟨A1, c1, rfl, hl1, hc1⟩ := q38
      clear hK
      go_simp
      refine (NS.out A1 c1 _ hc1 hl1).mono ?_
      rintro e w' ⟨rfl, hb⟩
      exact hC w' ⟨keep_below hS.1 hb, below_step hS.2 hb⟩ hb
    refine Rel.from_some 22 rfl rfl (fun a wq hS hK K hC => ?_) ?_
    · refine Reg.step_on (wanted_on (g := 18) rfl rfl rfl (hK.slot 18 _ _ _ rfl (by kernel_rfl))) ?_
      have e1 := hK.off 1 _ rfl rfl
      have hS2 := hS
      obtain ⟨hx, _⟩ := hS2
      have f0 := Joins.cell_of_block hx 0
      have f1 := Joins.cell_of_block hx 1
      clear hx
      clear hK
      go_simp
      exact hC _ hS (Below.refl _ _)
    refine Rel.from_some 23 rfl rfl (fun a wq hS hK K hC => ?_) ?_
    · refine Reg.step_on (wanted_on (g := 18) rfl rfl rfl (hK.slot 18 _ _ _ rfl (by kernel_rfl))) ?_
      have e40 := hK.slot 22 _ _ _ rfl (by kernel_rfl)
      clear hK
      go_simp
      refine (NZ.out _ (Kd.C_below HR.out (below_step HBw.out hS.2)) HC.out).mono ?_
      rintro e w' ⟨rfl, hb⟩
      exact hC w' ⟨keep_below hS.1 hb, below_step hS.2 hb⟩ hb
    refine Rel.from_some 24 rfl rfl (fun a wq hS hK K hC => ?_) ?_
    · refine Reg.step_on (wanted_on (g := 18) rfl rfl rfl (hK.slot 18 _ _ _ rfl (by kernel_rfl))) ?_
      have e39 := hK.slot 21 _ _ _ rfl (by kernel_rfl)
      have e41 := hK.slot 23 _ _ _ rfl (by kernel_rfl)
      clear hK
      go_simp
      exact hC _ hS (Below.refl _ _)
    refine Rel.from_some 25 rfl rfl (fun a wq hS hK K hC => ?_) ?_
    · refine Reg.step_on (by rfl) ?_
      have e36 := hK.slot 18 _ _ _ rfl (by kernel_rfl)
      have e42 := hK.slot 24 _ _ _ rfl (by kernel_rfl)
      clear hK
      go_simp
      exact hC _ hS (Below.refl _ _)
    refine Rel.from_some 26 rfl rfl (fun a wq hS hK K hC => ?_) ?_
    · refine Reg.step_on (by rfl) ?_
      have e43 := hK.slot 25 _ _ _ rfl (by kernel_rfl)
      clear hK
      go_simp
      exact hC _ hS (Below.refl _ _)
    refine Rel.from_some 27 rfl rfl (fun a wq hS hK K hC => ?_) ?_
    · refine Reg.step_on (wanted_on (g := 26) rfl rfl rfl (hK.slot 26 _ _ _ rfl (by kernel_rfl))) ?_
      clear hK
      go_simp
      refine (alive_calls _).mono ?_
      rintro e w' ⟨rfl, hb⟩
      exact hC w' ⟨keep_below hS.1 hb, below_step hS.2 hb⟩ hb
    refine Rel.from_some 28 rfl rfl (fun a wq hS hK K hC => ?_) ?_
    · refine Reg.step_on (by rfl) ?_
      have e44 := hK.slot 26 _ _ _ rfl (by kernel_rfl)
      have e45 := hK.slot 27 _ _ _ rfl (by kernel_rfl)
      clear hK
      go_simp
      exact hC _ hS (Below.refl _ _)
    refine Rel.from_some 29 rfl rfl (fun a wq hS hK K hC => ?_) ?_
    · refine Reg.step_on (by rfl) ?_
      have e46 := hK.slot 28 _ _ _ rfl (by kernel_rfl)
      clear hK
      go_simp
      exact hC _ hS (Below.refl _ _)
    exact Rel.from_nil
  case r1okv => rfl
  case r1hlt => rfl
  case r1fin =>
    intro U wz hS hU
    have q1 := hU 1 _ _ _ rfl
    have q20 := hU 20 _ _ _ rfl
    clear hU
    simp only [Rel.inst, Nat.zero_add, Nat.reduceAdd, Reg.putV, List.foldl_cons, List.foldl_nil, Act.put, List.setIfInBounds_toArray, List.set_cons_zero, List.set_cons_succ]
    have HBz := Aside0.mk (below_step HBw.out hS.2)
    clear hS q1 q20
    go_wp2
    go_ret
    exact ⟨rfl, HBz.out⟩
end Go.Proofs.Ytpllpagbdmikpaa.PAll

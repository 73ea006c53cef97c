import Derived.Test.YtpllpagbdmikpaaHd
import Derived.Test.YtpllpagbdmikpaaReg
import Derived.Lib.AppendStr
import Derived.Lib.SmallJoins
import Derived.Deep.RegionLaw
import Derived.WalkSpells
import Derived.Outline
namespace Go.Proofs.Ytpllpagbdmikpaa.PAll
open Go.RowKit Go.Proofs.YtpllpagbdmikpaaW.PrintWords Go.Proofs.YtpllpagbdmikpaaW.PrintLast Go.Proofs.YtpllpagbdmikpaaW.PrintMore
attribute [local go_sem] max2_int min2_int max_two min_two max_three min_three max_four min_four
/-! ### pumicelaw10.ImageSplit -/
def conv (s : S50) : S69 := ⟨s.f0, ⟨s.f1.f0, s.f1.f1, s.f1.f2⟩⟩
theorem slots_l (l : List S50) (hl : l.length ≤ 3518437208883) : ∀ d n : Nat, n + d = l.length → pumicelaw10_slots.l0 (d + 1) l ((l.take n).map conv) (n : Int) = some (l.map conv) := by
  intro d
  induction d with
  | zero =>
    intro n hn
    unfold pumicelaw10_slots.l0
    have hnl : n = l.length := by omega
    subst hnl
    simp only [Int.lt_irrefl, if_false, List.take_length]
  | succ d ih =>
    intro n hn
    unfold pumicelaw10_slots.l0
    have hw : wrap64 ((n : Int) + 1) = ((n + 1 : Nat) : Int) := by
      rw [show ((n + 1 : Nat) : Int) = (n : Int) + 1 from rfl]
      exact IntWalk.wrap64_in ((n : Int) + 1) (by omega)
    have hlt : n < l.length := by omega
    have hx : rd_T50 l (n : Int) = l[n] := by simp [rd_T50, List.getD, hlt]
    have ht : (l.take n).map conv ++ [conv l[n]] = (l.take (n + 1)).map conv := by
      rw [List.take_succ_eq_append_getElem hlt, List.map_append]; rfl
    have c1 : (n : Int) < (l.length : Int) := by omega
    have c2 : 0 ≤ (n : Int) := by omega
    have c3 : ((l.take n).map conv).length < 3518437208883 := by rw [List.length_map, List.length_take]; omega
    simp only [eq_true c1, eq_true c2, eq_true c3, if_true, hw, hx]
    show pumicelaw10_slots.l0 (d + 1) l ((l.take n).map conv ++ [conv l[n]]) _ = _
    rw [ht]
    exact ih (n + 1) (by omega)
theorem slots_is (l : List S50) (hl : l.length ≤ 3518437208883) : pumicelaw10_slots.f (l.length + 1) l = some (l.map conv) := slots_l l hl l.length 0 (by omega)
theorem equal_l (m : List S69) (hl : m.length ≤ 3518437208883) : ∀ d n : Nat, n + d = m.length → pumicelaw10_equal.l0 (d + 1) m m (n : Int) = some true := by
  intro d
  induction d with
  | zero =>
    intro n hn
    unfold pumicelaw10_equal.l0
    have hnl : n = m.length := by omega
    subst hnl
    simp only [Int.lt_irrefl, if_false]
  | succ d ih =>
    intro n hn
    unfold pumicelaw10_equal.l0
    have hw : wrap64 ((n : Int) + 1) = ((n + 1 : Nat) : Int) := by
      rw [show ((n + 1 : Nat) : Int) = (n : Int) + 1 from rfl]
      exact IntWalk.wrap64_in ((n : Int) + 1) (by omega)
    have c1 : (n : Int) < (m.length : Int) := by omega
    have c2 : 0 ≤ (n : Int) := by omega
    simp only [eq_true c1, eq_true c2, if_true, hw, beq_self_eq_true, Bool.not_true, Bool.or_self, Bool.false_eq_true, if_false]
    exact ih (n + 1) (by omega)
theorem equal_is (m : List S69) (hl : m.length ≤ 3518437208883) : pumicelaw10_equal.f (m.length + 1) m m = some true := by
  unfold pumicelaw10_equal.f
  rw [if_pos rfl]
  exact equal_l m hl m.length 0 (by omega)
theorem splitL_len {α : Type} (l : List α) : (splitL l).length = (l.length + 7) / 8 := by simp [splitL]
theorem splitL_get (m : List S69) (i : Nat) (hi : i < (m.length + 7) / 8) : (splitL m).getD i [] = part m i := by
  simp [splitL, List.getD, hi]
theorem part_len {α : Type} (m : List α) (i : Nat) (hi : i < (m.length + 7) / 8) : (part m i).length = partN m.length i := by
  have h1 := partLo_le m.length (i + 1) (by omega)
  rw [partLo_succ] at h1
  unfold part
  rw [List.length_drop, List.length_take]
  omega
theorem take_part {α : Type} (m : List α) (i : Nat) (_ : i < (m.length + 7) / 8) : m.take (partLo m.length i) ++ part m i = m.take (partLo m.length (i + 1)) := by
  rw [partLo_succ]
  unfold part
  rw [List.drop_take, show partLo m.length i + partN m.length i - partLo m.length i = partN m.length i from by omega, List.take_add]
theorem partLo_end (len : Nat) : partLo len ((len + 7) / 8) = len := by
  unfold partLo
  have h := Nat.div_add_mod len ((len + 7) / 8)
  rcases Nat.eq_zero_or_pos len with h0 | h0
  · subst h0; simp
  · have h2 := Nat.mod_lt len (show (len + 7) / 8 > 0 by omega)
    rw [Nat.min_eq_right (by omega)]
    exact h
theorem partN_le (len i : Nat) (hi : i < (len + 7) / 8) : partN len i ≤ 8 := by
  have h := Nat.div_add_mod len ((len + 7) / 8)
  have h8 : len / ((len + 7) / 8) ≤ 8 := by
    have : len / ((len + 7) / 8) < 9 := by
      rw [Nat.div_lt_iff_lt_mul (by omega)]
      omega
    omega
  unfold partN
  split
  · rename_i hr
    have h7 : len / ((len + 7) / 8) ≠ 8 := by
      intro he
      rw [he] at h
      omega
    omega
  · omega
theorem partN_0 (len i : Nat) : partN len i ≤ partN len 0 ∧ partN len 0 ≤ partN len i + 1 := by
  unfold partN
  split <;> split <;> omega
theorem partN_down (len i : Nat) : partN len (i + 1) ≤ partN len i := by
  unfold partN
  split <;> split <;> omega
theorem row_at (m : List S69) {w : World} {A : Option Addr} (h : Kd.C (Kd.slice 69 k69) w A (splitL m).length (splitL m)) (i : Nat) (hi : i < (m.length + 7) / 8) :
    ∃ ad Ai ci, A = some ad ∧ w.cell? (ad.add i) = some (.slice Ai (partN m.length i) ci) ∧ partN m.length i ≤ ci ∧ Kd.C k69 w Ai (partN m.length i) (part m i) := by
  obtain ⟨ad, cc, e, _, hk, hc⟩ := Kd.C_get h [] (i : Int) (by omega) (by rw [splitL_len]; omega)
  rw [show ((i : Int)).toNat = i from rfl, splitL_get m i hi] at hk
  obtain ⟨Ai, ci, rfl, q4, q5⟩ := hk
  have hx := hc 0 _ rfl
  rw [show ((i : Int)).toNat * (Kd.slice 69 k69).sz + 0 = i from by simp [Kd.slice]] at hx
  rw [part_len m i hi] at hx q4 q5
  exact ⟨ad, Ai, ci, e, hx, q4, q5⟩
set_option maxHeartbeats 8000000 in
set_option maxRecDepth 100000 in
theorem ImageSplit_calls (A0 : Option Addr) (c0 : Nat) (l : List S50) (w : World) (hr : Kd.C k50 w A0 l.length l) (hc : l.length ≤ c0) (hb : l.length * 40 ≤ 140737488355328) :
    Calls Try.prog 3 #[.slice A0 l.length c0] w fun e w' => e = .returned (.bool true) ∧ Below w.heap.size w w' := by
  obtain ⟨m, hm⟩ : ∃ m, m = l.map conv := ⟨_, rfl⟩
  have hml : m.length = l.length := by rw [hm, List.length_map]
  have hsl := slots_is l (by omega)
  rw [← hm] at hsl
  have heq := equal_is m (by omega)
  have HR := Aside0.mk hr
  have HC := Aside0.mk hc
  have HS := Aside0.mk hsl
  have HE := Aside0.mk heq
  have HLm := Aside0.mk (show m.length * 40 ≤ 140737488355328 by omega)
  have hm1 : l.length = m.length := hml.symm
  have HML := Aside0.mk hm1
  obtain ⟨q, hq⟩ : ∃ q, q = (m.length + 7) / 8 := ⟨_, rfl⟩
  have hq2 : q ≤ 439804651111 := by omega
  have hq8 : q = 0 ∨ (0 < q ∧ ((q : Int) - 1) * 8 < (m.length : Int)) := by omega
  have HQ := Aside0.mk hq
  have HQ8 := Aside0.mk hq8
  have hll : m.length ≤ 3518437208883 := by omega
  clear hr hc hb hm hml hsl heq hq hq8 hm1
  have hSL := Aside0.mk (show (splitL m).length = q from by rw [splitL_len, HQ.out])
  go_enter Try.func3, Try.ntmps3
  go_wp2_with (first
    | (go_at_call 12; (with_reducible refine (pumicelaw10_slots.calls (l.length + 1) A0 c0 l m _ ?s1 HC.out HS.out).mono ?_); (case s1 => exact HR.out); rintro e w1 ⟨v1, rfl, ho1, hb1⟩; have HO1 := Aside0.mk ho1; have HB1 := Aside0.mk hb1; clear ho1 hb1; obtain ⟨A1, c1, e1⟩ := Kd.R_slice HO1.out; subst e1; have h1 := Kd.R_reads' HO1.out; have HR1 := Aside0.mk h1.2; clear h1)
    | (go_at_call 11; (with_reducible refine (split_any A1 c1 m _ HR1.out.2 HR1.out.1 HLm.out).mono ?_); rintro e w2 ⟨v2, rfl, ho2, hb2⟩; have HB2 := Aside0.mk hb2; clear hb2; obtain ⟨A2, c2, e2⟩ := Kd.R_slice ho2; subst e2; have h2 := (Kd.R_reads' ho2).2.2; have HR2 := Aside0.mk h2; clear h2 ho2; rw [hSL.out]))
  go_loopw [4, 5] (fun v i wr => ∃ k : Nat, k ≤ q ∧ i = .int .i64 k ∧ Kd.R k69 69 wr w2.heap.size (fun _ => True) v (m.take (partLo m.length k)) ∧ Below w2.heap.size w2 wr) (fun _ i _ => q - (intOf i).toNat)
  case atStart => exact ⟨0, Nat.zero_le _, rfl, by rw [show partLo m.length 0 = 0 from by simp [partLo]]; exact Kd.R_nil _ _ _ _ _, Below.refl _ _⟩
  case round =>
    obtain ⟨k, hk, rfl, ho, hb⟩ := hrel
    have HO := Aside0.mk ho
    have HB := Aside0.mk hb
    clear ho hb
    by_cases hlt : k < q
    · have hq1 : 1 ≤ (q : Int) := by omega
      obtain ⟨adp, Ak, ck, rfl, x0, x1, x2⟩ := row_at m (Kd.C_below HR2.out HB.out) k (by have := HQ.out; omega)
      obtain ⟨adp', Az, cz, e0, y0, _, _⟩ := row_at m (Kd.C_below HR2.out HB.out) 0 (by have := HQ.out; omega)
      cases e0
      rw [show adp.add 0 = adp from by unfold Addr.add; simp] at y0
      have p0 := partN_pos m.length k (by have := HQ.out; omega)
      have p8 := partN_le m.length k (by have := HQ.out; omega)
      have pz := partN_0 m.length k
      have pz8 := partN_le m.length 0 (by have := HQ.out; omega)
      have hpl := partLo_le m.length (k + 1) (by have := HQ.out; omega)
      rw [partLo_succ] at hpl
      obtain ⟨n, hn⟩ : ∃ n, n = partN m.length k := ⟨_, rfl⟩
      obtain ⟨n0, hn0⟩ : ∃ n0, n0 = partN m.length 0 := ⟨_, rfl⟩
      rw [← hn] at x0 x1 x2 p0 p8 pz hpl
      rw [← hn0] at y0 pz pz8
      have d1 : decide ((n : Int) < 1) = false := by simp; omega
      have d2 : decide ((8 : Int) < (n : Int)) = false := by simp; omega
      have d3 : decide (n0 < n) = false := by simp; omega
      have d4 : decide ((n : Int) < IntKind.i64.wrap ((n0 : Int) - 1)) = false := by rw [IntWalk.i64_in ((n0 : Int) - 1) (by omega)]; simp; omega
      have HX2 := Aside0.mk x2
      have HPL := Aside0.mk hpl
      have HN := Aside0.mk hn
      have HN0 := Aside0.mk hn0
      clear x2 hn hn0 hpl x1
      by_cases hk0 : k = 0
      · have hz : n0 = n := by rw [HN.out, hk0]; exact HN0.out
        rw [hz] at d4 d3
        rw [hk0, show adp.add 0 = adp from by unfold Addr.add; simp] at x0
        have ey : (Value.slice Az n0 cz) = .slice Ak n ck := by rw [y0] at x0; exact Option.some.inj x0
        rw [ey] at y0
        clear x0 ey hz pz pz8
        obtain rfl := hk0
        go_wp2
        refine Reg.det [(0, 15, ?r1v0), (1, 16, ?r1v1), (2, 17, ?r1v2), (3, 18, ?r1v3), (4, 19, ?r1v4), (5, 20, ?r1v5), (6, 21, ?r1v6), (7, 22, ?r1v7), (8, 23, ?r1v8), (9, 24, ?r1v9), (10, 25, ?r1v10), (11, 26, ?r1v11), (12, 27, ?r1v12), (13, 28, ?r1v13), (14, 29, ?r1v14), (15, 30, ?r1v15), (16, 31, ?r1v16), (17, 32, ?r1v17), (18, 33, ?r1v18), (19, 34, ?r1v19), (20, 35, ?r1v20), (21, 36, ?r1v21), (22, 37, ?r1v22), (23, 38, ?r1v23), (24, 39, ?r1v24), (25, 40, ?r1v25), (26, 41, ?r1v26), (27, 42, ?r1v27), (28, 43, ?r1v28), (29, 44, ?r1v29), (30, 45, ?r1v30), (31, 46, ?r1v31), (32, 47, ?r1v32), (33, 48, ?r1v33), (34, 49, ?r1v34), (35, 50, ?r1v35), (36, 51, ?r1v36), (37, 52, ?r1v37), (38, 53, ?r1v38), (39, 54, ?r1v39), (40, 55, ?r1v40), (41, 56, ?r1v41), (42, 57, ?r1v42), (43, 58, undef), (44, 59, undef), (45, 60, undef), (46, 61, undef), (47, 62, undef), (48, 63, undef), (49, 64, undef), (50, 65, undef), (51, 66, undef), (52, 67, undef), (53, 68, undef), (54, 69, undef), (55, 70, ?r1v55), (56, 71, ?r1v56)] (fun w' => (w'.cell? adp = some (.slice Ak n ck)) ∧ Below wr.heap.size wr w') (by rfl) rfl (by kernel_rfl) ?r1S ?r1steps ?r1okv ?r1hlt ?r1fin
        case r1S => exact ⟨y0, (Below.refl _ _).drew⟩
        case r1steps =>
          refine Reg.from_some 0 rfl rfl (fun a w hS hK K hC => ?_) ?_
          · refine Reg.step_on (by rfl) ?_
            have e3 := hK.off 3 _ rfl rfl
            clear hK
            go_simp
            (try (rw [if_pos]; rotate_left; omega; go_simp))
            exact hC _ hS
          refine Reg.from_some 1 rfl rfl (fun a w hS hK K hC => ?_) ?_
          · refine Reg.step_on (by rfl) ?_
            have e5 := hK.off 5 _ rfl rfl
            clear hK
            go_simp
            (try (rw [if_pos]; rotate_left; omega; go_simp))
            exact hC _ hS
          refine Reg.from_some 2 rfl rfl (fun a w hS hK K hC => ?_) ?_
          · refine Reg.step_on (by rfl) ?_
            have e15 := hK.slot 0 _ _ _ rfl (by kernel_rfl)
            have e16 := hK.slot 1 _ _ _ rfl (by kernel_rfl)
            clear hK
            go_simp
            (try (rw [if_pos]; rotate_left; omega; go_simp))
            exact hC _ hS
          refine Reg.from_some 3 rfl rfl (fun a w hS hK K hC => ?_) ?_
          · refine Reg.step_on (by rfl) ?_
            have e17 := hK.slot 2 _ _ _ rfl (by kernel_rfl)
            have hS2 := hS
            obtain ⟨f1, f3⟩ := hS2
            clear hK
            go_simp
            (try (rw [if_pos]; rotate_left; omega; go_simp))
            exact hC _ hS
          refine Reg.from_some 4 rfl rfl (fun a w hS hK K hC => ?_) ?_
          · refine Reg.step_on (by rfl) ?_
            have e18 := hK.slot 3 _ _ _ rfl (by kernel_rfl)
            clear hK
            go_simp
            (try (rw [if_pos]; rotate_left; omega; go_simp))
            exact hC _ hS
          refine Reg.from_some 5 rfl rfl (fun a w hS hK K hC => ?_) ?_
          · refine Reg.step_on (by rfl) ?_
            have e19 := hK.slot 4 _ _ _ rfl (by kernel_rfl)
            clear hK
            go_simp
            (try (rw [if_pos]; rotate_left; omega; go_simp))
            exact hC _ hS
          refine Reg.from_some 6 rfl rfl (fun a w hS hK K hC => ?_) ?_
          · refine Reg.step_on (by rfl) ?_
            have e20 := hK.slot 5 _ _ _ rfl (by kernel_rfl)
            clear hK
            go_simp
            (try (rw [if_pos]; rotate_left; omega; go_simp))
            exact hC _ hS
          refine Reg.from_some 7 rfl rfl (fun a w hS hK K hC => ?_) ?_
          · refine Reg.step_on (wanted_on (g := 6) rfl rfl rfl (hK.slot 6 _ _ _ rfl (by kernel_rfl))) ?_
            have e3 := hK.off 3 _ rfl rfl
            clear hK
            go_simp
            (try (rw [if_pos]; rotate_left; omega; go_simp))
            exact hC _ hS
          refine Reg.from_some 8 rfl rfl (fun a w hS hK K hC => ?_) ?_
          · refine Reg.step_on (wanted_on (g := 6) rfl rfl rfl (hK.slot 6 _ _ _ rfl (by kernel_rfl))) ?_
            have e5 := hK.off 5 _ rfl rfl
            clear hK
            go_simp
            (try (rw [if_pos]; rotate_left; omega; go_simp))
            exact hC _ hS
          refine Reg.from_some 9 rfl rfl (fun a w hS hK K hC => ?_) ?_
          · refine Reg.step_on (wanted_on (g := 6) rfl rfl rfl (hK.slot 6 _ _ _ rfl (by kernel_rfl))) ?_
            have e22 := hK.slot 7 _ _ _ rfl (by kernel_rfl)
            have e23 := hK.slot 8 _ _ _ rfl (by kernel_rfl)
            clear hK
            go_simp
            (try (rw [if_pos]; rotate_left; omega; go_simp))
            exact hC _ hS
          refine Reg.from_some 10 rfl rfl (fun a w hS hK K hC => ?_) ?_
          · refine Reg.step_on (wanted_on (g := 6) rfl rfl rfl (hK.slot 6 _ _ _ rfl (by kernel_rfl))) ?_
            have e24 := hK.slot 9 _ _ _ rfl (by kernel_rfl)
            have hS2 := hS
            obtain ⟨f1, f3⟩ := hS2
            clear hK
            go_simp
            (try (rw [if_pos]; rotate_left; omega; go_simp))
            exact hC _ hS
          refine Reg.from_some 11 rfl rfl (fun a w hS hK K hC => ?_) ?_
          · refine Reg.step_on (wanted_on (g := 6) rfl rfl rfl (hK.slot 6 _ _ _ rfl (by kernel_rfl))) ?_
            have e25 := hK.slot 10 _ _ _ rfl (by kernel_rfl)
            clear hK
            go_simp
            (try (rw [if_pos]; rotate_left; omega; go_simp))
            exact hC _ hS
          refine Reg.from_some 12 rfl rfl (fun a w hS hK K hC => ?_) ?_
          · refine Reg.step_on (wanted_on (g := 6) rfl rfl rfl (hK.slot 6 _ _ _ rfl (by kernel_rfl))) ?_
            have e26 := hK.slot 11 _ _ _ rfl (by kernel_rfl)
            clear hK
            go_simp
            (try (rw [if_pos]; rotate_left; omega; go_simp))
            exact hC _ hS
          refine Reg.from_some 13 rfl rfl (fun a w hS hK K hC => ?_) ?_
          · refine Reg.step_on (by rfl) ?_
            have e21 := hK.slot 6 _ _ _ rfl (by kernel_rfl)
            have e27 := hK.slot 12 _ _ _ rfl (by kernel_rfl)
            clear hK
            go_simp
            (try (rw [if_pos]; rotate_left; omega; go_simp))
            exact hC _ hS
          refine Reg.from_some 14 rfl rfl (fun a w hS hK K hC => ?_) ?_
          · refine Reg.step_on (by rfl) ?_
            have e28 := hK.slot 13 _ _ _ rfl (by kernel_rfl)
            clear hK
            go_simp
            (try (rw [if_pos]; rotate_left; omega; go_simp))
            exact hC _ hS
          refine Reg.from_some 15 rfl rfl (fun a w hS hK K hC => ?_) ?_
          · refine Reg.step_on (wanted_on (g := 14) rfl rfl rfl (hK.slot 14 _ _ _ rfl (by kernel_rfl))) ?_
            have e3 := hK.off 3 _ rfl rfl
            clear hK
            go_simp
            (try (rw [if_pos]; rotate_left; omega; go_simp))
            exact hC _ hS
          refine Reg.from_some 16 rfl rfl (fun a w hS hK K hC => ?_) ?_
          · refine Reg.step_on (wanted_on (g := 14) rfl rfl rfl (hK.slot 14 _ _ _ rfl (by kernel_rfl))) ?_
            have e5 := hK.off 5 _ rfl rfl
            clear hK
            go_simp
            (try (rw [if_pos]; rotate_left; omega; go_simp))
            exact hC _ hS
          refine Reg.from_some 17 rfl rfl (fun a w hS hK K hC => ?_) ?_
          · refine Reg.step_on (wanted_on (g := 14) rfl rfl rfl (hK.slot 14 _ _ _ rfl (by kernel_rfl))) ?_
            have e30 := hK.slot 15 _ _ _ rfl (by kernel_rfl)
            have e31 := hK.slot 16 _ _ _ rfl (by kernel_rfl)
            clear hK
            go_simp
            (try (rw [if_pos]; rotate_left; omega; go_simp))
            exact hC _ hS
          refine Reg.from_some 18 rfl rfl (fun a w hS hK K hC => ?_) ?_
          · refine Reg.step_on (wanted_on (g := 14) rfl rfl rfl (hK.slot 14 _ _ _ rfl (by kernel_rfl))) ?_
            have e32 := hK.slot 17 _ _ _ rfl (by kernel_rfl)
            have hS2 := hS
            obtain ⟨f1, f3⟩ := hS2
            clear hK
            go_simp
            (try (rw [if_pos]; rotate_left; omega; go_simp))
            exact hC _ hS
          refine Reg.from_some 19 rfl rfl (fun a w hS hK K hC => ?_) ?_
          · refine Reg.step_on (wanted_on (g := 14) rfl rfl rfl (hK.slot 14 _ _ _ rfl (by kernel_rfl))) ?_
            have e33 := hK.slot 18 _ _ _ rfl (by kernel_rfl)
            clear hK
            go_simp
            (try (rw [if_pos]; rotate_left; omega; go_simp))
            exact hC _ hS
          refine Reg.from_some 20 rfl rfl (fun a w hS hK K hC => ?_) ?_
          · refine Reg.step_on (wanted_on (g := 14) rfl rfl rfl (hK.slot 14 _ _ _ rfl (by kernel_rfl))) ?_
            have e3 := hK.off 3 _ rfl rfl
            clear hK
            go_simp
            (try (rw [if_pos]; rotate_left; omega; go_simp))
            exact hC _ hS
          refine Reg.from_some 21 rfl rfl (fun a w hS hK K hC => ?_) ?_
          · refine Reg.step_on (wanted_on (g := 14) rfl rfl rfl (hK.slot 14 _ _ _ rfl (by kernel_rfl))) ?_
            have e35 := hK.slot 20 _ _ _ rfl (by kernel_rfl)
            clear hK
            go_simp
            (try (rw [if_pos]; rotate_left; omega; go_simp))
            exact hC _ hS
          refine Reg.from_some 22 rfl rfl (fun a w hS hK K hC => ?_) ?_
          · refine Reg.step_on (wanted_on (g := 14) rfl rfl rfl (hK.slot 14 _ _ _ rfl (by kernel_rfl))) ?_
            have e36 := hK.slot 21 _ _ _ rfl (by kernel_rfl)
            have hS2 := hS
            obtain ⟨f1, f3⟩ := hS2
            clear hK
            go_simp
            (try (rw [if_pos]; rotate_left; omega; go_simp))
            exact hC _ hS
          refine Reg.from_some 23 rfl rfl (fun a w hS hK K hC => ?_) ?_
          · refine Reg.step_on (wanted_on (g := 14) rfl rfl rfl (hK.slot 14 _ _ _ rfl (by kernel_rfl))) ?_
            have e37 := hK.slot 22 _ _ _ rfl (by kernel_rfl)
            clear hK
            go_simp
            (try (rw [if_pos]; rotate_left; omega; go_simp))
            exact hC _ hS
          refine Reg.from_some 24 rfl rfl (fun a w hS hK K hC => ?_) ?_
          · refine Reg.step_on (wanted_on (g := 14) rfl rfl rfl (hK.slot 14 _ _ _ rfl (by kernel_rfl))) ?_
            have e34 := hK.slot 19 _ _ _ rfl (by kernel_rfl)
            have e38 := hK.slot 23 _ _ _ rfl (by kernel_rfl)
            clear hK
            go_simp
            (try (rw [if_pos]; rotate_left; omega; go_simp))
            exact hC _ hS
          refine Reg.from_some 25 rfl rfl (fun a w hS hK K hC => ?_) ?_
          · refine Reg.step_on (by rfl) ?_
            have e29 := hK.slot 14 _ _ _ rfl (by kernel_rfl)
            have e39 := hK.slot 24 _ _ _ rfl (by kernel_rfl)
            clear hK
            go_simp
            (try (rw [if_pos]; rotate_left; omega; go_simp))
            exact hC _ hS
          refine Reg.from_some 26 rfl rfl (fun a w hS hK K hC => ?_) ?_
          · refine Reg.step_on (by rfl) ?_
            have e40 := hK.slot 25 _ _ _ rfl (by kernel_rfl)
            clear hK
            go_simp
            (try (rw [if_pos]; rotate_left; omega; go_simp))
            exact hC _ hS
          refine Reg.from_some 27 rfl rfl (fun a w hS hK K hC => ?_) ?_
          · refine Reg.step_on (wanted_on (g := 26) rfl rfl rfl (hK.slot 26 _ _ _ rfl (by kernel_rfl))) ?_
            have e3 := hK.off 3 _ rfl rfl
            clear hK
            go_simp
            (try (rw [if_pos]; rotate_left; omega; go_simp))
            exact hC _ hS
          refine Reg.from_some 28 rfl rfl (fun a w hS hK K hC => ?_) ?_
          · refine Reg.step_on (wanted_on (g := 26) rfl rfl rfl (hK.slot 26 _ _ _ rfl (by kernel_rfl))) ?_
            have e5 := hK.off 5 _ rfl rfl
            clear hK
            go_simp
            (try (rw [if_pos]; rotate_left; omega; go_simp))
            exact hC _ hS
          refine Reg.from_some 29 rfl rfl (fun a w hS hK K hC => ?_) ?_
          · refine Reg.step_on (wanted_on (g := 26) rfl rfl rfl (hK.slot 26 _ _ _ rfl (by kernel_rfl))) ?_
            have e42 := hK.slot 27 _ _ _ rfl (by kernel_rfl)
            have e43 := hK.slot 28 _ _ _ rfl (by kernel_rfl)
            clear hK
            go_simp
            (try (rw [if_pos]; rotate_left; omega; go_simp))
            exact hC _ hS
          refine Reg.from_some 30 rfl rfl (fun a w hS hK K hC => ?_) ?_
          · refine Reg.step_on (wanted_on (g := 26) rfl rfl rfl (hK.slot 26 _ _ _ rfl (by kernel_rfl))) ?_
            have e44 := hK.slot 29 _ _ _ rfl (by kernel_rfl)
            have hS2 := hS
            obtain ⟨f1, f3⟩ := hS2
            clear hK
            go_simp
            (try (rw [if_pos]; rotate_left; omega; go_simp))
            exact hC _ hS
          refine Reg.from_some 31 rfl rfl (fun a w hS hK K hC => ?_) ?_
          · refine Reg.step_on (wanted_on (g := 26) rfl rfl rfl (hK.slot 26 _ _ _ rfl (by kernel_rfl))) ?_
            have e45 := hK.slot 30 _ _ _ rfl (by kernel_rfl)
            clear hK
            go_simp
            (try (rw [if_pos]; rotate_left; omega; go_simp))
            exact hC _ hS
          refine Reg.from_some 32 rfl rfl (fun a w hS hK K hC => ?_) ?_
          · refine Reg.step_on (wanted_on (g := 26) rfl rfl rfl (hK.slot 26 _ _ _ rfl (by kernel_rfl))) ?_
            have e3 := hK.off 3 _ rfl rfl
            clear hK
            go_simp
            (try (rw [if_pos]; rotate_left; omega; go_simp))
            exact hC _ hS
          refine Reg.from_some 33 rfl rfl (fun a w hS hK K hC => ?_) ?_
          · refine Reg.step_on (wanted_on (g := 26) rfl rfl rfl (hK.slot 26 _ _ _ rfl (by kernel_rfl))) ?_
            have e47 := hK.slot 32 _ _ _ rfl (by kernel_rfl)
            clear hK
            go_simp
            (try (rw [if_pos]; rotate_left; omega; go_simp))
            exact hC _ hS
          refine Reg.from_some 34 rfl rfl (fun a w hS hK K hC => ?_) ?_
          · refine Reg.step_on (wanted_on (g := 26) rfl rfl rfl (hK.slot 26 _ _ _ rfl (by kernel_rfl))) ?_
            have e48 := hK.slot 33 _ _ _ rfl (by kernel_rfl)
            have hS2 := hS
            obtain ⟨f1, f3⟩ := hS2
            clear hK
            go_simp
            (try (rw [if_pos]; rotate_left; omega; go_simp))
            exact hC _ hS
          refine Reg.from_some 35 rfl rfl (fun a w hS hK K hC => ?_) ?_
          · refine Reg.step_on (wanted_on (g := 26) rfl rfl rfl (hK.slot 26 _ _ _ rfl (by kernel_rfl))) ?_
            have e49 := hK.slot 34 _ _ _ rfl (by kernel_rfl)
            clear hK
            go_simp
            (try (rw [if_pos]; rotate_left; omega; go_simp))
            exact hC _ hS
          refine Reg.from_some 36 rfl rfl (fun a w hS hK K hC => ?_) ?_
          · refine Reg.step_on (wanted_on (g := 26) rfl rfl rfl (hK.slot 26 _ _ _ rfl (by kernel_rfl))) ?_
            have e50 := hK.slot 35 _ _ _ rfl (by kernel_rfl)
            clear hK
            go_simp
            (try (rw [if_pos]; rotate_left; omega; go_simp))
            exact hC _ hS
          refine Reg.from_some 37 rfl rfl (fun a w hS hK K hC => ?_) ?_
          · refine Reg.step_on (wanted_on (g := 26) rfl rfl rfl (hK.slot 26 _ _ _ rfl (by kernel_rfl))) ?_
            have e46 := hK.slot 31 _ _ _ rfl (by kernel_rfl)
            have e51 := hK.slot 36 _ _ _ rfl (by kernel_rfl)
            clear hK
            go_simp
            (try (rw [if_pos]; rotate_left; omega; go_simp))
            exact hC _ hS
          refine Reg.from_some 38 rfl rfl (fun a w hS hK K hC => ?_) ?_
          · refine Reg.step_on (by rfl) ?_
            have e41 := hK.slot 26 _ _ _ rfl (by kernel_rfl)
            have e52 := hK.slot 37 _ _ _ rfl (by kernel_rfl)
            clear hK
            go_simp
            (try (rw [if_pos]; rotate_left; omega; go_simp))
            exact hC _ hS
          refine Reg.from_some 39 rfl rfl (fun a w hS hK K hC => ?_) ?_
          · refine Reg.step_on (by rfl) ?_
            have e53 := hK.slot 38 _ _ _ rfl (by kernel_rfl)
            clear hK
            go_simp
            (try (rw [if_pos]; rotate_left; omega; go_simp))
            exact hC _ hS
          refine Reg.from_some 40 rfl rfl (fun a w hS hK K hC => ?_) ?_
          · refine Reg.step_on (wanted_on (g := 39) rfl rfl rfl (hK.slot 39 _ _ _ rfl (by kernel_rfl))) ?_
            have e5 := hK.off 5 _ rfl rfl
            clear hK
            go_simp
            (try (rw [if_pos]; rotate_left; omega; go_simp))
            exact hC _ hS
          refine Reg.from_some 41 rfl rfl (fun a w hS hK K hC => ?_) ?_
          · refine Reg.step_on (wanted_on (g := 39) rfl rfl rfl (hK.slot 39 _ _ _ rfl (by kernel_rfl))) ?_
            have e55 := hK.slot 40 _ _ _ rfl (by kernel_rfl)
            clear hK
            go_simp
            (try (rw [if_pos]; rotate_left; omega; go_simp))
            exact hC _ hS
          refine Reg.from_some 42 rfl rfl (fun a w hS hK K hC => ?_) ?_
          · refine Reg.step_on (wanted_on (g := 39) rfl rfl rfl (hK.slot 39 _ _ _ rfl (by kernel_rfl))) ?_
            have e56 := hK.slot 41 _ _ _ rfl (by kernel_rfl)
            clear hK
            go_simp
            (try (rw [if_pos]; rotate_left; omega; go_simp))
            exact hC _ hS
          refine Reg.from_some 43 rfl rfl (fun a w hS hK K hC => ?_) ?_
          · refine Reg.step_off (wanted_off (g := 42) rfl rfl rfl (hK.slot 42 _ _ _ rfl (by kernel_rfl))) ?_
            exact hC _ hS
          refine Reg.from_some 44 rfl rfl (fun a w hS hK K hC => ?_) ?_
          · refine Reg.step_off (wanted_off (g := 42) rfl rfl rfl (hK.slot 42 _ _ _ rfl (by kernel_rfl))) ?_
            exact hC _ hS
          refine Reg.from_some 45 rfl rfl (fun a w hS hK K hC => ?_) ?_
          · refine Reg.step_off (wanted_off (g := 42) rfl rfl rfl (hK.slot 42 _ _ _ rfl (by kernel_rfl))) ?_
            exact hC _ hS
          refine Reg.from_some 46 rfl rfl (fun a w hS hK K hC => ?_) ?_
          · refine Reg.step_off (wanted_off (g := 42) rfl rfl rfl (hK.slot 42 _ _ _ rfl (by kernel_rfl))) ?_
            exact hC _ hS
          refine Reg.from_some 47 rfl rfl (fun a w hS hK K hC => ?_) ?_
          · refine Reg.step_off (wanted_off (g := 42) rfl rfl rfl (hK.slot 42 _ _ _ rfl (by kernel_rfl))) ?_
            exact hC _ hS
          refine Reg.from_some 48 rfl rfl (fun a w hS hK K hC => ?_) ?_
          · refine Reg.step_off (wanted_off (g := 42) rfl rfl rfl (hK.slot 42 _ _ _ rfl (by kernel_rfl))) ?_
            exact hC _ hS
          refine Reg.from_some 49 rfl rfl (fun a w hS hK K hC => ?_) ?_
          · refine Reg.step_off (wanted_off (g := 42) rfl rfl rfl (hK.slot 42 _ _ _ rfl (by kernel_rfl))) ?_
            exact hC _ hS
          refine Reg.from_some 50 rfl rfl (fun a w hS hK K hC => ?_) ?_
          · refine Reg.step_off (wanted_off (g := 42) rfl rfl rfl (hK.slot 42 _ _ _ rfl (by kernel_rfl))) ?_
            exact hC _ hS
          refine Reg.from_some 51 rfl rfl (fun a w hS hK K hC => ?_) ?_
          · refine Reg.step_off (wanted_off (g := 42) rfl rfl rfl (hK.slot 42 _ _ _ rfl (by kernel_rfl))) ?_
            exact hC _ hS
          refine Reg.from_some 52 rfl rfl (fun a w hS hK K hC => ?_) ?_
          · refine Reg.step_off (wanted_off (g := 42) rfl rfl rfl (hK.slot 42 _ _ _ rfl (by kernel_rfl))) ?_
            exact hC _ hS
          refine Reg.from_some 53 rfl rfl (fun a w hS hK K hC => ?_) ?_
          · refine Reg.step_off (wanted_off (g := 42) rfl rfl rfl (hK.slot 42 _ _ _ rfl (by kernel_rfl))) ?_
            exact hC _ hS
          refine Reg.from_some 54 rfl rfl (fun a w hS hK K hC => ?_) ?_
          · refine Reg.step_off (wanted_off (g := 42) rfl rfl rfl (hK.slot 42 _ _ _ rfl (by kernel_rfl))) ?_
            exact hC _ hS
          refine Reg.from_some 55 rfl rfl (fun a w hS hK K hC => ?_) ?_
          · refine Reg.step_on (wanted_on (g := 39) rfl rfl rfl (hK.slot 39 _ _ _ rfl (by kernel_rfl))) ?_
            have e57 := hK.slot 42 _ _ _ rfl (by kernel_rfl)
            have e69 := hK.slot 54 _ _ _ rfl (by kernel_rfl)
            clear hK
            go_simp
            (try (rw [if_pos]; rotate_left; omega; go_simp))
            exact hC _ hS
          refine Reg.from_some 56 rfl rfl (fun a w hS hK K hC => ?_) ?_
          · refine Reg.step_on (by rfl) ?_
            have e54 := hK.slot 39 _ _ _ rfl (by kernel_rfl)
            have e70 := hK.slot 55 _ _ _ rfl (by kernel_rfl)
            clear hK
            go_simp
            (try (rw [if_pos]; rotate_left; omega; go_simp))
            exact hC _ hS
          exact Reg.from_nil
        case r1okv => rfl
        case r1hlt => rfl
        case r1fin =>
          intro wz hS
          simp only [Reg.putV, List.foldl_cons, List.foldl_nil, Act.put, List.setIfInBounds_toArray, List.set_cons_zero, List.set_cons_succ]
          have HB3 := Aside0.mk (below_step HB.out hS.2)
          have HO3 := Aside0.mk (Kd.R_below HO.out hS.2)
          have HX3 := Aside0.mk (Kd.C_below HX2.out hS.2)
          have x3 := hS.1
          clear hS
          go_wp2_with (first
            | ((with_reducible refine gate_builtin (b := .append) (xs := #[.tmp 72, .tmp 76]) rfl ?_); at_builtin; refine Kd.R_append_rows k69 (w0 := w2) w2.heap.size rfl (.tmp 72) (.tmp 76) 25 69 (.agg #[(.string ⟨#[]⟩), (.int .i64 0), (.int .i64 0), (.int .i64 0)]) 40 rfl Try.underlying25 info69 rfl (by decide) (by omega) u4 (m.take (partLo m.length 0)) (part m 0) _ _ _ (fun _ => True) (fun _ => False) rfl rfl ?zaO ?zaR (fun _ _ h => h) (fun _ h => h.elim) ?zaF ?zaB ?zaS ?zaL ?_; (case zaO => exact HO3.out); (case zaR => exact HX3.out); (case zaF => exact fun _ _ => trivial); (case zaB => exact HB3.out); (case zaS => exact below_size HB3.out); (case zaL => have := HPL.out; have := HLm.out; rw [List.length_take]; omega); intro v4 w4 ho4 hb4 _ _; have HO4 := Aside0.mk ho4; have HB4 := Aside0.mk hb4; clear ho4 hb4))
          go_roundw
          case rel => exact ⟨0 + 1, by omega, by go_num, by rw [← take_part m 0 (by have := HQ.out; omega)]; exact HO4.out, HB4.out⟩
          case measure => simp [intOf]; omega
      · obtain ⟨m1, hm1⟩ : ∃ m1, k = m1 + 1 := ⟨k - 1, by omega⟩
        obtain ⟨adp', Am, cm, e0, u0, _, _⟩ := row_at m (Kd.C_below HR2.out HB.out) m1 (by have := HQ.out; omega)
        cases e0
        have pm := partN_down m.length m1
        rw [← hm1, ← HN.out] at pm
        have pm8 := partN_le m.length m1 (by have := HQ.out; omega)
        obtain ⟨nm, hnm⟩ : ∃ nm, nm = partN m.length m1 := ⟨_, rfl⟩
        rw [← hnm] at u0 pm pm8
        have d5 : decide (nm < n) = false := by simp; omega
        have hw1 : IntKind.i64.wrap (m1 : Int) = (m1 : Int) := IntWalk.i64_in _ (by omega)
        have hw3 : (k : Int) - 1 = (m1 : Int) := by omega
        have hkp : decide (0 < k) = true := by simp; omega
        have HM1 := Aside0.mk hm1
        clear hnm hm1 hk0
        go_wp2
        refine Reg.det [(0, 15, ?r2v0), (1, 16, ?r2v1), (2, 17, ?r2v2), (3, 18, ?r2v3), (4, 19, ?r2v4), (5, 20, ?r2v5), (6, 21, ?r2v6), (7, 22, ?r2v7), (8, 23, ?r2v8), (9, 24, ?r2v9), (10, 25, ?r2v10), (11, 26, ?r2v11), (12, 27, ?r2v12), (13, 28, ?r2v13), (14, 29, ?r2v14), (15, 30, ?r2v15), (16, 31, ?r2v16), (17, 32, ?r2v17), (18, 33, ?r2v18), (19, 34, ?r2v19), (20, 35, ?r2v20), (21, 36, ?r2v21), (22, 37, ?r2v22), (23, 38, ?r2v23), (24, 39, ?r2v24), (25, 40, ?r2v25), (26, 41, ?r2v26), (27, 42, ?r2v27), (28, 43, ?r2v28), (29, 44, ?r2v29), (30, 45, ?r2v30), (31, 46, ?r2v31), (32, 47, ?r2v32), (33, 48, ?r2v33), (34, 49, ?r2v34), (35, 50, ?r2v35), (36, 51, ?r2v36), (37, 52, ?r2v37), (38, 53, ?r2v38), (39, 54, ?r2v39), (40, 55, ?r2v40), (41, 56, ?r2v41), (42, 57, ?r2v42), (43, 58, ?r2v43), (44, 59, ?r2v44), (45, 60, ?r2v45), (46, 61, ?r2v46), (47, 62, ?r2v47), (48, 63, ?r2v48), (49, 64, ?r2v49), (50, 65, ?r2v50), (51, 66, ?r2v51), (52, 67, ?r2v52), (53, 68, ?r2v53), (54, 69, ?r2v54), (55, 70, ?r2v55), (56, 71, ?r2v56)] (fun w' => (w'.cell? (adp.add k) = some (.slice Ak n ck) ∧ w'.cell? adp = some (.slice Az n0 cz) ∧ w'.cell? (adp.add m1) = some (.slice Am nm cm)) ∧ Below wr.heap.size wr w') (by rfl) rfl (by kernel_rfl) ?r2S ?r2steps ?r2okv ?r2hlt ?r2fin
        case r2S => exact ⟨⟨x0, y0, u0⟩, (Below.refl _ _).drew⟩
        case r2steps =>
          refine Reg.from_some 0 rfl rfl (fun a w hS hK K hC => ?_) ?_
          · refine Reg.step_on (by rfl) ?_
            have e3 := hK.off 3 _ rfl rfl
            clear hK
            go_simp
            (try (rw [if_pos]; rotate_left; omega; go_simp))
            exact hC _ hS
          refine Reg.from_some 1 rfl rfl (fun a w hS hK K hC => ?_) ?_
          · refine Reg.step_on (by rfl) ?_
            have e5 := hK.off 5 _ rfl rfl
            clear hK
            go_simp
            (try (rw [if_pos]; rotate_left; omega; go_simp))
            exact hC _ hS
          refine Reg.from_some 2 rfl rfl (fun a w hS hK K hC => ?_) ?_
          · refine Reg.step_on (by rfl) ?_
            have e15 := hK.slot 0 _ _ _ rfl (by kernel_rfl)
            have e16 := hK.slot 1 _ _ _ rfl (by kernel_rfl)
            clear hK
            go_simp
            (try (rw [if_pos]; rotate_left; omega; go_simp))
            exact hC _ hS
          refine Reg.from_some 3 rfl rfl (fun a w hS hK K hC => ?_) ?_
          · refine Reg.step_on (by rfl) ?_
            have e17 := hK.slot 2 _ _ _ rfl (by kernel_rfl)
            have hS2 := hS
            obtain ⟨⟨f0, f1, f2⟩, f3⟩ := hS2
            clear hK
            go_simp
            (try (rw [if_pos]; rotate_left; omega; go_simp))
            exact hC _ hS
          refine Reg.from_some 4 rfl rfl (fun a w hS hK K hC => ?_) ?_
          · refine Reg.step_on (by rfl) ?_
            have e18 := hK.slot 3 _ _ _ rfl (by kernel_rfl)
            clear hK
            go_simp
            (try (rw [if_pos]; rotate_left; omega; go_simp))
            exact hC _ hS
          refine Reg.from_some 5 rfl rfl (fun a w hS hK K hC => ?_) ?_
          · refine Reg.step_on (by rfl) ?_
            have e19 := hK.slot 4 _ _ _ rfl (by kernel_rfl)
            clear hK
            go_simp
            (try (rw [if_pos]; rotate_left; omega; go_simp))
            exact hC _ hS
          refine Reg.from_some 6 rfl rfl (fun a w hS hK K hC => ?_) ?_
          · refine Reg.step_on (by rfl) ?_
            have e20 := hK.slot 5 _ _ _ rfl (by kernel_rfl)
            clear hK
            go_simp
            (try (rw [if_pos]; rotate_left; omega; go_simp))
            exact hC _ hS
          refine Reg.from_some 7 rfl rfl (fun a w hS hK K hC => ?_) ?_
          · refine Reg.step_on (wanted_on (g := 6) rfl rfl rfl (hK.slot 6 _ _ _ rfl (by kernel_rfl))) ?_
            have e3 := hK.off 3 _ rfl rfl
            clear hK
            go_simp
            (try (rw [if_pos]; rotate_left; omega; go_simp))
            exact hC _ hS
          refine Reg.from_some 8 rfl rfl (fun a w hS hK K hC => ?_) ?_
          · refine Reg.step_on (wanted_on (g := 6) rfl rfl rfl (hK.slot 6 _ _ _ rfl (by kernel_rfl))) ?_
            have e5 := hK.off 5 _ rfl rfl
            clear hK
            go_simp
            (try (rw [if_pos]; rotate_left; omega; go_simp))
            exact hC _ hS
          refine Reg.from_some 9 rfl rfl (fun a w hS hK K hC => ?_) ?_
          · refine Reg.step_on (wanted_on (g := 6) rfl rfl rfl (hK.slot 6 _ _ _ rfl (by kernel_rfl))) ?_
            have e22 := hK.slot 7 _ _ _ rfl (by kernel_rfl)
            have e23 := hK.slot 8 _ _ _ rfl (by kernel_rfl)
            clear hK
            go_simp
            (try (rw [if_pos]; rotate_left; omega; go_simp))
            exact hC _ hS
          refine Reg.from_some 10 rfl rfl (fun a w hS hK K hC => ?_) ?_
          · refine Reg.step_on (wanted_on (g := 6) rfl rfl rfl (hK.slot 6 _ _ _ rfl (by kernel_rfl))) ?_
            have e24 := hK.slot 9 _ _ _ rfl (by kernel_rfl)
            have hS2 := hS
            obtain ⟨⟨f0, f1, f2⟩, f3⟩ := hS2
            clear hK
            go_simp
            (try (rw [if_pos]; rotate_left; omega; go_simp))
            exact hC _ hS
          refine Reg.from_some 11 rfl rfl (fun a w hS hK K hC => ?_) ?_
          · refine Reg.step_on (wanted_on (g := 6) rfl rfl rfl (hK.slot 6 _ _ _ rfl (by kernel_rfl))) ?_
            have e25 := hK.slot 10 _ _ _ rfl (by kernel_rfl)
            clear hK
            go_simp
            (try (rw [if_pos]; rotate_left; omega; go_simp))
            exact hC _ hS
          refine Reg.from_some 12 rfl rfl (fun a w hS hK K hC => ?_) ?_
          · refine Reg.step_on (wanted_on (g := 6) rfl rfl rfl (hK.slot 6 _ _ _ rfl (by kernel_rfl))) ?_
            have e26 := hK.slot 11 _ _ _ rfl (by kernel_rfl)
            clear hK
            go_simp
            (try (rw [if_pos]; rotate_left; omega; go_simp))
            exact hC _ hS
          refine Reg.from_some 13 rfl rfl (fun a w hS hK K hC => ?_) ?_
          · refine Reg.step_on (by rfl) ?_
            have e21 := hK.slot 6 _ _ _ rfl (by kernel_rfl)
            have e27 := hK.slot 12 _ _ _ rfl (by kernel_rfl)
            clear hK
            go_simp
            (try (rw [if_pos]; rotate_left; omega; go_simp))
            exact hC _ hS
          refine Reg.from_some 14 rfl rfl (fun a w hS hK K hC => ?_) ?_
          · refine Reg.step_on (by rfl) ?_
            have e28 := hK.slot 13 _ _ _ rfl (by kernel_rfl)
            clear hK
            go_simp
            (try (rw [if_pos]; rotate_left; omega; go_simp))
            exact hC _ hS
          refine Reg.from_some 15 rfl rfl (fun a w hS hK K hC => ?_) ?_
          · refine Reg.step_on (wanted_on (g := 14) rfl rfl rfl (hK.slot 14 _ _ _ rfl (by kernel_rfl))) ?_
            have e3 := hK.off 3 _ rfl rfl
            clear hK
            go_simp
            (try (rw [if_pos]; rotate_left; omega; go_simp))
            exact hC _ hS
          refine Reg.from_some 16 rfl rfl (fun a w hS hK K hC => ?_) ?_
          · refine Reg.step_on (wanted_on (g := 14) rfl rfl rfl (hK.slot 14 _ _ _ rfl (by kernel_rfl))) ?_
            have e5 := hK.off 5 _ rfl rfl
            clear hK
            go_simp
            (try (rw [if_pos]; rotate_left; omega; go_simp))
            exact hC _ hS
          refine Reg.from_some 17 rfl rfl (fun a w hS hK K hC => ?_) ?_
          · refine Reg.step_on (wanted_on (g := 14) rfl rfl rfl (hK.slot 14 _ _ _ rfl (by kernel_rfl))) ?_
            have e30 := hK.slot 15 _ _ _ rfl (by kernel_rfl)
            have e31 := hK.slot 16 _ _ _ rfl (by kernel_rfl)
            clear hK
            go_simp
            (try (rw [if_pos]; rotate_left; omega; go_simp))
            exact hC _ hS
          refine Reg.from_some 18 rfl rfl (fun a w hS hK K hC => ?_) ?_
          · refine Reg.step_on (wanted_on (g := 14) rfl rfl rfl (hK.slot 14 _ _ _ rfl (by kernel_rfl))) ?_
            have e32 := hK.slot 17 _ _ _ rfl (by kernel_rfl)
            have hS2 := hS
            obtain ⟨⟨f0, f1, f2⟩, f3⟩ := hS2
            clear hK
            go_simp
            (try (rw [if_pos]; rotate_left; omega; go_simp))
            exact hC _ hS
          refine Reg.from_some 19 rfl rfl (fun a w hS hK K hC => ?_) ?_
          · refine Reg.step_on (wanted_on (g := 14) rfl rfl rfl (hK.slot 14 _ _ _ rfl (by kernel_rfl))) ?_
            have e33 := hK.slot 18 _ _ _ rfl (by kernel_rfl)
            clear hK
            go_simp
            (try (rw [if_pos]; rotate_left; omega; go_simp))
            exact hC _ hS
          refine Reg.from_some 20 rfl rfl (fun a w hS hK K hC => ?_) ?_
          · refine Reg.step_on (wanted_on (g := 14) rfl rfl rfl (hK.slot 14 _ _ _ rfl (by kernel_rfl))) ?_
            have e3 := hK.off 3 _ rfl rfl
            clear hK
            go_simp
            (try (rw [if_pos]; rotate_left; omega; go_simp))
            exact hC _ hS
          refine Reg.from_some 21 rfl rfl (fun a w hS hK K hC => ?_) ?_
          · refine Reg.step_on (wanted_on (g := 14) rfl rfl rfl (hK.slot 14 _ _ _ rfl (by kernel_rfl))) ?_
            have e35 := hK.slot 20 _ _ _ rfl (by kernel_rfl)
            clear hK
            go_simp
            (try (rw [if_pos]; rotate_left; omega; go_simp))
            exact hC _ hS
          refine Reg.from_some 22 rfl rfl (fun a w hS hK K hC => ?_) ?_
          · refine Reg.step_on (wanted_on (g := 14) rfl rfl rfl (hK.slot 14 _ _ _ rfl (by kernel_rfl))) ?_
            have e36 := hK.slot 21 _ _ _ rfl (by kernel_rfl)
            have hS2 := hS
            obtain ⟨⟨f0, f1, f2⟩, f3⟩ := hS2
            clear hK
            go_simp
            (try (rw [if_pos]; rotate_left; omega; go_simp))
            exact hC _ hS
          refine Reg.from_some 23 rfl rfl (fun a w hS hK K hC => ?_) ?_
          · refine Reg.step_on (wanted_on (g := 14) rfl rfl rfl (hK.slot 14 _ _ _ rfl (by kernel_rfl))) ?_
            have e37 := hK.slot 22 _ _ _ rfl (by kernel_rfl)
            clear hK
            go_simp
            (try (rw [if_pos]; rotate_left; omega; go_simp))
            exact hC _ hS
          refine Reg.from_some 24 rfl rfl (fun a w hS hK K hC => ?_) ?_
          · refine Reg.step_on (wanted_on (g := 14) rfl rfl rfl (hK.slot 14 _ _ _ rfl (by kernel_rfl))) ?_
            have e34 := hK.slot 19 _ _ _ rfl (by kernel_rfl)
            have e38 := hK.slot 23 _ _ _ rfl (by kernel_rfl)
            clear hK
            go_simp
            (try (rw [if_pos]; rotate_left; omega; go_simp))
            exact hC _ hS
          refine Reg.from_some 25 rfl rfl (fun a w hS hK K hC => ?_) ?_
          · refine Reg.step_on (by rfl) ?_
            have e29 := hK.slot 14 _ _ _ rfl (by kernel_rfl)
            have e39 := hK.slot 24 _ _ _ rfl (by kernel_rfl)
            clear hK
            go_simp
            (try (rw [if_pos]; rotate_left; omega; go_simp))
            exact hC _ hS
          refine Reg.from_some 26 rfl rfl (fun a w hS hK K hC => ?_) ?_
          · refine Reg.step_on (by rfl) ?_
            have e40 := hK.slot 25 _ _ _ rfl (by kernel_rfl)
            clear hK
            go_simp
            (try (rw [if_pos]; rotate_left; omega; go_simp))
            exact hC _ hS
          refine Reg.from_some 27 rfl rfl (fun a w hS hK K hC => ?_) ?_
          · refine Reg.step_on (wanted_on (g := 26) rfl rfl rfl (hK.slot 26 _ _ _ rfl (by kernel_rfl))) ?_
            have e3 := hK.off 3 _ rfl rfl
            clear hK
            go_simp
            (try (rw [if_pos]; rotate_left; omega; go_simp))
            exact hC _ hS
          refine Reg.from_some 28 rfl rfl (fun a w hS hK K hC => ?_) ?_
          · refine Reg.step_on (wanted_on (g := 26) rfl rfl rfl (hK.slot 26 _ _ _ rfl (by kernel_rfl))) ?_
            have e5 := hK.off 5 _ rfl rfl
            clear hK
            go_simp
            (try (rw [if_pos]; rotate_left; omega; go_simp))
            exact hC _ hS
          refine Reg.from_some 29 rfl rfl (fun a w hS hK K hC => ?_) ?_
          · refine Reg.step_on (wanted_on (g := 26) rfl rfl rfl (hK.slot 26 _ _ _ rfl (by kernel_rfl))) ?_
            have e42 := hK.slot 27 _ _ _ rfl (by kernel_rfl)
            have e43 := hK.slot 28 _ _ _ rfl (by kernel_rfl)
            clear hK
            go_simp
            (try (rw [if_pos]; rotate_left; omega; go_simp))
            exact hC _ hS
          refine Reg.from_some 30 rfl rfl (fun a w hS hK K hC => ?_) ?_
          · refine Reg.step_on (wanted_on (g := 26) rfl rfl rfl (hK.slot 26 _ _ _ rfl (by kernel_rfl))) ?_
            have e44 := hK.slot 29 _ _ _ rfl (by kernel_rfl)
            have hS2 := hS
            obtain ⟨⟨f0, f1, f2⟩, f3⟩ := hS2
            clear hK
            go_simp
            (try (rw [if_pos]; rotate_left; omega; go_simp))
            exact hC _ hS
          refine Reg.from_some 31 rfl rfl (fun a w hS hK K hC => ?_) ?_
          · refine Reg.step_on (wanted_on (g := 26) rfl rfl rfl (hK.slot 26 _ _ _ rfl (by kernel_rfl))) ?_
            have e45 := hK.slot 30 _ _ _ rfl (by kernel_rfl)
            clear hK
            go_simp
            (try (rw [if_pos]; rotate_left; omega; go_simp))
            exact hC _ hS
          refine Reg.from_some 32 rfl rfl (fun a w hS hK K hC => ?_) ?_
          · refine Reg.step_on (wanted_on (g := 26) rfl rfl rfl (hK.slot 26 _ _ _ rfl (by kernel_rfl))) ?_
            have e3 := hK.off 3 _ rfl rfl
            clear hK
            go_simp
            (try (rw [if_pos]; rotate_left; omega; go_simp))
            exact hC _ hS
          refine Reg.from_some 33 rfl rfl (fun a w hS hK K hC => ?_) ?_
          · refine Reg.step_on (wanted_on (g := 26) rfl rfl rfl (hK.slot 26 _ _ _ rfl (by kernel_rfl))) ?_
            have e47 := hK.slot 32 _ _ _ rfl (by kernel_rfl)
            clear hK
            go_simp
            (try (rw [if_pos]; rotate_left; omega; go_simp))
            exact hC _ hS
          refine Reg.from_some 34 rfl rfl (fun a w hS hK K hC => ?_) ?_
          · refine Reg.step_on (wanted_on (g := 26) rfl rfl rfl (hK.slot 26 _ _ _ rfl (by kernel_rfl))) ?_
            have e48 := hK.slot 33 _ _ _ rfl (by kernel_rfl)
            have hS2 := hS
            obtain ⟨⟨f0, f1, f2⟩, f3⟩ := hS2
            clear hK
            go_simp
            (try (rw [if_pos]; rotate_left; omega; go_simp))
            exact hC _ hS
          refine Reg.from_some 35 rfl rfl (fun a w hS hK K hC => ?_) ?_
          · refine Reg.step_on (wanted_on (g := 26) rfl rfl rfl (hK.slot 26 _ _ _ rfl (by kernel_rfl))) ?_
            have e49 := hK.slot 34 _ _ _ rfl (by kernel_rfl)
            clear hK
            go_simp
            (try (rw [if_pos]; rotate_left; omega; go_simp))
            exact hC _ hS
          refine Reg.from_some 36 rfl rfl (fun a w hS hK K hC => ?_) ?_
          · refine Reg.step_on (wanted_on (g := 26) rfl rfl rfl (hK.slot 26 _ _ _ rfl (by kernel_rfl))) ?_
            have e50 := hK.slot 35 _ _ _ rfl (by kernel_rfl)
            clear hK
            go_simp
            (try (rw [if_pos]; rotate_left; omega; go_simp))
            exact hC _ hS
          refine Reg.from_some 37 rfl rfl (fun a w hS hK K hC => ?_) ?_
          · refine Reg.step_on (wanted_on (g := 26) rfl rfl rfl (hK.slot 26 _ _ _ rfl (by kernel_rfl))) ?_
            have e46 := hK.slot 31 _ _ _ rfl (by kernel_rfl)
            have e51 := hK.slot 36 _ _ _ rfl (by kernel_rfl)
            clear hK
            go_simp
            (try (rw [if_pos]; rotate_left; omega; go_simp))
            exact hC _ hS
          refine Reg.from_some 38 rfl rfl (fun a w hS hK K hC => ?_) ?_
          · refine Reg.step_on (by rfl) ?_
            have e41 := hK.slot 26 _ _ _ rfl (by kernel_rfl)
            have e52 := hK.slot 37 _ _ _ rfl (by kernel_rfl)
            clear hK
            go_simp
            (try (rw [if_pos]; rotate_left; omega; go_simp))
            exact hC _ hS
          refine Reg.from_some 39 rfl rfl (fun a w hS hK K hC => ?_) ?_
          · refine Reg.step_on (by rfl) ?_
            have e53 := hK.slot 38 _ _ _ rfl (by kernel_rfl)
            clear hK
            go_simp
            (try (rw [if_pos]; rotate_left; omega; go_simp))
            exact hC _ hS
          refine Reg.from_some 40 rfl rfl (fun a w hS hK K hC => ?_) ?_
          · refine Reg.step_on (wanted_on (g := 39) rfl rfl rfl (hK.slot 39 _ _ _ rfl (by kernel_rfl))) ?_
            have e5 := hK.off 5 _ rfl rfl
            clear hK
            go_simp
            (try (rw [if_pos]; rotate_left; omega; go_simp))
            exact hC _ hS
          refine Reg.from_some 41 rfl rfl (fun a w hS hK K hC => ?_) ?_
          · refine Reg.step_on (wanted_on (g := 39) rfl rfl rfl (hK.slot 39 _ _ _ rfl (by kernel_rfl))) ?_
            have e55 := hK.slot 40 _ _ _ rfl (by kernel_rfl)
            clear hK
            go_simp
            (try (rw [if_pos]; rotate_left; omega; go_simp))
            exact hC _ hS
          refine Reg.from_some 42 rfl rfl (fun a w hS hK K hC => ?_) ?_
          · refine Reg.step_on (wanted_on (g := 39) rfl rfl rfl (hK.slot 39 _ _ _ rfl (by kernel_rfl))) ?_
            have e56 := hK.slot 41 _ _ _ rfl (by kernel_rfl)
            clear hK
            go_simp
            (try (rw [if_pos]; rotate_left; omega; go_simp))
            exact hC _ hS
          refine Reg.from_some 43 rfl rfl (fun a w hS hK K hC => ?_) ?_
          · refine Reg.step_on (wanted_on (g := 42) rfl rfl rfl (hK.slot 42 _ _ _ rfl (by kernel_rfl))) ?_
            have e3 := hK.off 3 _ rfl rfl
            clear hK
            go_simp
            (try (rw [if_pos]; rotate_left; omega; go_simp))
            exact hC _ hS
          refine Reg.from_some 44 rfl rfl (fun a w hS hK K hC => ?_) ?_
          · refine Reg.step_on (wanted_on (g := 42) rfl rfl rfl (hK.slot 42 _ _ _ rfl (by kernel_rfl))) ?_
            have e5 := hK.off 5 _ rfl rfl
            clear hK
            go_simp
            (try (rw [if_pos]; rotate_left; omega; go_simp))
            exact hC _ hS
          refine Reg.from_some 45 rfl rfl (fun a w hS hK K hC => ?_) ?_
          · refine Reg.step_on (wanted_on (g := 42) rfl rfl rfl (hK.slot 42 _ _ _ rfl (by kernel_rfl))) ?_
            have e58 := hK.slot 43 _ _ _ rfl (by kernel_rfl)
            have e59 := hK.slot 44 _ _ _ rfl (by kernel_rfl)
            clear hK
            go_simp
            (try (rw [if_pos]; rotate_left; omega; go_simp))
            exact hC _ hS
          refine Reg.from_some 46 rfl rfl (fun a w hS hK K hC => ?_) ?_
          · refine Reg.step_on (wanted_on (g := 42) rfl rfl rfl (hK.slot 42 _ _ _ rfl (by kernel_rfl))) ?_
            have e60 := hK.slot 45 _ _ _ rfl (by kernel_rfl)
            have hS2 := hS
            obtain ⟨⟨f0, f1, f2⟩, f3⟩ := hS2
            clear hK
            go_simp
            (try (rw [if_pos]; rotate_left; omega; go_simp))
            exact hC _ hS
          refine Reg.from_some 47 rfl rfl (fun a w hS hK K hC => ?_) ?_
          · refine Reg.step_on (wanted_on (g := 42) rfl rfl rfl (hK.slot 42 _ _ _ rfl (by kernel_rfl))) ?_
            have e61 := hK.slot 46 _ _ _ rfl (by kernel_rfl)
            clear hK
            go_simp
            (try (rw [if_pos]; rotate_left; omega; go_simp))
            exact hC _ hS
          refine Reg.from_some 48 rfl rfl (fun a w hS hK K hC => ?_) ?_
          · refine Reg.step_on (wanted_on (g := 42) rfl rfl rfl (hK.slot 42 _ _ _ rfl (by kernel_rfl))) ?_
            have e3 := hK.off 3 _ rfl rfl
            clear hK
            go_simp
            (try (rw [if_pos]; rotate_left; omega; go_simp))
            exact hC _ hS
          refine Reg.from_some 49 rfl rfl (fun a w hS hK K hC => ?_) ?_
          · refine Reg.step_on (wanted_on (g := 42) rfl rfl rfl (hK.slot 42 _ _ _ rfl (by kernel_rfl))) ?_
            have e5 := hK.off 5 _ rfl rfl
            clear hK
            go_simp
            (try (rw [if_pos]; rotate_left; omega; go_simp))
            exact hC _ hS
          refine Reg.from_some 50 rfl rfl (fun a w hS hK K hC => ?_) ?_
          · refine Reg.step_on (wanted_on (g := 42) rfl rfl rfl (hK.slot 42 _ _ _ rfl (by kernel_rfl))) ?_
            have e64 := hK.slot 49 _ _ _ rfl (by kernel_rfl)
            clear hK
            go_simp
            (try (rw [if_pos]; rotate_left; omega; go_simp))
            exact hC _ hS
          refine Reg.from_some 51 rfl rfl (fun a w hS hK K hC => ?_) ?_
          · refine Reg.step_on (wanted_on (g := 42) rfl rfl rfl (hK.slot 42 _ _ _ rfl (by kernel_rfl))) ?_
            have e63 := hK.slot 48 _ _ _ rfl (by kernel_rfl)
            have e65 := hK.slot 50 _ _ _ rfl (by kernel_rfl)
            clear hK
            go_simp
            (try (rw [if_pos]; rotate_left; omega; go_simp))
            exact hC _ hS
          refine Reg.from_some 52 rfl rfl (fun a w hS hK K hC => ?_) ?_
          · refine Reg.step_on (wanted_on (g := 42) rfl rfl rfl (hK.slot 42 _ _ _ rfl (by kernel_rfl))) ?_
            have e66 := hK.slot 51 _ _ _ rfl (by kernel_rfl)
            have hS2 := hS
            obtain ⟨⟨f0, f1, f2⟩, f3⟩ := hS2
            clear hK
            go_simp
            (try (rw [if_pos]; rotate_left; omega; go_simp))
            exact hC _ hS
          refine Reg.from_some 53 rfl rfl (fun a w hS hK K hC => ?_) ?_
          · refine Reg.step_on (wanted_on (g := 42) rfl rfl rfl (hK.slot 42 _ _ _ rfl (by kernel_rfl))) ?_
            have e67 := hK.slot 52 _ _ _ rfl (by kernel_rfl)
            clear hK
            go_simp
            (try (rw [if_pos]; rotate_left; omega; go_simp))
            exact hC _ hS
          refine Reg.from_some 54 rfl rfl (fun a w hS hK K hC => ?_) ?_
          · refine Reg.step_on (wanted_on (g := 42) rfl rfl rfl (hK.slot 42 _ _ _ rfl (by kernel_rfl))) ?_
            have e62 := hK.slot 47 _ _ _ rfl (by kernel_rfl)
            have e68 := hK.slot 53 _ _ _ rfl (by kernel_rfl)
            clear hK
            go_simp
            (try (rw [if_pos]; rotate_left; omega; go_simp))
            exact hC _ hS
          refine Reg.from_some 55 rfl rfl (fun a w hS hK K hC => ?_) ?_
          · refine Reg.step_on (wanted_on (g := 39) rfl rfl rfl (hK.slot 39 _ _ _ rfl (by kernel_rfl))) ?_
            have e57 := hK.slot 42 _ _ _ rfl (by kernel_rfl)
            have e69 := hK.slot 54 _ _ _ rfl (by kernel_rfl)
            clear hK
            go_simp
            (try (rw [if_pos]; rotate_left; omega; go_simp))
            exact hC _ hS
          refine Reg.from_some 56 rfl rfl (fun a w hS hK K hC => ?_) ?_
          · refine Reg.step_on (by rfl) ?_
            have e54 := hK.slot 39 _ _ _ rfl (by kernel_rfl)
            have e70 := hK.slot 55 _ _ _ rfl (by kernel_rfl)
            clear hK
            go_simp
            (try (rw [if_pos]; rotate_left; omega; go_simp))
            exact hC _ hS
          exact Reg.from_nil
        case r2okv => rfl
        case r2hlt => rfl
        case r2fin =>
          intro wz hS
          simp only [Reg.putV, List.foldl_cons, List.foldl_nil, Act.put, List.setIfInBounds_toArray, List.set_cons_zero, List.set_cons_succ]
          have HB3 := Aside0.mk (below_step HB.out hS.2)
          have HO3 := Aside0.mk (Kd.R_below HO.out hS.2)
          have HX3 := Aside0.mk (Kd.C_below HX2.out hS.2)
          have x3 := hS.1.1
          clear hS
          go_wp2_with (first
            | ((with_reducible refine gate_builtin (b := .append) (xs := #[.tmp 72, .tmp 76]) rfl ?_); at_builtin; refine Kd.R_append_rows k69 (w0 := w2) w2.heap.size rfl (.tmp 72) (.tmp 76) 25 69 (.agg #[(.string ⟨#[]⟩), (.int .i64 0), (.int .i64 0), (.int .i64 0)]) 40 rfl Try.underlying25 info69 rfl (by decide) (by omega) u4 (m.take (partLo m.length k)) (part m k) _ _ _ (fun _ => True) (fun _ => False) rfl rfl ?yaO ?yaR (fun _ _ h => h) (fun _ h => h.elim) ?yaF ?yaB ?yaS ?yaL ?_; (case yaO => exact HO3.out); (case yaR => exact HX3.out); (case yaF => exact fun _ _ => trivial); (case yaB => exact HB3.out); (case yaS => exact below_size HB3.out); (case yaL => have := HPL.out; have := HLm.out; rw [List.length_take]; omega); intro v4 w4 ho4 hb4 _ _; have HO4 := Aside0.mk ho4; have HB4 := Aside0.mk hb4; clear ho4 hb4))
          go_roundw
          case rel => exact ⟨k + 1, by omega, by go_num, by rw [← take_part m k (by have := HQ.out; omega)]; exact HO4.out, HB4.out⟩
          case measure => simp [intOf]; omega
    · have hkq : k = q := by omega
      subst hkq
      have e0 : m.take (partLo m.length k) = m := by rw [HQ.out, partLo_end, List.take_length]
      have ho := HO.out
      rw [e0] at ho
      obtain ⟨Aa, ca, ea⟩ := Kd.R_slice ho
      subst ea
      have hr4 := (Kd.R_reads' ho).2
      have HR4 := Aside0.mk hr4
      have HBw := Aside0.mk (show Below w.heap.size w wr from below_step (below_step HB1.out HB2.out) HB.out)
      clear hlt hk e0 ho hr4
      have hk8 := HQ8.out
      rcases hk8 with hk0 | ⟨hkp, hk8⟩
      · subst hk0
        go_wp2_with (first
          | (go_at_call 12; (with_reducible refine (pumicelaw10_slots.calls (l.length + 1) A0 c0 l m _ ?t1 HC.out HS.out).mono ?_); (case t1 => exact Kd.C_below HR.out HBw.out); rintro e w5 ⟨v5, rfl, ho5, hb5⟩; have HB5 := Aside0.mk hb5; obtain ⟨A5, c5, e5⟩ := Kd.R_slice ho5; subst e5; have h5 := Kd.R_reads' ho5; have HR5 := Aside0.mk h5.2; clear h5 ho5 hb5)
          | (go_at_call 13; (with_reducible refine (pumicelaw10_equal.calls (m.length + 1) Aa ca m A5 c5 m true _ ?t2 HR4.out.1 HR5.out.2 HR5.out.1 HE.out).mono ?_); (case t2 => exact Kd.C_below HR4.out.2 HB5.out); rintro e w6 ⟨rfl, nd, rfl⟩)
          | (go_at_call 14; (with_reducible refine (alive_calls _).mono ?_); rintro e w7 ⟨rfl, hb7⟩))
        go_ret
        exact ⟨rfl, below_step (pw_below_drewN (below_step HBw.out HB5.out) nd) hb7⟩
      · have d0 : IntKind.i64.wrap ((k : Int) - 1) = (k : Int) - 1 := IntWalk.i64_in _ (by omega)
        have d1 : IntKind.i64.wrap (((k : Int) - 1) * 8) = ((k : Int) - 1) * 8 := IntWalk.i64_in _ (by omega)
        have d2 : decide (((k : Int) - 1) * 8 < (l.length : Int)) = true := by rw [HML.out]; exact decide_eq_true hk8
        have HD0 := Aside0.mk d0
        have HD1 := Aside0.mk d1
        have HD2 := Aside0.mk d2
        have hk1 : ¬ k = 0 := by omega
        go_wp2_with (first
          | (go_at_call 12; (with_reducible refine (pumicelaw10_slots.calls (l.length + 1) A0 c0 l m _ ?t3 HC.out HS.out).mono ?_); (case t3 => exact Kd.C_below HR.out HBw.out); rintro e w5 ⟨v5, rfl, ho5, hb5⟩; have HB5 := Aside0.mk hb5; obtain ⟨A5, c5, e5⟩ := Kd.R_slice ho5; subst e5; have h5 := Kd.R_reads' ho5; have HR5 := Aside0.mk h5.2; clear h5 ho5 hb5)
          | (go_at_call 13; (with_reducible refine (pumicelaw10_equal.calls (m.length + 1) Aa ca m A5 c5 m true _ ?t4 HR4.out.1 HR5.out.2 HR5.out.1 HE.out).mono ?_); (case t4 => exact Kd.C_below HR4.out.2 HB5.out); rintro e w6 ⟨rfl, nd, rfl⟩)
          | (go_at_call 14; (with_reducible refine (alive_calls _).mono ?_); rintro e w7 ⟨rfl, hb7⟩))
        go_ret
        exact ⟨rfl, below_step (pw_below_drewN (below_step HBw.out HB5.out) nd) hb7⟩

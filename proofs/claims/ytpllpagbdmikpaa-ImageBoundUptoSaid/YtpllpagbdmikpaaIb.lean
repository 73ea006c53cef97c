import Derived.Test.YtpllpagbdmikpaaIa
namespace Go.Proofs.Ytpllpagbdmikpaa.PAll
open Go.RowKit Go.Proofs.YtpllpagbdmikpaaW.PrintWords Go.Proofs.YtpllpagbdmikpaaW.PrintLast Go.Proofs.YtpllpagbdmikpaaW.PrintMore
set_option linter.unusedSimpArgs false
set_option linter.unusedVariables false
attribute [local go_sem] max2_int min2_int max_two min_two max_three min_three max_four min_four
theorem empty_list (k : ByteArray) : k.toList.isEmpty = decide (k.size = 0) := by
  obtain ⟨⟨l⟩⟩ := k
  rw [Lib.toList_data]
  cases l with
  | nil => rfl
  | cons a r => rfl
set_option maxRecDepth 100000 in
set_option maxHeartbeats 8000000 in
theorem ImageBound_calls (A : Option Addr) (c : Nat) (ks : List ByteArray) (w : World) (hr : Kd.string.C w A ks.length ks) (hc : ks.length ≤ c) (hn : ks.length ≤ 1048576) (hS : kSum ks ≤ 16000000) :
    Calls Try.prog 10 #[.slice A ks.length c] w fun e w' => e = .returned (.bool true) ∧ Below w.heap.size w w' := by
  obtain ⟨N, hN⟩ : ∃ N, N = boundL ks := ⟨_, rfl⟩
  have NB := Aside0.mk (bound_any A c ks w hr hc hn)
  rw [← hN] at NB
  have HR := Aside0.mk hr
  have HS := Aside0.mk hS
  have HN := Aside0.mk hN
  have hbad : ∀ i, i < ks.length → keyAt ks i = false → N = 0 := fun i hi h => by
    rw [hN]
    unfold boundL
    rw [if_neg]
    intro h1
    have h2 := List.all_eq_true.1 h1 i (List.mem_range.2 hi)
    rw [h] at h2
    cases h2
  have HBAD := Aside0.mk hbad
  clear hr hS hN hbad
  go_enter Try.func10, Try.ntmps10
  go_wp2_with (first
    | (go_at_call 30; (with_reducible refine NB.out.mono ?_); rintro e w1 ⟨rfl, hb1⟩; have HB1 := Aside0.mk hb1; clear hb1))
  go_loopw [4, 5] (fun v4 v5 wr => ∃ i S : Nat, i ≤ ks.length ∧ v4 = .int .i64 S ∧ v5 = .int .i64 i ∧ Aside0 (S + 8 * i = kSum (ks.take i)) ∧ Aside0 (∀ t, t < i → keyAt ks t = true) ∧ Aside0 (Below w.heap.size w wr)) (fun _ i _ => ks.length - (intOf i).toNat)
  case atStart => exact ⟨0, 0, Nat.zero_le _, rfl, rfl, ⟨by simp [kSum]⟩, ⟨fun t ht => absurd ht (Nat.not_lt_zero _)⟩, HB1⟩
  case round =>
    obtain ⟨i, S, hi, rfl, rfl, HSi, HK, HB⟩ := hrel
    by_cases hlt : i < ks.length
    · have d0 : decide ((i : Int) < (ks.length : Int)) = true := decide_eq_true (by omega)
      obtain ⟨ad, rfl, hx⟩ := at_key (Kd.C_below HR.out HB.out) i hlt
      obtain ⟨k, hk⟩ : ∃ k, k = ks.getD i z9 := ⟨_, rfl⟩
      rw [← hk] at hx
      have hq : (i < ks.length) = True := eq_true hlt
      have hsum : S + k.size + 8 * (i + 1) = kSum (ks.take (i + 1)) := by rw [kSum_take_succ ks i hlt, ← HSi.out, hk]; omega
      have hle := kSum_take_le ks (i + 1)
      have hS := HS.out
      have wS : IntKind.i64.wrap ((S : Int) + (k.size : Int)) = (S : Int) + (k.size : Int) := IntWalk.i64_in _ (by omega)
      have HSUM := Aside0.mk hsum
      have HKK := Aside0.mk hk
      have HXI := Aside0.mk hx
      have HBi := Aside0.mk (HBAD.out i hlt)
      clear hsum hle hS hk
      have e0 := empty_list k
      obtain ⟨big, hbig⟩ : ∃ b, b = decide (64 < k.size) := ⟨_, rfl⟩
      have b1 : decide (64 < k.size) = big := hbig.symm
      have b2 : decide ((64 : Int) < (k.size : Int)) = big := by rw [hbig]; congr 1; simp only [eq_iff_iff]; omega
      have b3 : decide ((k.size : Int) > 64) = big := by rw [hbig]; congr 1; simp only [eq_iff_iff]; omega
      have HBIG := Aside0.mk hbig
      clear hbig
      have hbz : k.size = 0 → keyAt ks i = false := fun h => by unfold keyAt keyOk; rw [← HKK.out, h]; rfl
      have hbb : big = true → keyAt ks i = false := fun h => by
        have h2 := HBIG.out
        rw [h] at h2
        have h3 := of_decide_eq_true h2.symm
        unfold keyAt keyOk
        rw [← HKK.out, decide_eq_false (by omega)]
        rfl
      have hok : (i = 0 ∨ Op.bytesLess (ks.getD (i - 1) z9).toList k.toList = true) → k.size ≠ 0 → big = false → keyAt ks i = true := fun h1 h2 h3 => by
        have h4 := HBIG.out
        rw [h3] at h4
        have h5 := of_decide_eq_false h4.symm
        unfold keyAt keyOk
        rw [← HKK.out, decide_eq_true (by omega)]
        rcases h1 with h1 | h1
        · rw [h1]; rfl
        · rw [h1]; simp
      have HBZ := Aside0.mk hbz
      have HBB := Aside0.mk hbb
      have HOK := Aside0.mk hok
      clear hbz hbb hok
      rcases Nat.eq_zero_or_pos i with h0 | hpos
      · have d1 : decide ((i : Int) > 0) = false := decide_eq_false (by omega)
        have d2 : decide (0 < i) = false := decide_eq_false (by omega)
        have d3 : decide (0 < (i : Int)) = false := decide_eq_false (by omega)
        have HH := Aside0.mk (show i = 0 ∨ Op.bytesLess (ks.getD (i - 1) z9).toList k.toList = true from .inl h0)
        clear h0
        by_cases hz : k.size = 0
        · have e1 : decide (k.size = 0) = true := decide_eq_true hz
          rw [e1] at e0
          have HKB := Aside0.mk (HBi.out (HBZ.out hz))
          clear hz e1
          go_upto_region 7 with (fail)
          refine Reg.det [(0, 22, ?r1v0), (1, 23, ?r1v1), (2, 24, ?r1v2), (3, 25, undef), (4, 26, undef), (5, 27, undef), (6, 28, undef), (7, 29, undef), (8, 30, undef), (9, 31, undef), (10, 32, undef), (11, 33, undef), (12, 34, undef), (13, 35, ?r1v13), (14, 36, ?r1v14), (15, 37, ?r1v15), (16, 38, ?r1v16), (17, 39, ?r1v17), (18, 40, ?r1v18), (19, 41, ?r1v19), (20, 42, ?r1v20), (21, 43, ?r1v21), (22, 44, undef), (23, 45, undef), (24, 46, undef), (25, 47, undef), (26, 48, undef), (27, 49, undef), (28, 50, ?r1v28)] (fun w' => Below wr.heap.size wr w') (by rfl) rfl (by kernel_rfl) ?r1S ?r1steps ?r1okv ?r1hlt ?r1fin
          case r1S => exact below_drew (Below.refl _ _)
          case r1steps =>
            refine Reg.from_some 0 rfl rfl (fun a w hS hK K hC => ?_) ?_
            · refine Reg.step_on (by rfl) ?_
              have e5 := hK.off 5 _ rfl rfl
              clear hK
              go_simp
              exact hC _ hS
            refine Reg.from_some 1 rfl rfl (fun a w hS hK K hC => ?_) ?_
            · refine Reg.step_on (by rfl) ?_
              have e22 := hK.slot 0 _ _ _ rfl (by kernel_rfl)
              clear hK
              go_simp
              exact hC _ hS
            refine Reg.from_some 2 rfl rfl (fun a w hS hK K hC => ?_) ?_
            · refine Reg.step_on (by rfl) ?_
              have e23 := hK.slot 1 _ _ _ rfl (by kernel_rfl)
              clear hK
              go_simp
              exact hC _ hS
            refine Reg.from_some 3 rfl rfl (fun a w hS hK K hC => ?_) ?_
            · refine Reg.step_off (wanted_off (g := 2) rfl rfl rfl (hK.slot 2 _ _ _ rfl (by kernel_rfl))) ?_
              exact hC _ hS
            refine Reg.from_some 4 rfl rfl (fun a w hS hK K hC => ?_) ?_
            · refine Reg.step_off (wanted_off (g := 2) rfl rfl rfl (hK.slot 2 _ _ _ rfl (by kernel_rfl))) ?_
              exact hC _ hS
            refine Reg.from_some 5 rfl rfl (fun a w hS hK K hC => ?_) ?_
            · refine Reg.step_off (wanted_off (g := 2) rfl rfl rfl (hK.slot 2 _ _ _ rfl (by kernel_rfl))) ?_
              exact hC _ hS
            refine Reg.from_some 6 rfl rfl (fun a w hS hK K hC => ?_) ?_
            · refine Reg.step_off (wanted_off (g := 2) rfl rfl rfl (hK.slot 2 _ _ _ rfl (by kernel_rfl))) ?_
              exact hC _ hS
            refine Reg.from_some 7 rfl rfl (fun a w hS hK K hC => ?_) ?_
            · refine Reg.step_off (wanted_off (g := 2) rfl rfl rfl (hK.slot 2 _ _ _ rfl (by kernel_rfl))) ?_
              exact hC _ hS
            refine Reg.from_some 8 rfl rfl (fun a w hS hK K hC => ?_) ?_
            · refine Reg.step_off (wanted_off (g := 2) rfl rfl rfl (hK.slot 2 _ _ _ rfl (by kernel_rfl))) ?_
              exact hC _ hS
            refine Reg.from_some 9 rfl rfl (fun a w hS hK K hC => ?_) ?_
            · refine Reg.step_off (wanted_off (g := 2) rfl rfl rfl (hK.slot 2 _ _ _ rfl (by kernel_rfl))) ?_
              exact hC _ hS
            refine Reg.from_some 10 rfl rfl (fun a w hS hK K hC => ?_) ?_
            · refine Reg.step_off (wanted_off (g := 2) rfl rfl rfl (hK.slot 2 _ _ _ rfl (by kernel_rfl))) ?_
              exact hC _ hS
            refine Reg.from_some 11 rfl rfl (fun a w hS hK K hC => ?_) ?_
            · refine Reg.step_off (wanted_off (g := 2) rfl rfl rfl (hK.slot 2 _ _ _ rfl (by kernel_rfl))) ?_
              exact hC _ hS
            refine Reg.from_some 12 rfl rfl (fun a w hS hK K hC => ?_) ?_
            · refine Reg.step_off (wanted_off (g := 2) rfl rfl rfl (hK.slot 2 _ _ _ rfl (by kernel_rfl))) ?_
              exact hC _ hS
            refine Reg.from_some 13 rfl rfl (fun a w hS hK K hC => ?_) ?_
            · refine Reg.step_on (by rfl) ?_
              have e24 := hK.slot 2 _ _ _ rfl (by kernel_rfl)
              have e34 := hK.slot 12 _ _ _ rfl (by kernel_rfl)
              clear hK
              go_simp
              exact hC _ hS
            refine Reg.from_some 14 rfl rfl (fun a w hS hK K hC => ?_) ?_
            · refine Reg.step_on (by rfl) ?_
              have e35 := hK.slot 13 _ _ _ rfl (by kernel_rfl)
              clear hK
              go_simp
              exact hC _ hS
            refine Reg.from_some 15 rfl rfl (fun a w hS hK K hC => ?_) ?_
            · refine Reg.step_on (wanted_on (g := 14) rfl rfl rfl (hK.slot 14 _ _ _ rfl (by kernel_rfl))) ?_
              have e0 := hK.off 0 _ rfl rfl
              clear hK
              go_simp
              exact hC _ hS
            refine Reg.from_some 16 rfl rfl (fun a w hS hK K hC => ?_) ?_
            · refine Reg.step_on (wanted_on (g := 14) rfl rfl rfl (hK.slot 14 _ _ _ rfl (by kernel_rfl))) ?_
              have e5 := hK.off 5 _ rfl rfl
              clear hK
              go_simp
              exact hC _ hS
            refine Reg.from_some 17 rfl rfl (fun a w hS hK K hC => ?_) ?_
            · refine Reg.step_on (wanted_on (g := 14) rfl rfl rfl (hK.slot 14 _ _ _ rfl (by kernel_rfl))) ?_
              have e37 := hK.slot 15 _ _ _ rfl (by kernel_rfl)
              have e38 := hK.slot 16 _ _ _ rfl (by kernel_rfl)
              clear hK
              go_simp
              exact hC _ hS
            refine Reg.from_some 18 rfl rfl (fun a w hS hK K hC => ?_) ?_
            · refine Reg.step_on (wanted_on (g := 14) rfl rfl rfl (hK.slot 14 _ _ _ rfl (by kernel_rfl))) ?_
              have e39 := hK.slot 17 _ _ _ rfl (by kernel_rfl)
              have z1 := cell_below HXI.out hS
              clear hK
              go_simp
              exact hC _ hS
            refine Reg.from_some 19 rfl rfl (fun a w hS hK K hC => ?_) ?_
            · refine Reg.step_on (wanted_on (g := 14) rfl rfl rfl (hK.slot 14 _ _ _ rfl (by kernel_rfl))) ?_
              have e40 := hK.slot 18 _ _ _ rfl (by kernel_rfl)
              clear hK
              go_simp
              exact hC _ hS
            refine Reg.from_some 20 rfl rfl (fun a w hS hK K hC => ?_) ?_
            · refine Reg.step_on (by rfl) ?_
              have e36 := hK.slot 14 _ _ _ rfl (by kernel_rfl)
              have e41 := hK.slot 19 _ _ _ rfl (by kernel_rfl)
              clear hK
              go_simp
              exact hC _ hS
            refine Reg.from_some 21 rfl rfl (fun a w hS hK K hC => ?_) ?_
            · refine Reg.step_on (by rfl) ?_
              have e42 := hK.slot 20 _ _ _ rfl (by kernel_rfl)
              clear hK
              go_simp
              exact hC _ hS
            refine Reg.from_some 22 rfl rfl (fun a w hS hK K hC => ?_) ?_
            · refine Reg.step_off (wanted_off (g := 21) rfl rfl rfl (hK.slot 21 _ _ _ rfl (by kernel_rfl))) ?_
              exact hC _ hS
            refine Reg.from_some 23 rfl rfl (fun a w hS hK K hC => ?_) ?_
            · refine Reg.step_off (wanted_off (g := 21) rfl rfl rfl (hK.slot 21 _ _ _ rfl (by kernel_rfl))) ?_
              exact hC _ hS
            refine Reg.from_some 24 rfl rfl (fun a w hS hK K hC => ?_) ?_
            · refine Reg.step_off (wanted_off (g := 21) rfl rfl rfl (hK.slot 21 _ _ _ rfl (by kernel_rfl))) ?_
              exact hC _ hS
            refine Reg.from_some 25 rfl rfl (fun a w hS hK K hC => ?_) ?_
            · refine Reg.step_off (wanted_off (g := 21) rfl rfl rfl (hK.slot 21 _ _ _ rfl (by kernel_rfl))) ?_
              exact hC _ hS
            refine Reg.from_some 26 rfl rfl (fun a w hS hK K hC => ?_) ?_
            · refine Reg.step_off (wanted_off (g := 21) rfl rfl rfl (hK.slot 21 _ _ _ rfl (by kernel_rfl))) ?_
              exact hC _ hS
            refine Reg.from_some 27 rfl rfl (fun a w hS hK K hC => ?_) ?_
            · refine Reg.step_off (wanted_off (g := 21) rfl rfl rfl (hK.slot 21 _ _ _ rfl (by kernel_rfl))) ?_
              exact hC _ hS
            refine Reg.from_some 28 rfl rfl (fun a w hS hK K hC => ?_) ?_
            · refine Reg.step_on (by rfl) ?_
              have e43 := hK.slot 21 _ _ _ rfl (by kernel_rfl)
              have e49 := hK.slot 27 _ _ _ rfl (by kernel_rfl)
              clear hK
              go_simp
              exact hC _ hS
            exact Reg.from_nil
          case r1okv => rfl
          case r1hlt => rfl
          case r1fin =>
            intro wz hS
            simp only [Reg.putV, List.foldl_cons, List.foldl_nil, Act.put, List.setIfInBounds_toArray, List.set_cons_zero, List.set_cons_succ]
            have HBz := Aside0.mk (below_step HB.out hS)
            clear hS
            have n1 : ((N : Int) == 0) = true := by rw [HKB.out]; rfl
            have n2 : (N == 0) = true := by rw [HKB.out]; rfl
            go_wp2_with (first
              | (go_at_call 14; (with_reducible refine (alive_calls _).mono ?_); rintro e w8 ⟨rfl, hb8⟩; have HB8 := Aside0.mk (below_step HBz.out hb8); clear hb8))
            go_ret
            exact ⟨rfl, HB8.out⟩
        · have e1 : decide (k.size = 0) = false := decide_eq_false hz
          rw [e1] at e0
          have HNZ := Aside0.mk hz
          clear hz e1
          go_upto_region 7 with (fail)
          refine Reg.det [(0, 22, ?r2v0), (1, 23, ?r2v1), (2, 24, ?r2v2), (3, 25, undef), (4, 26, undef), (5, 27, undef), (6, 28, undef), (7, 29, undef), (8, 30, undef), (9, 31, undef), (10, 32, undef), (11, 33, undef), (12, 34, undef), (13, 35, ?r2v13), (14, 36, ?r2v14), (15, 37, ?r2v15), (16, 38, ?r2v16), (17, 39, ?r2v17), (18, 40, ?r2v18), (19, 41, ?r2v19), (20, 42, ?r2v20), (21, 43, ?r2v21), (22, 44, ?r2v22), (23, 45, ?r2v23), (24, 46, ?r2v24), (25, 47, ?r2v25), (26, 48, ?r2v26), (27, 49, ?r2v27), (28, 50, ?r2v28)] (fun w' => Below wr.heap.size wr w') (by rfl) rfl (by kernel_rfl) ?r2S ?r2steps ?r2okv ?r2hlt ?r2fin
          case r2S => exact below_drew (Below.refl _ _)
          case r2steps =>
            refine Reg.from_some 0 rfl rfl (fun a w hS hK K hC => ?_) ?_
            · refine Reg.step_on (by rfl) ?_
              have e5 := hK.off 5 _ rfl rfl
              clear hK
              go_simp
              exact hC _ hS
            refine Reg.from_some 1 rfl rfl (fun a w hS hK K hC => ?_) ?_
            · refine Reg.step_on (by rfl) ?_
              have e22 := hK.slot 0 _ _ _ rfl (by kernel_rfl)
              clear hK
              go_simp
              exact hC _ hS
            refine Reg.from_some 2 rfl rfl (fun a w hS hK K hC => ?_) ?_
            · refine Reg.step_on (by rfl) ?_
              have e23 := hK.slot 1 _ _ _ rfl (by kernel_rfl)
              clear hK
              go_simp
              exact hC _ hS
            refine Reg.from_some 3 rfl rfl (fun a w hS hK K hC => ?_) ?_
            · refine Reg.step_off (wanted_off (g := 2) rfl rfl rfl (hK.slot 2 _ _ _ rfl (by kernel_rfl))) ?_
              exact hC _ hS
            refine Reg.from_some 4 rfl rfl (fun a w hS hK K hC => ?_) ?_
            · refine Reg.step_off (wanted_off (g := 2) rfl rfl rfl (hK.slot 2 _ _ _ rfl (by kernel_rfl))) ?_
              exact hC _ hS
            refine Reg.from_some 5 rfl rfl (fun a w hS hK K hC => ?_) ?_
            · refine Reg.step_off (wanted_off (g := 2) rfl rfl rfl (hK.slot 2 _ _ _ rfl (by kernel_rfl))) ?_
              exact hC _ hS
            refine Reg.from_some 6 rfl rfl (fun a w hS hK K hC => ?_) ?_
            · refine Reg.step_off (wanted_off (g := 2) rfl rfl rfl (hK.slot 2 _ _ _ rfl (by kernel_rfl))) ?_
              exact hC _ hS
            refine Reg.from_some 7 rfl rfl (fun a w hS hK K hC => ?_) ?_
            · refine Reg.step_off (wanted_off (g := 2) rfl rfl rfl (hK.slot 2 _ _ _ rfl (by kernel_rfl))) ?_
              exact hC _ hS
            refine Reg.from_some 8 rfl rfl (fun a w hS hK K hC => ?_) ?_
            · refine Reg.step_off (wanted_off (g := 2) rfl rfl rfl (hK.slot 2 _ _ _ rfl (by kernel_rfl))) ?_
              exact hC _ hS
            refine Reg.from_some 9 rfl rfl (fun a w hS hK K hC => ?_) ?_
            · refine Reg.step_off (wanted_off (g := 2) rfl rfl rfl (hK.slot 2 _ _ _ rfl (by kernel_rfl))) ?_
              exact hC _ hS
            refine Reg.from_some 10 rfl rfl (fun a w hS hK K hC => ?_) ?_
            · refine Reg.step_off (wanted_off (g := 2) rfl rfl rfl (hK.slot 2 _ _ _ rfl (by kernel_rfl))) ?_
              exact hC _ hS
            refine Reg.from_some 11 rfl rfl (fun a w hS hK K hC => ?_) ?_
            · refine Reg.step_off (wanted_off (g := 2) rfl rfl rfl (hK.slot 2 _ _ _ rfl (by kernel_rfl))) ?_
              exact hC _ hS
            refine Reg.from_some 12 rfl rfl (fun a w hS hK K hC => ?_) ?_
            · refine Reg.step_off (wanted_off (g := 2) rfl rfl rfl (hK.slot 2 _ _ _ rfl (by kernel_rfl))) ?_
              exact hC _ hS
            refine Reg.from_some 13 rfl rfl (fun a w hS hK K hC => ?_) ?_
            · refine Reg.step_on (by rfl) ?_
              have e24 := hK.slot 2 _ _ _ rfl (by kernel_rfl)
              have e34 := hK.slot 12 _ _ _ rfl (by kernel_rfl)
              clear hK
              go_simp
              exact hC _ hS
            refine Reg.from_some 14 rfl rfl (fun a w hS hK K hC => ?_) ?_
            · refine Reg.step_on (by rfl) ?_
              have e35 := hK.slot 13 _ _ _ rfl (by kernel_rfl)
              clear hK
              go_simp
              exact hC _ hS
            refine Reg.from_some 15 rfl rfl (fun a w hS hK K hC => ?_) ?_
            · refine Reg.step_on (wanted_on (g := 14) rfl rfl rfl (hK.slot 14 _ _ _ rfl (by kernel_rfl))) ?_
              have e0 := hK.off 0 _ rfl rfl
              clear hK
              go_simp
              exact hC _ hS
            refine Reg.from_some 16 rfl rfl (fun a w hS hK K hC => ?_) ?_
            · refine Reg.step_on (wanted_on (g := 14) rfl rfl rfl (hK.slot 14 _ _ _ rfl (by kernel_rfl))) ?_
              have e5 := hK.off 5 _ rfl rfl
              clear hK
              go_simp
              exact hC _ hS
            refine Reg.from_some 17 rfl rfl (fun a w hS hK K hC => ?_) ?_
            · refine Reg.step_on (wanted_on (g := 14) rfl rfl rfl (hK.slot 14 _ _ _ rfl (by kernel_rfl))) ?_
              have e37 := hK.slot 15 _ _ _ rfl (by kernel_rfl)
              have e38 := hK.slot 16 _ _ _ rfl (by kernel_rfl)
              clear hK
              go_simp
              exact hC _ hS
            refine Reg.from_some 18 rfl rfl (fun a w hS hK K hC => ?_) ?_
            · refine Reg.step_on (wanted_on (g := 14) rfl rfl rfl (hK.slot 14 _ _ _ rfl (by kernel_rfl))) ?_
              have e39 := hK.slot 17 _ _ _ rfl (by kernel_rfl)
              have z1 := cell_below HXI.out hS
              clear hK
              go_simp
              exact hC _ hS
            refine Reg.from_some 19 rfl rfl (fun a w hS hK K hC => ?_) ?_
            · refine Reg.step_on (wanted_on (g := 14) rfl rfl rfl (hK.slot 14 _ _ _ rfl (by kernel_rfl))) ?_
              have e40 := hK.slot 18 _ _ _ rfl (by kernel_rfl)
              clear hK
              go_simp
              exact hC _ hS
            refine Reg.from_some 20 rfl rfl (fun a w hS hK K hC => ?_) ?_
            · refine Reg.step_on (by rfl) ?_
              have e36 := hK.slot 14 _ _ _ rfl (by kernel_rfl)
              have e41 := hK.slot 19 _ _ _ rfl (by kernel_rfl)
              clear hK
              go_simp
              exact hC _ hS
            refine Reg.from_some 21 rfl rfl (fun a w hS hK K hC => ?_) ?_
            · refine Reg.step_on (by rfl) ?_
              have e42 := hK.slot 20 _ _ _ rfl (by kernel_rfl)
              clear hK
              go_simp
              exact hC _ hS
            refine Reg.from_some 22 rfl rfl (fun a w hS hK K hC => ?_) ?_
            · refine Reg.step_on (wanted_on (g := 21) rfl rfl rfl (hK.slot 21 _ _ _ rfl (by kernel_rfl))) ?_
              have e0 := hK.off 0 _ rfl rfl
              clear hK
              go_simp
              exact hC _ hS
            refine Reg.from_some 23 rfl rfl (fun a w hS hK K hC => ?_) ?_
            · refine Reg.step_on (wanted_on (g := 21) rfl rfl rfl (hK.slot 21 _ _ _ rfl (by kernel_rfl))) ?_
              have e5 := hK.off 5 _ rfl rfl
              clear hK
              go_simp
              exact hC _ hS
            refine Reg.from_some 24 rfl rfl (fun a w hS hK K hC => ?_) ?_
            · refine Reg.step_on (wanted_on (g := 21) rfl rfl rfl (hK.slot 21 _ _ _ rfl (by kernel_rfl))) ?_
              have e44 := hK.slot 22 _ _ _ rfl (by kernel_rfl)
              have e45 := hK.slot 23 _ _ _ rfl (by kernel_rfl)
              clear hK
              go_simp
              exact hC _ hS
            refine Reg.from_some 25 rfl rfl (fun a w hS hK K hC => ?_) ?_
            · refine Reg.step_on (wanted_on (g := 21) rfl rfl rfl (hK.slot 21 _ _ _ rfl (by kernel_rfl))) ?_
              have e46 := hK.slot 24 _ _ _ rfl (by kernel_rfl)
              have z1 := cell_below HXI.out hS
              clear hK
              go_simp
              exact hC _ hS
            refine Reg.from_some 26 rfl rfl (fun a w hS hK K hC => ?_) ?_
            · refine Reg.step_on (wanted_on (g := 21) rfl rfl rfl (hK.slot 21 _ _ _ rfl (by kernel_rfl))) ?_
              have e47 := hK.slot 25 _ _ _ rfl (by kernel_rfl)
              clear hK
              go_simp
              exact hC _ hS
            refine Reg.from_some 27 rfl rfl (fun a w hS hK K hC => ?_) ?_
            · refine Reg.step_on (wanted_on (g := 21) rfl rfl rfl (hK.slot 21 _ _ _ rfl (by kernel_rfl))) ?_
              have e48 := hK.slot 26 _ _ _ rfl (by kernel_rfl)
              clear hK
              go_simp
              exact hC _ hS
            refine Reg.from_some 28 rfl rfl (fun a w hS hK K hC => ?_) ?_
            · refine Reg.step_on (by rfl) ?_
              have e43 := hK.slot 21 _ _ _ rfl (by kernel_rfl)
              have e49 := hK.slot 27 _ _ _ rfl (by kernel_rfl)
              clear hK
              go_simp
              exact hC _ hS
            exact Reg.from_nil
          case r2okv => rfl
          case r2hlt => rfl
          case r2fin =>
            intro wz hS
            simp only [Reg.putV, List.foldl_cons, List.foldl_nil, Act.put, List.setIfInBounds_toArray, List.set_cons_zero, List.set_cons_succ]
            cases big with
            | true =>
              have HKB := Aside0.mk (HBi.out (HBB.out rfl))
              have HBz := Aside0.mk (below_step HB.out hS)
              clear hS
              have n1 : ((N : Int) == 0) = true := by rw [HKB.out]; rfl
              have n2 : (N == 0) = true := by rw [HKB.out]; rfl
              go_wp2_with (first
                | (go_at_call 14; (with_reducible refine (alive_calls _).mono ?_); rintro e w8 ⟨rfl, hb8⟩; have HB8 := Aside0.mk (below_step HBz.out hb8); clear hb8))
              go_ret
              exact ⟨rfl, HB8.out⟩
            | false =>
              have HBz := Aside0.mk (below_step HB.out hS)
              clear hS
              have HKI := Aside0.mk (show ∀ t, t < i + 1 → keyAt ks t = true from fun t ht => by
                rcases Nat.lt_or_ge t i with h | h
                · exact HK.out t h
                · obtain rfl : t = i := by omega
                  exact HOK.out HH.out HNZ.out rfl)
              go_wp2
              go_roundw
              case rel => exact ⟨i + 1, S + k.size, hlt, by push_cast; rfl, by push_cast; rfl, HSUM, HKI, HBz⟩
              case measure => simp [intOf]; omega
      · obtain ⟨j, hj⟩ : ∃ j, i = j + 1 := ⟨i - 1, by omega⟩
        obtain ⟨kj, hkj⟩ : ∃ k, k = ks.getD j z9 := ⟨_, rfl⟩
        obtain ⟨ad2, e2, hxj⟩ := at_key (Kd.C_below HR.out HB.out) j (by omega)
        cases e2
        rw [← hkj] at hxj
        have d1 : decide ((i : Int) > 0) = true := decide_eq_true (by omega)
        have d2 : decide (0 < i) = true := decide_eq_true hpos
        have d3 : decide (0 < (i : Int)) = true := decide_eq_true (by omega)
        have w1 : IntKind.i64.wrap ((i : Int) - 1) = (j : Int) := by rw [IntWalk.i64_in _ (by omega)]; omega
        have hqj : (j < ks.length) = True := eq_true (by omega)
        have HXJ := Aside0.mk hxj
        have hij : i - 1 = j := by omega
        have HIJ := Aside0.mk hij
        have HI0 := Aside0.mk (show (i == 0) = false by simp; omega)
        clear hxj hj hpos hij
        cases hless : Op.bytesLess kj.toList k.toList with
        | false =>
          have HKB := Aside0.mk (HBi.out (by unfold keyAt; rw [← HKK.out, HIJ.out, ← hkj, hless, HI0.out]; simp))
          clear hkj
          go_upto_region 7 with (fail)
          refine Reg.det [(0, 22, ?r3v0), (1, 23, ?r3v1), (2, 24, ?r3v2), (3, 25, ?r3v3), (4, 26, ?r3v4), (5, 27, ?r3v5), (6, 28, ?r3v6), (7, 29, ?r3v7), (8, 30, ?r3v8), (9, 31, ?r3v9), (10, 32, ?r3v10), (11, 33, ?r3v11), (12, 34, ?r3v12), (13, 35, ?r3v13), (14, 36, ?r3v14), (15, 37, undef), (16, 38, undef), (17, 39, undef), (18, 40, undef), (19, 41, undef), (20, 42, ?r3v20), (21, 43, ?r3v21), (22, 44, undef), (23, 45, undef), (24, 46, undef), (25, 47, undef), (26, 48, undef), (27, 49, undef), (28, 50, ?r3v28)] (fun w' => Below wr.heap.size wr w') (by rfl) rfl (by kernel_rfl) ?r3S ?r3steps ?r3okv ?r3hlt ?r3fin
          case r3S => exact below_drew (Below.refl _ _)
          case r3steps =>
            refine Reg.from_some 0 rfl rfl (fun a w hS hK K hC => ?_) ?_
            · refine Reg.step_on (by rfl) ?_
              have e5 := hK.off 5 _ rfl rfl
              clear hK
              go_simp
              exact hC _ hS
            refine Reg.from_some 1 rfl rfl (fun a w hS hK K hC => ?_) ?_
            · refine Reg.step_on (by rfl) ?_
              have e22 := hK.slot 0 _ _ _ rfl (by kernel_rfl)
              clear hK
              go_simp
              exact hC _ hS
            refine Reg.from_some 2 rfl rfl (fun a w hS hK K hC => ?_) ?_
            · refine Reg.step_on (by rfl) ?_
              have e23 := hK.slot 1 _ _ _ rfl (by kernel_rfl)
              clear hK
              go_simp
              exact hC _ hS
            refine Reg.from_some 3 rfl rfl (fun a w hS hK K hC => ?_) ?_
            · refine Reg.step_on (wanted_on (g := 2) rfl rfl rfl (hK.slot 2 _ _ _ rfl (by kernel_rfl))) ?_
              have e0 := hK.off 0 _ rfl rfl
              clear hK
              go_simp
              exact hC _ hS
            refine Reg.from_some 4 rfl rfl (fun a w hS hK K hC => ?_) ?_
            · refine Reg.step_on (wanted_on (g := 2) rfl rfl rfl (hK.slot 2 _ _ _ rfl (by kernel_rfl))) ?_
              have e5 := hK.off 5 _ rfl rfl
              clear hK
              go_simp
              exact hC _ hS
            refine Reg.from_some 5 rfl rfl (fun a w hS hK K hC => ?_) ?_
            · refine Reg.step_on (wanted_on (g := 2) rfl rfl rfl (hK.slot 2 _ _ _ rfl (by kernel_rfl))) ?_
              have e26 := hK.slot 4 _ _ _ rfl (by kernel_rfl)
              clear hK
              go_simp
              exact hC _ hS
            refine Reg.from_some 6 rfl rfl (fun a w hS hK K hC => ?_) ?_
            · refine Reg.step_on (wanted_on (g := 2) rfl rfl rfl (hK.slot 2 _ _ _ rfl (by kernel_rfl))) ?_
              have e25 := hK.slot 3 _ _ _ rfl (by kernel_rfl)
              have e27 := hK.slot 5 _ _ _ rfl (by kernel_rfl)
              clear hK
              go_simp
              exact hC _ hS
            refine Reg.from_some 7 rfl rfl (fun a w hS hK K hC => ?_) ?_
            · refine Reg.step_on (wanted_on (g := 2) rfl rfl rfl (hK.slot 2 _ _ _ rfl (by kernel_rfl))) ?_
              have e28 := hK.slot 6 _ _ _ rfl (by kernel_rfl)
              have z1 := cell_below HXI.out hS
              have z2 := cell_below HXJ.out hS
              clear hK
              go_simp
              exact hC _ hS
            refine Reg.from_some 8 rfl rfl (fun a w hS hK K hC => ?_) ?_
            · refine Reg.step_on (wanted_on (g := 2) rfl rfl rfl (hK.slot 2 _ _ _ rfl (by kernel_rfl))) ?_
              have e0 := hK.off 0 _ rfl rfl
              clear hK
              go_simp
              exact hC _ hS
            refine Reg.from_some 9 rfl rfl (fun a w hS hK K hC => ?_) ?_
            · refine Reg.step_on (wanted_on (g := 2) rfl rfl rfl (hK.slot 2 _ _ _ rfl (by kernel_rfl))) ?_
              have e5 := hK.off 5 _ rfl rfl
              clear hK
              go_simp
              exact hC _ hS
            refine Reg.from_some 10 rfl rfl (fun a w hS hK K hC => ?_) ?_
            · refine Reg.step_on (wanted_on (g := 2) rfl rfl rfl (hK.slot 2 _ _ _ rfl (by kernel_rfl))) ?_
              have e30 := hK.slot 8 _ _ _ rfl (by kernel_rfl)
              have e31 := hK.slot 9 _ _ _ rfl (by kernel_rfl)
              clear hK
              go_simp
              exact hC _ hS
            refine Reg.from_some 11 rfl rfl (fun a w hS hK K hC => ?_) ?_
            · refine Reg.step_on (wanted_on (g := 2) rfl rfl rfl (hK.slot 2 _ _ _ rfl (by kernel_rfl))) ?_
              have e32 := hK.slot 10 _ _ _ rfl (by kernel_rfl)
              have z1 := cell_below HXI.out hS
              have z2 := cell_below HXJ.out hS
              clear hK
              go_simp
              exact hC _ hS
            refine Reg.from_some 12 rfl rfl (fun a w hS hK K hC => ?_) ?_
            · refine Reg.step_on (wanted_on (g := 2) rfl rfl rfl (hK.slot 2 _ _ _ rfl (by kernel_rfl))) ?_
              have e29 := hK.slot 7 _ _ _ rfl (by kernel_rfl)
              have e33 := hK.slot 11 _ _ _ rfl (by kernel_rfl)
              clear hK
              go_simp
              exact hC _ hS
            refine Reg.from_some 13 rfl rfl (fun a w hS hK K hC => ?_) ?_
            · refine Reg.step_on (by rfl) ?_
              have e24 := hK.slot 2 _ _ _ rfl (by kernel_rfl)
              have e34 := hK.slot 12 _ _ _ rfl (by kernel_rfl)
              clear hK
              go_simp
              exact hC _ hS
            refine Reg.from_some 14 rfl rfl (fun a w hS hK K hC => ?_) ?_
            · refine Reg.step_on (by rfl) ?_
              have e35 := hK.slot 13 _ _ _ rfl (by kernel_rfl)
              clear hK
              go_simp
              exact hC _ hS
            refine Reg.from_some 15 rfl rfl (fun a w hS hK K hC => ?_) ?_
            · refine Reg.step_off (wanted_off (g := 14) rfl rfl rfl (hK.slot 14 _ _ _ rfl (by kernel_rfl))) ?_
              exact hC _ hS
            refine Reg.from_some 16 rfl rfl (fun a w hS hK K hC => ?_) ?_
            · refine Reg.step_off (wanted_off (g := 14) rfl rfl rfl (hK.slot 14 _ _ _ rfl (by kernel_rfl))) ?_
              exact hC _ hS
            refine Reg.from_some 17 rfl rfl (fun a w hS hK K hC => ?_) ?_
            · refine Reg.step_off (wanted_off (g := 14) rfl rfl rfl (hK.slot 14 _ _ _ rfl (by kernel_rfl))) ?_
              exact hC _ hS
            refine Reg.from_some 18 rfl rfl (fun a w hS hK K hC => ?_) ?_
            · refine Reg.step_off (wanted_off (g := 14) rfl rfl rfl (hK.slot 14 _ _ _ rfl (by kernel_rfl))) ?_
              exact hC _ hS
            refine Reg.from_some 19 rfl rfl (fun a w hS hK K hC => ?_) ?_
            · refine Reg.step_off (wanted_off (g := 14) rfl rfl rfl (hK.slot 14 _ _ _ rfl (by kernel_rfl))) ?_
              exact hC _ hS
            refine Reg.from_some 20 rfl rfl (fun a w hS hK K hC => ?_) ?_
            · refine Reg.step_on (by rfl) ?_
              have e36 := hK.slot 14 _ _ _ rfl (by kernel_rfl)
              have e41 := hK.slot 19 _ _ _ rfl (by kernel_rfl)
              clear hK
              go_simp
              exact hC _ hS
            refine Reg.from_some 21 rfl rfl (fun a w hS hK K hC => ?_) ?_
            · refine Reg.step_on (by rfl) ?_
              have e42 := hK.slot 20 _ _ _ rfl (by kernel_rfl)
              clear hK
              go_simp
              exact hC _ hS
            refine Reg.from_some 22 rfl rfl (fun a w hS hK K hC => ?_) ?_
            · refine Reg.step_off (wanted_off (g := 21) rfl rfl rfl (hK.slot 21 _ _ _ rfl (by kernel_rfl))) ?_
              exact hC _ hS
            refine Reg.from_some 23 rfl rfl (fun a w hS hK K hC => ?_) ?_
            · refine Reg.step_off (wanted_off (g := 21) rfl rfl rfl (hK.slot 21 _ _ _ rfl (by kernel_rfl))) ?_
              exact hC _ hS
            refine Reg.from_some 24 rfl rfl (fun a w hS hK K hC => ?_) ?_
            · refine Reg.step_off (wanted_off (g := 21) rfl rfl rfl (hK.slot 21 _ _ _ rfl (by kernel_rfl))) ?_
              exact hC _ hS
            refine Reg.from_some 25 rfl rfl (fun a w hS hK K hC => ?_) ?_
            · refine Reg.step_off (wanted_off (g := 21) rfl rfl rfl (hK.slot 21 _ _ _ rfl (by kernel_rfl))) ?_
              exact hC _ hS
            refine Reg.from_some 26 rfl rfl (fun a w hS hK K hC => ?_) ?_
            · refine Reg.step_off (wanted_off (g := 21) rfl rfl rfl (hK.slot 21 _ _ _ rfl (by kernel_rfl))) ?_
              exact hC _ hS
            refine Reg.from_some 27 rfl rfl (fun a w hS hK K hC => ?_) ?_
            · refine Reg.step_off (wanted_off (g := 21) rfl rfl rfl (hK.slot 21 _ _ _ rfl (by kernel_rfl))) ?_
              exact hC _ hS
            refine Reg.from_some 28 rfl rfl (fun a w hS hK K hC => ?_) ?_
            · refine Reg.step_on (by rfl) ?_
              have e43 := hK.slot 21 _ _ _ rfl (by kernel_rfl)
              have e49 := hK.slot 27 _ _ _ rfl (by kernel_rfl)
              clear hK
              go_simp
              exact hC _ hS
            exact Reg.from_nil
          case r3okv => rfl
          case r3hlt => rfl
          case r3fin =>
            intro wz hS
            simp only [Reg.putV, List.foldl_cons, List.foldl_nil, Act.put, List.setIfInBounds_toArray, List.set_cons_zero, List.set_cons_succ]
            have HBz := Aside0.mk (below_step HB.out hS)
            clear hS
            have n1 : ((N : Int) == 0) = true := by rw [HKB.out]; rfl
            have n2 : (N == 0) = true := by rw [HKB.out]; rfl
            go_wp2_with (first
              | (go_at_call 14; (with_reducible refine (alive_calls _).mono ?_); rintro e w8 ⟨rfl, hb8⟩; have HB8 := Aside0.mk (below_step HBz.out hb8); clear hb8))
            go_ret
            exact ⟨rfl, HB8.out⟩
        | true =>
          have HH := Aside0.mk (show i = 0 ∨ Op.bytesLess (ks.getD (i - 1) z9).toList k.toList = true from .inr (by rw [HIJ.out, ← hkj]; exact hless))
          clear hkj
          by_cases hz : k.size = 0
          · have e1 : decide (k.size = 0) = true := decide_eq_true hz
            rw [e1] at e0
            have HKB := Aside0.mk (HBi.out (HBZ.out hz))
            clear hz e1
            go_upto_region 7 with (fail)
            refine Reg.det [(0, 22, ?r4v0), (1, 23, ?r4v1), (2, 24, ?r4v2), (3, 25, ?r4v3), (4, 26, ?r4v4), (5, 27, ?r4v5), (6, 28, ?r4v6), (7, 29, ?r4v7), (8, 30, ?r4v8), (9, 31, ?r4v9), (10, 32, ?r4v10), (11, 33, ?r4v11), (12, 34, ?r4v12), (13, 35, ?r4v13), (14, 36, ?r4v14), (15, 37, ?r4v15), (16, 38, ?r4v16), (17, 39, ?r4v17), (18, 40, ?r4v18), (19, 41, ?r4v19), (20, 42, ?r4v20), (21, 43, ?r4v21), (22, 44, undef), (23, 45, undef), (24, 46, undef), (25, 47, undef), (26, 48, undef), (27, 49, undef), (28, 50, ?r4v28)] (fun w' => Below wr.heap.size wr w') (by rfl) rfl (by kernel_rfl) ?r4S ?r4steps ?r4okv ?r4hlt ?r4fin
            case r4S => exact below_drew (Below.refl _ _)
            case r4steps =>
              refine Reg.from_some 0 rfl rfl (fun a w hS hK K hC => ?_) ?_
              · refine Reg.step_on (by rfl) ?_
                have e5 := hK.off 5 _ rfl rfl
                clear hK
                go_simp
                exact hC _ hS
              refine Reg.from_some 1 rfl rfl (fun a w hS hK K hC => ?_) ?_
              · refine Reg.step_on (by rfl) ?_
                have e22 := hK.slot 0 _ _ _ rfl (by kernel_rfl)
                clear hK
                go_simp
                exact hC _ hS
              refine Reg.from_some 2 rfl rfl (fun a w hS hK K hC => ?_) ?_
              · refine Reg.step_on (by rfl) ?_
                have e23 := hK.slot 1 _ _ _ rfl (by kernel_rfl)
                clear hK
                go_simp
                exact hC _ hS
              refine Reg.from_some 3 rfl rfl (fun a w hS hK K hC => ?_) ?_
              · refine Reg.step_on (wanted_on (g := 2) rfl rfl rfl (hK.slot 2 _ _ _ rfl (by kernel_rfl))) ?_
                have e0 := hK.off 0 _ rfl rfl
                clear hK
                go_simp
                exact hC _ hS
              refine Reg.from_some 4 rfl rfl (fun a w hS hK K hC => ?_) ?_
              · refine Reg.step_on (wanted_on (g := 2) rfl rfl rfl (hK.slot 2 _ _ _ rfl (by kernel_rfl))) ?_
                have e5 := hK.off 5 _ rfl rfl
                clear hK
                go_simp
                exact hC _ hS
              refine Reg.from_some 5 rfl rfl (fun a w hS hK K hC => ?_) ?_
              · refine Reg.step_on (wanted_on (g := 2) rfl rfl rfl (hK.slot 2 _ _ _ rfl (by kernel_rfl))) ?_
                have e26 := hK.slot 4 _ _ _ rfl (by kernel_rfl)
                clear hK
                go_simp
                exact hC _ hS
              refine Reg.from_some 6 rfl rfl (fun a w hS hK K hC => ?_) ?_
              · refine Reg.step_on (wanted_on (g := 2) rfl rfl rfl (hK.slot 2 _ _ _ rfl (by kernel_rfl))) ?_
                have e25 := hK.slot 3 _ _ _ rfl (by kernel_rfl)
                have e27 := hK.slot 5 _ _ _ rfl (by kernel_rfl)
                clear hK
                go_simp
                exact hC _ hS
              refine Reg.from_some 7 rfl rfl (fun a w hS hK K hC => ?_) ?_
              · refine Reg.step_on (wanted_on (g := 2) rfl rfl rfl (hK.slot 2 _ _ _ rfl (by kernel_rfl))) ?_
                have e28 := hK.slot 6 _ _ _ rfl (by kernel_rfl)
                have z1 := cell_below HXI.out hS
                have z2 := cell_below HXJ.out hS
                clear hK
                go_simp
                exact hC _ hS
              refine Reg.from_some 8 rfl rfl (fun a w hS hK K hC => ?_) ?_
              · refine Reg.step_on (wanted_on (g := 2) rfl rfl rfl (hK.slot 2 _ _ _ rfl (by kernel_rfl))) ?_
                have e0 := hK.off 0 _ rfl rfl
                clear hK
                go_simp
                exact hC _ hS
              refine Reg.from_some 9 rfl rfl (fun a w hS hK K hC => ?_) ?_
              · refine Reg.step_on (wanted_on (g := 2) rfl rfl rfl (hK.slot 2 _ _ _ rfl (by kernel_rfl))) ?_
                have e5 := hK.off 5 _ rfl rfl
                clear hK
                go_simp
                exact hC _ hS
              refine Reg.from_some 10 rfl rfl (fun a w hS hK K hC => ?_) ?_
              · refine Reg.step_on (wanted_on (g := 2) rfl rfl rfl (hK.slot 2 _ _ _ rfl (by kernel_rfl))) ?_
                have e30 := hK.slot 8 _ _ _ rfl (by kernel_rfl)
                have e31 := hK.slot 9 _ _ _ rfl (by kernel_rfl)
                clear hK
                go_simp
                exact hC _ hS
              refine Reg.from_some 11 rfl rfl (fun a w hS hK K hC => ?_) ?_
              · refine Reg.step_on (wanted_on (g := 2) rfl rfl rfl (hK.slot 2 _ _ _ rfl (by kernel_rfl))) ?_
                have e32 := hK.slot 10 _ _ _ rfl (by kernel_rfl)
                have z1 := cell_below HXI.out hS
                have z2 := cell_below HXJ.out hS
                clear hK
                go_simp
                exact hC _ hS
              refine Reg.from_some 12 rfl rfl (fun a w hS hK K hC => ?_) ?_
              · refine Reg.step_on (wanted_on (g := 2) rfl rfl rfl (hK.slot 2 _ _ _ rfl (by kernel_rfl))) ?_
                have e29 := hK.slot 7 _ _ _ rfl (by kernel_rfl)
                have e33 := hK.slot 11 _ _ _ rfl (by kernel_rfl)
                clear hK
                go_simp
                exact hC _ hS
              refine Reg.from_some 13 rfl rfl (fun a w hS hK K hC => ?_) ?_
              · refine Reg.step_on (by rfl) ?_
                have e24 := hK.slot 2 _ _ _ rfl (by kernel_rfl)
                have e34 := hK.slot 12 _ _ _ rfl (by kernel_rfl)
                clear hK
                go_simp
                exact hC _ hS
              refine Reg.from_some 14 rfl rfl (fun a w hS hK K hC => ?_) ?_
              · refine Reg.step_on (by rfl) ?_
                have e35 := hK.slot 13 _ _ _ rfl (by kernel_rfl)
                clear hK
                go_simp
                exact hC _ hS
              refine Reg.from_some 15 rfl rfl (fun a w hS hK K hC => ?_) ?_
              · refine Reg.step_on (wanted_on (g := 14) rfl rfl rfl (hK.slot 14 _ _ _ rfl (by kernel_rfl))) ?_
                have e0 := hK.off 0 _ rfl rfl
                clear hK
                go_simp
                exact hC _ hS
              refine Reg.from_some 16 rfl rfl (fun a w hS hK K hC => ?_) ?_
              · refine Reg.step_on (wanted_on (g := 14) rfl rfl rfl (hK.slot 14 _ _ _ rfl (by kernel_rfl))) ?_
                have e5 := hK.off 5 _ rfl rfl
                clear hK
                go_simp
                exact hC _ hS
              refine Reg.from_some 17 rfl rfl (fun a w hS hK K hC => ?_) ?_
              · refine Reg.step_on (wanted_on (g := 14) rfl rfl rfl (hK.slot 14 _ _ _ rfl (by kernel_rfl))) ?_
                have e37 := hK.slot 15 _ _ _ rfl (by kernel_rfl)
                have e38 := hK.slot 16 _ _ _ rfl (by kernel_rfl)
                clear hK
                go_simp
                exact hC _ hS
              refine Reg.from_some 18 rfl rfl (fun a w hS hK K hC => ?_) ?_
              · refine Reg.step_on (wanted_on (g := 14) rfl rfl rfl (hK.slot 14 _ _ _ rfl (by kernel_rfl))) ?_
                have e39 := hK.slot 17 _ _ _ rfl (by kernel_rfl)
                have z1 := cell_below HXI.out hS
                have z2 := cell_below HXJ.out hS
                clear hK
                go_simp
                exact hC _ hS
              refine Reg.from_some 19 rfl rfl (fun a w hS hK K hC => ?_) ?_
              · refine Reg.step_on (wanted_on (g := 14) rfl rfl rfl (hK.slot 14 _ _ _ rfl (by kernel_rfl))) ?_
                have e40 := hK.slot 18 _ _ _ rfl (by kernel_rfl)
                clear hK
                go_simp
                exact hC _ hS
              refine Reg.from_some 20 rfl rfl (fun a w hS hK K hC => ?_) ?_
              · refine Reg.step_on (by rfl) ?_
                have e36 := hK.slot 14 _ _ _ rfl (by kernel_rfl)
                have e41 := hK.slot 19 _ _ _ rfl (by kernel_rfl)
                clear hK
                go_simp
                exact hC _ hS
              refine Reg.from_some 21 rfl rfl (fun a w hS hK K hC => ?_) ?_
              · refine Reg.step_on (by rfl) ?_
                have e42 := hK.slot 20 _ _ _ rfl (by kernel_rfl)
                clear hK
                go_simp
                exact hC _ hS
              refine Reg.from_some 22 rfl rfl (fun a w hS hK K hC => ?_) ?_
              · refine Reg.step_off (wanted_off (g := 21) rfl rfl rfl (hK.slot 21 _ _ _ rfl (by kernel_rfl))) ?_
                exact hC _ hS
              refine Reg.from_some 23 rfl rfl (fun a w hS hK K hC => ?_) ?_
              · refine Reg.step_off (wanted_off (g := 21) rfl rfl rfl (hK.slot 21 _ _ _ rfl (by kernel_rfl))) ?_
                exact hC _ hS
              refine Reg.from_some 24 rfl rfl (fun a w hS hK K hC => ?_) ?_
              · refine Reg.step_off (wanted_off (g := 21) rfl rfl rfl (hK.slot 21 _ _ _ rfl (by kernel_rfl))) ?_
                exact hC _ hS
              refine Reg.from_some 25 rfl rfl (fun a w hS hK K hC => ?_) ?_
              · refine Reg.step_off (wanted_off (g := 21) rfl rfl rfl (hK.slot 21 _ _ _ rfl (by kernel_rfl))) ?_
                exact hC _ hS
              refine Reg.from_some 26 rfl rfl (fun a w hS hK K hC => ?_) ?_
              · refine Reg.step_off (wanted_off (g := 21) rfl rfl rfl (hK.slot 21 _ _ _ rfl (by kernel_rfl))) ?_
                exact hC _ hS
              refine Reg.from_some 27 rfl rfl (fun a w hS hK K hC => ?_) ?_
              · refine Reg.step_off (wanted_off (g := 21) rfl rfl rfl (hK.slot 21 _ _ _ rfl (by kernel_rfl))) ?_
                exact hC _ hS
              refine Reg.from_some 28 rfl rfl (fun a w hS hK K hC => ?_) ?_
              · refine Reg.step_on (by rfl) ?_
                have e43 := hK.slot 21 _ _ _ rfl (by kernel_rfl)
                have e49 := hK.slot 27 _ _ _ rfl (by kernel_rfl)
                clear hK
                go_simp
                exact hC _ hS
              exact Reg.from_nil
            case r4okv => rfl
            case r4hlt => rfl
            case r4fin =>
              intro wz hS
              simp only [Reg.putV, List.foldl_cons, List.foldl_nil, Act.put, List.setIfInBounds_toArray, List.set_cons_zero, List.set_cons_succ]
              have HBz := Aside0.mk (below_step HB.out hS)
              clear hS
              have n1 : ((N : Int) == 0) = true := by rw [HKB.out]; rfl
              have n2 : (N == 0) = true := by rw [HKB.out]; rfl
              go_wp2_with (first
                | (go_at_call 14; (with_reducible refine (alive_calls _).mono ?_); rintro e w8 ⟨rfl, hb8⟩; have HB8 := Aside0.mk (below_step HBz.out hb8); clear hb8))
              go_ret
              exact ⟨rfl, HB8.out⟩
          · have e1 : decide (k.size = 0) = false := decide_eq_false hz
            rw [e1] at e0
            have HNZ := Aside0.mk hz
            clear hz e1
            go_upto_region 7 with (fail)
            refine Reg.det [(0, 22, ?r5v0), (1, 23, ?r5v1), (2, 24, ?r5v2), (3, 25, ?r5v3), (4, 26, ?r5v4), (5, 27, ?r5v5), (6, 28, ?r5v6), (7, 29, ?r5v7), (8, 30, ?r5v8), (9, 31, ?r5v9), (10, 32, ?r5v10), (11, 33, ?r5v11), (12, 34, ?r5v12), (13, 35, ?r5v13), (14, 36, ?r5v14), (15, 37, ?r5v15), (16, 38, ?r5v16), (17, 39, ?r5v17), (18, 40, ?r5v18), (19, 41, ?r5v19), (20, 42, ?r5v20), (21, 43, ?r5v21), (22, 44, ?r5v22), (23, 45, ?r5v23), (24, 46, ?r5v24), (25, 47, ?r5v25), (26, 48, ?r5v26), (27, 49, ?r5v27), (28, 50, ?r5v28)] (fun w' => Below wr.heap.size wr w') (by rfl) rfl (by kernel_rfl) ?r5S ?r5steps ?r5okv ?r5hlt ?r5fin
            case r5S => exact below_drew (Below.refl _ _)
            case r5steps =>
              refine Reg.from_some 0 rfl rfl (fun a w hS hK K hC => ?_) ?_
              · refine Reg.step_on (by rfl) ?_
                have e5 := hK.off 5 _ rfl rfl
                clear hK
                go_simp
                exact hC _ hS
              refine Reg.from_some 1 rfl rfl (fun a w hS hK K hC => ?_) ?_
              · refine Reg.step_on (by rfl) ?_
                have e22 := hK.slot 0 _ _ _ rfl (by kernel_rfl)
                clear hK
                go_simp
                exact hC _ hS
              refine Reg.from_some 2 rfl rfl (fun a w hS hK K hC => ?_) ?_
              · refine Reg.step_on (by rfl) ?_
                have e23 := hK.slot 1 _ _ _ rfl (by kernel_rfl)
                clear hK
                go_simp
                exact hC _ hS
              refine Reg.from_some 3 rfl rfl (fun a w hS hK K hC => ?_) ?_
              · refine Reg.step_on (wanted_on (g := 2) rfl rfl rfl (hK.slot 2 _ _ _ rfl (by kernel_rfl))) ?_
                have e0 := hK.off 0 _ rfl rfl
                clear hK
                go_simp
                exact hC _ hS
              refine Reg.from_some 4 rfl rfl (fun a w hS hK K hC => ?_) ?_
              · refine Reg.step_on (wanted_on (g := 2) rfl rfl rfl (hK.slot 2 _ _ _ rfl (by kernel_rfl))) ?_
                have e5 := hK.off 5 _ rfl rfl
                clear hK
                go_simp
                exact hC _ hS
              refine Reg.from_some 5 rfl rfl (fun a w hS hK K hC => ?_) ?_
              · refine Reg.step_on (wanted_on (g := 2) rfl rfl rfl (hK.slot 2 _ _ _ rfl (by kernel_rfl))) ?_
                have e26 := hK.slot 4 _ _ _ rfl (by kernel_rfl)
                clear hK
                go_simp
                exact hC _ hS
              refine Reg.from_some 6 rfl rfl (fun a w hS hK K hC => ?_) ?_
              · refine Reg.step_on (wanted_on (g := 2) rfl rfl rfl (hK.slot 2 _ _ _ rfl (by kernel_rfl))) ?_
                have e25 := hK.slot 3 _ _ _ rfl (by kernel_rfl)
                have e27 := hK.slot 5 _ _ _ rfl (by kernel_rfl)
                clear hK
                go_simp
                exact hC _ hS
              refine Reg.from_some 7 rfl rfl (fun a w hS hK K hC => ?_) ?_
              · refine Reg.step_on (wanted_on (g := 2) rfl rfl rfl (hK.slot 2 _ _ _ rfl (by kernel_rfl))) ?_
                have e28 := hK.slot 6 _ _ _ rfl (by kernel_rfl)
                have z1 := cell_below HXI.out hS
                have z2 := cell_below HXJ.out hS
                clear hK
                go_simp
                exact hC _ hS
              refine Reg.from_some 8 rfl rfl (fun a w hS hK K hC => ?_) ?_
              · refine Reg.step_on (wanted_on (g := 2) rfl rfl rfl (hK.slot 2 _ _ _ rfl (by kernel_rfl))) ?_
                have e0 := hK.off 0 _ rfl rfl
                clear hK
                go_simp
                exact hC _ hS
              refine Reg.from_some 9 rfl rfl (fun a w hS hK K hC => ?_) ?_
              · refine Reg.step_on (wanted_on (g := 2) rfl rfl rfl (hK.slot 2 _ _ _ rfl (by kernel_rfl))) ?_
                have e5 := hK.off 5 _ rfl rfl
                clear hK
                go_simp
                exact hC _ hS
              refine Reg.from_some 10 rfl rfl (fun a w hS hK K hC => ?_) ?_
              · refine Reg.step_on (wanted_on (g := 2) rfl rfl rfl (hK.slot 2 _ _ _ rfl (by kernel_rfl))) ?_
                have e30 := hK.slot 8 _ _ _ rfl (by kernel_rfl)
                have e31 := hK.slot 9 _ _ _ rfl (by kernel_rfl)
                clear hK
                go_simp
                exact hC _ hS
              refine Reg.from_some 11 rfl rfl (fun a w hS hK K hC => ?_) ?_
              · refine Reg.step_on (wanted_on (g := 2) rfl rfl rfl (hK.slot 2 _ _ _ rfl (by kernel_rfl))) ?_
                have e32 := hK.slot 10 _ _ _ rfl (by kernel_rfl)
                have z1 := cell_below HXI.out hS
                have z2 := cell_below HXJ.out hS
                clear hK
                go_simp
                exact hC _ hS
              refine Reg.from_some 12 rfl rfl (fun a w hS hK K hC => ?_) ?_
              · refine Reg.step_on (wanted_on (g := 2) rfl rfl rfl (hK.slot 2 _ _ _ rfl (by kernel_rfl))) ?_
                have e29 := hK.slot 7 _ _ _ rfl (by kernel_rfl)
                have e33 := hK.slot 11 _ _ _ rfl (by kernel_rfl)
                clear hK
                go_simp
                exact hC _ hS
              refine Reg.from_some 13 rfl rfl (fun a w hS hK K hC => ?_) ?_
              · refine Reg.step_on (by rfl) ?_
                have e24 := hK.slot 2 _ _ _ rfl (by kernel_rfl)
                have e34 := hK.slot 12 _ _ _ rfl (by kernel_rfl)
                clear hK
                go_simp
                exact hC _ hS
              refine Reg.from_some 14 rfl rfl (fun a w hS hK K hC => ?_) ?_
              · refine Reg.step_on (by rfl) ?_
                have e35 := hK.slot 13 _ _ _ rfl (by kernel_rfl)
                clear hK
                go_simp
                exact hC _ hS
              refine Reg.from_some 15 rfl rfl (fun a w hS hK K hC => ?_) ?_
              · refine Reg.step_on (wanted_on (g := 14) rfl rfl rfl (hK.slot 14 _ _ _ rfl (by kernel_rfl))) ?_
                have e0 := hK.off 0 _ rfl rfl
                clear hK
                go_simp
                exact hC _ hS
              refine Reg.from_some 16 rfl rfl (fun a w hS hK K hC => ?_) ?_
              · refine Reg.step_on (wanted_on (g := 14) rfl rfl rfl (hK.slot 14 _ _ _ rfl (by kernel_rfl))) ?_
                have e5 := hK.off 5 _ rfl rfl
                clear hK
                go_simp
                exact hC _ hS
              refine Reg.from_some 17 rfl rfl (fun a w hS hK K hC => ?_) ?_
              · refine Reg.step_on (wanted_on (g := 14) rfl rfl rfl (hK.slot 14 _ _ _ rfl (by kernel_rfl))) ?_
                have e37 := hK.slot 15 _ _ _ rfl (by kernel_rfl)
                have e38 := hK.slot 16 _ _ _ rfl (by kernel_rfl)
                clear hK
                go_simp
                exact hC _ hS
              refine Reg.from_some 18 rfl rfl (fun a w hS hK K hC => ?_) ?_
              · refine Reg.step_on (wanted_on (g := 14) rfl rfl rfl (hK.slot 14 _ _ _ rfl (by kernel_rfl))) ?_
                have e39 := hK.slot 17 _ _ _ rfl (by kernel_rfl)
                have z1 := cell_below HXI.out hS
                have z2 := cell_below HXJ.out hS
                clear hK
                go_simp
                exact hC _ hS
              refine Reg.from_some 19 rfl rfl (fun a w hS hK K hC => ?_) ?_
              · refine Reg.step_on (wanted_on (g := 14) rfl rfl rfl (hK.slot 14 _ _ _ rfl (by kernel_rfl))) ?_
                have e40 := hK.slot 18 _ _ _ rfl (by kernel_rfl)
                clear hK
                go_simp
                exact hC _ hS
              refine Reg.from_some 20 rfl rfl (fun a w hS hK K hC => ?_) ?_
              · refine Reg.step_on (by rfl) ?_
                have e36 := hK.slot 14 _ _ _ rfl (by kernel_rfl)
                have e41 := hK.slot 19 _ _ _ rfl (by kernel_rfl)
                clear hK
                go_simp
                exact hC _ hS
              refine Reg.from_some 21 rfl rfl (fun a w hS hK K hC => ?_) ?_
              · refine Reg.step_on (by rfl) ?_
                have e42 := hK.slot 20 _ _ _ rfl (by kernel_rfl)
                clear hK
                go_simp
                exact hC _ hS
              refine Reg.from_some 22 rfl rfl (fun a w hS hK K hC => ?_) ?_
              · refine Reg.step_on (wanted_on (g := 21) rfl rfl rfl (hK.slot 21 _ _ _ rfl (by kernel_rfl))) ?_
                have e0 := hK.off 0 _ rfl rfl
                clear hK
                go_simp
                exact hC _ hS
              refine Reg.from_some 23 rfl rfl (fun a w hS hK K hC => ?_) ?_
              · refine Reg.step_on (wanted_on (g := 21) rfl rfl rfl (hK.slot 21 _ _ _ rfl (by kernel_rfl))) ?_
                have e5 := hK.off 5 _ rfl rfl
                clear hK
                go_simp
                exact hC _ hS
              refine Reg.from_some 24 rfl rfl (fun a w hS hK K hC => ?_) ?_
              · refine Reg.step_on (wanted_on (g := 21) rfl rfl rfl (hK.slot 21 _ _ _ rfl (by kernel_rfl))) ?_
                have e44 := hK.slot 22 _ _ _ rfl (by kernel_rfl)
                have e45 := hK.slot 23 _ _ _ rfl (by kernel_rfl)
                clear hK
                go_simp
                exact hC _ hS
              refine Reg.from_some 25 rfl rfl (fun a w hS hK K hC => ?_) ?_
              · refine Reg.step_on (wanted_on (g := 21) rfl rfl rfl (hK.slot 21 _ _ _ rfl (by kernel_rfl))) ?_
                have e46 := hK.slot 24 _ _ _ rfl (by kernel_rfl)
                have z1 := cell_below HXI.out hS
                have z2 := cell_below HXJ.out hS
                clear hK
                go_simp
                exact hC _ hS
              refine Reg.from_some 26 rfl rfl (fun a w hS hK K hC => ?_) ?_
              · refine Reg.step_on (wanted_on (g := 21) rfl rfl rfl (hK.slot 21 _ _ _ rfl (by kernel_rfl))) ?_
                have e47 := hK.slot 25 _ _ _ rfl (by kernel_rfl)
                clear hK
                go_simp
                exact hC _ hS
              refine Reg.from_some 27 rfl rfl (fun a w hS hK K hC => ?_) ?_
              · refine Reg.step_on (wanted_on (g := 21) rfl rfl rfl (hK.slot 21 _ _ _ rfl (by kernel_rfl))) ?_
                have e48 := hK.slot 26 _ _ _ rfl (by kernel_rfl)
                clear hK
                go_simp
                exact hC _ hS
              refine Reg.from_some 28 rfl rfl (fun a w hS hK K hC => ?_) ?_
              · refine Reg.step_on (by rfl) ?_
                have e43 := hK.slot 21 _ _ _ rfl (by kernel_rfl)
                have e49 := hK.slot 27 _ _ _ rfl (by kernel_rfl)
                clear hK
                go_simp
                exact hC _ hS
              exact Reg.from_nil
            case r5okv => rfl
            case r5hlt => rfl
            case r5fin =>
              intro wz hS
              simp only [Reg.putV, List.foldl_cons, List.foldl_nil, Act.put, List.setIfInBounds_toArray, List.set_cons_zero, List.set_cons_succ]
              cases big with
              | true =>
                have HKB := Aside0.mk (HBi.out (HBB.out rfl))
                have HBz := Aside0.mk (below_step HB.out hS)
                clear hS
                have n1 : ((N : Int) == 0) = true := by rw [HKB.out]; rfl
                have n2 : (N == 0) = true := by rw [HKB.out]; rfl
                go_wp2_with (first
                  | (go_at_call 14; (with_reducible refine (alive_calls _).mono ?_); rintro e w8 ⟨rfl, hb8⟩; have HB8 := Aside0.mk (below_step HBz.out hb8); clear hb8))
                go_ret
                exact ⟨rfl, HB8.out⟩
              | false =>
                have HBz := Aside0.mk (below_step HB.out hS)
                clear hS
                have HKI := Aside0.mk (show ∀ t, t < i + 1 → keyAt ks t = true from fun t ht => by
                  rcases Nat.lt_or_ge t i with h | h
                  · exact HK.out t h
                  · obtain rfl : t = i := by omega
                    exact HOK.out HH.out HNZ.out rfl)
                go_wp2
                go_roundw
                case rel => exact ⟨i + 1, S + k.size, hlt, by push_cast; rfl, by push_cast; rfl, HSUM, HKI, HBz⟩
                case measure => simp [intOf]; omega
    · have hin : i = ks.length := by omega
      subst hin
      have d0 : decide ((ks.length : Int) < (ks.length : Int)) = false := by simp
      have hasc : ascB ks = true := List.all_eq_true.2 (fun t ht => HK.out t (List.mem_range.1 ht))
      have hNb : N = bnd (ks.length + 1) ks := by rw [HN.out]; unfold boundL; rw [if_pos hasc]
      have hsum : S + 8 * ks.length = kSum ks := by have h := HSi.out; rw [List.take_length] at h; exact h
      have hge : kSum ks ≤ N := by rw [hNb]; exact bnd_ge _ _ (by omega)
      obtain ⟨L, hL⟩ : ∃ L : Nat, levelsN (ks.length : Int) = (L : Int) ∧ L ≤ 1048577 ∧ N ≤ (ks.length + L) * 81 + 9 * ks.length ∧ N ≤ 400000000 ∧ (ks.length = 0 → N = 0) := by
        rcases Nat.eq_zero_or_pos ks.length with h0 | h0
        · refine ⟨0, by rw [h0]; rfl, by omega, ?_, ?_, fun _ => ?_⟩ <;> rw [hNb, List.length_eq_zero_iff.1 h0] <;> simp [bnd]
        · have h1 := bnd_le (ks.length + 1) (ks.length + 1) ks (asc_key hasc) (by omega) h0
          have h2 := lvls_le (ks.length + 1) ks.length
          refine ⟨lvls (ks.length + 1) ks.length, ?_, by omega, by omega, by omega, fun h => absurd h (by omega)⟩
          unfold levelsN
          rw [if_neg (by omega), Int.toNat_natCast]
      obtain ⟨hL1, hL2, hL3, hL4, hL5⟩ := hL
      obtain ⟨KL, hKL⟩ := ilev_is (ks.length : Int) (by omega)
      rw [hL1] at hKL
      have HKL := Aside0.mk hKL
      obtain ⟨n, hn0⟩ : ∃ n, n = ks.length := ⟨_, rfl⟩
      have hSS := HS.out
      rw [← hn0] at hsum hL3 hL5
      have hn1 : n ≤ 1048576 := by omega
      have f1 : IntKind.i64.wrap (8 * (n : Int)) = 8 * (n : Int) := IntWalk.i64_in _ (by omega)
      have f2 : IntKind.i64.wrap ((S : Int) + 8 * (n : Int)) = (S : Int) + 8 * (n : Int) := IntWalk.i64_in _ (by omega)
      have f3 : IntKind.i64.wrap ((n : Int) + (L : Int)) = (n : Int) + (L : Int) := IntWalk.i64_in _ (by omega)
      have f4 : IntKind.i64.wrap (((n : Int) + (L : Int)) * 81) = ((n : Int) + (L : Int)) * 81 := IntWalk.i64_in _ (by omega)
      have f5 : IntKind.i64.wrap (9 * (n : Int)) = 9 * (n : Int) := IntWalk.i64_in _ (by omega)
      have f6 : IntKind.i64.wrap (((n : Int) + (L : Int)) * 81 + 9 * (n : Int)) = ((n : Int) + (L : Int)) * 81 + 9 * (n : Int) := IntWalk.i64_in _ (by omega)
      have g1 : decide ((S : Int) + 8 * (n : Int) ≤ (N : Int)) = true := decide_eq_true (by omega)
      have g2 : decide ((N : Int) ≤ ((n : Int) + (L : Int)) * 81 + 9 * (n : Int)) = true := decide_eq_true (by omega)
      obtain ⟨p, hp⟩ : ∃ p, p = decide (0 < n) := ⟨_, rfl⟩
      have q1 : decide (0 < n) = p := hp.symm
      have q2 : decide ((0 : Int) < (n : Int)) = p := by rw [hp]; congr 1; simp only [eq_iff_iff]; omega
      have q3 : decide (0 < N) = p := by
        rw [hp]
        congr 1
        simp only [eq_iff_iff]
        constructor
        · intro h
          rcases Nat.eq_zero_or_pos n with h0 | h0
          · have := hL5 h0; omega
          · exact h0
        · intro h; omega
      have q4 : decide ((0 : Int) < (N : Int)) = p := by rw [← q3]; congr 1; simp only [eq_iff_iff]; omega
      clear hasc hNb hsum hge hL1 hL2 hL3 hL4 hL5 hKL hSS hp hn1
      subst hn0
      go_wp2_with (first
        | (go_at_call 28; (with_reducible refine (image_Levels.calls KL _ _ _ HKL.out).mono ?_); rintro e w7 ⟨rfl, hb7⟩; have HB7 := Aside0.mk (below_step HB.out hb7); clear hb7)
        | (go_at_call 14; (with_reducible refine (alive_calls _).mono ?_); rintro e w8 ⟨rfl, hb8⟩; have HB8 := Aside0.mk (below_step HB7.out hb8); clear hb8))
      go_ret
      exact ⟨rfl, HB8.out⟩
end Go.Proofs.Ytpllpagbdmikpaa.PAll

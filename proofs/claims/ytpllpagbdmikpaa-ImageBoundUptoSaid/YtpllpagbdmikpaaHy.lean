import Derived.Test.YtpllpagbdmikpaaHx
namespace Go.Proofs.Ytpllpagbdmikpaa.PAll
open Go.RowKit Go.Proofs.YtpllpagbdmikpaaW.PrintWords Go.Proofs.YtpllpagbdmikpaaW.PrintLast Go.Proofs.YtpllpagbdmikpaaW.PrintMore
set_option linter.unusedSimpArgs false
set_option linter.unusedVariables false
attribute [local go_sem] max2_int min2_int max_two min_two max_three min_three max_four min_four
theorem splitL_get50 (m : List S50) (i : Nat) (hi : i < (m.length + 7) / 8) : (splitL m).getD i [] = part m i := by
  simp [splitL, List.getD, hi]
theorem row_at50 (m : List S50) {w : World} {A : Option Addr} (h : Kd.C (Kd.slice 50 k50) w A (splitL m).length (splitL m)) (i : Nat) (hi : i < (m.length + 7) / 8) :
    ∃ ad Ai ci, A = some ad ∧ w.cell? (ad.add i) = some (.slice Ai (partN m.length i) ci) ∧ partN m.length i ≤ ci ∧ Kd.C k50 w Ai (partN m.length i) (part m i) := by
  obtain ⟨ad, cc, e, _, hk, hc⟩ := Kd.C_get h [] (i : Int) (by omega) (by rw [splitL_len]; omega)
  rw [show ((i : Int)).toNat = i from rfl, splitL_get50 m i hi] at hk
  obtain ⟨Ai, ci, rfl, q4, q5⟩ := hk
  have hx := hc 0 _ rfl
  rw [show ((i : Int)).toNat * (Kd.slice 50 k50).sz + 0 = i from by simp [Kd.slice]] at hx
  rw [part_len m i hi] at hx q4 q5
  exact ⟨ad, Ai, ci, e, hx, q4, q5⟩
theorem skr_get (ks : List ByteArray) (i : Nat) (hi : i < ks.length) : (ks.map skr).getD i z50 = skr (ks.getD i z9) := by simp [List.getD, hi]
set_option maxRecDepth 100000 in
set_option maxHeartbeats 8000000 in
theorem rbound_any (A : Option Addr) (c : Nat) (ks : List ByteArray) (w : World) (hr : Kd.string.C w A ks.length ks) (hc : ks.length ≤ c) (hn : ks.length ≤ 1048576) (hG : ∀ k ∈ ks, k.size ≤ 140737488351232) :
    Calls Try.prog 31 #[.slice A ks.length c] w fun e w' => e = .returned (.int .i64 (boundL ks : Nat)) ∧ Below w.heap.size w w' := by
  have HR := Aside0.mk hr
  have HN := Aside0.mk hn
  have HG := Aside0.mk hG
  clear hr hG
  go_enter Try.func31, Try.ntmps31
  go_wp2
  go_loopw [3] (fun v3 wr => ∃ i : Nat, i ≤ ks.length ∧ v3 = .int .i64 i ∧ Aside0 (∀ t, t < i → keyAt ks t = true) ∧ Aside0 (Below w.heap.size w wr)) (fun i _ => ks.length - (intOf i).toNat)
  case atStart => exact ⟨0, Nat.zero_le _, rfl, ⟨fun t ht => absurd ht (Nat.not_lt_zero _)⟩, ⟨Below.refl _ _⟩⟩
  case round =>
    obtain ⟨i, hi, rfl, HK, HB⟩ := hrel
    by_cases hlt : i < ks.length
    · have d0 : decide ((i : Int) < (ks.length : Int)) = true := decide_eq_true (by omega)
      obtain ⟨ad, rfl, hx⟩ := at_key (Kd.C_below HR.out HB.out) i hlt
      obtain ⟨k, hk⟩ : ∃ k, k = ks.getD i z9 := ⟨_, rfl⟩
      rw [← hk] at hx
      have hksz : k.size ≤ 9223372036854775806 := by
        have h := HG.out k (by rw [hk]; simp only [List.getD, List.getElem?_eq_getElem hlt, Option.getD_some]; exact List.getElem_mem hlt)
        omega
      have hq : (i < ks.length) = True := eq_true hlt
      have HKK := Aside0.mk hk
      have HXI := Aside0.mk hx
      have hkf := rkey_f k
      clear hk hx
      cases hko : keyOk k with
      | false =>
        rw [hko] at hkf
        have HKF := Aside0.mk hkf
        have hres : boundL ks = 0 := by
          unfold boundL
          rw [if_neg]
          intro h
          have h2 := List.all_eq_true.1 h i (List.mem_range.2 hlt)
          unfold keyAt at h2
          rw [← HKK.out, hko] at h2
          simp at h2
        have HRES := Aside0.mk hres
        clear hkf hko hres
        go_upto_region 4 with (fail)
        refine Reg.det [(0, 16, ?r1v0), (1, 17, ?r1v1), (2, 18, ?r1v2), (3, 19, ?r1v3), (4, 20, ?r1v4), (5, 21, ?r1v5), (6, 22, ?r1v6), (7, 23, undef), (8, 24, undef), (9, 25, undef), (10, 26, undef), (11, 27, undef), (12, 28, undef), (13, 29, undef), (14, 30, undef), (15, 31, undef), (16, 32, undef), (17, 33, undef), (18, 34, undef), (19, 35, undef), (20, 36, undef), (21, 37, undef), (22, 38, ?r1v22)] (fun w' => Below wr.heap.size wr w') (by rfl) rfl (by kernel_rfl) ?r1S ?r1steps ?r1okv ?r1hlt ?r1fin
        case r1S => exact below_drew (Below.refl _ _)
        case r1steps =>
          refine Reg.from_some 0 rfl rfl (fun a w hS hK K hC => ?_) ?_
          · refine Reg.step_on (by rfl) ?_
            have e0 := hK.off 0 _ rfl rfl
            clear hK
            go_simp
            exact hC _ hS
          refine Reg.from_some 1 rfl rfl (fun a w hS hK K hC => ?_) ?_
          · refine Reg.step_on (by rfl) ?_
            have e3 := hK.off 3 _ rfl rfl
            clear hK
            go_simp
            exact hC _ hS
          refine Reg.from_some 2 rfl rfl (fun a w hS hK K hC => ?_) ?_
          · refine Reg.step_on (by rfl) ?_
            have e16 := hK.slot 0 _ _ _ rfl (by kernel_rfl)
            have e17 := hK.slot 1 _ _ _ rfl (by kernel_rfl)
            clear hK
            go_simp
            exact hC _ hS
          refine Reg.from_some 3 rfl rfl (fun a w hS hK K hC => ?_) ?_
          · refine Reg.step_on (by rfl) ?_
            have e18 := hK.slot 2 _ _ _ rfl (by kernel_rfl)
            have z1 := cell_below HXI.out hS
            clear hK
            go_simp
            exact hC _ hS
          refine Reg.from_some 4 rfl rfl (fun a w hS hK K hC => ?_) ?_
          · refine Reg.step_on (by rfl) ?_
            have e19 := hK.slot 3 _ _ _ rfl (by kernel_rfl)
            clear hK
            go_simp
            go_at_call 37; (with_reducible refine (pumiceref10_RightKey.calls k false w HKF.out).mono ?_)
            rintro e w' ⟨rfl, hb⟩
            exact hC w' (below_step hS hb.below)
          refine Reg.from_some 5 rfl rfl (fun a w hS hK K hC => ?_) ?_
          · refine Reg.step_on (by rfl) ?_
            have e20 := hK.slot 4 _ _ _ rfl (by kernel_rfl)
            clear hK
            go_simp
            exact hC _ hS
          refine Reg.from_some 6 rfl rfl (fun a w hS hK K hC => ?_) ?_
          · refine Reg.step_on (by rfl) ?_
            have e21 := hK.slot 5 _ _ _ rfl (by kernel_rfl)
            clear hK
            go_simp
            exact hC _ hS
          refine Reg.from_some 7 rfl rfl (fun a w hS hK K hC => ?_) ?_
          · refine Reg.step_off (wanted_off (g := 6) rfl rfl rfl (hK.slot 6 _ _ _ rfl (by kernel_rfl))) ?_
            exact hC _ hS
          refine Reg.from_some 8 rfl rfl (fun a w hS hK K hC => ?_) ?_
          · refine Reg.step_off (wanted_off (g := 6) rfl rfl rfl (hK.slot 6 _ _ _ rfl (by kernel_rfl))) ?_
            exact hC _ hS
          refine Reg.from_some 9 rfl rfl (fun a w hS hK K hC => ?_) ?_
          · refine Reg.step_off (wanted_off (g := 6) rfl rfl rfl (hK.slot 6 _ _ _ rfl (by kernel_rfl))) ?_
            exact hC _ hS
          refine Reg.from_some 10 rfl rfl (fun a w hS hK K hC => ?_) ?_
          · refine Reg.step_off (Reg.wanted_undef (g := 9) rfl rfl rfl (hK.slot 9 _ _ _ rfl (by kernel_rfl))) ?_
            exact hC _ hS
          refine Reg.from_some 11 rfl rfl (fun a w hS hK K hC => ?_) ?_
          · refine Reg.step_off (Reg.wanted_undef (g := 9) rfl rfl rfl (hK.slot 9 _ _ _ rfl (by kernel_rfl))) ?_
            exact hC _ hS
          refine Reg.from_some 12 rfl rfl (fun a w hS hK K hC => ?_) ?_
          · refine Reg.step_off (Reg.wanted_undef (g := 9) rfl rfl rfl (hK.slot 9 _ _ _ rfl (by kernel_rfl))) ?_
            exact hC _ hS
          refine Reg.from_some 13 rfl rfl (fun a w hS hK K hC => ?_) ?_
          · refine Reg.step_off (Reg.wanted_undef (g := 9) rfl rfl rfl (hK.slot 9 _ _ _ rfl (by kernel_rfl))) ?_
            exact hC _ hS
          refine Reg.from_some 14 rfl rfl (fun a w hS hK K hC => ?_) ?_
          · refine Reg.step_off (Reg.wanted_undef (g := 9) rfl rfl rfl (hK.slot 9 _ _ _ rfl (by kernel_rfl))) ?_
            exact hC _ hS
          refine Reg.from_some 15 rfl rfl (fun a w hS hK K hC => ?_) ?_
          · refine Reg.step_off (Reg.wanted_undef (g := 9) rfl rfl rfl (hK.slot 9 _ _ _ rfl (by kernel_rfl))) ?_
            exact hC _ hS
          refine Reg.from_some 16 rfl rfl (fun a w hS hK K hC => ?_) ?_
          · refine Reg.step_off (Reg.wanted_undef (g := 9) rfl rfl rfl (hK.slot 9 _ _ _ rfl (by kernel_rfl))) ?_
            exact hC _ hS
          refine Reg.from_some 17 rfl rfl (fun a w hS hK K hC => ?_) ?_
          · refine Reg.step_off (Reg.wanted_undef (g := 9) rfl rfl rfl (hK.slot 9 _ _ _ rfl (by kernel_rfl))) ?_
            exact hC _ hS
          refine Reg.from_some 18 rfl rfl (fun a w hS hK K hC => ?_) ?_
          · refine Reg.step_off (Reg.wanted_undef (g := 9) rfl rfl rfl (hK.slot 9 _ _ _ rfl (by kernel_rfl))) ?_
            exact hC _ hS
          refine Reg.from_some 19 rfl rfl (fun a w hS hK K hC => ?_) ?_
          · refine Reg.step_off (Reg.wanted_undef (g := 9) rfl rfl rfl (hK.slot 9 _ _ _ rfl (by kernel_rfl))) ?_
            exact hC _ hS
          refine Reg.from_some 20 rfl rfl (fun a w hS hK K hC => ?_) ?_
          · refine Reg.step_off (Reg.wanted_undef (g := 9) rfl rfl rfl (hK.slot 9 _ _ _ rfl (by kernel_rfl))) ?_
            exact hC _ hS
          refine Reg.from_some 21 rfl rfl (fun a w hS hK K hC => ?_) ?_
          · refine Reg.step_off (wanted_off (g := 6) rfl rfl rfl (hK.slot 6 _ _ _ rfl (by kernel_rfl))) ?_
            exact hC _ hS
          refine Reg.from_some 22 rfl rfl (fun a w hS hK K hC => ?_) ?_
          · refine Reg.step_on (by rfl) ?_
            have e22 := hK.slot 6 _ _ _ rfl (by kernel_rfl)
            have e37 := hK.slot 21 _ _ _ rfl (by kernel_rfl)
            clear hK
            go_simp
            exact hC _ hS
          exact Reg.from_nil
        case r1okv => rfl
        case r1hlt => rfl
        case r1fin =>
          intro wz hS
          simp only [Reg.putV, List.foldl_cons, List.foldl_nil, Act.put, List.setIfInBounds_toArray, List.set_cons_zero, List.set_cons_succ]
          have HBz := Aside0.mk (below_step HB.out hS)
          clear hS
          go_wp2
          go_ret
          rw [HRES.out]
          exact ⟨rfl, HBz.out⟩
      | true =>
        rw [hko] at hkf
        have HKF := Aside0.mk hkf
        have HKO := Aside0.mk hko
        clear hkf hko
        rcases Nat.eq_zero_or_pos i with h0 | hpos
        · have HKI := Aside0.mk (show ∀ t, t < i + 1 → keyAt ks t = true from fun t ht => by
            obtain rfl : t = i := by omega
            unfold keyAt
            rw [← HKK.out, HKO.out, h0]
            rfl)
          have d1 : decide ((i : Int) > 0) = false := decide_eq_false (by omega)
          have d2 : decide (0 < i) = false := decide_eq_false (by omega)
          have d3 : decide (0 < (i : Int)) = false := decide_eq_false (by omega)
          clear h0
          go_upto_region 4 with (fail)
          refine Reg.det [(0, 16, ?r2v0), (1, 17, ?r2v1), (2, 18, ?r2v2), (3, 19, ?r2v3), (4, 20, ?r2v4), (5, 21, ?r2v5), (6, 22, ?r2v6), (7, 23, ?r2v7), (8, 24, ?r2v8), (9, 25, ?r2v9), (10, 26, undef), (11, 27, undef), (12, 28, undef), (13, 29, undef), (14, 30, undef), (15, 31, undef), (16, 32, undef), (17, 33, undef), (18, 34, undef), (19, 35, undef), (20, 36, undef), (21, 37, ?r2v21), (22, 38, ?r2v22)] (fun w' => Below wr.heap.size wr w') (by rfl) rfl (by kernel_rfl) ?r2S ?r2steps ?r2okv ?r2hlt ?r2fin
          case r2S => exact below_drew (Below.refl _ _)
          case r2steps =>
            refine Reg.from_some 0 rfl rfl (fun a w hS hK K hC => ?_) ?_
            · refine Reg.step_on (by rfl) ?_
              have e0 := hK.off 0 _ rfl rfl
              clear hK
              go_simp
              exact hC _ hS
            refine Reg.from_some 1 rfl rfl (fun a w hS hK K hC => ?_) ?_
            · refine Reg.step_on (by rfl) ?_
              have e3 := hK.off 3 _ rfl rfl
              clear hK
              go_simp
              exact hC _ hS
            refine Reg.from_some 2 rfl rfl (fun a w hS hK K hC => ?_) ?_
            · refine Reg.step_on (by rfl) ?_
              have e16 := hK.slot 0 _ _ _ rfl (by kernel_rfl)
              have e17 := hK.slot 1 _ _ _ rfl (by kernel_rfl)
              clear hK
              go_simp
              exact hC _ hS
            refine Reg.from_some 3 rfl rfl (fun a w hS hK K hC => ?_) ?_
            · refine Reg.step_on (by rfl) ?_
              have e18 := hK.slot 2 _ _ _ rfl (by kernel_rfl)
              have z1 := cell_below HXI.out hS
              clear hK
              go_simp
              exact hC _ hS
            refine Reg.from_some 4 rfl rfl (fun a w hS hK K hC => ?_) ?_
            · refine Reg.step_on (by rfl) ?_
              have e19 := hK.slot 3 _ _ _ rfl (by kernel_rfl)
              clear hK
              go_simp
              go_at_call 37; (with_reducible refine (pumiceref10_RightKey.calls k true w HKF.out).mono ?_)
              rintro e w' ⟨rfl, hb⟩
              exact hC w' (below_step hS hb.below)
            refine Reg.from_some 5 rfl rfl (fun a w hS hK K hC => ?_) ?_
            · refine Reg.step_on (by rfl) ?_
              have e20 := hK.slot 4 _ _ _ rfl (by kernel_rfl)
              clear hK
              go_simp
              exact hC _ hS
            refine Reg.from_some 6 rfl rfl (fun a w hS hK K hC => ?_) ?_
            · refine Reg.step_on (by rfl) ?_
              have e21 := hK.slot 5 _ _ _ rfl (by kernel_rfl)
              clear hK
              go_simp
              exact hC _ hS
            refine Reg.from_some 7 rfl rfl (fun a w hS hK K hC => ?_) ?_
            · refine Reg.step_on (wanted_on (g := 6) rfl rfl rfl (hK.slot 6 _ _ _ rfl (by kernel_rfl))) ?_
              have e3 := hK.off 3 _ rfl rfl
              clear hK
              go_simp
              exact hC _ hS
            refine Reg.from_some 8 rfl rfl (fun a w hS hK K hC => ?_) ?_
            · refine Reg.step_on (wanted_on (g := 6) rfl rfl rfl (hK.slot 6 _ _ _ rfl (by kernel_rfl))) ?_
              have e23 := hK.slot 7 _ _ _ rfl (by kernel_rfl)
              clear hK
              go_simp
              exact hC _ hS
            refine Reg.from_some 9 rfl rfl (fun a w hS hK K hC => ?_) ?_
            · refine Reg.step_on (wanted_on (g := 6) rfl rfl rfl (hK.slot 6 _ _ _ rfl (by kernel_rfl))) ?_
              have e24 := hK.slot 8 _ _ _ rfl (by kernel_rfl)
              clear hK
              go_simp
              exact hC _ hS
            refine Reg.from_some 10 rfl rfl (fun a w hS hK K hC => ?_) ?_
            · refine Reg.step_off (wanted_off (g := 9) rfl rfl rfl (hK.slot 9 _ _ _ rfl (by kernel_rfl))) ?_
              exact hC _ hS
            refine Reg.from_some 11 rfl rfl (fun a w hS hK K hC => ?_) ?_
            · refine Reg.step_off (wanted_off (g := 9) rfl rfl rfl (hK.slot 9 _ _ _ rfl (by kernel_rfl))) ?_
              exact hC _ hS
            refine Reg.from_some 12 rfl rfl (fun a w hS hK K hC => ?_) ?_
            · refine Reg.step_off (wanted_off (g := 9) rfl rfl rfl (hK.slot 9 _ _ _ rfl (by kernel_rfl))) ?_
              exact hC _ hS
            refine Reg.from_some 13 rfl rfl (fun a w hS hK K hC => ?_) ?_
            · refine Reg.step_off (wanted_off (g := 9) rfl rfl rfl (hK.slot 9 _ _ _ rfl (by kernel_rfl))) ?_
              exact hC _ hS
            refine Reg.from_some 14 rfl rfl (fun a w hS hK K hC => ?_) ?_
            · refine Reg.step_off (wanted_off (g := 9) rfl rfl rfl (hK.slot 9 _ _ _ rfl (by kernel_rfl))) ?_
              exact hC _ hS
            refine Reg.from_some 15 rfl rfl (fun a w hS hK K hC => ?_) ?_
            · refine Reg.step_off (wanted_off (g := 9) rfl rfl rfl (hK.slot 9 _ _ _ rfl (by kernel_rfl))) ?_
              exact hC _ hS
            refine Reg.from_some 16 rfl rfl (fun a w hS hK K hC => ?_) ?_
            · refine Reg.step_off (wanted_off (g := 9) rfl rfl rfl (hK.slot 9 _ _ _ rfl (by kernel_rfl))) ?_
              exact hC _ hS
            refine Reg.from_some 17 rfl rfl (fun a w hS hK K hC => ?_) ?_
            · refine Reg.step_off (wanted_off (g := 9) rfl rfl rfl (hK.slot 9 _ _ _ rfl (by kernel_rfl))) ?_
              exact hC _ hS
            refine Reg.from_some 18 rfl rfl (fun a w hS hK K hC => ?_) ?_
            · refine Reg.step_off (wanted_off (g := 9) rfl rfl rfl (hK.slot 9 _ _ _ rfl (by kernel_rfl))) ?_
              exact hC _ hS
            refine Reg.from_some 19 rfl rfl (fun a w hS hK K hC => ?_) ?_
            · refine Reg.step_off (wanted_off (g := 9) rfl rfl rfl (hK.slot 9 _ _ _ rfl (by kernel_rfl))) ?_
              exact hC _ hS
            refine Reg.from_some 20 rfl rfl (fun a w hS hK K hC => ?_) ?_
            · refine Reg.step_off (wanted_off (g := 9) rfl rfl rfl (hK.slot 9 _ _ _ rfl (by kernel_rfl))) ?_
              exact hC _ hS
            refine Reg.from_some 21 rfl rfl (fun a w hS hK K hC => ?_) ?_
            · refine Reg.step_on (wanted_on (g := 6) rfl rfl rfl (hK.slot 6 _ _ _ rfl (by kernel_rfl))) ?_
              have e25 := hK.slot 9 _ _ _ rfl (by kernel_rfl)
              have e36 := hK.slot 20 _ _ _ rfl (by kernel_rfl)
              clear hK
              go_simp
              exact hC _ hS
            refine Reg.from_some 22 rfl rfl (fun a w hS hK K hC => ?_) ?_
            · refine Reg.step_on (by rfl) ?_
              have e22 := hK.slot 6 _ _ _ rfl (by kernel_rfl)
              have e37 := hK.slot 21 _ _ _ rfl (by kernel_rfl)
              clear hK
              go_simp
              exact hC _ hS
            exact Reg.from_nil
          case r2okv => rfl
          case r2hlt => rfl
          case r2fin =>
            intro wz hS
            simp only [Reg.putV, List.foldl_cons, List.foldl_nil, Act.put, List.setIfInBounds_toArray, List.set_cons_zero, List.set_cons_succ]
            have HBz := Aside0.mk (below_step HB.out hS)
            clear hS
            go_wp2
            go_roundw
            case rel => exact ⟨i + 1, hlt, by push_cast; rfl, HKI, HBz⟩
            case measure => simp [intOf]; omega
        · obtain ⟨j, hj⟩ : ∃ j, i = j + 1 := ⟨i - 1, by omega⟩
          obtain ⟨kj, hkj⟩ : ∃ k, k = ks.getD j z9 := ⟨_, rfl⟩
          obtain ⟨ad2, e2, hxj⟩ := at_key (Kd.C_below HR.out HB.out) j (by omega)
          cases e2
          rw [← hkj] at hxj
          have hkjs : kj.size ≤ 9223372036854775806 := by
            have hjl : j < ks.length := by omega
            have h := HG.out kj (by rw [hkj]; simp only [List.getD, List.getElem?_eq_getElem hjl, Option.getD_some]; exact List.getElem_mem hjl)
            omega
          obtain ⟨KL, hKL⟩ := rLess_ev kj k hkjs
          have hKL2 := hKL KL (Nat.le_refl _)
          have d1 : decide ((i : Int) > 0) = true := decide_eq_true (by omega)
          have d2 : decide (0 < i) = true := decide_eq_true hpos
          have d3 : decide (0 < (i : Int)) = true := decide_eq_true (by omega)
          have w1 : IntKind.i64.wrap ((i : Int) - 1) = (j : Int) := by rw [IntWalk.i64_in _ (by omega)]; omega
          have hqj : (j < ks.length) = True := eq_true (by omega)
          have HXJ := Aside0.mk hxj
          have HJ := Aside0.mk hj
          have HKJ := Aside0.mk hkj
          cases hless : Op.bytesLess kj.toList k.toList with
          | true =>
            rw [hless] at hKL2
            have HKL := Aside0.mk hKL2
            have HKI := Aside0.mk (show ∀ t, t < i + 1 → keyAt ks t = true from fun t ht => by
              rcases Nat.lt_or_ge t i with h | h
              · exact HK.out t h
              · obtain rfl : t = i := by omega
                unfold keyAt
                rw [← HKK.out, HKO.out, show t - 1 = j by omega, ← hkj, hless]
                simp)
            clear hless hxj hj hkj hpos hKL hKL2 hkjs
            go_upto_region 4 with (fail)
            refine Reg.det [(0, 16, ?r3v0), (1, 17, ?r3v1), (2, 18, ?r3v2), (3, 19, ?r3v3), (4, 20, ?r3v4), (5, 21, ?r3v5), (6, 22, ?r3v6), (7, 23, ?r3v7), (8, 24, ?r3v8), (9, 25, ?r3v9), (10, 26, ?r3v10), (11, 27, ?r3v11), (12, 28, ?r3v12), (13, 29, ?r3v13), (14, 30, ?r3v14), (15, 31, ?r3v15), (16, 32, ?r3v16), (17, 33, ?r3v17), (18, 34, ?r3v18), (19, 35, ?r3v19), (20, 36, ?r3v20), (21, 37, ?r3v21), (22, 38, ?r3v22)] (fun w' => Below wr.heap.size wr w') (by rfl) rfl (by kernel_rfl) ?r3S ?r3steps ?r3okv ?r3hlt ?r3fin
            case r3S => exact below_drew (Below.refl _ _)
            case r3steps =>
              refine Reg.from_some 0 rfl rfl (fun a w hS hK K hC => ?_) ?_
              · refine Reg.step_on (by rfl) ?_
                have e0 := hK.off 0 _ rfl rfl
                clear hK
                go_simp
                exact hC _ hS
              refine Reg.from_some 1 rfl rfl (fun a w hS hK K hC => ?_) ?_
              · refine Reg.step_on (by rfl) ?_
                have e3 := hK.off 3 _ rfl rfl
                clear hK
                go_simp
                exact hC _ hS
              refine Reg.from_some 2 rfl rfl (fun a w hS hK K hC => ?_) ?_
              · refine Reg.step_on (by rfl) ?_
                have e16 := hK.slot 0 _ _ _ rfl (by kernel_rfl)
                have e17 := hK.slot 1 _ _ _ rfl (by kernel_rfl)
                clear hK
                go_simp
                exact hC _ hS
              refine Reg.from_some 3 rfl rfl (fun a w hS hK K hC => ?_) ?_
              · refine Reg.step_on (by rfl) ?_
                have e18 := hK.slot 2 _ _ _ rfl (by kernel_rfl)
                have z1 := cell_below HXI.out hS
                have z2 := cell_below HXJ.out hS
                clear hK
                go_simp
                exact hC _ hS
              refine Reg.from_some 4 rfl rfl (fun a w hS hK K hC => ?_) ?_
              · refine Reg.step_on (by rfl) ?_
                have e19 := hK.slot 3 _ _ _ rfl (by kernel_rfl)
                clear hK
                go_simp
                go_at_call 37; (with_reducible refine (pumiceref10_RightKey.calls k true w HKF.out).mono ?_)
                rintro e w' ⟨rfl, hb⟩
                exact hC w' (below_step hS hb.below)
              refine Reg.from_some 5 rfl rfl (fun a w hS hK K hC => ?_) ?_
              · refine Reg.step_on (by rfl) ?_
                have e20 := hK.slot 4 _ _ _ rfl (by kernel_rfl)
                clear hK
                go_simp
                exact hC _ hS
              refine Reg.from_some 6 rfl rfl (fun a w hS hK K hC => ?_) ?_
              · refine Reg.step_on (by rfl) ?_
                have e21 := hK.slot 5 _ _ _ rfl (by kernel_rfl)
                clear hK
                go_simp
                exact hC _ hS
              refine Reg.from_some 7 rfl rfl (fun a w hS hK K hC => ?_) ?_
              · refine Reg.step_on (wanted_on (g := 6) rfl rfl rfl (hK.slot 6 _ _ _ rfl (by kernel_rfl))) ?_
                have e3 := hK.off 3 _ rfl rfl
                clear hK
                go_simp
                exact hC _ hS
              refine Reg.from_some 8 rfl rfl (fun a w hS hK K hC => ?_) ?_
              · refine Reg.step_on (wanted_on (g := 6) rfl rfl rfl (hK.slot 6 _ _ _ rfl (by kernel_rfl))) ?_
                have e23 := hK.slot 7 _ _ _ rfl (by kernel_rfl)
                clear hK
                go_simp
                exact hC _ hS
              refine Reg.from_some 9 rfl rfl (fun a w hS hK K hC => ?_) ?_
              · refine Reg.step_on (wanted_on (g := 6) rfl rfl rfl (hK.slot 6 _ _ _ rfl (by kernel_rfl))) ?_
                have e24 := hK.slot 8 _ _ _ rfl (by kernel_rfl)
                clear hK
                go_simp
                exact hC _ hS
              refine Reg.from_some 10 rfl rfl (fun a w hS hK K hC => ?_) ?_
              · refine Reg.step_on (wanted_on (g := 9) rfl rfl rfl (hK.slot 9 _ _ _ rfl (by kernel_rfl))) ?_
                have e0 := hK.off 0 _ rfl rfl
                clear hK
                go_simp
                exact hC _ hS
              refine Reg.from_some 11 rfl rfl (fun a w hS hK K hC => ?_) ?_
              · refine Reg.step_on (wanted_on (g := 9) rfl rfl rfl (hK.slot 9 _ _ _ rfl (by kernel_rfl))) ?_
                have e3 := hK.off 3 _ rfl rfl
                clear hK
                go_simp
                exact hC _ hS
              refine Reg.from_some 12 rfl rfl (fun a w hS hK K hC => ?_) ?_
              · refine Reg.step_on (wanted_on (g := 9) rfl rfl rfl (hK.slot 9 _ _ _ rfl (by kernel_rfl))) ?_
                have e27 := hK.slot 11 _ _ _ rfl (by kernel_rfl)
                clear hK
                go_simp
                exact hC _ hS
              refine Reg.from_some 13 rfl rfl (fun a w hS hK K hC => ?_) ?_
              · refine Reg.step_on (wanted_on (g := 9) rfl rfl rfl (hK.slot 9 _ _ _ rfl (by kernel_rfl))) ?_
                have e26 := hK.slot 10 _ _ _ rfl (by kernel_rfl)
                have e28 := hK.slot 12 _ _ _ rfl (by kernel_rfl)
                clear hK
                go_simp
                exact hC _ hS
              refine Reg.from_some 14 rfl rfl (fun a w hS hK K hC => ?_) ?_
              · refine Reg.step_on (wanted_on (g := 9) rfl rfl rfl (hK.slot 9 _ _ _ rfl (by kernel_rfl))) ?_
                have e29 := hK.slot 13 _ _ _ rfl (by kernel_rfl)
                have z1 := cell_below HXI.out hS
                have z2 := cell_below HXJ.out hS
                clear hK
                go_simp
                exact hC _ hS
              refine Reg.from_some 15 rfl rfl (fun a w hS hK K hC => ?_) ?_
              · refine Reg.step_on (wanted_on (g := 9) rfl rfl rfl (hK.slot 9 _ _ _ rfl (by kernel_rfl))) ?_
                have e0 := hK.off 0 _ rfl rfl
                clear hK
                go_simp
                exact hC _ hS
              refine Reg.from_some 16 rfl rfl (fun a w hS hK K hC => ?_) ?_
              · refine Reg.step_on (wanted_on (g := 9) rfl rfl rfl (hK.slot 9 _ _ _ rfl (by kernel_rfl))) ?_
                have e3 := hK.off 3 _ rfl rfl
                clear hK
                go_simp
                exact hC _ hS
              refine Reg.from_some 17 rfl rfl (fun a w hS hK K hC => ?_) ?_
              · refine Reg.step_on (wanted_on (g := 9) rfl rfl rfl (hK.slot 9 _ _ _ rfl (by kernel_rfl))) ?_
                have e31 := hK.slot 15 _ _ _ rfl (by kernel_rfl)
                have e32 := hK.slot 16 _ _ _ rfl (by kernel_rfl)
                clear hK
                go_simp
                exact hC _ hS
              refine Reg.from_some 18 rfl rfl (fun a w hS hK K hC => ?_) ?_
              · refine Reg.step_on (wanted_on (g := 9) rfl rfl rfl (hK.slot 9 _ _ _ rfl (by kernel_rfl))) ?_
                have e33 := hK.slot 17 _ _ _ rfl (by kernel_rfl)
                have z1 := cell_below HXI.out hS
                have z2 := cell_below HXJ.out hS
                clear hK
                go_simp
                exact hC _ hS
              refine Reg.from_some 19 rfl rfl (fun a w hS hK K hC => ?_) ?_
              · refine Reg.step_on (wanted_on (g := 9) rfl rfl rfl (hK.slot 9 _ _ _ rfl (by kernel_rfl))) ?_
                have e30 := hK.slot 14 _ _ _ rfl (by kernel_rfl)
                have e34 := hK.slot 18 _ _ _ rfl (by kernel_rfl)
                clear hK
                go_simp
                go_at_call 39; (with_reducible refine (pumiceref02_Less.calls KL kj k true w HKL.out).mono ?_)
                rintro e w' ⟨rfl, hb⟩
                exact hC w' (below_step hS hb.below)
              refine Reg.from_some 20 rfl rfl (fun a w hS hK K hC => ?_) ?_
              · refine Reg.step_on (wanted_on (g := 9) rfl rfl rfl (hK.slot 9 _ _ _ rfl (by kernel_rfl))) ?_
                have e35 := hK.slot 19 _ _ _ rfl (by kernel_rfl)
                clear hK
                go_simp
                exact hC _ hS
              refine Reg.from_some 21 rfl rfl (fun a w hS hK K hC => ?_) ?_
              · refine Reg.step_on (wanted_on (g := 6) rfl rfl rfl (hK.slot 6 _ _ _ rfl (by kernel_rfl))) ?_
                have e25 := hK.slot 9 _ _ _ rfl (by kernel_rfl)
                have e36 := hK.slot 20 _ _ _ rfl (by kernel_rfl)
                clear hK
                go_simp
                exact hC _ hS
              refine Reg.from_some 22 rfl rfl (fun a w hS hK K hC => ?_) ?_
              · refine Reg.step_on (by rfl) ?_
                have e22 := hK.slot 6 _ _ _ rfl (by kernel_rfl)
                have e37 := hK.slot 21 _ _ _ rfl (by kernel_rfl)
                clear hK
                go_simp
                exact hC _ hS
              exact Reg.from_nil
            case r3okv => rfl
            case r3hlt => rfl
            case r3fin =>
              intro wz hS
              simp only [Reg.putV, List.foldl_cons, List.foldl_nil, Act.put, List.setIfInBounds_toArray, List.set_cons_zero, List.set_cons_succ]
              have HBz := Aside0.mk (below_step HB.out hS)
              clear hS
              go_wp2
              go_roundw
              case rel => exact ⟨i + 1, hlt, by push_cast; rfl, HKI, HBz⟩
              case measure => simp [intOf]; omega
          | false =>
            rw [hless] at hKL2
            have HKL := Aside0.mk hKL2
            have hres : boundL ks = 0 := by
              unfold boundL
              rw [if_neg]
              intro h
              have h2 := List.all_eq_true.1 h i (List.mem_range.2 hlt)
              unfold keyAt at h2
              rw [← HKK.out, show i - 1 = j by omega, ← hkj, hless, show (i == 0) = false by simp; omega] at h2
              simp at h2
            have HRES := Aside0.mk hres
            clear hless hxj hj hkj hpos hKL hKL2 hkjs hres
            go_upto_region 4 with (fail)
            refine Reg.det [(0, 16, ?r4v0), (1, 17, ?r4v1), (2, 18, ?r4v2), (3, 19, ?r4v3), (4, 20, ?r4v4), (5, 21, ?r4v5), (6, 22, ?r4v6), (7, 23, ?r4v7), (8, 24, ?r4v8), (9, 25, ?r4v9), (10, 26, ?r4v10), (11, 27, ?r4v11), (12, 28, ?r4v12), (13, 29, ?r4v13), (14, 30, ?r4v14), (15, 31, ?r4v15), (16, 32, ?r4v16), (17, 33, ?r4v17), (18, 34, ?r4v18), (19, 35, ?r4v19), (20, 36, ?r4v20), (21, 37, ?r4v21), (22, 38, ?r4v22)] (fun w' => Below wr.heap.size wr w') (by rfl) rfl (by kernel_rfl) ?r4S ?r4steps ?r4okv ?r4hlt ?r4fin
            case r4S => exact below_drew (Below.refl _ _)
            case r4steps =>
              refine Reg.from_some 0 rfl rfl (fun a w hS hK K hC => ?_) ?_
              · refine Reg.step_on (by rfl) ?_
                have e0 := hK.off 0 _ rfl rfl
                clear hK
                go_simp
                exact hC _ hS
              refine Reg.from_some 1 rfl rfl (fun a w hS hK K hC => ?_) ?_
              · refine Reg.step_on (by rfl) ?_
                have e3 := hK.off 3 _ rfl rfl
                clear hK
                go_simp
                exact hC _ hS
              refine Reg.from_some 2 rfl rfl (fun a w hS hK K hC => ?_) ?_
              · refine Reg.step_on (by rfl) ?_
                have e16 := hK.slot 0 _ _ _ rfl (by kernel_rfl)
                have e17 := hK.slot 1 _ _ _ rfl (by kernel_rfl)
                clear hK
                go_simp
                exact hC _ hS
              refine Reg.from_some 3 rfl rfl (fun a w hS hK K hC => ?_) ?_
              · refine Reg.step_on (by rfl) ?_
                have e18 := hK.slot 2 _ _ _ rfl (by kernel_rfl)
                have z1 := cell_below HXI.out hS
                have z2 := cell_below HXJ.out hS
                clear hK
                go_simp
                exact hC _ hS
              refine Reg.from_some 4 rfl rfl (fun a w hS hK K hC => ?_) ?_
              · refine Reg.step_on (by rfl) ?_
                have e19 := hK.slot 3 _ _ _ rfl (by kernel_rfl)
                clear hK
                go_simp
                go_at_call 37; (with_reducible refine (pumiceref10_RightKey.calls k true w HKF.out).mono ?_)
                rintro e w' ⟨rfl, hb⟩
                exact hC w' (below_step hS hb.below)
              refine Reg.from_some 5 rfl rfl (fun a w hS hK K hC => ?_) ?_
              · refine Reg.step_on (by rfl) ?_
                have e20 := hK.slot 4 _ _ _ rfl (by kernel_rfl)
                clear hK
                go_simp
                exact hC _ hS
              refine Reg.from_some 6 rfl rfl (fun a w hS hK K hC => ?_) ?_
              · refine Reg.step_on (by rfl) ?_
                have e21 := hK.slot 5 _ _ _ rfl (by kernel_rfl)
                clear hK
                go_simp
                exact hC _ hS
              refine Reg.from_some 7 rfl rfl (fun a w hS hK K hC => ?_) ?_
              · refine Reg.step_on (wanted_on (g := 6) rfl rfl rfl (hK.slot 6 _ _ _ rfl (by kernel_rfl))) ?_
                have e3 := hK.off 3 _ rfl rfl
                clear hK
                go_simp
                exact hC _ hS
              refine Reg.from_some 8 rfl rfl (fun a w hS hK K hC => ?_) ?_
              · refine Reg.step_on (wanted_on (g := 6) rfl rfl rfl (hK.slot 6 _ _ _ rfl (by kernel_rfl))) ?_
                have e23 := hK.slot 7 _ _ _ rfl (by kernel_rfl)
                clear hK
                go_simp
                exact hC _ hS
              refine Reg.from_some 9 rfl rfl (fun a w hS hK K hC => ?_) ?_
              · refine Reg.step_on (wanted_on (g := 6) rfl rfl rfl (hK.slot 6 _ _ _ rfl (by kernel_rfl))) ?_
                have e24 := hK.slot 8 _ _ _ rfl (by kernel_rfl)
                clear hK
                go_simp
                exact hC _ hS
              refine Reg.from_some 10 rfl rfl (fun a w hS hK K hC => ?_) ?_
              · refine Reg.step_on (wanted_on (g := 9) rfl rfl rfl (hK.slot 9 _ _ _ rfl (by kernel_rfl))) ?_
                have e0 := hK.off 0 _ rfl rfl
                clear hK
                go_simp
                exact hC _ hS
              refine Reg.from_some 11 rfl rfl (fun a w hS hK K hC => ?_) ?_
              · refine Reg.step_on (wanted_on (g := 9) rfl rfl rfl (hK.slot 9 _ _ _ rfl (by kernel_rfl))) ?_
                have e3 := hK.off 3 _ rfl rfl
                clear hK
                go_simp
                exact hC _ hS
              refine Reg.from_some 12 rfl rfl (fun a w hS hK K hC => ?_) ?_
              · refine Reg.step_on (wanted_on (g := 9) rfl rfl rfl (hK.slot 9 _ _ _ rfl (by kernel_rfl))) ?_
                have e27 := hK.slot 11 _ _ _ rfl (by kernel_rfl)
                clear hK
                go_simp
                exact hC _ hS
              refine Reg.from_some 13 rfl rfl (fun a w hS hK K hC => ?_) ?_
              · refine Reg.step_on (wanted_on (g := 9) rfl rfl rfl (hK.slot 9 _ _ _ rfl (by kernel_rfl))) ?_
                have e26 := hK.slot 10 _ _ _ rfl (by kernel_rfl)
                have e28 := hK.slot 12 _ _ _ rfl (by kernel_rfl)
                clear hK
                go_simp
                exact hC _ hS
              refine Reg.from_some 14 rfl rfl (fun a w hS hK K hC => ?_) ?_
              · refine Reg.step_on (wanted_on (g := 9) rfl rfl rfl (hK.slot 9 _ _ _ rfl (by kernel_rfl))) ?_
                have e29 := hK.slot 13 _ _ _ rfl (by kernel_rfl)
                have z1 := cell_below HXI.out hS
                have z2 := cell_below HXJ.out hS
                clear hK
                go_simp
                exact hC _ hS
              refine Reg.from_some 15 rfl rfl (fun a w hS hK K hC => ?_) ?_
              · refine Reg.step_on (wanted_on (g := 9) rfl rfl rfl (hK.slot 9 _ _ _ rfl (by kernel_rfl))) ?_
                have e0 := hK.off 0 _ rfl rfl
                clear hK
                go_simp
                exact hC _ hS
              refine Reg.from_some 16 rfl rfl (fun a w hS hK K hC => ?_) ?_
              · refine Reg.step_on (wanted_on (g := 9) rfl rfl rfl (hK.slot 9 _ _ _ rfl (by kernel_rfl))) ?_
                have e3 := hK.off 3 _ rfl rfl
                clear hK
                go_simp
                exact hC _ hS
              refine Reg.from_some 17 rfl rfl (fun a w hS hK K hC => ?_) ?_
              · refine Reg.step_on (wanted_on (g := 9) rfl rfl rfl (hK.slot 9 _ _ _ rfl (by kernel_rfl))) ?_
                have e31 := hK.slot 15 _ _ _ rfl (by kernel_rfl)
                have e32 := hK.slot 16 _ _ _ rfl (by kernel_rfl)
                clear hK
                go_simp
                exact hC _ hS
              refine Reg.from_some 18 rfl rfl (fun a w hS hK K hC => ?_) ?_
              · refine Reg.step_on (wanted_on (g := 9) rfl rfl rfl (hK.slot 9 _ _ _ rfl (by kernel_rfl))) ?_
                have e33 := hK.slot 17 _ _ _ rfl (by kernel_rfl)
                have z1 := cell_below HXI.out hS
                have z2 := cell_below HXJ.out hS
                clear hK
                go_simp
                exact hC _ hS
              refine Reg.from_some 19 rfl rfl (fun a w hS hK K hC => ?_) ?_
              · refine Reg.step_on (wanted_on (g := 9) rfl rfl rfl (hK.slot 9 _ _ _ rfl (by kernel_rfl))) ?_
                have e30 := hK.slot 14 _ _ _ rfl (by kernel_rfl)
                have e34 := hK.slot 18 _ _ _ rfl (by kernel_rfl)
                clear hK
                go_simp
                go_at_call 39; (with_reducible refine (pumiceref02_Less.calls KL kj k false w HKL.out).mono ?_)
                rintro e w' ⟨rfl, hb⟩
                exact hC w' (below_step hS hb.below)
              refine Reg.from_some 20 rfl rfl (fun a w hS hK K hC => ?_) ?_
              · refine Reg.step_on (wanted_on (g := 9) rfl rfl rfl (hK.slot 9 _ _ _ rfl (by kernel_rfl))) ?_
                have e35 := hK.slot 19 _ _ _ rfl (by kernel_rfl)
                clear hK
                go_simp
                exact hC _ hS
              refine Reg.from_some 21 rfl rfl (fun a w hS hK K hC => ?_) ?_
              · refine Reg.step_on (wanted_on (g := 6) rfl rfl rfl (hK.slot 6 _ _ _ rfl (by kernel_rfl))) ?_
                have e25 := hK.slot 9 _ _ _ rfl (by kernel_rfl)
                have e36 := hK.slot 20 _ _ _ rfl (by kernel_rfl)
                clear hK
                go_simp
                exact hC _ hS
              refine Reg.from_some 22 rfl rfl (fun a w hS hK K hC => ?_) ?_
              · refine Reg.step_on (by rfl) ?_
                have e22 := hK.slot 6 _ _ _ rfl (by kernel_rfl)
                have e37 := hK.slot 21 _ _ _ rfl (by kernel_rfl)
                clear hK
                go_simp
                exact hC _ hS
              exact Reg.from_nil
            case r4okv => rfl
            case r4hlt => rfl
            case r4fin =>
              intro wz hS
              simp only [Reg.putV, List.foldl_cons, List.foldl_nil, Act.put, List.setIfInBounds_toArray, List.set_cons_zero, List.set_cons_succ]
              have HBz := Aside0.mk (below_step HB.out hS)
              clear hS
              go_wp2
              go_ret
              rw [HRES.out]
              exact ⟨rfl, HBz.out⟩
    · have hin : i = ks.length := by omega
      subst hin
      have d0 : decide ((ks.length : Int) < (ks.length : Int)) = false := by simp
      have hasc : ascB ks = true := List.all_eq_true.2 (fun t ht => HK.out t (List.mem_range.1 ht))
      obtain ⟨B, hB⟩ : ∃ B, B = bnd (ks.length + 1) ks := ⟨_, rfl⟩
      have hres : boundL ks = B := by unfold boundL; rw [if_pos hasc, hB]
      have hBl : B ≤ 1000000000 := by
        rcases Nat.eq_zero_or_pos ks.length with h0 | h0
        · rw [hB, List.length_eq_zero_iff.1 h0]; simp [bnd]
        · have h1 := bnd_le (ks.length + 1) (ks.length + 1) ks (asc_key hasc) (by omega) h0
          have h2 := lvls_le (ks.length + 1) ks.length
          omega
      have HRES := Aside0.mk hres
      have hbeq : 0 + bnd (ks.length + 1) ks = B := by omega
      have HBE := Aside0.mk hbeq
      have HASC := Aside0.mk hasc
      clear hB hres hbeq hasc
      go_wp2
      go_loopw [4, 5] (fun v4 v5 wr => ∃ i : Nat, i ≤ ks.length ∧ v5 = .int .i64 i ∧ Aside0 (Kd.R k50 50 wr w.heap.size (fun _ => True) v4 ((ks.take i).map skr)) ∧ Aside0 (Below w.heap.size w wr)) (fun _ i _ => ks.length - (intOf i).toNat)
      case atStart => exact ⟨0, Nat.zero_le _, rfl, ⟨Kd.R_nil _ _ _ _ _⟩, HB⟩
      case round =>
        obtain ⟨i, hi, rfl, HO, HB2⟩ := hrel
        by_cases hlt : i < ks.length
        · have d1 : decide ((i : Int) < (ks.length : Int)) = true := decide_eq_true (by omega)
          obtain ⟨ad, rfl, hx⟩ := at_key (Kd.C_below HR.out HB2.out) i hlt
          obtain ⟨k, hk⟩ : ∃ k, k = ks.getD i z9 := ⟨_, rfl⟩
          rw [← hk] at hx
          have hq : (i < ks.length) = True := eq_true hlt
          obtain ⟨la, hla⟩ : ∃ la, la = (ks.take i).map skr := ⟨_, rfl⟩
          have hll : la.length = i := by rw [hla, List.length_map, List.length_take]; omega
          have ho := HO.out
          rw [← hla] at ho
          have HO1 := Aside0.mk ho
          have HLA := Aside0.mk hla
          have HLL := Aside0.mk hll
          have HKK := Aside0.mk hk
          obtain ⟨A3, c3, e3⟩ := Kd.R_slice ho
          rw [hll] at e3
          subst e3
          clear ho hla hll hk HO
          go_wp2_with (first
            | ((with_reducible refine gate_builtin (b := .append) (xs := #[.tmp 45, .tmp 51]) rfl ?_); at_builtin; refine Kd.R_append k50 (w0 := w) (W := wr) w.heap.size rfl (.tmp 45) (.tmp 51) 22 50 (.agg #[(.string ⟨#[]⟩), (.int .i64 0), (.int .i64 0), (.int .i64 0)]) 40 rfl Try.underlying22 info50 rfl (by decide) (by omega) (.slice A3 i c3) la (skr k) [.string k, .int .i64 0, .int .i64 0, .int .i64 0] (fun _ => True) (fun _ => False) rfl rfl ?axP (fun _ hk => hk.elim) (fun _ _ => trivial) ?axO ?axB ?axS ?axL ?_; (case axP => exact k50_mkM _ _ _ (skr k)); (case axO => exact HO1.out); (case axB => exact HB2.out); (case axS => exact below_size HB2.out); (case axL => have := HLL.out; have := HN.out; omega); intro v9 w9 ho hb hg hat; have HO9 := Aside0.mk ho; have HB9 := Aside0.mk hb; clear ho hb hg hat))
          go_roundw
          case rel =>
            refine ⟨i + 1, hlt, ?rw1, ⟨?rw2⟩, HB9⟩
            case rw1 => push_cast; rfl
            case rw2 => have e := HO9.out; rw [HLA.out, HKK.out] at e; rw [List.take_succ_eq_append_getElem hlt, List.map_append]; rw [show ks.getD i z9 = ks[i] by simp [List.getD, hlt]] at e; exact e
          case measure => simp [intOf]; omega
        · have hin : i = ks.length := by omega
          subst hin
          have d1 : decide ((ks.length : Int) < (ks.length : Int)) = false := by simp
          have ho := HO.out
          rw [List.take_length] at ho
          obtain ⟨A3, c3, e3, hc3, _⟩ := Kd.R_reads ho
          rw [List.length_map] at e3 hc3
          subst e3
          have HV := Aside0.mk (Kd.R_V (base' := 0) ho)
          clear ho HO
          go_wp2
          go_loopw [4, 6] (fun v4 v6 w2 => ∃ (ks' : List ByteArray) (f tot : Nat) (A' : Option Addr) (c' : Nat), ks'.length ≤ c' ∧ ks'.length ≤ 1048576 ∧ v4 = .slice A' ks'.length c' ∧ v6 = .int .i64 tot ∧ Aside0 (Kd.V k50 50 w2 0 (fun _ => True) (.slice A' ks'.length c') (ks'.map skr)) ∧ Aside0 (ascB ks' = true) ∧ Aside0 (tot + bnd f ks' = B) ∧ Aside0 (ks'.length < f) ∧ Aside0 (Below w.heap.size w w2)) (fun v4 _ _ => lenOf v4)
          case atStart => exact ⟨ks, ks.length + 1, 0, A3, c3, hc3, hn, rfl, rfl, HV, HASC, HBE, ⟨Nat.lt_succ_self _⟩, HB2⟩
          case round =>
            obtain ⟨ks', f, tot, A', c', hc', hn', rfl, rfl, HC, HA, HE, HF, HB3⟩ := hrel
            by_cases h0 : ks'.length = 0
            · have d2 : decide ((ks'.length : Int) > 0) = false := decide_eq_false (by omega)
              have d3 : decide (0 < ks'.length) = false := decide_eq_false (by omega)
              have d4 : decide (0 < (ks'.length : Int)) = false := decide_eq_false (by omega)
              have ht : tot = B := by
                have h1 := HE.out
                have h2 := HF.out
                match f, h2 with
                | f + 1, _ =>
                  simp only [bnd] at h1
                  rw [if_pos h0] at h1
                  omega
              have HT := Aside0.mk ht
              clear ht h0
              go_wp2
              go_ret
              rw [HRES.out, HT.out]
              exact ⟨rfl, HB3.out⟩
            · have d2 : decide ((ks'.length : Int) > 0) = true := decide_eq_true (by omega)
              have d3 : decide (0 < ks'.length) = true := decide_eq_true (by omega)
              have d4 : decide (0 < (ks'.length : Int)) = true := decide_eq_true (by omega)
              obtain ⟨m, hm⟩ : ∃ m, m = ks'.map skr := ⟨_, rfl⟩
              have hml : m.length = ks'.length := by rw [hm, List.length_map]
              obtain ⟨q, hq⟩ : ∃ q, q = nPart ks'.length := ⟨_, rfl⟩
              have hsl : (splitL m).length = q := by rw [splitL_len, hml, hq]; rfl
              obtain ⟨f', hf'⟩ : ∃ f', f = f' + 1 := ⟨f - 1, by have := HF.out; omega⟩
              have hbn : tot + (9 * q + kSum ks' + (if q = 1 then 0 else bnd f' (heads ks'))) = B := by
                have h1 := HE.out
                rw [hf'] at h1
                simp only [bnd] at h1
                rw [if_neg h0, ← hq] at h1
                exact h1
              have hqle : q ≤ ks'.length := by rw [hq]; unfold nPart; omega
              have hq1 : 1 ≤ q := by rw [hq]; unfold nPart; omega
              have hqlt : q ≠ 1 → q < ks'.length := fun h => by rw [hq]; exact nPart_lt (by rw [hq] at h; unfold nPart at h; omega)
              obtain ⟨KS, hKS⟩ := rsplit_is m (by omega)
              have NS := pumiceref10_Split.calls KS (fun _ => True) A' c' m (splitL m) wr (by rw [hml, hm]; exact HC.out) hKS
              rw [hml] at NS
              have NSP := Aside0.mk NS
              have HM := Aside0.mk hm
              have HML := Aside0.mk hml
              have HQ := Aside0.mk hq
              have HSL := Aside0.mk hsl
              have HF' := Aside0.mk hf'
              have HBN := Aside0.mk hbn
              have HQL := Aside0.mk hqle
              have HQ1 := Aside0.mk hq1
              have HQT := Aside0.mk hqlt
              have hqs : q ≤ 1048576 := by omega
              clear NS hm hml hq hsl hf' hbn hqle hq1 hqlt hKS
              go_wp2_with (first
                | (go_at_call 27; (with_reducible refine NSP.out.mono ?_); rintro e w3 ⟨v57, rfl, ho3, hb3⟩; obtain ⟨A5, c5, e5, hc5, hr5⟩ := Kd.N_reads ho3; rw [HSL.out] at e5; subst e5; have HR5 := Aside0.mk hr5; have HB4 := Aside0.mk (below_step HB3.out hb3); clear ho3 hb3 hc5 hr5))
              go_loopw [6, 8, 9] (fun v6 v8 v9 w4 => ∃ (i T0 : Nat), i ≤ q ∧ v9 = .int .i64 i ∧ v6 = .int .i64 T0 ∧ Aside0 (T0 = tot + 9 * i + kSum (ks'.take (partLo ks'.length i))) ∧ Aside0 (Kd.R k50 50 w4 w3.heap.size (fun _ => True) v8 (((heads ks').take i).map skr)) ∧ Aside0 (Below w3.heap.size w3 w4)) (fun _ _ i _ => q - (intOf i).toNat)
              case atStart => exact ⟨0, tot, Nat.zero_le _, rfl, rfl, ⟨by simp [partLo, kSum]⟩, ⟨Kd.R_nil _ _ _ _ _⟩, ⟨Below.refl _ _⟩⟩
              case round =>
                obtain ⟨i, T0, hi, rfl, rfl, HT0, HO7, HB5⟩ := hrel
                obtain ⟨lh, hlh⟩ : ∃ l, l = ((heads ks').take i).map skr := ⟨_, rfl⟩
                have hlhl : lh.length = i := by rw [hlh, List.length_map, List.length_take, heads_len, ← HQ.out]; omega
                have ho7 := HO7.out
                rw [← hlh] at ho7
                have HO8 := Aside0.mk ho7
                have HLH := Aside0.mk hlh
                have HLHL := Aside0.mk hlhl
                obtain ⟨A7, c7, e7, hc7, hr7⟩ := Kd.R_reads ho7
                rw [hlhl] at e7 hc7
                have HC7 := Aside0.mk hc7
                subst e7
                clear ho7 hlh hlhl HO7 hr7 hc7
                by_cases hlt : i < q
                · have d5 : decide ((i : Int) < (q : Int)) = true := decide_eq_true (by omega)
                  obtain ⟨ad5, A6, c6, e5, hx5, hc6, hr6⟩ := row_at50 m (Kd.C_below HR5.out HB5.out) i (by rw [HML.out]; have := HQ.out; unfold nPart at this; omega)
                  subst e5
                  obtain ⟨pt, hpt⟩ : ∃ p, p = part ks' i := ⟨_, rfl⟩
                  obtain ⟨pm, hpm0⟩ : ∃ p, p = pt.map skr := ⟨_, rfl⟩
                  have hpl : pm.length = partN ks'.length i := by rw [hpm0, List.length_map, hpt, part_len ks' i (by have := HQ.out; unfold nPart at this; omega)]
                  have hpm : part m i = pm := by rw [HM.out, part_map, hpm0, hpt]
                  rw [HML.out, ← hpl] at hx5 hc6 hr6
                  rw [hpm] at hr6
                  have hp1 : 1 ≤ pm.length := by rw [hpm0, List.length_map, hpt]; exact part_pos ks' i (by rw [← HQ.out]; exact hlt)
                  have hp2 : pm.length ≤ 8 := by rw [hpl]; exact partN_le _ i (by have := HQ.out; unfold nPart at this; omega)
                  have hks : kSum (ks'.take (partLo ks'.length (i + 1))) = kSum (ks'.take (partLo ks'.length i)) + kSum pt := by rw [hpt]; exact kSum_part ks' i (by rw [← HQ.out]; exact hlt)
                  have hksl := kSum_take_le ks' (partLo ks'.length (i + 1))
                  have hTB : T0 + (9 + kSum pt) ≤ B := by
                    have h1 := HT0.out
                    have h2 := HBN.out
                    omega
                  have hsz : sizeOf' 0 (pm.map conv) = ((9 + kSum pt : Nat) : Int) := by rw [hpm0, map_skr, hpt]; exact size_part HA.out i (by rw [← HQ.out]; exact hlt)
                  have hpG : ∀ s ∈ pm, s.f0.size ≤ 140737488351232 := by
                    intro s hs
                    rw [hpm0] at hs
                    obtain ⟨x, hx, rfl⟩ := List.mem_map.1 hs
                    obtain ⟨jx, hjx, rfl⟩ := List.mem_iff_getElem.1 hx
                    rw [hpt] at hjx
                    obtain ⟨e1, e2⟩ := part_get ks' i jx hjx
                    have h64 := asc_key HA.out (ks'.getD (partLo ks'.length i + jx) z9) (by simp only [List.getD, List.getElem?_eq_getElem e2, Option.getD_some]; exact List.getElem_mem e2)
                    show (pt[jx]).size ≤ _
                    have e3 : pt[jx]'(by rw [hpt]; exact hjx) = (part ks' i).getD jx z9 := by subst hpt; simp [List.getD, hjx]
                    rw [e3, e1]
                    omega
                  obtain ⟨kh, hkh⟩ : ∃ k, k = pt.getD 0 z9 := ⟨_, rfl⟩
                  have herd : rd_T50 pm (0 : Int) = skr kh := by rw [hkh, ← skr_get pt 0 (by rw [hpm0, List.length_map] at hp1; omega), hpm0]; rfl
                  have HR6 := Aside0.mk hr6
                  have HC6 := Aside0.mk hc6
                  have HPT := Aside0.mk hpt
                  have HKS := Aside0.mk hks
                  have HSZ := Aside0.mk hsz
                  have HPG := Aside0.mk hpG
                  have HRD := Aside0.mk herd
                  have HKH := Aside0.mk hkh
                  have hqi : (i < q) = True := eq_true hlt
                  have hq0 : (0 < pm.length) = True := eq_true hp1
                  obtain ⟨Sz, hSz⟩ : ∃ s : Nat, s = 9 + kSum pt := ⟨_, rfl⟩
                  rw [← hSz] at hTB hsz
                  have HSz := Aside0.mk hSz
                  have HSZ2 := Aside0.mk hsz
                  have wt : IntKind.i64.wrap ((T0 : Int) + (Sz : Int)) = (T0 : Int) + (Sz : Int) := IntWalk.i64_in _ (by omega)
                  have HX5 := Aside0.mk hx5
                  obtain ⟨lh2, hlh2⟩ : ∃ l, l = lh ++ [skr kh] := ⟨_, rfl⟩
                  have HLH2 := Aside0.mk hlh2
                  clear hr6 hpt hks hpm hpl hksl hTB hsz hpG herd hkh hpm0 hSz hc6 hlh2
                  go_wp2_with (first
                    | (go_at_call 21; (with_reducible refine (rsize_any 0 A6 c6 pm _ HR6.out HC6.out HPG.out ?sz1).mono ?_); (case sz1 => omega); rintro e w5 ⟨rfl, hb5⟩; rw [HSZ2.out]; have HB6 := Aside0.mk (below_step HB5.out hb5); have HO9 := Aside0.mk (Kd.R_below HO8.out hb5); have hx6 := cell_below HX5.out hb5; have g0 := (at_T50 (Kd.C_below HR6.out hb5) (0 : Int) (Int.le_refl _) (Int.ofNat_lt.2 hp1)); obtain ⟨ad6, e6, g1, _, _, _⟩ := g0; cases e6; rw [HRD.out] at g1; (rw [show (0 : Int).toNat * 4 = 0 from rfl, Addr.add_zero'] at g1); change _ = some (Value.string kh) at g1; clear hb5)
                    | ((with_reducible refine gate_builtin (b := .append) (xs := #[.tmp 72, .tmp 81]) rfl ?_); at_builtin; refine Kd.R_append k50 (w0 := w3) (W := w5) w3.heap.size rfl (.tmp 72) (.tmp 81) 22 50 (.agg #[(.string ⟨#[]⟩), (.int .i64 0), (.int .i64 0), (.int .i64 0)]) 40 rfl Try.underlying22 info50 rfl (by decide) (by omega) (.slice A7 i c7) lh (skr kh) [.string kh, .int .i64 0, .int .i64 0, .int .i64 0] (fun _ => True) (fun _ => False) rfl rfl ?azP (fun _ hk => hk.elim) (fun _ _ => trivial) ?azO ?azB ?azS ?azL ?_; (case azP => exact k50_mkM _ _ _ (skr kh)); (case azO => exact HO9.out); (case azB => exact HB6.out); (case azS => exact below_size HB6.out); (case azL => have := HLHL.out; omega); intro v9 w9 ho hb hg hat; have HO10 := Aside0.mk ho; have HB10 := Aside0.mk hb; clear ho hb hg hat))
                  go_roundw
                  case rel =>
                    refine ⟨i + 1, T0 + Sz, hlt, ?q1, ?q4, ⟨?q2⟩, ⟨?q3⟩, HB10⟩
                    case q1 => push_cast; rfl
                    case q4 => push_cast; rfl
                    case q2 => have h1 := HT0.out; have h3 := HKS.out; have h4 := HSz.out; omega
                    case q3 => have e := HO10.out; rw [HLH.out, HKH.out, HPT.out] at e; rw [heads_take ks' i (by rw [← HQ.out]; exact hlt), List.map_append]; exact e
                  case measure => simp only [intOf]; omega
                · obtain rfl : i = q := by omega
                  have d5 : decide ((i : Int) < (i : Int)) = false := by simp
                  have hT : T0 = tot + 9 * i + kSum ks' := by
                    have h1 := HT0.out
                    have h2 : partLo ks'.length i = ks'.length := by rw [HQ.out]; exact partLo_end _
                    rw [h2, List.take_length] at h1
                    exact h1
                  have HT := Aside0.mk hT
                  clear hT
                  by_cases h1 : i = 1
                  · have e1 : ((i : Int) == 1) = true := by rw [h1]; rfl
                    have e2 : (i == 1) = true := by rw [h1]; rfl
                    have hTB : T0 = B := by
                      have h2 := HT.out
                      have h3 := HBN.out
                      rw [if_pos h1] at h3
                      omega
                    have HTB := Aside0.mk hTB
                    clear hTB h1
                    go_wp2
                    go_ret
                    rw [HRES.out, HTB.out]
                    exact ⟨rfl, below_step HB4.out HB5.out⟩
                  · have e1 : ((i : Int) == 1) = false := by simp only [beq_eq_false_iff_ne]; omega
                    have e2 : (i == 1) = false := by simp only [beq_eq_false_iff_ne]; omega
                    have hi1 := HQT.out h1
                    have hTB : T0 + bnd f' (heads ks') = B := by
                      have h2 := HT.out
                      have h3 := HBN.out
                      rw [if_neg h1] at h3
                      omega
                    have HTB := Aside0.mk hTB
                    clear hTB h1
                    go_wp2
                    go_roundw
                    case rel =>
                      have hhl : (heads ks').length = i := by rw [heads_len, ← HQ.out]
                      refine ⟨heads ks', f', T0, A7, c7, by rw [hhl]; exact HC7.out, by rw [hhl]; exact hqs, by rw [hhl], rfl, ⟨?k1⟩, ⟨asc_heads HA.out⟩, HTB, ⟨?k2⟩, ⟨below_step HB4.out HB5.out⟩⟩
                      case k1 => rw [hhl]; have e := HO8.out; rw [HLH.out, show (heads ks').take i = heads ks' by rw [← hhl, List.take_length]] at e; exact Kd.R_V e
                      case k2 => rw [hhl]; have := HF.out; have := HF'.out; omega
                    case measure => simp only [lenOf]; exact hi1
end Go.Proofs.Ytpllpagbdmikpaa.PAll

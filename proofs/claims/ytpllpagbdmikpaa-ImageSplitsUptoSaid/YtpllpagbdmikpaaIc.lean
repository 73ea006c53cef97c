import Derived.Test.YtpllpagbdmikpaaIa
import Derived.Test.YtpllpagbdmikpaaHs0
namespace Go.Proofs.Ytpllpagbdmikpaa.PAll
open Go.RowKit Go.Proofs.YtpllpagbdmikpaaW.PrintWords Go.Proofs.YtpllpagbdmikpaaW.PrintLast Go.Proofs.YtpllpagbdmikpaaW.PrintMore
set_option linter.unusedSimpArgs false
set_option linter.unusedVariables false
attribute [local go_sem] max2_int min2_int max_two min_two max_three min_three max_four min_four
theorem cell_same {W W' : World} {a : Addr} {u : Value} (h : W.cell? a = some u) (hh : ∀ k, k < W.heap.size → W'.heap[k]? = W.heap[k]?) : W'.cell? a = some u := by
  have hlt := World.block_lt_of_cell? _ _ h
  unfold World.cell? at h ⊢
  rw [hh _ hlt]
  exact h
theorem V50_of_C {A : Option Addr} {c : Nat} {l : List S50} {w : World} {b : Nat} (hr : Kd.C k50 w A l.length l) (hc : l.length ≤ c) : Kd.V k50 50 w b (fun _ => True) (.slice A l.length c) l := by
  refine Kd.V_mk hc (fun W' hW => ?_)
  have hh : ∀ k, k < w.heap.size → W'.heap[k]? = w.heap[k]? := fun k hk => hW k trivial hk
  refine ⟨rfl, hr.2.1, fun hp => ?_⟩
  obtain ⟨ad, e, hcell⟩ := hr.2.2 hp
  refine ⟨ad, e, fun j p hj => ?_⟩
  obtain ⟨cs, h1, h2, h3⟩ := hcell j p hj
  refine ⟨cs, h1, ?_, fun i u hu => cell_same (h3 i u hu) hh⟩
  rw [k50_open h2]
  exact k50_mk W' p
set_option maxRecDepth 100000 in
set_option maxHeartbeats 8000000 in
theorem ImageSplits_calls (A A' : Option Addr) (c c' : Nat) (l : List S50) (n : Int) (ks : List ByteArray) (w : World) (hr : Kd.C k50 w A l.length l) (hc : l.length ≤ c) (hl : l.length ≤ 3518437208883) (hn : n ≤ 9223372036854775807) (hr2 : Kd.string.C w A' ks.length ks) (hc2 : ks.length ≤ c') (hk1 : ks.length ≤ 1048576) (hk2 : ∀ k ∈ ks, k.size ≤ 140737488351232) :
    Calls Try.prog 9 #[.slice A l.length c, .int .i64 n, .slice A' ks.length c'] w fun e w' => e = .returned (.bool true) ∧ Below w.heap.size w w' := by
  obtain ⟨m, hm⟩ : ∃ m, m = l.map conv := ⟨_, rfl⟩
  have hml : m.length = l.length := by rw [hm, List.length_map]
  obtain ⟨q, hq⟩ : ∃ q, q = (l.length + 7) / 8 := ⟨_, rfl⟩
  have hs1 : (splitL m).length = q := by rw [splitL_len, hml, hq]
  have hs2 : (splitL l).length = q := by rw [splitL_len, hq]
  have hsl := slots_is l hl
  rw [← hm] at hsl
  obtain ⟨KS, hKS⟩ := rsplit_is l hl
  obtain ⟨N, hN⟩ : ∃ N, N = boundL ks := ⟨_, rfl⟩
  obtain ⟨L, hL⟩ : ∃ L, L = levelsN n := ⟨_, rfl⟩
  obtain ⟨KL, hKL⟩ := ilev_is n hn
  obtain ⟨KR, hKR⟩ := rlev_is n hn
  rw [← hL] at hKL hKR
  have NB := Aside0.mk (fun w h => bound_any A' c' ks w h hc2 hk1)
  have NR := Aside0.mk (fun w h => rbound_any A' c' ks w h hc2 hk1 hk2)
  rw [← hN] at NB NR
  have NSP := Aside0.mk (fun w h => pumiceref10_Split.calls KS (fun _ => True) A c l (splitL l) w h hKS)
  have HR := Aside0.mk hr
  have HR2 := Aside0.mk hr2
  have HC := Aside0.mk hc
  have HM := Aside0.mk hm
  have HML := Aside0.mk hml
  have HQ := Aside0.mk hq
  have HS1 := Aside0.mk hs1
  have HS2 := Aside0.mk hs2
  have HSL := Aside0.mk hsl
  have HKL := Aside0.mk hKL
  have HKR := Aside0.mk hKR
  have hm40 : m.length * 40 ≤ 140737488355328 := by omega
  have HM40 := Aside0.mk hm40
  have hqb : q ≤ 3518437208883 := by omega
  clear hr hc hr2 hm hml hq hs1 hs2 hsl hKS hN hL hKL hKR hk2 hm40
  go_enter Try.func9, Try.ntmps9
  go_wp2_with (first
    | (go_at_call 12; (with_reducible refine (pumicelaw10_slots.calls (l.length + 1) A c l m _ ?s1 HC.out HSL.out).mono ?_); (case s1 => exact HR.out); rintro e w1 ⟨v1, rfl, ho1, hb1⟩; have HO1 := Aside0.mk ho1; have HB1 := Aside0.mk hb1; clear ho1 hb1; obtain ⟨A1, c1, e1⟩ := Kd.R_slice HO1.out; subst e1; have h1 := Kd.R_reads' HO1.out; have HR1 := Aside0.mk h1.2; clear h1)
    | (go_at_call 11; (with_reducible refine (split_any A1 c1 m _ HR1.out.2 HR1.out.1 HM40.out).mono ?_); rintro e w2 ⟨v2, rfl, ho2, hb2⟩; have HB2 := Aside0.mk (below_step HB1.out hb2); clear hb2; obtain ⟨A2, c2, e2⟩ := Kd.R_slice ho2; rw [HS1.out] at e2; subst e2; have h2 := Kd.R_reads ho2; obtain ⟨A2', c2', e2, _, h2⟩ := h2; rw [HS1.out] at e2; cases e2; have HR3 := Aside0.mk h2; clear h2 ho2)
    | (go_at_call 27; (with_reducible refine (NSP.out _ (V50_of_C (Kd.C_below HR.out HB2.out) HC.out)).mono ?_); rintro e w3 ⟨v3, rfl, ho3, hb3⟩; obtain ⟨A5, c5, e5, _, hr5⟩ := Kd.N_reads ho3; rw [HS2.out] at e5; subst e5; have HR5 := Aside0.mk hr5; have HR4 := Aside0.mk (Kd.C_below HR3.out hb3); have HB3 := Aside0.mk (below_step HB2.out hb3); clear ho3 hb3 hr5))
  go_loopw [9] (fun v9 wr => ∃ i : Nat, i ≤ q ∧ v9 = .int .i64 i ∧ Aside0 (Below w3.heap.size w3 wr)) (fun i _ => q - (intOf i).toNat)
  case atStart => exact ⟨0, Nat.zero_le _, rfl, ⟨Below.refl _ _⟩⟩
  case round =>
    obtain ⟨i, hi, rfl, HB⟩ := hrel
    by_cases hlt : i < q
    · have d0 : decide ((i : Int) < (q : Int)) = true := decide_eq_true (by omega)
      have hqi : (i < q) = True := eq_true hlt
      obtain ⟨ad6, A6, c6, e6, hx6, hc6, hr6⟩ := row_at m (Kd.C_below HR4.out HB.out) i (by rw [HML.out, ← HQ.out]; exact hlt)
      subst e6
      obtain ⟨ad7, A7, c7, e7, hx7, hc7, hr7⟩ := row_at50 l (Kd.C_below HR5.out HB.out) i (by rw [← HQ.out]; exact hlt)
      subst e7
      obtain ⟨pb, hpb⟩ : ∃ p, p = part l i := ⟨_, rfl⟩
      obtain ⟨pa, hpa⟩ : ∃ p, p = pb.map conv := ⟨_, rfl⟩
      have hpl : partN l.length i = pb.length := by rw [hpb, part_len l i (by rw [← HQ.out]; exact hlt)]
      have hpl2 : partN l.length i = pa.length := by rw [hpa, List.length_map, hpl]
      have hpm : part m i = pa := by rw [HM.out, part_map, hpa, hpb]
      rw [HML.out, hpl2] at hx6 hc6 hr6
      rw [hpm] at hr6
      rw [hpl] at hx7 hc7 hr7
      rw [← hpb] at hr7
      have hp8 : pb.length ≤ 8 := by rw [← hpl]; exact partN_le _ i (by rw [← HQ.out]; exact hlt)
      obtain ⟨KE, hKE⟩ := same_ev pb (by omega)
      rw [← hpa] at hKE
      have HKE := Aside0.mk hKE
      have HX6 := Aside0.mk hx6
      have HX7 := Aside0.mk hx7
      have HR6 := Aside0.mk hr6
      have HR7 := Aside0.mk hr7
      have HC6 := Aside0.mk hc6
      have HC7 := Aside0.mk hc7
      clear hx6 hx7 hr6 hr7 hc6 hc7 hpb hpa hpl hpl2 hpm hKE
      go_upto_region 7 with (fail)
      refine Reg.det [(0, 26, ?r1v0), (1, 27, ?r1v1), (2, 28, ?r1v2), (3, 29, ?r1v3), (4, 30, ?r1v4), (5, 31, ?r1v5), (6, 32, ?r1v6), (7, 33, ?r1v7), (8, 34, ?r1v8), (9, 35, ?r1v9)] (fun w' => Below wr.heap.size wr w') (by rfl) rfl (by kernel_rfl) ?r1S ?r1steps ?r1okv ?r1hlt ?r1fin
      case r1S => exact below_drew (Below.refl _ _)
      case r1steps =>
        refine Reg.from_some 0 rfl rfl (fun a w hS hK K hC => ?_) ?_
        · refine Reg.step_on (by rfl) ?_
          have e7 := hK.off 7 _ rfl rfl
          clear hK
          go_simp
          exact hC _ hS
        refine Reg.from_some 1 rfl rfl (fun a w hS hK K hC => ?_) ?_
        · refine Reg.step_on (by rfl) ?_
          have e9 := hK.off 9 _ rfl rfl
          clear hK
          go_simp
          exact hC _ hS
        refine Reg.from_some 2 rfl rfl (fun a w hS hK K hC => ?_) ?_
        · refine Reg.step_on (by rfl) ?_
          have e26 := hK.slot 0 _ _ _ rfl (by kernel_rfl)
          have e27 := hK.slot 1 _ _ _ rfl (by kernel_rfl)
          clear hK
          go_simp
          exact hC _ hS
        refine Reg.from_some 3 rfl rfl (fun a w hS hK K hC => ?_) ?_
        · refine Reg.step_on (by rfl) ?_
          have e28 := hK.slot 2 _ _ _ rfl (by kernel_rfl)
          have z1 := cell_below HX6.out hS
          have z2 := cell_below HX7.out hS
          clear hK
          go_simp
          exact hC _ hS
        refine Reg.from_some 4 rfl rfl (fun a w hS hK K hC => ?_) ?_
        · refine Reg.step_on (by rfl) ?_
          have e8 := hK.off 8 _ rfl rfl
          clear hK
          go_simp
          exact hC _ hS
        refine Reg.from_some 5 rfl rfl (fun a w hS hK K hC => ?_) ?_
        · refine Reg.step_on (by rfl) ?_
          have e9 := hK.off 9 _ rfl rfl
          clear hK
          go_simp
          exact hC _ hS
        refine Reg.from_some 6 rfl rfl (fun a w hS hK K hC => ?_) ?_
        · refine Reg.step_on (by rfl) ?_
          have e30 := hK.slot 4 _ _ _ rfl (by kernel_rfl)
          have e31 := hK.slot 5 _ _ _ rfl (by kernel_rfl)
          clear hK
          go_simp
          exact hC _ hS
        refine Reg.from_some 7 rfl rfl (fun a w hS hK K hC => ?_) ?_
        · refine Reg.step_on (by rfl) ?_
          have e32 := hK.slot 6 _ _ _ rfl (by kernel_rfl)
          have z1 := cell_below HX6.out hS
          have z2 := cell_below HX7.out hS
          clear hK
          go_simp
          exact hC _ hS
        refine Reg.from_some 8 rfl rfl (fun a w hS hK K hC => ?_) ?_
        · refine Reg.step_on (by rfl) ?_
          have e29 := hK.slot 3 _ _ _ rfl (by kernel_rfl)
          have e33 := hK.slot 7 _ _ _ rfl (by kernel_rfl)
          clear hK
          go_simp
          go_at_call 26; (with_reducible refine (pumicelaw10_same.calls KE A6 c6 pa A7 c7 pb true w ?c1 HC6.out ?c2 HC7.out HKE.out).mono ?_)
          case c1 => exact Kd.C_below HR6.out hS
          case c2 => exact Kd.C_below HR7.out hS
          rintro e w' ⟨rfl, hb⟩
          exact hC w' (below_step hS hb.below)
        refine Reg.from_some 9 rfl rfl (fun a w hS hK K hC => ?_) ?_
        · refine Reg.step_on (by rfl) ?_
          have e34 := hK.slot 8 _ _ _ rfl (by kernel_rfl)
          clear hK
          go_simp
          exact hC _ hS
        exact Reg.from_nil
      case r1okv => rfl
      case r1hlt => rfl
      case r1fin =>
        intro wz hS
        simp only [Reg.putV, List.foldl_cons, List.foldl_nil, Act.put, List.setIfInBounds_toArray, List.set_cons_zero, List.set_cons_succ]
        have HBz := Aside0.mk (below_step HB.out hS)
        clear hS
        go_wp2
        go_roundw
        case rel => exact ⟨i + 1, hlt, by push_cast; rfl, HBz⟩
        case measure => simp [intOf]; omega
    · have hin : i = q := by omega
      subst hin
      have d0 : decide ((i : Int) < (i : Int)) = false := by simp
      have HB4 := Aside0.mk (below_step HB3.out HB.out)
      go_wp2_with (first
        | (go_at_call 28; (with_reducible refine (image_Levels.calls KL _ _ _ HKL.out).mono ?_); rintro e w5 ⟨rfl, hb5⟩; have HB5 := Aside0.mk (below_step HB4.out hb5); clear hb5)
        | (go_at_call 29; (with_reducible refine (pumiceref10_Levels.calls KR _ _ _ HKR.out).mono ?_); rintro e w6 ⟨rfl, hb6⟩; have HB6 := Aside0.mk (below_step HB5.out hb6.below); clear hb6)
        | (go_at_call 30; (with_reducible refine (NB.out _ (Kd.C_below HR2.out HB6.out)).mono ?_); rintro e w7 ⟨rfl, hb7⟩; have HB7 := Aside0.mk (below_step HB6.out hb7); clear hb7)
        | (go_at_call 31; (with_reducible refine (NR.out _ (Kd.C_below HR2.out HB7.out)).mono ?_); rintro e w8 ⟨rfl, hb8⟩; have HB8 := Aside0.mk (below_step HB7.out hb8); clear hb8)
        | (go_at_call 14; (with_reducible refine (alive_calls _).mono ?_); rintro e w9 ⟨rfl, hb9⟩; have HB9 := Aside0.mk (below_step HB8.out hb9); clear hb9))
      go_ret
      exact ⟨rfl, HB9.out⟩
end Go.Proofs.Ytpllpagbdmikpaa.PAll

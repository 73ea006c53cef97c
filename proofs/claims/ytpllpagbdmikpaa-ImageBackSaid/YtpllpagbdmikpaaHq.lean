import Derived.Test.YtpllpagbdmikpaaHp
namespace Go.Proofs.Ytpllpagbdmikpaa.PAll
open Go.RowKit Go.Proofs.YtpllpagbdmikpaaW.PrintWords Go.Proofs.YtpllpagbdmikpaaW.PrintLast Go.Proofs.YtpllpagbdmikpaaW.PrintMore Go.Proofs.Ytpllpagbdmikpaa.Plain
set_option linter.unusedSimpArgs false
set_option linter.unusedVariables false
attribute [local go_sem] max2_int min2_int max_two min_two max_three min_three max_four min_four
def unc (x : S69) : S50 := ⟨x.f0, ⟨x.f1.f0, x.f1.f1, x.f1.f2⟩⟩
theorem conv_unc (x : S69) : conv (unc x) = x := rfl
theorem map_unc (l : List S69) : (l.map unc).map conv = l := by
  rw [List.map_map]
  have : conv ∘ unc = id := rfl
  rw [this, List.map_id]
theorem strOfNums_size : ∀ l : List Int, (strOfNums l).size = l.length := by
  intro l
  simp [strOfNums, ByteArray.size]
theorem slotsN_size : ∀ (k : Nat) (l : List Int) (x : List S69 × List Int), Bytes l → slotsN k l = some x → ∀ s ∈ x.1, s.f0.size ≤ 256
  | 0, l, x, _, h, s, hs => by
    simp only [slotsN, Option.some.injEq] at h
    subst h
    simp at hs
  | k + 1, l, x, hl, h, s, hs => by
    rw [slotsN] at h
    obtain ⟨y, hy, h⟩ := Option.bind_eq_some_iff.1 h
    obtain ⟨z, hz, rfl⟩ := Option.map_eq_some_iff.1 h
    match l, hl, hy with
    | n :: r, hl, hy =>
      unfold slot1 at hy
      simp only at hy
      split at hy
      · cases hy
      · simp only [Option.some.injEq] at hy
        subst hy
        rcases List.mem_cons.1 hs with rfl | hs
        · have hn := hl n List.mem_cons_self
          simp only [strL, strOfNums_size, List.length_take]
          omega
        · exact slotsN_size k _ _ (fun q hq => hl q (List.mem_cons_of_mem _ (List.mem_of_mem_drop hq))) hz s hs
theorem rget_is (l : List Int) (hl : Bytes l) (h8 : l.length ≤ 3) : ∃ K, pumiceref10_get.f K l = some (getL l) := by
  obtain ⟨K, hK⟩ := rGet_ev l hl
  have hK2 : pumiceref01_Get.f K l = some (getL l) := hK K (Nat.le_refl _)
  have hb := getL_bd hl
  have h3 : getL l < 16777216 := by
    have hcases : min l.length 8 = 0 ∨ min l.length 8 = 1 ∨ min l.length 8 = 2 ∨ min l.length 8 = 3 := by omega
    rcases hcases with h | h | h | h <;> rw [h] at hb <;> omega
  have hw : wrap64 (getL l) = getL l := wrap64_of (by omega) (by omega)
  refine ⟨K, ?_⟩
  unfold pumiceref10_get.f
  rw [hK2, Option.bind_some, hw]
set_option maxRecDepth 100000 in
set_option maxHeartbeats 4000000 in
theorem runpack_short (A : Option Addr) (c : Nat) (l : List Int) (w : World) (h3 : l.length < 3) :
    Calls Try.prog 25 #[.slice A l.length c] w fun e w' => e = .returned (.tuple #[.agg #[.int .i64 0, .slice none 0 0], .bool false]) ∧ Below w.heap.size w w' := by
  have c4 : decide ((l.length : Int) < 3) = true := decide_eq_true (by omega)
  have c5 : decide (l.length < 3) = true := decide_eq_true h3
  have hu31 := Try.underlying31
  go_enter Try.func25, Try.ntmps25
  go_wp2
  refine bodyPost_ret (results_ct rfl _ _ w.heap.size 31 #[.int .i64 0, .slice none 0 0] (0, 0) _ rfl (new_blk _ _ _) Try.underlying31 rfl (by kernel_rfl)) rfl ?_
  exact ⟨rfl, below_alloc (Below.refl _ _) _⟩
set_option maxRecDepth 100000 in
set_option maxHeartbeats 4000000 in
theorem runpack_head (A : Option Addr) (c : Nat) (l : List Int) (w : World) (hr : Kd.C (Kd.int .u8) w A l.length l) (h3 : 3 ≤ l.length) (h84 : rd l 0 ≠ 84) :
    Calls Try.prog 25 #[.slice A l.length c] w fun e w' => e = .returned (.tuple #[.agg #[.int .i64 0, .slice none 0 0], .bool false]) ∧ Below w.heap.size w w' := by
  have c4 : decide ((l.length : Int) < 3) = false := decide_eq_false (by omega)
  have c5 : decide (l.length < 3) = false := decide_eq_false (by omega)
  have c6 : (rd l 0 != 84) = true := by simp [h84]
  have c7 : (rd l 0 == 84) = false := by simp [h84]
  have hu31 := Try.underlying31
  obtain ⟨ad, e, hx⟩ := Kd.at_int hr 0 (by omega) (by omega)
  cases e
  rw [show ((0 : Int)).toNat = 0 from rfl, Addr.add_zero'] at hx
  have hq : (0 < l.length) = True := eq_true (by omega)
  have hx2 : ∀ o, (w.alloc o).cell? ad = some (.int .u8 (rd l 0)) := fun o => cell_below hx (below_alloc (Below.refl _ _) o)
  go_enter Try.func25, Try.ntmps25
  go_wp2
  refine bodyPost_ret (results_ct rfl _ _ w.heap.size 31 #[.int .i64 0, .slice none 0 0] (0, 0) _ rfl (new_blk _ _ _) Try.underlying31 rfl (by kernel_rfl)) rfl ?_
  exact ⟨rfl, below_alloc (Below.refl _ _) _⟩
theorem set31 {W : World} {g : Nat} {a b : Value} (h : W.heap[g]? = some (.cells #[a, b] 31 (0, 0))) (v0 v1 : Value) : ((W.setCell ⟨g, 0, none⟩ v0).setCell ⟨g, 1, none⟩ v1).heap[g]? = some (.cells #[v0, v1] 31 (0, 0)) :=
  blk_put (blk_put h 0 v0 (cs' := #[v0, b]) rfl) 1 v1 rfl
set_option maxRecDepth 100000 in
set_option maxHeartbeats 4000000 in
theorem runpack_main (A : Option Addr) (c : Nat) (l : List Int) (w : World) (hr : Kd.C (Kd.int .u8) w A l.length l) (hc : l.length ≤ c) (hB : Bytes l) (hL : l.length ≤ 140737488351232) (h3 : 3 ≤ l.length) (h84 : rd l 0 = 84) :
    Calls Try.prog 25 #[.slice A l.length c] w fun e w' => ∃ v1 : Value, e = .returned (.tuple #[.agg #[.int .i64 (unpackR l).2.1, v1], .bool (unpackR l).1]) ∧ Kd.R k50 50 w' w.heap.size (fun _ => True) v1 ((unpackR l).2.2.map unc) ∧ Below w.heap.size w w' := by
  have c4 : decide ((l.length : Int) < 3) = false := decide_eq_false (by omega)
  have c5 : decide (l.length < 3) = false := decide_eq_false (by omega)
  have c6 : (rd l 0 != 84) = false := by simp [h84]
  have c7 : (rd l 0 == 84) = true := by simp [h84]
  have hu31 := Try.underlying31
  have hu50 := Try.underlying50
  have hu48 := Try.underlying48
  have hl1 := rd_lt l hB 1
  have hl2 := rd_lt l hB 2
  have w1 : IntKind.i64.wrap (rd l 1) = rd l 1 := IntWalk.i64_in _ (by omega)
  have w2 : IntKind.i64.wrap (rd l 2) = rd l 2 := IntWalk.i64_in _ (by omega)
  obtain ⟨ad, e, hx⟩ := Kd.at_int hr 0 (by omega) (by omega)
  obtain ⟨ad1, e1, hx1⟩ := Kd.at_int hr 1 (by omega) (by omega)
  obtain ⟨ad2, e2, hx2⟩ := Kd.at_int hr 2 (by omega) (by omega)
  cases e
  cases e1
  cases e2
  rw [show ((0 : Int)).toNat = 0 from rfl, Addr.add_zero'] at hx
  rw [show ((1 : Int)).toNat = 1 from rfl] at hx1
  rw [show ((2 : Int)).toNat = 2 from rfl] at hx2
  have hy0 : ∀ o, (w.alloc o).cell? ad = some (.int .u8 (rd l 0)) := fun o => cell_below hx (below_alloc (Below.refl _ _) o)
  have hy1 : ∀ o, (w.alloc o).cell? ⟨ad.block, ad.off + 1, none⟩ = some (.int .u8 (rd l 1)) := fun o => cell_below hx1 (below_alloc (Below.refl _ _) o)
  obtain ⟨r, hrr⟩ : ∃ r, r = l.drop 3 := ⟨_, rfl⟩
  have HRR := Aside0.mk hrr
  clear hrr
  have hq : (0 < l.length) = True := eq_true (by omega)
  have hq1 : (1 < l.length) = True := eq_true (by omega)
  have hq2 : (2 < l.length) = True := eq_true (by omega)
  have HR := Aside0.mk hr
  have HC := Aside0.mk hc
  have HB := Aside0.mk hB
  have HX02 := Aside0.mk (show w.cell? ⟨ad.block, ad.off + 2, none⟩ = some (.int .u8 (rd l 2)) from hx2)
  go_enter Try.func25, Try.ntmps25
  go_wp2
  go_loopw [5, 6] (fun v5 v6 wr => ∃ (k : Nat) (acc : List S69) (n0 : Nat) (u : Value), k ≤ (rd l 2).toNat ∧ n0 ≤ l.length ∧ v5 = .int .i64 n0 ∧ v6 = .int .i64 k ∧ Aside0 (slotsN k r = some (acc, l.drop n0)) ∧ Aside0 (acc.length = k) ∧ Aside0 (Kd.R k50 50 wr w.heap.size (fun _ => True) u (acc.map unc)) ∧ Aside0 (wr.heap[w.heap.size]? = some (.cells #[.int .i64 0, .slice none 0 0] 31 (0, 0))) ∧ Aside0 (wr.heap[w.heap.size + 1]? = some (.cells #[.int .i64 (rd l 1), u] 31 (0, 0))) ∧ Aside0 (Below w.heap.size w wr)) (fun _ i _ => (rd l 2).toNat - (intOf i).toNat)
  case atStart =>
    refine ⟨0, [], 3, .slice none 0 0, Nat.zero_le _, h3, rfl, rfl, ⟨?as0⟩, ⟨rfl⟩, ⟨Kd.R_nil _ _ _ _ _⟩, ⟨keep_alloc (new_blk _ _ _) _⟩, ⟨?as2⟩, ⟨?as3⟩⟩
    case as0 => rw [HRR.out]; rfl
    case as2 => have h := new_blk (w.alloc (.cells #[.int .i64 0, .slice none 0 0] 31)) #[.int .i64 (rd l 1), .slice none 0 0] 31; rw [show (w.alloc (.cells #[.int .i64 0, .slice none 0 0] 31)).heap.size = w.heap.size + 1 from Array.size_push _] at h; exact h
    case as3 => exact below_alloc (below_alloc (Below.refl _ _) _) _
  case round =>
    obtain ⟨k, acc, n0, u, hk, hn0, rfl, rfl, HSL, HAL, HU, HX2, HX4, HBW⟩ := hrel
    clear hx hx1 hx2 hy0 hy1 c4 c5 c6 c7
    have x20 := Joins.cell_of_block HX2.out 0
    have x21 := Joins.cell_of_block HX2.out 1
    have f20 := blk_frozen HX2.out 0
    have f21 := blk_frozen HX2.out 1
    have x40 := Joins.cell_of_block HX4.out 0
    have x41 := Joins.cell_of_block HX4.out 1
    have xb2 := cell_below HX02.out HBW.out
    obtain ⟨rest, hrest⟩ : ∃ x, x = l.drop n0 := ⟨_, rfl⟩
    have hrl : rest.length = l.length - n0 := by rw [hrest, List.length_drop]
    have HBT := Aside0.mk (show Bytes rest from fun x hx => hB x (by rw [hrest] at hx; exact List.mem_of_mem_drop hx))
    have hsl' := HSL.out
    rw [← hrest] at hsl'
    have HSL' := Aside0.mk hsl'
    have HRE := Aside0.mk hrest
    clear hsl'
    by_cases hlt : k < (rd l 2).toNat
    · have d0 : decide ((k : Int) < rd l 2) = true := decide_eq_true (by omega)
      by_cases hbad : rest.length < 8 + (rd rest 0).toNat
      · have hno : unpackR l = (false, 0, []) := by
          have hsl := slot1_none hbad
          rw [unpackR_is h3 h84]
          have e1 := slotsN_snoc k r
          rw [HSL'.out, Option.bind_some, hsl] at e1
          have e2 := slotsN_none ((rd l 2).toNat - (k + 1)) (k + 1) r e1
          rw [show k + 1 + ((rd l 2).toNat - (k + 1)) = (rd l 2).toNat by omega] at e2
          rw [← HRR.out, e2]
        have HNO := Aside0.mk hno
        clear hno
        by_cases hnil : l.length ≤ n0
        · have d1 : decide ((l.length : Int) ≤ (n0 : Int)) = true := decide_eq_true (by omega)
          have d2 : decide (l.length ≤ n0) = true := decide_eq_true hnil
          clear hrest
          go_wp2
          refine bodyPost_ret (results_ct rfl _ _ w.heap.size 31 #[.int .i64 0, .slice none 0 0] (0, 0) _ rfl (set31 HX2.out _ _) Try.underlying31 rfl (by kernel_rfl)) rfl ?_
          rw [HNO.out]
          exact ⟨_, rfl, Kd.R_nil _ _ _ _ _, below_set (below_set HBW.out (Nat.le_refl _)) (Nat.le_refl _)⟩
        · have d1 : decide ((l.length : Int) ≤ (n0 : Int)) = false := decide_eq_false (by omega)
          have d2 : decide (l.length ≤ n0) = false := decide_eq_false hnil
          have hb0 := rd_lt l hB n0
          have hrd : rd rest 0 = rd l n0 := by rw [hrest]; simp [rd, List.getD]
          rw [hrd] at hbad
          obtain ⟨N1, hN1⟩ : ∃ N, N = n0 + 1 + (rd l n0).toNat := ⟨_, rfl⟩
          have w3 : IntKind.i64.wrap (rd l n0) = rd l n0 := IntWalk.i64_in _ (by omega)
          have w4 : IntKind.i64.wrap ((n0 : Int) + 1) = (n0 : Int) + 1 := IntWalk.i64_in _ (by omega)
          have w5 : IntKind.i64.wrap ((n0 : Int) + 1 + rd l n0) = (N1 : Int) := by rw [IntWalk.i64_in _ (by omega)]; omega
          have w6 : IntKind.i64.wrap ((N1 : Int) + 7) = (N1 : Int) + 7 := IntWalk.i64_in _ (by omega)
          have d3 : decide ((l.length : Int) < (N1 : Int) + 7) = true := decide_eq_true (by omega)
          have hqn : (n0 < l.length) = True := eq_true (by omega)
          obtain ⟨adr, e, hx⟩ := Kd.at_int (Kd.C_below HR.out HBW.out) (n0 : Int) (by omega) (by omega)
          cases e
          rw [Int.toNat_natCast] at hx
          clear hrest hrd hN1 hbad
          go_wp2
          refine bodyPost_ret (results_ct rfl _ _ w.heap.size 31 #[.int .i64 0, .slice none 0 0] (0, 0) _ rfl (set31 HX2.out _ _) Try.underlying31 rfl (by kernel_rfl)) rfl ?_
          rw [HNO.out]
          exact ⟨_, rfl, Kd.R_nil _ _ _ _ _, below_set (below_set HBW.out (Nat.le_refl _)) (Nat.le_refl _)⟩
      · have hb0 := rd_lt l hB n0
        have hrd : rd rest 0 = rd l n0 := by rw [hrest]; simp [rd, List.getD]
        obtain ⟨N, hN⟩ : ∃ N, N = 1 + (rd rest 0).toNat := ⟨_, rfl⟩
        have hsl := slot1_some hN (by omega)
        rw [hrd] at hbad hN
        obtain ⟨N1, hN1⟩ : ∃ M, M = n0 + N := ⟨_, rfl⟩
        have d1 : decide ((l.length : Int) ≤ (n0 : Int)) = false := decide_eq_false (by omega)
        have d2 : decide (l.length ≤ n0) = false := decide_eq_false (by omega)
        have d3 : decide ((l.length : Int) < (N1 : Int) + 7) = false := decide_eq_false (by omega)
        have w3 : IntKind.i64.wrap (rd l n0) = rd l n0 := IntWalk.i64_in _ (by omega)
        have w4 : IntKind.i64.wrap ((n0 : Int) + 1) = (n0 : Int) + 1 := IntWalk.i64_in _ (by omega)
        have w5 : IntKind.i64.wrap ((n0 : Int) + 1 + rd l n0) = (N1 : Int) := by rw [IntWalk.i64_in _ (by omega)]; omega
        have w6 : IntKind.i64.wrap ((N1 : Int) + 7) = (N1 : Int) + 7 := IntWalk.i64_in _ (by omega)
        have hqn : (n0 < l.length) = True := eq_true (by omega)
        obtain ⟨adr, e, hx⟩ := Kd.at_int (Kd.C_below HR.out HBW.out) (n0 : Int) (by omega) (by omega)
        cases e
        rw [Int.toNat_natCast] at hx
        obtain ⟨i1, hi1, hz1⟩ := Option.map_eq_some_iff.1 info5
        simp only [Prod.mk.injEq] at hz1
        obtain ⟨A0', cut0, rA0, cA0⟩ := print_mid_of (P := Try.prog) (Value.int .u8) 0 32 5 .i64 .i64 Try.underlying32 hi1 hz1.2.1 (some ad) c l ((n0 : Int) + 1) (N1 : Int) (by omega) (by omega) (by omega) hc
        obtain ⟨A4', cut4, rA4, cA4⟩ := print_drop_of (P := Try.prog) (Value.int .u8) 0 32 5 .i64 Try.underlying32 hi1 hz1.2.1 (some ad) c l (N1 : Int) (by omega) (by omega) hc
        rw [show ((N1 : Int)).toNat = N1 from Int.toNat_natCast N1, show ((n0 : Int) + 1).toNat = n0 + 1 by omega] at cut0 rA0 cA0
        rw [show ((N1 : Int)).toNat = N1 from Int.toNat_natCast N1] at cut4 rA4 cA4
        obtain ⟨p, hp⟩ : ∃ y, y = l.drop N1 := ⟨_, rfl⟩
        rw [← hp] at cut4 rA4 cA4
        have hpl : p.length = l.length - N1 := by rw [hp, List.length_drop]
        obtain ⟨cut1, rA1, cA1⟩ := print_take_of (P := Try.prog) (Value.int .u8) 0 32 5 .i64 Try.underlying32 hi1 hz1.2.1 A4' (c - N1) p 2 (by omega) (by omega) cA4
        obtain ⟨A2', cut2, rA2, cA2⟩ := print_mid_of (P := Try.prog) (Value.int .u8) 0 32 5 .i64 .i64 Try.underlying32 hi1 hz1.2.1 A4' (c - N1) p 2 5 (by omega) (by omega) (by omega) cA4
        obtain ⟨A3', cut3, rA3, cA3⟩ := print_mid_of (P := Try.prog) (Value.int .u8) 0 32 5 .i64 .i64 Try.underlying32 hi1 hz1.2.1 A4' (c - N1) p 5 7 (by omega) (by omega) (by omega) cA4
        rw [show (2 : Int).toNat = 2 from rfl] at cut1 rA1 cA1 cut2 rA2 cA2
        rw [show (5 : Int).toNat = 5 from rfl] at cut2 rA2 cA2 cut3 rA3 cA3
        rw [show (7 : Int).toNat = 7 from rfl] at cut3 rA3 cA3
        obtain ⟨y0, hy0⟩ : ∃ y, y = (l.take N1).drop (n0 + 1) := ⟨_, rfl⟩
        obtain ⟨y1, hy1⟩ : ∃ y, y = p.take 2 := ⟨_, rfl⟩
        obtain ⟨y2, hy2⟩ : ∃ y, y = (p.take 5).drop 2 := ⟨_, rfl⟩
        obtain ⟨y3, hy3⟩ : ∃ y, y = (p.take 7).drop 5 := ⟨_, rfl⟩
        rw [← hy0] at cut0 rA0 cA0
        rw [← hy1] at cut1 rA1 cA1
        rw [← hy2] at cut2 rA2 cA2
        rw [← hy3] at cut3 rA3 cA3
        have hBp : Bytes p := fun x hx => hB x (by rw [hp] at hx; exact List.mem_of_mem_drop hx)
        have by1 : Bytes y1 := fun x hx => hBp x (by rw [hy1] at hx; exact List.mem_of_mem_take hx)
        have by2 : Bytes y2 := fun x hx => hBp x (by rw [hy2] at hx; exact List.mem_of_mem_take (List.mem_of_mem_drop hx))
        have by3 : Bytes y3 := fun x hx => hBp x (by rw [hy3] at hx; exact List.mem_of_mem_take (List.mem_of_mem_drop hx))
        have l1 : y1.length = 2 := by rw [hy1, List.length_take]; omega
        have l2 : y2.length = 3 := by rw [hy2, dt, List.length_take, List.length_drop]; omega
        have l3 : y3.length = 2 := by rw [hy3, dt, List.length_take, List.length_drop]; omega
        have hpr : rest.drop N = p := by rw [hrest, hp, List.drop_drop, hN1]
        have g0 : (rest.take N).drop 1 = y0 := by
          rw [hy0, dt, dt, hrest, List.drop_drop, hN1]
          congr 1
          omega
        have g1 : (rest.take (N + 2)).drop N = y1 := by rw [hy1, dt, hpr, Nat.add_sub_cancel_left]
        have g2 : (rest.take (N + 5)).drop (N + 2) = y2 := by rw [hy2, dt, dt, ← List.drop_drop, hpr]; congr 1; omega
        have g3 : (rest.take (N + 7)).drop (N + 5) = y3 := by rw [hy3, dt, dt, ← List.drop_drop, hpr]; congr 1; omega
        have g4 : rest.drop (N + 7) = l.drop (N1 + 7) := by rw [hrest, List.drop_drop, hN1]; congr 1
        rw [g0, g1, g2, g3, g4] at hsl
        obtain ⟨p0, hp0⟩ : ∃ p, p = getL y1 := ⟨_, rfl⟩
        obtain ⟨p1, hp1⟩ : ∃ p, p = getL y2 := ⟨_, rfl⟩
        obtain ⟨p2, hp2⟩ : ∃ p, p = getL y3 := ⟨_, rfl⟩
        obtain ⟨str, hstr⟩ : ∃ p, p = strOfNums y0 := ⟨_, rfl⟩
        rw [← hp0, ← hp1, ← hp2, ← hstr] at hsl
        obtain ⟨KA, hKA⟩ := rget_is y1 by1 (by omega)
        obtain ⟨KB, hKB⟩ := rget_is y2 by2 (by omega)
        obtain ⟨KC, hKC⟩ := rget_is y3 by3 (by omega)
        rw [← hp0] at hKA
        rw [← hp1] at hKB
        rw [← hp2] at hKC
        have HKA := Aside0.mk hKA
        have HKB := Aside0.mk hKB
        have HKC := Aside0.mk hKC
        have HRw := Kd.C_below HR.out HBW.out
        have hcs : ∀ W, Below wr.heap.size wr W → (Go.convert 32 9 (.slice A0' y0.length (c - (n0 + 1)))).run Try.prog W = Result.ok (.string str) W := fun W hW => by rw [hstr]; exact Kd.C_string Try.underlying32 Try.underlying5 Try.underlying9 (Kd.C_below (Kd.C_of_reads (h1 := fun _ => rfl) (rA0 wr (Kd.reads_of_C HRw))) hW)
        have HCS := Aside0.mk hcs
        have hrp := rA4 wr (Kd.reads_of_C HRw)
        have HR1 := Aside0.mk (Kd.C_of_reads (h1 := fun _ => rfl) (rA1 wr hrp))
        have HR2 := Aside0.mk (Kd.C_of_reads (h1 := fun _ => rfl) (rA2 wr hrp))
        have HR3 := Aside0.mk (Kd.C_of_reads (h1 := fun _ => rfl) (rA3 wr hrp))
        have HC1 := Aside0.mk cA1
        have HC2 := Aside0.mk cA2
        have HC3 := Aside0.mk cA3
        have HSL1 := Aside0.mk hsl
        have HNN := Aside0.mk (show N1 + 7 ≤ l.length by omega)
        have HSZ := Aside0.mk (below_size HBW.out)
        obtain ⟨la, hla⟩ : ∃ x, x = acc.map unc := ⟨_, rfl⟩
        have hu := HU.out
        rw [← hla] at hu
        have HU2 := Aside0.mk hu
        have HLA := Aside0.mk hla
        have hll : la.length = k := by rw [hla, List.length_map]; exact HAL.out
        have HLL := Aside0.mk hll
        obtain ⟨m9, hm9⟩ : ∃ m, m = la ++ [(⟨str, ⟨p0, p1, p2⟩⟩ : S50)] := ⟨_, rfl⟩
        have HM9 := Aside0.mk hm9
        clear hKA hKB hKC hcs HRw hrp rA0 rA1 rA2 rA3 rA4 cA0 cA1 cA2 cA3 cA4 hBp by1 by2 by3 l1 l2 l3 g0 g1 g2 g3 g4 hpr hsl hy0 hy1 hy2 hy3 hp hpl hp0 hp1 hp2 hstr hi1 hz1 hN hN1 hbad hrd hrest hrl hla hu hll hm9
        go_upto_region 12 with (fail)
        clear x20 x21 f20 f21 x40 x41 xb2 hx
        refine Rel.tail (m := 23) [(0, 62, .inl ?r1v0), (1, 63, .inl ?r1v1), (2, 64, .inl ?r1v2), (3, 65, .inl ?r1v3), (4, 66, .inl ?r1v4), (5, 67, .inl ?r1v5), (6, 68, .inl ?r1v6), (7, 69, .inl ?r1v7), (8, 70, .inl ?r1v8), (9, 71, .inl ?r1v9), (10, 72, .inl ?r1v10), (11, 73, .inl ?r1v11), (12, 74, .inl ?r1v12), (13, 75, .inl ?r1v13), (14, 76, .inl ?r1v14), (15, 77, .inl ?r1v15), (16, 78, .inl ?r1v16), (17, 79, .inl ?r1v17), (18, 80, .inl ?r1v18), (19, 81, .inl ?r1v19), (20, 82, .inl ?r1v20), (21, 83, .inl ?r1v21), (22, 84, .inr (fun v W => ∃ g, v = .slice (some ⟨g, 0, none⟩) 1 1 ∧ W.heap[g]? = some (.cells #[.string str, .int .i64 p0, .int .i64 p1, .int .i64 p2] 50 (0, 0))))] (fun W => Below wr.heap.size wr W) (fun W W' => Below W.heap.size W W') (by rfl) rfl (by kernel_rfl) (by kernel_rfl) (by kernel_rfl) ?r1S (Rel.stable_inl (Rel.stable_inl (Rel.stable_inl (Rel.stable_inl (Rel.stable_inl (Rel.stable_inl (Rel.stable_inl (Rel.stable_inl (Rel.stable_inl (Rel.stable_inl (Rel.stable_inl (Rel.stable_inl (Rel.stable_inl (Rel.stable_inl (Rel.stable_inl (Rel.stable_inl (Rel.stable_inl (Rel.stable_inl (Rel.stable_inl (Rel.stable_inl (Rel.stable_inl (Rel.stable_inl (Rel.stable_inr (fun _ _ _ hG hq => hq.elim fun g h => ⟨g, h.1, keep_below h.2 hG⟩) Rel.stable_nil))))))))))))))))))))))) ?r1steps ?r1okv ?r1hlt ?r1fin
        case r1S => exact below_drew (Below.refl _ _)
        case r1steps =>
          refine Rel.from_some 0 rfl rfl (fun a w hS hK K hC => ?_) ?_
          · refine Reg.step_on (by rfl) ?_
            have e4 := hK.off 4 _ rfl rfl
            clear hK
            go_simp
            exact hC _ hS (Below.refl _ _)
          refine Rel.from_some 1 rfl rfl (fun a w hS hK K hC => ?_) ?_
          · refine Reg.step_on (by rfl) ?_
            have e62 := hK.slot 0 _ _ _ rfl (by kernel_rfl)
            have zz := Joins.cell_of_block (keep_below HX4.out hS) 1
            clear hK
            go_simp
            exact hC _ hS (Below.refl _ _)
          refine Rel.from_some 2 rfl rfl (fun a w hS hK K hC => ?_) ?_
          · refine Reg.step_on (by rfl) ?_
            have e0 := hK.off 0 _ rfl rfl
            clear hK
            go_simp
            exact hC _ hS (Below.refl _ _)
          refine Rel.from_some 3 rfl rfl (fun a w hS hK K hC => ?_) ?_
          · refine Reg.step_on (by rfl) ?_
            have e5 := hK.off 5 _ rfl rfl
            clear hK
            go_simp
            exact hC _ hS (Below.refl _ _)
          refine Rel.from_some 4 rfl rfl (fun a w hS hK K hC => ?_) ?_
          · refine Reg.step_on (by rfl) ?_
            have e65 := hK.slot 3 _ _ _ rfl (by kernel_rfl)
            clear hK
            go_simp
            exact hC _ hS (Below.refl _ _)
          refine Rel.from_some 5 rfl rfl (fun a w hS hK K hC => ?_) ?_
          · refine Reg.step_on (by rfl) ?_
            have e5 := hK.off 5 _ rfl rfl
            clear hK
            go_simp
            exact hC _ hS (Below.refl _ _)
          refine Rel.from_some 6 rfl rfl (fun a w hS hK K hC => ?_) ?_
          · refine Reg.step_on (by rfl) ?_
            have e67 := hK.slot 5 _ _ _ rfl (by kernel_rfl)
            clear hK
            go_simp
            exact hC _ hS (Below.refl _ _)
          refine Rel.from_some 7 rfl rfl (fun a w hS hK K hC => ?_) ?_
          · refine Reg.step_on (by rfl) ?_
            have e7 := hK.off 7 _ rfl rfl
            clear hK
            go_simp
            exact hC _ hS (Below.refl _ _)
          refine Rel.from_some 8 rfl rfl (fun a w hS hK K hC => ?_) ?_
          · refine Reg.step_on (by rfl) ?_
            have e68 := hK.slot 6 _ _ _ rfl (by kernel_rfl)
            have e69 := hK.slot 7 _ _ _ rfl (by kernel_rfl)
            clear hK
            go_simp
            exact hC _ hS (Below.refl _ _)
          refine Rel.from_some 9 rfl rfl (fun a w hS hK K hC => ?_) ?_
          · refine Reg.step_on (by rfl) ?_
            have e64 := hK.slot 2 _ _ _ rfl (by kernel_rfl)
            have e66 := hK.slot 4 _ _ _ rfl (by kernel_rfl)
            have e70 := hK.slot 8 _ _ _ rfl (by kernel_rfl)
            clear hK
            go_simp
            exact hC _ hS (Below.refl _ _)
          refine Rel.from_some 10 rfl rfl (fun a w hS hK K hC => ?_) ?_
          · refine Reg.step_on (by rfl) ?_
            have e71 := hK.slot 9 _ _ _ rfl (by kernel_rfl)
            have hcs := HCS.out w hS
            clear hK
            go_simp
            exact hC _ hS (Below.refl _ _)
          refine Rel.from_some 11 rfl rfl (fun a w hS hK K hC => ?_) ?_
          · refine Reg.step_on (by rfl) ?_
            have e8 := hK.off 8 _ rfl rfl
            clear hK
            go_simp
            exact hC _ hS (Below.refl _ _)
          refine Rel.from_some 12 rfl rfl (fun a w hS hK K hC => ?_) ?_
          · refine Reg.step_on (by rfl) ?_
            have e73 := hK.slot 11 _ _ _ rfl (by kernel_rfl)
            clear hK
            go_simp
            exact hC _ hS (Below.refl _ _)
          refine Rel.from_some 13 rfl rfl (fun a w hS hK K hC => ?_) ?_
          · refine Reg.step_on (by rfl) ?_
            have e74 := hK.slot 12 _ _ _ rfl (by kernel_rfl)
            clear hK
            go_simp
            go_at_call 42; (with_reducible refine (pumiceref10_get.calls KA _ _ y1 p0 w ?g1a ?g1b HKA.out).mono ?_); (case g1a => exact Kd.C_below HR1.out hS); (case g1b => exact HC1.out); rintro e w' ⟨rfl, hb⟩; exact hC w' (below_step hS hb.below) hb.below
          refine Rel.from_some 14 rfl rfl (fun a w hS hK K hC => ?_) ?_
          · refine Reg.step_on (by rfl) ?_
            have e8 := hK.off 8 _ rfl rfl
            clear hK
            go_simp
            exact hC _ hS (Below.refl _ _)
          refine Rel.from_some 15 rfl rfl (fun a w hS hK K hC => ?_) ?_
          · refine Reg.step_on (by rfl) ?_
            have e76 := hK.slot 14 _ _ _ rfl (by kernel_rfl)
            clear hK
            go_simp
            exact hC _ hS (Below.refl _ _)
          refine Rel.from_some 16 rfl rfl (fun a w hS hK K hC => ?_) ?_
          · refine Reg.step_on (by rfl) ?_
            have e77 := hK.slot 15 _ _ _ rfl (by kernel_rfl)
            clear hK
            go_simp
            go_at_call 42; (with_reducible refine (pumiceref10_get.calls KB _ _ y2 p1 w ?g2a ?g2b HKB.out).mono ?_); (case g2a => exact Kd.C_below HR2.out hS); (case g2b => exact HC2.out); rintro e w' ⟨rfl, hb⟩; exact hC w' (below_step hS hb.below) hb.below
          refine Rel.from_some 17 rfl rfl (fun a w hS hK K hC => ?_) ?_
          · refine Reg.step_on (by rfl) ?_
            have e8 := hK.off 8 _ rfl rfl
            clear hK
            go_simp
            exact hC _ hS (Below.refl _ _)
          refine Rel.from_some 18 rfl rfl (fun a w hS hK K hC => ?_) ?_
          · refine Reg.step_on (by rfl) ?_
            have e79 := hK.slot 17 _ _ _ rfl (by kernel_rfl)
            clear hK
            go_simp
            exact hC _ hS (Below.refl _ _)
          refine Rel.from_some 19 rfl rfl (fun a w hS hK K hC => ?_) ?_
          · refine Reg.step_on (by rfl) ?_
            have e80 := hK.slot 18 _ _ _ rfl (by kernel_rfl)
            clear hK
            go_simp
            go_at_call 42; (with_reducible refine (pumiceref10_get.calls KC _ _ y3 p2 w ?g3a ?g3b HKC.out).mono ?_); (case g3a => exact Kd.C_below HR3.out hS); (case g3b => exact HC3.out); rintro e w' ⟨rfl, hb⟩; exact hC w' (below_step hS hb.below) hb.below
          refine Rel.from_some 20 rfl rfl (fun a w hS hK K hC => ?_) ?_
          · refine Reg.step_on (by rfl) ?_
            have e75 := hK.slot 13 _ _ _ rfl (by kernel_rfl)
            have e78 := hK.slot 16 _ _ _ rfl (by kernel_rfl)
            have e81 := hK.slot 19 _ _ _ rfl (by kernel_rfl)
            clear hK
            go_simp
            exact hC _ hS (Below.refl _ _)
          refine Rel.from_some 21 rfl rfl (fun a w hS hK K hC => ?_) ?_
          · refine Reg.step_on (by rfl) ?_
            have e72 := hK.slot 10 _ _ _ rfl (by kernel_rfl)
            have e82 := hK.slot 20 _ _ _ rfl (by kernel_rfl)
            clear hK
            go_simp
            exact hC _ hS (Below.refl _ _)
          refine Rel.from_rel 22 rfl rfl (fun a w hS hK K hC => ?_) ?_
          · refine Reg.step_on (by rfl) ?_
            have e83 := hK.slot 21 _ _ _ rfl (by kernel_rfl)
            clear hK
            go_simp
            exact hC _ _ (below_alloc hS _) (below_alloc (Below.refl _ _) _) ⟨_, rfl, new_blk _ _ _⟩
          exact Rel.from_nil
        case r1okv => rfl
        case r1hlt => rfl
        case r1fin =>
          intro U wz hS hU
          have q22 := hU 22 _ _ _ rfl
          clear hU
          simp only [Rel.inst, Nat.zero_add, Nat.reduceAdd, Reg.putV, List.foldl_cons, List.foldl_nil, Act.put, List.setIfInBounds_toArray, List.set_cons_zero, List.set_cons_succ]
          obtain ⟨g9, eg, hg9⟩ := q22
          rw [eg]
          have HSB := Aside0.mk hS
          have HG9 := Aside0.mk hg9
          clear hS hg9 eg
          refine Rel.tail_cons (fun K hK => ?_)
          refine Kd.R_append_rows_step k50 (Rr := k50.K wz) (w0 := w) w.heap.size (by rfl) (.tmp 63) (.tmp 84) 22 50 (.agg #[(.string ⟨#[]⟩), (.int .i64 0), (.int .i64 0), (.int .i64 0)]) 40 rfl Try.underlying22 info50 rfl (by decide) (by omega) u la [(⟨str, ⟨p0, p1, p2⟩⟩ : S50)] (some ⟨g9, 0, none⟩) 1 1 (fun _ => True) (fun _ => False) rfl rfl ?aO ?aR (fun x cs h => k50_open h ▸ k50_mkM _ _ _ x) (fun _ hk => hk.elim) (fun _ _ => trivial) ?aB ?aS ?aL ?_
          case aO => exact Kd.R_below HU2.out HSB.out
          case aR => exact C_of_reps HG9.out (Reps.c4 (k50_mk wz (⟨str, ⟨p0, p1, p2⟩⟩ : S50)) (Reps.none _ _)) (show 1 ≤ 9223372036854775807 by decide)
          case aB => exact below_step HBW.out HSB.out
          case aS => exact below_size (below_step HBW.out HSB.out)
          case aL => have := HLL.out; omega
          intro v9 w9 ho hb hg hat
          rw [← HM9.out] at ho
          have HO9 := Aside0.mk ho
          have HB9 := Aside0.mk hb
          have HX29 := Aside0.mk (keep_row (keep_below HX2.out HSB.out) hg (Kd.R_ne (Kd.R_below HU2.out HSB.out) (keep_below HX2.out HSB.out) (by decide)))
          have HX49 := Aside0.mk (keep_row (keep_below HX4.out HSB.out) hg (Kd.R_ne (Kd.R_below HU2.out HSB.out) (keep_below HX4.out HSB.out) (by decide)))
          have y90 := Joins.cell_of_block HX49.out 0
          have y91 := Joins.cell_of_block HX49.out 1
          have f91 := blk_frozen HX49.out 1
          obtain ⟨A9, c9, e9⟩ := Kd.R_slice ho
          subst e9
          clear ho hb hg hat
          refine hK _ _ ?_
          clear hK
          refine Rel.tail_cons (fun K hK => ?_)
          refine Reg.step_on (by rfl) ?_
          go_simp
          refine hK _ _ ?_
          clear hK
          refine Rel.tail_cons (fun K hK => ?_)
          refine Reg.step_on (by rfl) ?_
          go_simp
          refine hK _ _ ?_
          clear hK
          refine Rel.tail_nil ?_
          clear d0 d1 d2 d3 w3 cut0 cut1 cut2 cut3 cut4
          go_wp2
          go_roundw
          case rel =>
            refine ⟨k + 1, acc ++ [(⟨str, ⟨p0, p1, p2⟩⟩ : S69)], N1 + 7, .slice A9 m9.length c9, hlt, HNN.out, ?rz, ?ra, ⟨?rb⟩, ⟨?rc⟩, ⟨?re⟩, ⟨blk_far HX29.out ?rd _⟩, ⟨blk_put HX49.out 1 _ rfl⟩, ⟨below_set HB9.out (Nat.le_succ _)⟩⟩
            case rz => push_cast; rfl
            case ra => push_cast; rfl
            case rb => have e1 := slotsN_snoc k r; rw [HSL'.out, Option.bind_some, HSL1.out] at e1; rw [e1]; rfl
            case rc => rw [List.length_append, HAL.out]; rfl
            case re => have e2 : (acc ++ [(⟨str, ⟨p0, p1, p2⟩⟩ : S69)]).map unc = m9 := by rw [List.map_append, ← HLA.out, HM9.out]; rfl
                       rw [e2]; exact Kd.R_set HO9.out HX49.out (by decide) _ _
            case rd => exact Nat.ne_of_lt (Nat.lt_succ_self _)
          case measure => simp [intOf]; omega
    · have d0 : decide ((k : Int) < rd l 2) = false := decide_eq_false (by omega)
      have hkl : k = (rd l 2).toNat := by omega
      have HSL2 := Aside0.mk (show slotsN (rd l 2).toNat (l.drop 3) = some (acc, rest) by rw [← hkl, ← HRR.out]; exact HSL'.out)
      obtain ⟨la, hla⟩ : ∃ x, x = acc.map unc := ⟨_, rfl⟩
      have hu := HU.out
      rw [← hla] at hu
      obtain ⟨Au, cu, eu, hcu, hru⟩ := Kd.R_reads hu
      subst eu
      have HRU := Aside0.mk hru
      have HCU := Aside0.mk hcu
      have HU2 := Aside0.mk hu
      have HLA := Aside0.mk hla
      clear hru hcu hu
      have hsz := slotsN_size (rd l 2).toNat (l.drop 3) _ (fun x hx => hB x (List.mem_of_mem_drop hx)) HSL2.out
      obtain ⟨KR, hKR⟩ := rRight_ev (rd l 1) (acc.map unc) (fun s hs => by
        obtain ⟨y, hy, e⟩ := List.mem_map.1 hs
        have := hsz y hy
        rw [← e]
        show y.f0.size ≤ _
        omega) (by rw [List.length_map]; have := HAL.out; omega)
      have hKR2 : pumiceref10_Right.f KR (rd l 1) la = some (rightB (rd l 1) acc) := by have h := hKR KR (Nat.le_refl _); rw [map_unc, ← hla] at h; exact h
      have HKR := Aside0.mk hKR2
      clear hsz hKR hKR2 hla HU
      by_cases hnil : rest = []
      · have e1 : n0 = l.length := by rw [hnil] at hrl; simp at hrl; omega
        have d1 : ((n0 : Int) == (l.length : Int)) = true := by rw [e1]; simp
        have d2 : ((n0 : Int) != (l.length : Int)) = false := by rw [e1]; simp
        have d3 : (n0 == l.length) = true := by rw [e1]; simp
        cases hR : rightB (rd l 1) acc with
        | true =>
          have hyes : unpackR l = (true, rd l 1, acc) := by rw [unpackR_is h3 h84, HSL2.out]; simp only; rw [if_pos ⟨hnil, hR⟩]
          have HYES := Aside0.mk hyes
          have HRB := Aside0.mk hR
          clear hyes hR hnil hkl hrest hrl
          go_wp2_with (first
            | (go_at_call 19; (with_reducible refine (pumiceref10_Right.calls KR (rd l 1) Au cu la (rightB (rd l 1) acc) _ ?y1 ?y2 HKR.out).mono ?_); (case y1 => exact HRU.out); (case y2 => exact HCU.out); rintro e w1 ⟨rfl, hb1⟩; rw [HRB.out]; have HB1 := Aside0.mk hb1; have HX21 := Aside0.mk (keep_below HX2.out hb1); have HX41 := Aside0.mk (keep_below HX4.out hb1); have q20 := Joins.cell_of_block HX21.out 0; have q21 := Joins.cell_of_block HX21.out 1; have g20 := blk_frozen HX21.out 0; have g21 := blk_frozen HX21.out 1; have q40 := Joins.cell_of_block HX41.out 0; have q41 := Joins.cell_of_block HX41.out 1; clear hb1))
          refine bodyPost_ret (results_ct rfl _ _ w.heap.size 31 #[.int .i64 (rd l 1), .slice Au la.length cu] (0, 0) _ rfl (set31 HX21.out _ _) Try.underlying31 rfl (by kernel_rfl)) rfl ?_
          rw [HYES.out]
          simp only
          rw [← HLA.out]
          exact ⟨_, rfl, Kd.R_set (Kd.R_set (Kd.R_below HU2.out HB1.out) HX21.out (by decide) _ _) (blk_put HX21.out 0 _ rfl) (by decide) _ _, below_set (below_set (below_step HBW.out HB1.out) (Nat.le_refl _)) (Nat.le_refl _)⟩
        | false =>
          have hno : unpackR l = (false, 0, []) := by rw [unpackR_is h3 h84, HSL2.out]; simp only; rw [if_neg (fun h => by rw [hR] at h; cases h.2)]
          have HNO := Aside0.mk hno
          have HRB := Aside0.mk hR
          clear hno hR hnil hkl hrest hrl
          go_wp2_with (first
            | (go_at_call 19; (with_reducible refine (pumiceref10_Right.calls KR (rd l 1) Au cu la (rightB (rd l 1) acc) _ ?n1 ?n2 HKR.out).mono ?_); (case n1 => exact HRU.out); (case n2 => exact HCU.out); rintro e w1 ⟨rfl, hb1⟩; rw [HRB.out]; have HB1 := Aside0.mk hb1; have HX21 := Aside0.mk (keep_below HX2.out hb1); have HX41 := Aside0.mk (keep_below HX4.out hb1); have q20 := Joins.cell_of_block HX21.out 0; have q21 := Joins.cell_of_block HX21.out 1; have g20 := blk_frozen HX21.out 0; have g21 := blk_frozen HX21.out 1; have q40 := Joins.cell_of_block HX41.out 0; have q41 := Joins.cell_of_block HX41.out 1; clear hb1))
          refine bodyPost_ret (results_ct rfl _ _ w.heap.size 31 #[.int .i64 0, .slice none 0 0] (0, 0) _ rfl (set31 HX21.out _ _) Try.underlying31 rfl (by kernel_rfl)) rfl ?_
          rw [HNO.out]
          exact ⟨_, rfl, Kd.R_nil _ _ _ _ _, below_set (below_set (below_step HBW.out HB1.out) (Nat.le_refl _)) (Nat.le_refl _)⟩
      · have hpos : 0 < rest.length := List.length_pos_iff.2 hnil
        have hno : unpackR l = (false, 0, []) := by rw [unpackR_is h3 h84, HSL2.out]; simp only; rw [if_neg (fun h => hnil h.1)]
        have d1 : ((n0 : Int) == (l.length : Int)) = false := by simp; omega
        have d2 : ((n0 : Int) != (l.length : Int)) = true := by simp; omega
        have d3 : (n0 == l.length) = false := by simp; omega
        have HNO := Aside0.mk hno
        clear hno hnil hkl hrest hrl
        go_wp2
        refine bodyPost_ret (results_ct rfl _ _ w.heap.size 31 #[.int .i64 0, .slice none 0 0] (0, 0) _ rfl (set31 HX2.out _ _) Try.underlying31 rfl (by kernel_rfl)) rfl ?_
        rw [HNO.out]
        exact ⟨_, rfl, Kd.R_nil _ _ _ _ _, below_set (below_set HBW.out (Nat.le_refl _)) (Nat.le_refl _)⟩
theorem runpack_any (A : Option Addr) (c : Nat) (l : List Int) (w : World) (hr : Kd.C (Kd.int .u8) w A l.length l) (hc : l.length ≤ c) (hB : Bytes l) (hL : l.length ≤ 140737488351232) :
    Calls Try.prog 25 #[.slice A l.length c] w fun e w' => ∃ v1 : Value, e = .returned (.tuple #[.agg #[.int .i64 (unpackR l).2.1, v1], .bool (unpackR l).1]) ∧ Kd.R k50 50 w' w.heap.size (fun _ => True) v1 ((unpackR l).2.2.map unc) ∧ Below w.heap.size w w' := by
  by_cases h3 : l.length < 3
  · rw [unpackR_short h3]
    exact (runpack_short A c l w h3).mono (fun e w' h => ⟨_, h.1, Kd.R_nil _ _ _ _ _, h.2⟩)
  · by_cases h84 : rd l 0 = 84
    · exact runpack_main A c l w hr hc hB hL (by omega) h84
    · rw [unpackR_head h84]
      exact (runpack_head A c l w hr (by omega) h84).mono (fun e w' h => ⟨_, h.1, Kd.R_nil _ _ _ _ _, h.2⟩)
end Go.Proofs.Ytpllpagbdmikpaa.PAll

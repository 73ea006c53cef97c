import Derived.Test.YtpllpagbdmikpaaHn
import Derived.Test.YtpllpagbdmikpaaRelTail
import Derived.Lib.AppendStr
import Derived.Lib.SmallJoins
import Derived.Deep.RegionLaw
import Derived.WalkSpells
import Derived.Outline
namespace Go.Proofs.Ytpllpagbdmikpaa.PAll
open Go.RowKit Go.Proofs.YtpllpagbdmikpaaW.PrintWords Go.Proofs.YtpllpagbdmikpaaW.PrintLast Go.Proofs.YtpllpagbdmikpaaW.PrintMore Go.Proofs.Ytpllpagbdmikpaa.Plain
set_option linter.unusedSimpArgs false
set_option linter.unusedVariables false
attribute [local go_sem] max2_int min2_int max_two min_two max_three min_three max_four min_four
theorem slotsN_snoc : ∀ (k : Nat) (l : List Int), slotsN (k + 1) l = (slotsN k l).bind fun x => (slot1 x.2).map fun y => (x.1 ++ [y.1], y.2)
  | 0, l => by
    unfold slotsN slotsN
    cases h : slot1 l with
    | none => simp [h]
    | some x => simp [h]
  | k + 1, l => by
    have ih := fun r => slotsN_snoc k r
    rw [slotsN]
    cases h : slot1 l with
    | none => simp [slotsN, h]
    | some x =>
      simp only [Option.bind_some]
      rw [ih]
      rw [show slotsN (k + 1) l = (slot1 l).bind fun x => (slotsN k x.2).map fun y => (x.1 :: y.1, y.2) from rfl, h, Option.bind_some]
      cases h2 : slotsN k x.2 with
      | none => simp
      | some y =>
        simp only [Option.bind_some, Option.map_some]
        cases h3 : slot1 y.2 with
        | none => simp
        | some z => simp
theorem slotsN_none : ∀ (d k : Nat) (l : List Int), slotsN k l = none → slotsN (k + d) l = none
  | 0, _, _, h => h
  | d + 1, k, l, h => by rw [← Nat.add_assoc, slotsN_snoc, slotsN_none d k l h]; rfl
/-- The program's answer: whether, level, slots. -/
def unpackR (l : List Int) : Bool × Int × List S69 := match unpackL l with | none => (false, 0, []) | some x => (true, x.1, x.2)
theorem slot1_none {l : List Int} (h : l.length < 8 + (rd l 0).toNat) : slot1 l = none := by
  cases l with
  | nil => rfl
  | cons n r =>
    unfold slot1
    have e : rd (n :: r) 0 = n := rfl
    rw [e] at h
    simp only [List.length_cons] at h
    dsimp only
    rw [if_pos (by omega)]
theorem dt (l : List Int) (a b : Nat) : (l.take b).drop a = (l.drop a).take (b - a) := List.drop_take
theorem slot1_some {l : List Int} {N : Nat} (hN : N = 1 + (rd l 0).toNat) (h : 7 + N ≤ l.length) : slot1 l = some (⟨strOfNums ((l.take N).drop 1), ⟨getL ((l.take (N + 2)).drop N), getL ((l.take (N + 5)).drop (N + 2)), getL ((l.take (N + 7)).drop (N + 5))⟩⟩, l.drop (N + 7)) := by
  cases l with
  | nil => simp at h
  | cons n r =>
    have e : rd (n :: r) 0 = n := rfl
    rw [e] at hN
    subst hN
    simp only [List.length_cons] at h
    unfold slot1
    simp only
    rw [if_neg (by omega)]
    simp only [dt, strL, Nat.add_comm 1, Nat.add_assoc, Nat.reduceAdd, List.drop_succ_cons, List.drop_zero, Nat.add_sub_cancel]
    rw [show n.toNat + (2 + 1) - (n.toNat + 1) = 2 by omega, show n.toNat + (5 + 1) - (n.toNat + (2 + 1)) = 3 by omega, show n.toNat + (7 + 1) - (n.toNat + (5 + 1)) = 2 by omega]
theorem unpackR_short {l : List Int} (h : l.length < 3) : unpackR l = (false, 0, []) := by
  match l, h with
  | [], _ => rfl
  | [_], _ => simp [unpackR, unpackL]
  | [_, _], _ => simp [unpackR, unpackL]
theorem unpackR_head {l : List Int} (h : rd l 0 ≠ 84) : unpackR l = (false, 0, []) := by
  match l, h with
  | [], _ => rfl
  | [_], _ => simp [unpackR, unpackL]
  | [_, _], _ => simp [unpackR, unpackL]
  | a :: _ :: _ :: _, h =>
    have e : a ≠ 84 := h
    unfold unpackR unpackL
    split
    · rfl
    · rename_i x hx
      split at hx
      · rename_i h1
        simp only [List.cons.injEq] at h1
        exact absurd h1.1 e
      · cases hx
theorem unpackR_is {l : List Int} (h3 : 3 ≤ l.length) (h : rd l 0 = 84) : unpackR l = match slotsN (rd l 2).toNat (l.drop 3) with
    | none => (false, 0, [])
    | some y => if y.2 = [] ∧ rightB (rd l 1) y.1 = true then (true, rd l 1, y.1) else (false, 0, []) := by
  match l, h3, h with
  | a :: b :: c :: r, _, h =>
    have e : a = 84 := h
    subst e
    show unpackR (84 :: b :: c :: r) = match slotsN c.toNat r with | none => _ | some y => if y.2 = [] ∧ rightB b y.1 = true then (true, b, y.1) else (false, 0, [])
    unfold unpackR unpackL
    simp only
    cases hs : slotsN c.toNat r with
    | none => rfl
    | some y =>
      simp only [Option.bind_some]
      by_cases hy : y.2 = [] ∧ rightB b y.1 = true
      · rw [if_pos hy, if_pos hy]
      · rw [if_neg hy, if_neg hy]
set_option maxRecDepth 100000 in
set_option maxHeartbeats 4000000 in
theorem unpack_short (A : Option Addr) (c : Nat) (l : List Int) (w : World) (h3 : l.length < 3) :
    Calls Try.prog 24 #[.slice A l.length c] w fun e w' => e = .returned (.tuple #[.agg #[.int .i64 0, .slice none 0 0], .bool false]) ∧ Below w.heap.size w w' := by
  have c4 : decide ((l.length : Int) < 3) = true := decide_eq_true (by omega)
  have c5 : decide (l.length < 3) = true := decide_eq_true h3
  have hu37 := Try.underlying37
  go_enter Try.func24, Try.ntmps24
  go_wp2
  refine bodyPost_ret (results_ct rfl _ _ w.heap.size 37 #[.int .i64 0, .slice none 0 0] (0, 0) _ rfl (new_blk _ _ _) Try.underlying37 rfl (by kernel_rfl)) rfl ?_
  exact ⟨rfl, below_alloc (Below.refl _ _) _⟩
set_option maxRecDepth 100000 in
set_option maxHeartbeats 4000000 in
theorem unpack_head (A : Option Addr) (c : Nat) (l : List Int) (w : World) (hr : Kd.C (Kd.int .u8) w A l.length l) (h3 : 3 ≤ l.length) (h84 : rd l 0 ≠ 84) :
    Calls Try.prog 24 #[.slice A l.length c] w fun e w' => e = .returned (.tuple #[.agg #[.int .i64 0, .slice none 0 0], .bool false]) ∧ Below w.heap.size w w' := by
  have c4 : decide ((l.length : Int) < 3) = false := decide_eq_false (by omega)
  have c5 : decide (l.length < 3) = false := decide_eq_false (by omega)
  have c6 : (rd l 0 != 84) = true := by simp [h84]
  have c7 : (rd l 0 == 84) = false := by simp [h84]
  have hu37 := Try.underlying37
  obtain ⟨ad, e, hx⟩ := Kd.at_int hr 0 (by omega) (by omega)
  cases e
  rw [show ((0 : Int)).toNat = 0 from rfl, Addr.add_zero'] at hx
  have hq : (0 < l.length) = True := eq_true (by omega)
  have hx2 : ∀ o, (w.alloc o).cell? ad = some (.int .u8 (rd l 0)) := fun o => cell_below hx (below_alloc (Below.refl _ _) o)
  go_enter Try.func24, Try.ntmps24
  go_wp2
  refine bodyPost_ret (results_ct rfl _ _ w.heap.size 37 #[.int .i64 0, .slice none 0 0] (0, 0) _ rfl (new_blk _ _ _) Try.underlying37 rfl (by kernel_rfl)) rfl ?_
  exact ⟨rfl, below_alloc (Below.refl _ _) _⟩
theorem getL_lt (l : List Int) (hl : Bytes l) : 0 ≤ getL l ∧ getL l < 256 ^ (min l.length 8) := getL_bd hl
theorem set37 {W : World} {g : Nat} {a b : Value} (h : W.heap[g]? = some (.cells #[a, b] 37 (0, 0))) (v0 v1 : Value) : ((W.setCell ⟨g, 0, none⟩ v0).setCell ⟨g, 1, none⟩ v1).heap[g]? = some (.cells #[v0, v1] 37 (0, 0)) :=
  blk_put (blk_put h 0 v0 (cs' := #[v0, b]) rfl) 1 v1 rfl
set_option maxRecDepth 100000 in
set_option maxHeartbeats 4000000 in
theorem unpack_main (A : Option Addr) (c : Nat) (l : List Int) (w : World) (hr : Kd.C (Kd.int .u8) w A l.length l) (hc : l.length ≤ c) (hB : Bytes l) (h3 : 3 ≤ l.length) (h84 : rd l 0 = 84) :
    Calls Try.prog 24 #[.slice A l.length c] w fun e w' => ∃ v1 : Value, e = .returned (.tuple #[.agg #[.int .i64 (unpackR l).2.1, v1], .bool (unpackR l).1]) ∧ Kd.R k69 69 w' w.heap.size (fun _ => True) v1 (unpackR l).2.2 ∧ Below w.heap.size w w' := by
  have c4 : decide ((l.length : Int) < 3) = false := decide_eq_false (by omega)
  have c5 : decide (l.length < 3) = false := decide_eq_false (by omega)
  have c6 : (rd l 0 != 84) = false := by simp [h84]
  have c7 : (rd l 0 == 84) = true := by simp [h84]
  have c8 : (3 ≤ l.length) = True := eq_true h3
  have hu37 := Try.underlying37
  have hu69 := Try.underlying69
  have hu67 := Try.underlying67
  have hl1 := rd_lt l hB 1
  have hl2 := rd_lt l hB 2
  have w1 : IntKind.i64.wrap (rd l 1) = rd l 1 := IntWalk.i64_in _ (by omega)
  have w2 : IntKind.i64.wrap (rd l 2) = rd l 2 := IntWalk.i64_in _ (by omega)
  obtain ⟨ad, e, hx⟩ := Kd.at_int hr 0 (by omega) (by omega)
  obtain ⟨ad1, e1, hx1⟩ := Kd.at_int hr 1 (by omega) (by omega)
  obtain ⟨ad2, e2, hx2⟩ := Kd.at_int hr 2 (by omega) (by omega)
  cases e
  cases e1
  cases e2
  rw [show ((0 : Int)).toNat = 0 from rfl, Addr.add_zero'] at hx
  rw [show ((1 : Int)).toNat = 1 from rfl] at hx1
  rw [show ((2 : Int)).toNat = 2 from rfl] at hx2
  have hy0 : ∀ o, (w.alloc o).cell? ad = some (.int .u8 (rd l 0)) := fun o => cell_below hx (below_alloc (Below.refl _ _) o)
  have hy1 : ∀ o, (w.alloc o).cell? ⟨ad.block, ad.off + 1, none⟩ = some (.int .u8 (rd l 1)) := fun o => cell_below hx1 (below_alloc (Below.refl _ _) o)
  have hy2 : ∀ o o2, ((w.alloc o).alloc o2).cell? ⟨ad.block, ad.off + 2, none⟩ = some (.int .u8 (rd l 2)) := fun o o2 => cell_below hx2 (below_alloc (below_alloc (Below.refl _ _) o) o2)
  obtain ⟨i0, hi0, hz0⟩ := Option.map_eq_some_iff.1 info5
  simp only [Prod.mk.injEq] at hz0
  obtain ⟨A3, hcut3, hA3, hC3⟩ := print_drop_of (P := Try.prog) (Value.int .u8) 0 32 5 .i64 Try.underlying32 hi0 hz0.2.1 (some ad) c l 3 (by omega) (by omega) hc
  rw [show (Int.toNat 3) = 3 from rfl] at hcut3 hA3 hC3
  obtain ⟨r, hrr⟩ : ∃ r, r = l.drop 3 := ⟨_, rfl⟩
  rw [← hrr] at hcut3 hA3 hC3
  have hBr : Bytes r := fun x hx => hB x (by rw [hrr] at hx; exact List.mem_of_mem_drop hx)
  have HBR := Aside0.mk hBr
  have HA3 := Aside0.mk hA3
  have HC3 := Aside0.mk hC3
  have HRR := Aside0.mk hrr
  clear hBr hrr
  clear hA3 hC3 hz0 hi0
  have hq : (0 < l.length) = True := eq_true (by omega)
  have hq1 : (1 < l.length) = True := eq_true (by omega)
  have hq2 : (2 < l.length) = True := eq_true (by omega)
  have HR := Aside0.mk hr
  have HC := Aside0.mk hc
  have HB := Aside0.mk hB
  go_enter Try.func24, Try.ntmps24
  go_wp2
  go_loopw [0, 30] (fun v0 v30 wr => ∃ (k : Nat) (acc : List S69) (rest : List Int) (A0 : Option Addr) (c0 : Nat) (u : Value), k ≤ (rd l 2).toNat ∧ v0 = .slice A0 rest.length c0 ∧ v30 = .int .i64 k ∧ Aside0 (slotsN k r = some (acc, rest)) ∧ Aside0 (acc.length = k) ∧ Aside0 (Bytes rest) ∧ Aside0 (Kd.C (Kd.int .u8) w A0 rest.length rest) ∧ Aside0 (rest.length ≤ c0) ∧ Aside0 (Kd.R k69 69 wr w.heap.size (fun _ => True) u acc) ∧ Aside0 (wr.heap[w.heap.size]? = some (.cells #[.int .i64 0, .slice none 0 0] 37 (0, 0))) ∧ Aside0 (wr.heap[w.heap.size + 1]? = some (.cells #[.int .i64 (rd l 1), u] 37 (0, 0))) ∧ Aside0 (Below w.heap.size w wr)) (fun _ i _ => (rd l 2).toNat - (intOf i).toNat)
  case atStart =>
    refine ⟨0, [], r, A3, c - 3, .slice none 0 0, Nat.zero_le _, rfl, rfl, ⟨rfl⟩, ⟨rfl⟩, HBR, ⟨Kd.C_of_reads (h1 := fun _ => rfl) (HA3.out w (Kd.reads_of_C HR.out))⟩, HC3, ⟨Kd.R_nil _ _ _ _ _⟩, ⟨keep_alloc (new_blk _ _ _) _⟩, ⟨?as2⟩, ⟨?as3⟩⟩
    case as2 => have h := new_blk (w.alloc (.cells #[.int .i64 0, .slice none 0 0] 37)) #[.int .i64 (rd l 1), .slice none 0 0] 37; rw [show (w.alloc (.cells #[.int .i64 0, .slice none 0 0] 37)).heap.size = w.heap.size + 1 from Array.size_push _] at h; exact h
    case as3 => exact below_alloc (below_alloc (Below.refl _ _) _) _
  case round =>
    obtain ⟨k, acc, rest, A0, c0, u, hk, rfl, rfl, HSL, HAL, HBT, HRT0, HCT, HU, HX2, HX4, HBW⟩ := hrel
    have HRT := Aside0.mk (Kd.C_below HRT0.out HBW.out)
    clear hx hx1 hx2 hy0 hy1 hy2 hcut3 hq hq1 hq2 c4 c5 c6 c7 c8
    have x20 := Joins.cell_of_block HX2.out 0
    have x21 := Joins.cell_of_block HX2.out 1
    have f20 := blk_frozen HX2.out 0
    have f21 := blk_frozen HX2.out 1
    have x40 := Joins.cell_of_block HX4.out 0
    have x41 := Joins.cell_of_block HX4.out 1
    by_cases hlt : k < (rd l 2).toNat
    · have d0 : decide ((k : Int) < rd l 2) = true := decide_eq_true (by omega)
      by_cases hbad : rest.length < 8 + (rd rest 0).toNat
      · have hsl := slot1_none hbad
        have hno : unpackR l = (false, 0, []) := by
          rw [unpackR_is h3 h84]
          have e1 := slotsN_snoc k r
          rw [HSL.out, Option.bind_some, hsl] at e1
          have e2 := slotsN_none ((rd l 2).toNat - (k + 1)) (k + 1) r e1
          rw [show k + 1 + ((rd l 2).toNat - (k + 1)) = (rd l 2).toNat by omega] at e2
          rw [← HRR.out, e2]
        have HNO := Aside0.mk hno
        clear hno hsl
        by_cases hnil : rest.length < 1
        · have d1 : decide ((rest.length : Int) < 1) = true := decide_eq_true (by omega)
          have d2 : decide (rest.length < 1) = true := decide_eq_true hnil
          go_wp2
          refine bodyPost_ret (results_ct rfl _ _ w.heap.size 37 #[.int .i64 0, .slice none 0 0] (0, 0) _ rfl (set37 HX2.out _ _) Try.underlying37 rfl (by kernel_rfl)) rfl ?_
          rw [HNO.out]
          exact ⟨_, rfl, Kd.R_nil _ _ _ _ _, below_set (below_set HBW.out (Nat.le_refl _)) (Nat.le_refl _)⟩
        · have d1 : decide ((rest.length : Int) < 1) = false := decide_eq_false (by omega)
          have d2 : decide (rest.length < 1) = false := decide_eq_false hnil
          have hb0 := rd_lt rest HBT.out 0
          have d3 : decide ((rest.length : Int) < 8 + rd rest 0) = true := decide_eq_true (by omega)
          have w3 : IntKind.i64.wrap (rd rest 0) = rd rest 0 := IntWalk.i64_in _ (by omega)
          have w4 : IntKind.i64.wrap (8 + rd rest 0) = 8 + rd rest 0 := IntWalk.i64_in _ (by omega)
          have hq : (0 < rest.length) = True := eq_true (by omega)
          obtain ⟨adr, e, hx⟩ := Kd.at_int HRT.out 0 (by omega) (by omega)
          cases e
          rw [show ((0 : Int)).toNat = 0 from rfl, Addr.add_zero'] at hx
          go_wp2
          refine bodyPost_ret (results_ct rfl _ _ w.heap.size 37 #[.int .i64 0, .slice none 0 0] (0, 0) _ rfl (set37 HX2.out _ _) Try.underlying37 rfl (by kernel_rfl)) rfl ?_
          rw [HNO.out]
          exact ⟨_, rfl, Kd.R_nil _ _ _ _ _, below_set (below_set HBW.out (Nat.le_refl _)) (Nat.le_refl _)⟩
      · have hb0 := rd_lt rest HBT.out 0
        obtain ⟨N, hN⟩ : ∃ N, N = 1 + (rd rest 0).toNat := ⟨_, rfl⟩
        have hsl := slot1_some hN (by omega)
        have d1 : decide ((rest.length : Int) < 1) = false := decide_eq_false (by omega)
        have d2 : decide (rest.length < 1) = false := decide_eq_false (by omega)
        have d3 : decide ((rest.length : Int) < 8 + rd rest 0) = false := decide_eq_false (by omega)
        have w3 : IntKind.i64.wrap (rd rest 0) = rd rest 0 := IntWalk.i64_in _ (by omega)
        have w4 : IntKind.i64.wrap (8 + rd rest 0) = 8 + rd rest 0 := IntWalk.i64_in _ (by omega)
        have w5 : IntKind.i64.wrap (1 + rd rest 0) = (N : Int) := by rw [IntWalk.i64_in _ (by omega)]; omega
        have w6 : IntKind.i64.wrap ((N : Int) + 2) = (N : Int) + 2 := IntWalk.i64_in _ (by omega)
        have w7 : IntKind.i64.wrap ((N : Int) + 5) = (N : Int) + 5 := IntWalk.i64_in _ (by omega)
        have w8 : IntKind.i64.wrap ((N : Int) + 7) = (N : Int) + 7 := IntWalk.i64_in _ (by omega)
        have hq : (0 < rest.length) = True := eq_true (by omega)
        obtain ⟨adr, e, hx⟩ := Kd.at_int HRT.out 0 (by omega) (by omega)
        cases e
        rw [show ((0 : Int)).toNat = 0 from rfl, Addr.add_zero'] at hx
        obtain ⟨i1, hi1, hz1⟩ := Option.map_eq_some_iff.1 info5
        simp only [Prod.mk.injEq] at hz1
        obtain ⟨A0', cut0, rA0, cA0⟩ := print_mid_of (P := Try.prog) (Value.int .u8) 0 32 5 .i64 .i64 Try.underlying32 hi1 hz1.2.1 (some adr) c0 rest 1 (N : Int) (by omega) (by omega) (by omega) HCT.out
        obtain ⟨A1', cut1, rA1, cA1⟩ := print_mid_of (P := Try.prog) (Value.int .u8) 0 32 5 .i64 .i64 Try.underlying32 hi1 hz1.2.1 (some adr) c0 rest (N : Int) ((N : Int) + 2) (by omega) (by omega) (by omega) HCT.out
        obtain ⟨A2', cut2, rA2, cA2⟩ := print_mid_of (P := Try.prog) (Value.int .u8) 0 32 5 .i64 .i64 Try.underlying32 hi1 hz1.2.1 (some adr) c0 rest ((N : Int) + 2) ((N : Int) + 5) (by omega) (by omega) (by omega) HCT.out
        obtain ⟨A3', cut3, rA3, cA3⟩ := print_mid_of (P := Try.prog) (Value.int .u8) 0 32 5 .i64 .i64 Try.underlying32 hi1 hz1.2.1 (some adr) c0 rest ((N : Int) + 5) ((N : Int) + 7) (by omega) (by omega) (by omega) HCT.out
        obtain ⟨A4', cut4, rA4, cA4⟩ := print_drop_of (P := Try.prog) (Value.int .u8) 0 32 5 .i64 Try.underlying32 hi1 hz1.2.1 (some adr) c0 rest ((N : Int) + 7) (by omega) (by omega) HCT.out
        rw [show (Int.toNat 1) = 1 from rfl, show ((N : Int)).toNat = N from Int.toNat_natCast N] at cut0 rA0 cA0
        rw [show ((N : Int)).toNat = N from Int.toNat_natCast N, show ((N : Int) + 2).toNat = N + 2 by omega] at cut1 rA1 cA1
        rw [show ((N : Int) + 2).toNat = N + 2 by omega, show ((N : Int) + 5).toNat = N + 5 by omega] at cut2 rA2 cA2
        rw [show ((N : Int) + 5).toNat = N + 5 by omega, show ((N : Int) + 7).toNat = N + 7 by omega] at cut3 rA3 cA3
        rw [show ((N : Int) + 7).toNat = N + 7 by omega] at cut4 rA4 cA4
        obtain ⟨y0, hy0⟩ : ∃ y, y = (rest.take N).drop 1 := ⟨_, rfl⟩
        obtain ⟨y1, hy1⟩ : ∃ y, y = (rest.take (N + 2)).drop N := ⟨_, rfl⟩
        obtain ⟨y2, hy2⟩ : ∃ y, y = (rest.take (N + 5)).drop (N + 2) := ⟨_, rfl⟩
        obtain ⟨y3, hy3⟩ : ∃ y, y = (rest.take (N + 7)).drop (N + 5) := ⟨_, rfl⟩
        obtain ⟨y4, hy4⟩ : ∃ y, y = rest.drop (N + 7) := ⟨_, rfl⟩
        have by1 : Bytes y1 := fun x hx => HBT.out x (by rw [hy1] at hx; exact List.mem_of_mem_take (List.mem_of_mem_drop hx))
        have by2 : Bytes y2 := fun x hx => HBT.out x (by rw [hy2] at hx; exact List.mem_of_mem_take (List.mem_of_mem_drop hx))
        have by3 : Bytes y3 := fun x hx => HBT.out x (by rw [hy3] at hx; exact List.mem_of_mem_take (List.mem_of_mem_drop hx))
        have by4 : Bytes y4 := fun x hx => HBT.out x (by rw [hy4] at hx; exact List.mem_of_mem_drop hx)
        have l1 : y1.length = 2 := by rw [hy1, dt, List.length_take, List.length_drop]; omega
        have l2 : y2.length = 3 := by rw [hy2, dt, List.length_take, List.length_drop]; omega
        have l3 : y3.length = 2 := by rw [hy3, dt, List.length_take, List.length_drop]; omega
        rw [← hy0] at cut0 rA0 cA0 hsl
        rw [← hy1] at cut1 rA1 cA1 hsl
        rw [← hy2] at cut2 rA2 cA2 hsl
        rw [← hy3] at cut3 rA3 cA3 hsl
        rw [← hy4] at cut4 rA4 cA4 hsl
        obtain ⟨p0, hp0⟩ : ∃ p, p = getL y1 := ⟨_, rfl⟩
        obtain ⟨p1, hp1⟩ : ∃ p, p = getL y2 := ⟨_, rfl⟩
        obtain ⟨p2, hp2⟩ : ∃ p, p = getL y3 := ⟨_, rfl⟩
        obtain ⟨str, hstr⟩ : ∃ p, p = strOfNums y0 := ⟨_, rfl⟩
        rw [← hp0, ← hp1, ← hp2, ← hstr] at hsl
        have b0 := getL_lt y1 by1
        have b1 := getL_lt y2 by2
        have b2 := getL_lt y3 by3
        rw [l1, ← hp0] at b0
        rw [l2, ← hp1] at b1
        rw [l3, ← hp2] at b2
        have wp0 : IntKind.i64.wrap p0 = p0 := IntWalk.i64_in _ (by have : (256 : Int) ^ (min 2 8) = 65536 := by decide
                                                                    omega)
        have wp1 : IntKind.i64.wrap p1 = p1 := IntWalk.i64_in _ (by have : (256 : Int) ^ (min 3 8) = 16777216 := by decide
                                                                    omega)
        have wp2 : IntKind.i64.wrap p2 = p2 := IntWalk.i64_in _ (by have : (256 : Int) ^ (min 2 8) = 65536 := by decide
                                                                    omega)
        obtain ⟨KA, hKA⟩ := bGet_ev y1 by1
        obtain ⟨KB, hKB⟩ := bGet_ev y2 by2
        obtain ⟨KC, hKC⟩ := bGet_ev y3 by3
        have hKA2 := hKA KA (Nat.le_refl _)
        have hKB2 := hKB KB (Nat.le_refl _)
        have hKC2 := hKC KC (Nat.le_refl _)
        rw [← hp0] at hKA2
        rw [← hp1] at hKB2
        rw [← hp2] at hKC2
        have HKA := Aside0.mk hKA2
        have HKB := Aside0.mk hKB2
        have HKC := Aside0.mk hKC2
        have hcs : (Go.convert 32 9 (.slice A0' y0.length (c0 - 1))).run Try.prog wr = Result.ok (.string str) wr := by rw [hstr]; exact Kd.C_string Try.underlying32 Try.underlying5 Try.underlying9 (Kd.C_of_reads (h1 := fun _ => rfl) (rA0 wr (Kd.reads_of_C HRT.out)))
        have HR1 := Aside0.mk (Kd.C_of_reads (h1 := fun _ => rfl) (rA1 wr (Kd.reads_of_C HRT.out)))
        have HR2 := Aside0.mk (Kd.C_of_reads (h1 := fun _ => rfl) (rA2 wr (Kd.reads_of_C HRT.out)))
        have HR3 := Aside0.mk (Kd.C_of_reads (h1 := fun _ => rfl) (rA3 wr (Kd.reads_of_C HRT.out)))
        have HR4 := Aside0.mk (Kd.C_of_reads (h1 := fun _ => rfl) (rA4 w (Kd.reads_of_C HRT0.out)))
        have HC1 := Aside0.mk cA1
        have HC2 := Aside0.mk cA2
        have HC3 := Aside0.mk cA3
        have HC4 := Aside0.mk cA4
        have HSL1 := Aside0.mk hsl
        have HB4 := Aside0.mk by4
        have hNl : N ≤ 256 := by omega
        have HN := Aside0.mk hN
        have HBAD := Aside0.mk hbad
        clear hN hbad hKA hKB hKC hKA2 hKB2 hKC2 rA0 rA1 rA2 rA3 rA4 cA0 cA1 cA2 cA3 cA4 by1 by2 by3 by4 hsl hy0 hy1 hy2 hy3 hy4 hp0 hp1 hp2 hstr b0 b1 b2 l1 l2 l3 hi1 hz1
        go_upto_region 12 with (fail)
        generalize hW : wr.alloc (.cells #[.string str, .int .i64 0, .int .i64 0, .int .i64 0] 69) = W0
        have hbW : Below wr.heap.size wr W0 := by rw [← hW]; exact below_alloc (Below.refl _ _) _
        have HS7 := Aside0.mk (show W0.heap[wr.heap.size]? = some (.cells #[.string str, .int .i64 0, .int .i64 0, .int .i64 0] 69 (0, 0)) by rw [← hW]; exact new_blk _ _ _)
        have HU0 := Aside0.mk (Kd.R_below (Kd.R_elderB HU.out wr.heap.size (Nat.le_refl _)) hbW)
        have HX20 := Aside0.mk (keep_below HX2.out hbW)
        have HX40 := Aside0.mk (keep_below HX4.out hbW)
        have HBW0 := Aside0.mk (below_step HBW.out hbW)
        have HSZ := Aside0.mk (below_size HBW.out)
        have HQ1 := Aside0.mk (Kd.C_below HR1.out hbW)
        have HQ2 := Aside0.mk (Kd.C_below HR2.out hbW)
        have HQ3 := Aside0.mk (Kd.C_below HR3.out hbW)
        have hn2 : w.heap.size ≠ wr.heap.size := Nat.ne_of_lt (blk_lt HX2.out)
        have hn4 : w.heap.size + 1 ≠ wr.heap.size := Nat.ne_of_lt (blk_lt HX4.out)
        have HN2 := Aside0.mk hn2
        have HN4 := Aside0.mk hn4
        clear hW hbW x20 x21 f20 f21 x40 x41 cut0 hcs hn2 hn4
        refine Rel.tail (m := 25) [(0, 56, .inl ?r1v0), (1, 57, .inl ?r1v1), (2, 58, .inl ?r1v2), (3, 59, .inl ?r1v3), (4, 60, .inl ?r1v4), (5, 61, .inl ?r1v5), (6, 62, .inl ?r1v6), (7, 63, .inl ?r1v7), (8, 64, .inl ?r1v8), (9, 65, .inl ?r1v9), (10, 66, .inl ?r1v10), (11, 67, .inl ?r1v11), (12, 68, .inl ?r1v12), (13, 69, .inl ?r1v13), (14, 70, .inl ?r1v14), (15, 71, .inl ?r1v15), (16, 72, .inl ?r1v16), (17, 73, .inl ?r1v17), (18, 74, .inl ?r1v18), (19, 75, .inl ?r1v19), (20, 76, .inl ?r1v20), (21, 77, .inl ?r1v21), (22, 78, .inl ?r1v22), (23, 79, .inl ?r1v23), (24, 80, .inl ?r1v24)] (fun W => Below W0.heap.size W0 W) (fun _ _ => True) (by rfl) rfl (by kernel_rfl) (by kernel_rfl) (by kernel_rfl) ?r1S (Rel.stable_inl (Rel.stable_inl (Rel.stable_inl (Rel.stable_inl (Rel.stable_inl (Rel.stable_inl (Rel.stable_inl (Rel.stable_inl (Rel.stable_inl (Rel.stable_inl (Rel.stable_inl (Rel.stable_inl (Rel.stable_inl (Rel.stable_inl (Rel.stable_inl (Rel.stable_inl (Rel.stable_inl (Rel.stable_inl (Rel.stable_inl (Rel.stable_inl (Rel.stable_inl (Rel.stable_inl (Rel.stable_inl (Rel.stable_inl (Rel.stable_inl Rel.stable_nil))))))))))))))))))))))))) ?r1steps ?r1okv ?r1hlt ?r1fin
        case r1S => exact below_drew (Below.refl _ _)
        case r1steps =>
          refine Rel.from_some 0 rfl rfl (fun a w hS hK K hC => ?_) ?_
          · refine Reg.step_on (by rfl) ?_
            have e0 := hK.off 0 _ rfl rfl
            clear hK
            go_simp
            exact hC _ hS trivial
          refine Rel.from_some 1 rfl rfl (fun a w hS hK K hC => ?_) ?_
          · refine Reg.step_on (by rfl) ?_
            have e6 := hK.off 6 _ rfl rfl
            clear hK
            go_simp
            exact hC _ hS trivial
          refine Rel.from_some 2 rfl rfl (fun a w hS hK K hC => ?_) ?_
          · refine Reg.step_on (by rfl) ?_
            have e6 := hK.off 6 _ rfl rfl
            clear hK
            go_simp
            exact hC _ hS trivial
          refine Rel.from_some 3 rfl rfl (fun a w hS hK K hC => ?_) ?_
          · refine Reg.step_on (by rfl) ?_
            have e58 := hK.slot 2 _ _ _ rfl (by kernel_rfl)
            clear hK
            go_simp
            exact hC _ hS trivial
          refine Rel.from_some 4 rfl rfl (fun a w hS hK K hC => ?_) ?_
          · refine Reg.step_on (by rfl) ?_
            have e56 := hK.slot 0 _ _ _ rfl (by kernel_rfl)
            have e57 := hK.slot 1 _ _ _ rfl (by kernel_rfl)
            have e59 := hK.slot 3 _ _ _ rfl (by kernel_rfl)
            clear hK
            go_simp
            exact hC _ hS trivial
          refine Rel.from_some 5 rfl rfl (fun a w hS hK K hC => ?_) ?_
          · refine Reg.step_on (by rfl) ?_
            have e60 := hK.slot 4 _ _ _ rfl (by kernel_rfl)
            clear hK
            go_simp
            go_at_call 41; (with_reducible refine (bits_Get.calls KA _ _ y1 p0 w ?g1a ?g1b HKA.out).mono ?_); (case g1a => exact Kd.C_below HQ1.out hS); (case g1b => exact HC1.out); rintro e w' ⟨rfl, hb⟩; exact hC w' (below_step hS hb) trivial
          refine Rel.from_some 6 rfl rfl (fun a w hS hK K hC => ?_) ?_
          · refine Reg.step_on (by rfl) ?_
            have e61 := hK.slot 5 _ _ _ rfl (by kernel_rfl)
            clear hK
            go_simp
            exact hC _ hS trivial
          refine Rel.from_some 7 rfl rfl (fun a w hS hK K hC => ?_) ?_
          · refine Reg.step_on (by rfl) ?_
            have e0 := hK.off 0 _ rfl rfl
            clear hK
            go_simp
            exact hC _ hS trivial
          refine Rel.from_some 8 rfl rfl (fun a w hS hK K hC => ?_) ?_
          · refine Reg.step_on (by rfl) ?_
            have e6 := hK.off 6 _ rfl rfl
            clear hK
            go_simp
            exact hC _ hS trivial
          refine Rel.from_some 9 rfl rfl (fun a w hS hK K hC => ?_) ?_
          · refine Reg.step_on (by rfl) ?_
            have e64 := hK.slot 8 _ _ _ rfl (by kernel_rfl)
            clear hK
            go_simp
            exact hC _ hS trivial
          refine Rel.from_some 10 rfl rfl (fun a w hS hK K hC => ?_) ?_
          · refine Reg.step_on (by rfl) ?_
            have e6 := hK.off 6 _ rfl rfl
            clear hK
            go_simp
            exact hC _ hS trivial
          refine Rel.from_some 11 rfl rfl (fun a w hS hK K hC => ?_) ?_
          · refine Reg.step_on (by rfl) ?_
            have e66 := hK.slot 10 _ _ _ rfl (by kernel_rfl)
            clear hK
            go_simp
            exact hC _ hS trivial
          refine Rel.from_some 12 rfl rfl (fun a w hS hK K hC => ?_) ?_
          · refine Reg.step_on (by rfl) ?_
            have e63 := hK.slot 7 _ _ _ rfl (by kernel_rfl)
            have e65 := hK.slot 9 _ _ _ rfl (by kernel_rfl)
            have e67 := hK.slot 11 _ _ _ rfl (by kernel_rfl)
            clear hK
            go_simp
            exact hC _ hS trivial
          refine Rel.from_some 13 rfl rfl (fun a w hS hK K hC => ?_) ?_
          · refine Reg.step_on (by rfl) ?_
            have e68 := hK.slot 12 _ _ _ rfl (by kernel_rfl)
            clear hK
            go_simp
            go_at_call 41; (with_reducible refine (bits_Get.calls KB _ _ y2 p1 w ?g2a ?g2b HKB.out).mono ?_); (case g2a => exact Kd.C_below HQ2.out hS); (case g2b => exact HC2.out); rintro e w' ⟨rfl, hb⟩; exact hC w' (below_step hS hb) trivial
          refine Rel.from_some 14 rfl rfl (fun a w hS hK K hC => ?_) ?_
          · refine Reg.step_on (by rfl) ?_
            have e69 := hK.slot 13 _ _ _ rfl (by kernel_rfl)
            clear hK
            go_simp
            exact hC _ hS trivial
          refine Rel.from_some 15 rfl rfl (fun a w hS hK K hC => ?_) ?_
          · refine Reg.step_on (by rfl) ?_
            have e0 := hK.off 0 _ rfl rfl
            clear hK
            go_simp
            exact hC _ hS trivial
          refine Rel.from_some 16 rfl rfl (fun a w hS hK K hC => ?_) ?_
          · refine Reg.step_on (by rfl) ?_
            have e6 := hK.off 6 _ rfl rfl
            clear hK
            go_simp
            exact hC _ hS trivial
          refine Rel.from_some 17 rfl rfl (fun a w hS hK K hC => ?_) ?_
          · refine Reg.step_on (by rfl) ?_
            have e72 := hK.slot 16 _ _ _ rfl (by kernel_rfl)
            clear hK
            go_simp
            exact hC _ hS trivial
          refine Rel.from_some 18 rfl rfl (fun a w hS hK K hC => ?_) ?_
          · refine Reg.step_on (by rfl) ?_
            have e6 := hK.off 6 _ rfl rfl
            clear hK
            go_simp
            exact hC _ hS trivial
          refine Rel.from_some 19 rfl rfl (fun a w hS hK K hC => ?_) ?_
          · refine Reg.step_on (by rfl) ?_
            have e74 := hK.slot 18 _ _ _ rfl (by kernel_rfl)
            clear hK
            go_simp
            exact hC _ hS trivial
          refine Rel.from_some 20 rfl rfl (fun a w hS hK K hC => ?_) ?_
          · refine Reg.step_on (by rfl) ?_
            have e71 := hK.slot 15 _ _ _ rfl (by kernel_rfl)
            have e73 := hK.slot 17 _ _ _ rfl (by kernel_rfl)
            have e75 := hK.slot 19 _ _ _ rfl (by kernel_rfl)
            clear hK
            go_simp
            exact hC _ hS trivial
          refine Rel.from_some 21 rfl rfl (fun a w hS hK K hC => ?_) ?_
          · refine Reg.step_on (by rfl) ?_
            have e76 := hK.slot 20 _ _ _ rfl (by kernel_rfl)
            clear hK
            go_simp
            go_at_call 41; (with_reducible refine (bits_Get.calls KC _ _ y3 p2 w ?g3a ?g3b HKC.out).mono ?_); (case g3a => exact Kd.C_below HQ3.out hS); (case g3b => exact HC3.out); rintro e w' ⟨rfl, hb⟩; exact hC w' (below_step hS hb) trivial
          refine Rel.from_some 22 rfl rfl (fun a w hS hK K hC => ?_) ?_
          · refine Reg.step_on (by rfl) ?_
            have e77 := hK.slot 21 _ _ _ rfl (by kernel_rfl)
            clear hK
            go_simp
            exact hC _ hS trivial
          refine Rel.from_some 23 rfl rfl (fun a w hS hK K hC => ?_) ?_
          · refine Reg.step_on (by rfl) ?_
            have e62 := hK.slot 6 _ _ _ rfl (by kernel_rfl)
            have e70 := hK.slot 14 _ _ _ rfl (by kernel_rfl)
            have e78 := hK.slot 22 _ _ _ rfl (by kernel_rfl)
            clear hK
            go_simp
            exact hC _ hS trivial
          refine Rel.from_some 24 rfl rfl (fun a w hS hK K hC => ?_) ?_
          · refine Reg.step_on (by rfl) ?_
            have e7 := hK.off 7 _ rfl rfl
            clear hK
            go_simp
            exact hC _ hS trivial
          exact Rel.from_nil
        case r1okv => rfl
        case r1hlt => rfl
        case r1fin =>
          intro U wz hS hU
          clear hU
          simp only [Rel.inst, Nat.zero_add, Reg.putV, List.foldl_cons, List.foldl_nil, Act.put, List.setIfInBounds_toArray, List.set_cons_zero, List.set_cons_succ]
          have b7 := keep_below HS7.out hS
          have z0 := Joins.cell_of_block b7 0
          have z1 := Joins.cell_of_block b7 1
          have z2 := Joins.cell_of_block b7 2
          have z3 := Joins.cell_of_block b7 3
          have f1 := blk_frozen b7 1
          have f2 := blk_frozen b7 2
          have f3 := blk_frozen b7 3
          have HB7 := Aside0.mk b7
          have HSB := Aside0.mk hS
          clear b7 hS
          refine Rel.tail_cons (fun K hK => ?_)
          refine Reg.step_on (by rfl) ?_
          go_simp
          refine hK _ _ ?_
          refine Rel.tail_nil ?_
          clear hK z0 z1 z2 z3 f1 f2 f3
          generalize hWZ : ((wz.setCell ⟨wr.heap.size, 1, none⟩ (.int .i64 p0)).setCell ⟨wr.heap.size, 2, none⟩ (.int .i64 p1)).setCell ⟨wr.heap.size, 3, none⟩ (.int .i64 p2) = wy
          have hb : Below w.heap.size w wy := by rw [← hWZ]; exact below_set (below_set (below_set (below_step HBW0.out HSB.out) HSZ.out) HSZ.out) HSZ.out
          have h7 : wy.heap[wr.heap.size]? = some (.cells #[.string str, .int .i64 p0, .int .i64 p1, .int .i64 p2] 69 (0, 0)) := by rw [← hWZ]; exact blk_put (blk_put (blk_put HB7.out 1 _ (cs' := #[.string str, .int .i64 p0, .int .i64 0, .int .i64 0]) rfl) 2 _ (cs' := #[.string str, .int .i64 p0, .int .i64 p1, .int .i64 0]) rfl) 3 _ rfl
          have h2 : wy.heap[w.heap.size]? = some (.cells #[.int .i64 0, .slice none 0 0] 37 (0, 0)) := by rw [← hWZ]; exact blk_far (blk_far (blk_far (keep_below HX20.out HSB.out) HN2.out _) HN2.out _) HN2.out _
          have h4 : wy.heap[w.heap.size + 1]? = some (.cells #[.int .i64 (rd l 1), u] 37 (0, 0)) := by rw [← hWZ]; exact blk_far (blk_far (blk_far (keep_below HX40.out HSB.out) HN4.out _) HN4.out _) HN4.out _
          have hu : Kd.R k69 69 wy w.heap.size (fun k => True ∧ k ≠ wr.heap.size) u acc := by rw [← hWZ]; exact Kd.R_far (Kd.R_far (Kd.R_far (Kd.R_below HU0.out HSB.out) (fun k hk => hk.2) _) (fun k hk => hk.2) _) (fun k hk => hk.2) _
          clear hWZ
          have HBz := Aside0.mk hb
          have HS7z := Aside0.mk h7
          have HX2z := Aside0.mk h2
          have HX4z := Aside0.mk h4
          have HUz := Aside0.mk hu
          have z0 := Joins.cell_of_block h7 0
          have z1 := Joins.cell_of_block h7 1
          have z2 := Joins.cell_of_block h7 2
          have z3 := Joins.cell_of_block h7 3
          have y41 := Joins.cell_of_block h4 1
          have hg7 : wr.heap.size < wy.heap.size := blk_lt h7
          have HG7 := Aside0.mk hg7
          obtain ⟨m9, hm9⟩ : ∃ m, m = acc ++ [(⟨str, ⟨p0, p1, p2⟩⟩ : S69)] := ⟨_, rfl⟩
          have HM9 := Aside0.mk hm9
          clear hm9
          clear hb h7 h2 h4 hu hg7 wp0 wp1 wp2 w3 w4 w5 cut1 cut2 cut3 d0 d1 d2 d3
          go_wp2_with (first
            | ((with_reducible refine gate_builtin (b := .append) (xs := #[.tmp 82, .tmp 84]) rfl ?_); at_builtin; refine Kd.R_append k69 (w0 := w) (W := wy) w.heap.size rfl (.tmp 82) (.tmp 84) 25 69 (.agg #[(.string ⟨#[]⟩), (.int .i64 0), (.int .i64 0), (.int .i64 0)]) 40 rfl Try.underlying25 info69 rfl (by decide) (by omega) u acc (⟨str, ⟨p0, p1, p2⟩⟩ : S69) [.string str, .int .i64 p0, .int .i64 p1, .int .i64 p2] (fun k => True ∧ k ≠ wr.heap.size) (fun _ => False) rfl rfl ?aP (fun _ hk => hk.elim) ?aF ?aO ?aB ?aS ?aL ?_; (case aP => exact k69_mkM _ _ _ (⟨str, ⟨p0, p1, p2⟩⟩ : S69)); (case aF => exact fun k hk => ⟨trivial, by have := HG7.out; omega⟩); (case aO => exact HUz.out); (case aB => exact HBz.out); (case aS => exact below_size HBz.out); (case aL => have := HAL.out; omega); intro v9 w9 ho hb hg hat; rw [← HM9.out] at ho; have HO9 := Aside0.mk ho; obtain ⟨A9, c9, e9⟩ := Kd.R_slice ho; subst e9; have HB9 := Aside0.mk hb; have HX29 := Aside0.mk (keep_row HX2z.out hg (Kd.R_ne HUz.out HX2z.out (by decide))); have HX49 := Aside0.mk (keep_row HX4z.out hg (Kd.R_ne HUz.out HX4z.out (by decide))); have y90 := Joins.cell_of_block HX49.out 0; have y91 := Joins.cell_of_block HX49.out 1; have f91 := blk_frozen HX49.out 1; clear ho hb hg hat))
          go_roundw
          case rel =>
            refine ⟨k + 1, m9, y4, A4', c0 - (N + 7), .slice A9 m9.length c9, hlt, rfl, ?ra, ⟨?rb⟩, ⟨?rc⟩, HB4, HR4, HC4, ⟨Kd.R_mono (Kd.R_set HO9.out HX49.out (by decide) _ _) (fun _ _ => trivial)⟩, ⟨blk_far HX29.out ?rd _⟩, ⟨blk_put HX49.out 1 _ rfl⟩, ⟨below_set HB9.out (Nat.le_succ _)⟩⟩
            case ra => push_cast; rfl
            case rb => have e1 := slotsN_snoc k r; rw [HSL.out, Option.bind_some, HSL1.out] at e1; rw [e1, HM9.out]; rfl
            case rc => rw [HM9.out, List.length_append, HAL.out]; rfl
            case rd => exact Nat.ne_of_lt (Nat.lt_succ_self _)
          case measure => simp [intOf]; omega
    · have hkl : k = (rd l 2).toNat := by omega
      have d0 : decide ((k : Int) < rd l 2) = false := decide_eq_false (by omega)
      have HSL2 := Aside0.mk (show slotsN (rd l 2).toNat (l.drop 3) = some (acc, rest) by rw [← hkl, ← HRR.out]; exact HSL.out)
      obtain ⟨Au, cu, eu, hcu, hru⟩ := Kd.R_reads HU.out
      subst eu
      have HRU := Aside0.mk hru
      have HCU := Aside0.mk hcu
      clear hru hcu
      have hlv : (w.heap.size : Nat) ≤ w.heap.size := Nat.le_refl _
      by_cases hnil : rest = []
      · have d1 : decide ((rest.length : Int) > 0) = false := decide_eq_false (by rw [hnil]; simp)
        have d2 : decide (0 < rest.length) = false := decide_eq_false (by rw [hnil]; simp)
        have d3 : decide (0 < (rest.length : Int)) = false := decide_eq_false (by rw [hnil]; simp)
        cases hR : rightB (rd l 1) acc with
        | true =>
          have hyes : unpackR l = (true, rd l 1, acc) := by rw [unpackR_is h3 h84, HSL2.out]; simp only; rw [if_pos ⟨hnil, hR⟩]
          have HYES := Aside0.mk hyes
          have HRB := Aside0.mk hR
          clear hyes hR hnil hkl
          go_wp2_with (first
            | (go_at_call 18; (refine (right_any (rd l 1) Au cu acc _ ?y1 ?y2).mono ?_); (case y1 => exact HRU.out); (case y2 => exact HCU.out); rintro e w1 ⟨rfl, hb1⟩; rw [HRB.out]; have HB1 := Aside0.mk hb1; have HX21 := Aside0.mk (keep_below HX2.out hb1); have HX41 := Aside0.mk (keep_below HX4.out hb1); have q20 := Joins.cell_of_block HX21.out 0; have q21 := Joins.cell_of_block HX21.out 1; have g20 := blk_frozen HX21.out 0; have g21 := blk_frozen HX21.out 1; have q40 := Joins.cell_of_block HX41.out 0; have q41 := Joins.cell_of_block HX41.out 1; clear hb1))
          refine bodyPost_ret (results_ct rfl _ _ w.heap.size 37 #[.int .i64 (rd l 1), .slice Au acc.length cu] (0, 0) _ rfl (set37 HX21.out _ _) Try.underlying37 rfl (by kernel_rfl)) rfl ?_
          rw [HYES.out]
          exact ⟨_, rfl, Kd.R_set (Kd.R_set (Kd.R_below HU.out HB1.out) HX21.out (by decide) _ _) (blk_put HX21.out 0 _ rfl) (by decide) _ _, below_set (below_set (below_step HBW.out HB1.out) (Nat.le_refl _)) (Nat.le_refl _)⟩
        | false =>
          have hno : unpackR l = (false, 0, []) := by rw [unpackR_is h3 h84, HSL2.out]; simp only; rw [if_neg (fun h => by rw [hR] at h; cases h.2)]
          have HNO := Aside0.mk hno
          have HRB := Aside0.mk hR
          clear hno hR hnil hkl
          go_wp2_with (first
            | (go_at_call 18; (refine (right_any (rd l 1) Au cu acc _ ?n1 ?n2).mono ?_); (case n1 => exact HRU.out); (case n2 => exact HCU.out); rintro e w1 ⟨rfl, hb1⟩; rw [HRB.out]; have HB1 := Aside0.mk hb1; have HX21 := Aside0.mk (keep_below HX2.out hb1); have HX41 := Aside0.mk (keep_below HX4.out hb1); have q20 := Joins.cell_of_block HX21.out 0; have q21 := Joins.cell_of_block HX21.out 1; have g20 := blk_frozen HX21.out 0; have g21 := blk_frozen HX21.out 1; have q40 := Joins.cell_of_block HX41.out 0; have q41 := Joins.cell_of_block HX41.out 1; clear hb1))
          refine bodyPost_ret (results_ct rfl _ _ w.heap.size 37 #[.int .i64 0, .slice none 0 0] (0, 0) _ rfl (set37 HX21.out _ _) Try.underlying37 rfl (by kernel_rfl)) rfl ?_
          rw [HNO.out]
          exact ⟨_, rfl, Kd.R_nil _ _ _ _ _, below_set (below_set (below_step HBW.out HB1.out) (Nat.le_refl _)) (Nat.le_refl _)⟩
      · have hpos : 0 < rest.length := List.length_pos_iff.2 hnil
        have hno : unpackR l = (false, 0, []) := by rw [unpackR_is h3 h84, HSL2.out]; simp only; rw [if_neg (fun h => hnil h.1)]
        have d1 : decide ((rest.length : Int) > 0) = true := decide_eq_true (by omega)
        have d2 : decide (0 < rest.length) = true := decide_eq_true hpos
        have d3 : decide (0 < (rest.length : Int)) = true := decide_eq_true (by omega)
        have HNO := Aside0.mk hno
        clear hno hnil hkl
        go_wp2
        refine bodyPost_ret (results_ct rfl _ _ w.heap.size 37 #[.int .i64 0, .slice none 0 0] (0, 0) _ rfl (set37 HX2.out _ _) Try.underlying37 rfl (by kernel_rfl)) rfl ?_
        rw [HNO.out]
        exact ⟨_, rfl, Kd.R_nil _ _ _ _ _, below_set (below_set HBW.out (Nat.le_refl _)) (Nat.le_refl _)⟩
theorem unpack_any (A : Option Addr) (c : Nat) (l : List Int) (w : World) (hr : Kd.C (Kd.int .u8) w A l.length l) (hc : l.length ≤ c) (hB : Bytes l) :
    Calls Try.prog 24 #[.slice A l.length c] w fun e w' => ∃ v1 : Value, e = .returned (.tuple #[.agg #[.int .i64 (unpackR l).2.1, v1], .bool (unpackR l).1]) ∧ Kd.R k69 69 w' w.heap.size (fun _ => True) v1 (unpackR l).2.2 ∧ Below w.heap.size w w' := by
  by_cases h3 : l.length < 3
  · rw [unpackR_short h3]
    exact (unpack_short A c l w h3).mono (fun e w' h => ⟨_, h.1, Kd.R_nil _ _ _ _ _, h.2⟩)
  · by_cases h84 : rd l 0 = 84
    · exact unpack_main A c l w hr hc hB (by omega) h84
    · rw [unpackR_head h84]
      exact (unpack_head A c l w hr (by omega) h84).mono (fun e w' h => ⟨_, h.1, Kd.R_nil _ _ _ _ _, h.2⟩)
end Go.Proofs.Ytpllpagbdmikpaa.PAll

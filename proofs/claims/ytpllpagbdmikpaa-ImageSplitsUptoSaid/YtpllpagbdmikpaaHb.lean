import Derived.Test.YtpllpagbdmikpaaPAllx0
import Derived.WalkSpells

import Derived.Outline
namespace Go.Proofs.Ytpllpagbdmikpaa.PAll
open Go.RowKit Go.Proofs.YtpllpagbdmikpaaW.PrintWords Go.Proofs.YtpllpagbdmikpaaW.PrintLast Go.Proofs.YtpllpagbdmikpaaW.PrintMore
attribute [local go_sem] max2_int min2_int max_two min_two max_three min_three max_four min_four
set_option maxRecDepth 100000 in
theorem clone_any (A : Option Addr) (c : Nat) (l : List S69) (w : World) (hr : Kd.C k69 w A l.length l) (hc : l.length ≤ c) (hb : l.length * 40 ≤ 140737488355328) :
    Calls Try.prog 32 #[.slice A l.length c] w fun e w' => ∃ v0_ : Value, e = .returned (v0_) ∧ Kd.R k69 69 w' w.heap.size (fun _ => True) v0_ l ∧ Below w.heap.size w w' := by
  have HR := Aside0.mk hr
  have HC := Aside0.mk hc
  have HBs := Aside0.mk hb
  clear hc hb
  rcases A with _ | ad
  · have h0 : l = [] := by
      rcases Nat.eq_zero_or_pos l.length with h0 | h0
      · exact List.eq_nil_of_length_eq_zero h0
      · obtain ⟨ad, h, _⟩ := hr.2.2 h0
        cases h
    subst h0
    clear hr
    have hnil := fun W : World => Lib.run_eql_slice_nil (P := Try.prog) W 25 69 none 0 c 0 0 Try.underlying25
    go_enter Try.func32, Try.ntmps32
    go_wp2
    go_ret
    exact ⟨_, rfl, Kd.R_nil _ _ _ _ _, Below.refl _ _⟩
  · clear hr
    have hnil := fun W : World => Lib.run_eql_slice_nil (P := Try.prog) W 25 69 (some ad) l.length c 0 0 Try.underlying25
    go_enter Try.func32, Try.ntmps32
    go_wp2_with (first
      | ((with_reducible refine gate_dst (N := 5) rfl ?_); refine Kd.R_lit k69 w.heap.size 69 ?hg (N := 5) ?hd (xs := ([] : List S69)) (inner := []) (ok := fun _ => True) (okp := fun _ => True) ?hr ?hp (fun _ hk => hk) trivial (Below.refl _ _) (Nat.le_refl _) (by simp) ?_; (case hd => rfl); (case hg => rfl); (case hr => first | (go_simp; done) | (go_simp; rfl)); (case hp => exact (Reps.none _ _)); intro v1 w1 ho hb _ _; have HO := Aside0.mk ho; have HB := Aside0.mk hb; clear ho hb)
      | ((with_reducible refine gate_builtin (b := .append) (xs := #[.tmp 5, .tmp 6]) rfl ?_); at_builtin; refine Kd.R_append_rows k69 (w0 := w) w.heap.size rfl (.tmp 5) (.tmp 6) 25 69 (.agg #[(.string ⟨#[]⟩), (.int .i64 0), (.int .i64 0), (.int .i64 0)]) 40 rfl Try.underlying25 info69 rfl (by decide) (by omega) v1 [] l _ _ _ (fun _ => True) (fun _ => False) rfl rfl ?aO ?aR (fun _ _ h => h) (fun _ h => h.elim) ?aF ?aB ?aS ?aL ?_; (case aO => exact HO.out); (case aR => exact Kd.C_below HR.out HB.out); (case aF => exact fun _ _ => trivial); (case aB => exact HB.out); (case aS => exact below_size HB.out); (case aL => have := HBs.out; simp; exact this); intro v2 w2 ho2 hb2 _ _; have HO2 := Aside0.mk ho2; have HB2 := Aside0.mk hb2; clear ho2 hb2))
    go_ret
    exact ⟨_, rfl, HO2.out, HB2.out⟩
/-! ### image.Split -/
def partLo (len : Nat) (i : Nat) : Nat := i * (len / ((len + 7) / 8)) + min i (len % ((len + 7) / 8))
def partN (len : Nat) (i : Nat) : Nat := len / ((len + 7) / 8) + (if i < len % ((len + 7) / 8) then 1 else 0)
def part {α : Type} (l : List α) (i : Nat) : List α := (l.take (partLo l.length i + partN l.length i)).drop (partLo l.length i)
def splitL {α : Type} (l : List α) : List (List α) := (List.range ((l.length + 7) / 8)).map (part l)
theorem partLo_succ (len i : Nat) : partLo len (i + 1) = partLo len i + partN len i := by
  unfold partLo partN
  rw [Nat.succ_mul]
  split <;> omega
theorem partLo_le (len i : Nat) (hi : i ≤ (len + 7) / 8) : partLo len i ≤ len := by
  unfold partLo
  have h := Nat.div_add_mod len ((len + 7) / 8)
  have h2 : i * (len / ((len + 7) / 8)) ≤ ((len + 7) / 8) * (len / ((len + 7) / 8)) := Nat.mul_le_mul_right _ hi
  omega
theorem partN_pos (len i : Nat) (hi : i < (len + 7) / 8) : 1 ≤ partN len i := by
  unfold partN
  have h : 1 ≤ len / ((len + 7) / 8) := by
    rw [Nat.le_div_iff_mul_le (by omega)]
    omega
  omega
theorem splitL_snoc {α : Type} (l : List α) (i : Nat) : (List.range (i + 1)).map (part l) = (List.range i).map (part l) ++ [part l i] := by
  rw [List.range_succ, List.map_append]; rfl
theorem cut_mid3 {P : Program} (t e : TypeId) {i : TypeInfo} (ht : P.underlying t = some (.slice e)) (hi : P.info? e = some i) (size : Nat) (hsz : i.size = size) (A : Option Addr) (n c : Nat) (lo hi' : Nat) (h1 : lo < hi') (h2 : hi' ≤ n) (hc : n ≤ c) :
    ∀ W : World, (Instr.slice t (.slice A n c) (some (.int .i64 (lo : Int))) (some (.int .i64 (hi' : Int))) (some (.int .i64 (hi' : Int)))).run P W = .ok (.slice (A.map (·.add (lo * size))) (hi' - lo) (hi' - lo)) W := by
  intro W
  have hel : P.elem t = e := by simp [Program.elem, ht]
  have hu : P.underlying t = some (.slice (P.elem t)) := by rw [hel]; exact ht
  rw [run_slice_lhm W t A n c hu .i64 .i64 .i64 lo hi' hi' (by omega) (by omega) (by omega) (by omega), hel]
  simp [sizeOf, typeInfo, hi, hsz, sliced, Result.andThen]
  omega
theorem info25 : (Try.prog.info? 25).map (fun i => (i.zero, i.size, i.bytes)) = some (some (.slice none 0 0), 1, 24) := by kernel_rfl
theorem clone_n (A : Option Addr) (n c : Nat) (l : List S69) (w : World) (hn : n = l.length) (hr : Kd.C k69 w A n l) (hc : n ≤ c) (hb : n * 40 ≤ 140737488355328) :
    Calls Try.prog 32 #[.slice A n c] w fun e w' => ∃ v0_ : Value, e = .returned (v0_) ∧ Kd.R k69 69 w' w.heap.size (fun _ => True) v0_ l ∧ Below w.heap.size w w' := by
  subst hn; exact clone_any A c l w hr hc hb
set_option maxRecDepth 100000 in
set_option maxHeartbeats 1000000 in
theorem split_any (A : Option Addr) (c : Nat) (l : List S69) (w : World) (hr : Kd.C k69 w A l.length l) (hc : l.length ≤ c) (hb : l.length * 40 ≤ 140737488355328) :
    Calls Try.prog 11 #[.slice A l.length c] w fun e w' => ∃ v0_ : Value, e = .returned (v0_) ∧ Kd.R (Kd.slice 69 k69) 25 w' w.heap.size (fun _ => True) v0_ (splitL l) ∧ Below w.heap.size w w' := by
  have HR := Aside0.mk hr
  have HC := Aside0.mk hc
  have HBs := Aside0.mk hb
  obtain ⟨q, hq⟩ : ∃ q, q = (l.length + 7) / 8 := ⟨_, rfl⟩
  have hlen : l.length ≤ 3518437208883 := by omega
  have e1 : ((l.length : Int) + 8 - 1) / 8 = (q : Int) := by omega
  have hq2 : q ≤ 439804651111 := by omega
  clear hc hb hr
  have Hq := Aside0.mk hq
  clear hq
  go_enter Try.func11, Try.ntmps11
  go_wp2
  rw [e1]
  go_loopw [4, 5, 14] (fun v a i wr => ∃ k lo : Nat, k ≤ q ∧ i = .int .i64 k ∧ a = .int .i64 lo ∧ Aside0 (lo = partLo l.length k) ∧ Kd.R (Kd.slice 69 k69) 25 wr w.heap.size (fun _ => True) v ((List.range k).map (part l)) ∧ Below w.heap.size w wr) (fun _ _ i _ => q - (intOf i).toNat)
  case atStart => exact ⟨0, 0, Nat.zero_le _, rfl, rfl, ⟨by simp [partLo]⟩, Kd.R_nil _ _ _ _ _, Below.refl _ _⟩
  case round =>
    obtain ⟨k, lo, hk, rfl, rfl, HLo, ho, hb⟩ := hrel
    have HO := Aside0.mk ho
    have HB := Aside0.mk hb
    clear ho hb
    by_cases hlt : k < q
    · have hq1 : 1 ≤ (q : Int) := by omega
      have hlo := partLo_le l.length (k + 1) (by have := Hq.out; omega)
      rw [partLo_succ, ← HLo.out] at hlo
      have hn1 := partN_pos l.length k (by have := Hq.out; omega)
      have hn8 : partN l.length k ≤ l.length := by omega
      obtain ⟨qd, hqd⟩ : ∃ qd, qd = l.length / q := ⟨_, rfl⟩
      obtain ⟨rm, hrm⟩ : ∃ rm, rm = l.length % q := ⟨_, rfl⟩
      have hd : (l.length : Int) / (q : Int) = (qd : Int) := by rw [hqd]; simp
      have hm : (l.length : Int) % (q : Int) = (rm : Int) := by rw [hrm]; simp
      have hN : (qd : Int) + (if k < rm then 1 else 0) = (partN l.length k : Nat) := by
        unfold partN; rw [← Hq.out, ← hqd, ← hrm]; split <;> simp
      have hqdl : qd ≤ l.length := by rw [hqd]; exact Nat.div_le_self _ _
      have hrml : rm ≤ l.length := by rw [hrm]; exact Nat.mod_le _ _
      clear hqd hrm
      obtain ⟨nn, hNn⟩ : ∃ nn, nn = partN l.length k := ⟨_, rfl⟩
      rw [← hNn] at hlo
      rw [← hNn] at hN hn1 hn8
      obtain ⟨i0, hi0, _, hsz0, _⟩ := info_parts info69
      have hcut := cut_mid3 (P := Try.prog) 25 69 Try.underlying25 hi0 4 hsz0 A l.length c lo (lo + nn) (by omega) (by omega) HC.out
      have hC := Kd.C_mid (k := k69) (lo := lo) (hi := lo + nn) (c := c) HR.out (by omega) hlo HC.out
      have HN := Aside0.mk hNn
      have HCm := Aside0.mk hC
      clear hNn hC
      rw [show ((lo + nn : Nat) : Int) = (lo : Int) + (nn : Int) from by simp] at hcut
      rw [show lo + nn - lo = nn from by omega] at hcut
      have hl2 : ((l.take (lo + nn)).drop lo).length = nn := by rw [List.length_drop, List.length_take]; omega
      have hcl : c ≠ lo := by have := HC.out; omega
      have HCl : Kd.C k69 w (A.map (·.add (lo * 4))) nn ((l.take (lo + nn)).drop lo) := by
        have := HCm.out
        rw [if_neg hcl, hl2] at this
        exact this
      have HC2 := Aside0.mk HCl
      have HL2 := Aside0.mk hl2
      clear HCl hl2 HCm
      obtain ⟨A2, hA2⟩ : ∃ A2, A2 = A.map (·.add (lo * 4)) := ⟨_, rfl⟩
      rw [← hA2] at hcut HC2
      clear hA2 hcl
      have HK1 : Aside0 ((((List.range k).map (part l)).length + 1) * 24 ≤ 140737488355328) := ⟨by simp; omega⟩
      by_cases hmk : k < rm
      · have hN2 : (qd : Int) + 1 = (nn : Int) := by rw [if_pos hmk] at hN; exact hN
        clear hN
        go_wp2_with (first
          | (go_at_call 32; (refine (clone_n A2 nn nn ((l.take (lo + nn)).drop lo) _ HL2.out.symm ?a1 (Nat.le_refl _) (by omega)).mono ?_); (case a1 => exact Kd.C_below HC2.out HB.out); rintro e w1 ⟨v1, rfl, ho1, hb1⟩; have HO1 := Aside0.mk (Kd.R_lower (Kd.R_new' ho1 (Kd.R_lt HO.out)) (below_size HB.out)); have HO2 := Aside0.mk (Kd.R_below HO.out hb1); have HB2 := Aside0.mk (below_step HB.out hb1); clear ho1 hb1; obtain ⟨Ao, co, eo⟩ := Kd.R_slice HO1.out; rw [HL2.out] at eo; subst eo)
          | ((with_reducible refine gate_builtin (b := .append) (xs := #[.tmp 29, .tmp 40]) rfl ?_); at_builtin; refine Kd.R_append (Kd.slice 69 k69) (w0 := w) w.heap.size rfl (.tmp 29) (.tmp 40) 23 25 (.slice none 0 0) 24 rfl Try.underlying23 info25 rfl Nat.zero_lt_one (Nat.succ_pos 23) u4 ((List.range k).map (part l)) ((l.take (lo + nn)).drop lo) [_] (fun _ => True) (fun k_ => True ∧ some k_ ≠ u4.ownBlock) rfl rfl (Kd.M_row HO1.out) (fun _ hk => hk) (fun _ _ => trivial) HO2.out HB2.out (below_size HB2.out) HK1.out ?_; intro v2 w2 ho2 hb2 _ _; have HO3 := Aside0.mk ho2; have HB3 := Aside0.mk hb2; clear ho2 hb2))
        go_roundw
        case rel => exact ⟨k + 1, lo + nn, by omega, by go_num, by go_num, ⟨by rw [partLo_succ, HLo.out, HN.out]⟩, by rw [splitL_snoc]; have e := HO3.out; rw [show part l k = (l.take (lo + nn)).drop lo from by unfold part; rw [← HLo.out, ← HN.out]]; exact e, HB3.out⟩
        case measure => simp [intOf]; omega
      · have hN2 : (qd : Int) = (nn : Int) := by rw [if_neg hmk] at hN; simpa using hN
        clear hN
        go_wp2_with (first
          | (go_at_call 32; (refine (clone_n A2 nn nn ((l.take (lo + nn)).drop lo) _ HL2.out.symm ?a1 (Nat.le_refl _) (by omega)).mono ?_); (case a1 => exact Kd.C_below HC2.out HB.out); rintro e w1 ⟨v1, rfl, ho1, hb1⟩; have HO1 := Aside0.mk (Kd.R_lower (Kd.R_new' ho1 (Kd.R_lt HO.out)) (below_size HB.out)); have HO2 := Aside0.mk (Kd.R_below HO.out hb1); have HB2 := Aside0.mk (below_step HB.out hb1); clear ho1 hb1; obtain ⟨Ao, co, eo⟩ := Kd.R_slice HO1.out; rw [HL2.out] at eo; subst eo)
          | ((with_reducible refine gate_builtin (b := .append) (xs := #[.tmp 29, .tmp 40]) rfl ?_); at_builtin; refine Kd.R_append (Kd.slice 69 k69) (w0 := w) w.heap.size rfl (.tmp 29) (.tmp 40) 23 25 (.slice none 0 0) 24 rfl Try.underlying23 info25 rfl Nat.zero_lt_one (Nat.succ_pos 23) u4 ((List.range k).map (part l)) ((l.take (lo + nn)).drop lo) [_] (fun _ => True) (fun k_ => True ∧ some k_ ≠ u4.ownBlock) rfl rfl (Kd.M_row HO1.out) (fun _ hk => hk) (fun _ _ => trivial) HO2.out HB2.out (below_size HB2.out) HK1.out ?_; intro v2 w2 ho2 hb2 _ _; have HO3 := Aside0.mk ho2; have HB3 := Aside0.mk hb2; clear ho2 hb2))
        go_roundw
        case rel => exact ⟨k + 1, lo + nn, by omega, by go_num, by go_num, ⟨by rw [partLo_succ, HLo.out, HN.out]⟩, by rw [splitL_snoc]; have e := HO3.out; rw [show part l k = (l.take (lo + nn)).drop lo from by unfold part; rw [← HLo.out, ← HN.out]]; exact e, HB3.out⟩
        case measure => simp [intOf]; omega
    · have hkq : k = q := by omega
      subst hkq
      clear hlt
      go_wp2
      go_ret
      refine ⟨_, rfl, ?_, HB.out⟩
      have h2 := HO.out
      unfold splitL
      rw [← Hq.out]
      exact h2
end Go.Proofs.Ytpllpagbdmikpaa.PAll

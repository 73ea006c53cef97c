import Derived.Test.YtpllpagbdmikpaaHw
import Derived.Test.YtpllpagbdmikpaaPAllx11
namespace Go.Proofs.Ytpllpagbdmikpaa.PAll
open Go.RowKit Go.Proofs.YtpllpagbdmikpaaW.PrintWords Go.Proofs.YtpllpagbdmikpaaW.PrintLast Go.Proofs.YtpllpagbdmikpaaW.PrintMore
set_option linter.unusedSimpArgs false
set_option linter.unusedVariables false
/-! ### the document's Bound: plain -/
theorem asc_all {ks : List ByteArray} (h : ascB ks = true) : ∀ t, t < ks.length → keyAt ks t = true := fun t ht => List.all_eq_true.1 h t (List.mem_range.2 ht)
theorem keyAt_key {ks : List ByteArray} {t : Nat} (h : keyAt ks t = true) : keyOk (ks.getD t z9) = true := by unfold keyAt at h; rw [Bool.and_eq_true] at h; exact h.1
theorem asc_right {ks : List ByteArray} (h : ascB ks = true) (i : Nat) (hi : i < nPart ks.length) : rightB 0 ((part ks i).map sk) = true := by
  have h1 := part_pos ks i hi
  have h2 : (part ks i).length ≤ 8 := by rw [part_len ks i hi]; exact partN_le _ i hi
  unfold rightB headOk
  rw [List.length_map, Bool.and_eq_true, decide_eq_true_eq]
  refine ⟨⟨by omega, by omega, h1, h2⟩, List.all_eq_true.2 (fun j hj => ?_)⟩
  have hj2 := List.mem_range.1 hj
  obtain ⟨e1, hlt⟩ := part_get ks i j hj2
  unfold slotOk
  rw [sk_get _ j hj2, e1]
  have hk := asc_all h _ hlt
  have hko := keyAt_key hk
  have hp : plOk (sk (ks.getD (partLo ks.length i + j) z9)).f1.f0 (sk (ks.getD (partLo ks.length i + j) z9)).f1.f1 (sk (ks.getD (partLo ks.length i + j) z9)).f1.f2 = true := show plOk 0 0 0 = true by decide
  rw [hp, show (sk (ks.getD (partLo ks.length i + j) z9)).f0 = ks.getD (partLo ks.length i + j) z9 from rfl, hko]
  rcases Nat.eq_zero_or_pos j with h0 | hpos
  · subst h0; rfl
  · obtain ⟨e2, hlt2⟩ := part_get ks i (j - 1) (by omega)
    rw [sk_get _ (j - 1) (by omega), e2]
    have := asc_lt (asc_all h) (show partLo ks.length i + (j - 1) < partLo ks.length i + j by omega) hlt
    rw [show (sk (ks.getD (partLo ks.length i + (j - 1)) z9)).f0 = ks.getD (partLo ks.length i + (j - 1)) z9 from rfl, this]
    simp
theorem pack_kSum (lv : Int) (pt : List ByteArray) : (packL lv (pt.map sk)).length = 3 + kSum pt := by
  unfold packL
  rw [List.length_append]
  have : ∀ l : List ByteArray, ((l.map sk).flatMap slotBytes).length = kSum l := by
    intro l
    induction l with
    | nil => rfl
    | cons k r ih =>
      rw [List.map_cons, List.flatMap_cons, List.length_append, ih, slotBytes_len]
      simp only [kSum, sk]
      omega
  rw [this]
  rfl
theorem size_part {ks : List ByteArray} (h : ascB ks = true) (i : Nat) (hi : i < nPart ks.length) : sizeOf' 0 ((part ks i).map sk) = ((9 + kSum (part ks i) : Nat) : Int) := by
  unfold sizeOf'
  rw [if_pos (asc_right h i hi), pack_kSum]
  push_cast
  omega
theorem partLo_mono (n i : Nat) : partLo n i ≤ partLo n (i + 1) := by rw [partLo_succ]; omega
theorem partLo_lt (n i : Nat) (hi : i < nPart n) : partLo n i < partLo n (i + 1) := by
  rw [partLo_succ]
  have := partN_pos n i hi
  omega
theorem asc_heads {ks : List ByteArray} (h : ascB ks = true) : ascB (heads ks) = true := by
  refine List.all_eq_true.2 (fun i hi => ?_)
  have hi2 := List.mem_range.1 hi
  rw [heads_len] at hi2
  unfold keyAt
  rw [heads_get ks i hi2]
  obtain ⟨e1, hlt⟩ := part_get ks i 0 (by have := part_pos ks i hi2; omega)
  rw [Nat.add_zero] at e1 hlt
  rw [e1, keyAt_key (asc_all h _ hlt)]
  rcases Nat.eq_zero_or_pos i with h0 | hpos
  · subst h0; rfl
  · obtain ⟨j, rfl⟩ : ∃ j, i = j + 1 := ⟨i - 1, by omega⟩
    rw [Nat.add_sub_cancel, heads_get ks j (by omega)]
    obtain ⟨e2, hlt2⟩ := part_get ks j 0 (by have := part_pos ks j (by omega); omega)
    rw [Nat.add_zero] at e2 hlt2
    rw [e2]
    have := asc_lt (asc_all h) (partLo_lt ks.length j (by omega)) hlt
    rw [this]
    simp
/-! ### the document's Split -/
theorem rsplit_l0 (l : List S50) (hl : l.length ≤ 3518437208883) (q : Nat) (hq : q = (l.length + 7) / 8) : ∀ (d i : Nat), i + d = q → Ev (fun k => pumiceref10_Split.l0 k l (q : Int) ((List.range i).map (part l)) (partLo l.length i : Nat) (i : Nat)) (splitL l)
  | 0, i, hi => by
    refine Ev.step (f := fun _ => some _) (fun k => ?_) (Ev.now _)
    simp only [pumiceref10_Split.l0]
    rw [if_neg (by omega)]
    unfold splitL
    rw [← hq, show i = q by omega]
  | d + 1, i, hi => by
    have h2 := rsplit_l0 l hl q hq d (i + 1) (by omega)
    refine Ev.step (fun k => ?_) h2
    have hiq : i < q := by omega
    have hlo := partLo_le l.length (i + 1) (by omega)
    have hlo2 := partLo_succ l.length i
    obtain ⟨dv, hdv⟩ : ∃ x, x = l.length / q := ⟨_, rfl⟩
    obtain ⟨md, hmd⟩ : ∃ x, x = l.length % q := ⟨_, rfl⟩
    have hN : partN l.length i = dv + (if i < md then 1 else 0) := by unfold partN; rw [← hq, hdv, hmd]
    have E1 := Aside0.mk (show ((l.length : Int) / (q : Int)) = (dv : Int) by rw [hdv]; rfl)
    have E2 := Aside0.mk (show ((l.length : Int) % (q : Int)) = (md : Int) by rw [hmd]; rfl)
    have hdle : dv ≤ l.length := by rw [hdv]; exact Nat.div_le_self _ _
    have hlen : ((List.range i).map (part l)).length = i := by simp
    have hpart : ∀ hi' : Nat, hi' = partLo l.length (i + 1) → (l.take hi').drop (partLo l.length i) = part l i := fun hi' e => by rw [e, hlo2]; rfl
    have hrange : (List.range (i + 1)).map (part l) = (List.range i).map (part l) ++ [part l i] := by rw [List.range_succ, List.map_append]; rfl
    obtain ⟨lo, hlo0⟩ : ∃ x, x = partLo l.length i := ⟨_, rfl⟩
    obtain ⟨lo1, hlo1⟩ : ∃ x, x = partLo l.length (i + 1) := ⟨_, rfl⟩
    rw [hrange, ← hlo1]
    rw [← hlo1, ← hlo0] at hlo2
    rw [← hlo1] at hlo hpart
    rw [← hlo0] at hpart ⊢
    clear hrange hlo0 hlo1 hdv hmd h2
    have hw1 := Aside0.mk (show wrap64 (dv : Int) = (dv : Int) from Plain.wrap64_of (by omega) (by omega))
    have hw2 := Aside0.mk (show wrap64 ((dv : Int) + 1) = (dv : Int) + 1 from Plain.wrap64_of (by omega) (by omega))
    have hwi := Aside0.mk (show wrap64 ((i : Int) + 1) = ((i + 1 : Nat) : Int) from (Plain.wrap64_of (by omega) (by omega)).trans (by omega))
    simp only [pumiceref10_Split.l0]
    rw [if_pos (by omega), if_neg (by omega), E1.out, E2.out, hw1.out, hw2.out, hwi.out]
    by_cases hm : i < md
    · rw [if_pos (by omega)]
      rw [if_pos hm] at hN
      have hw3 := Aside0.mk (show wrap64 ((lo : Int) + ((dv : Int) + 1)) = (lo1 : Int) from (Plain.wrap64_of (by omega) (by omega)).trans (by omega))
      rw [hw3.out, if_pos (by omega), if_pos (by omega), if_pos (by omega), if_pos (by rw [hlen]; omega)]
      rw [Int.toNat_natCast, Int.toNat_natCast, hpart _ rfl]
    · rw [if_neg (by omega)]
      rw [if_neg hm, Nat.add_zero] at hN
      have hw3 := Aside0.mk (show wrap64 ((lo : Int) + (dv : Int)) = (lo1 : Int) from (Plain.wrap64_of (by omega) (by omega)).trans (by omega))
      rw [hw3.out, if_pos (by omega), if_pos (by omega), if_pos (by omega), if_pos (by rw [hlen]; omega)]
      rw [Int.toNat_natCast, Int.toNat_natCast, hpart _ rfl]
theorem rsplit_is (l : List S50) (hl : l.length ≤ 3518437208883) : ∃ K, pumiceref10_Split.f K l = some (splitL l) := by
  obtain ⟨K, hK⟩ := rsplit_l0 l hl _ rfl ((l.length + 7) / 8) 0 (by omega)
  refine ⟨K, ?_⟩
  have h := hK K (Nat.le_refl _)
  have h0 : partLo l.length 0 = 0 := by simp [partLo]
  simp only [h0, List.range_zero, List.map_nil] at h
  unfold pumiceref10_Split.f
  have e : wrap64 (Int.tdiv (wrap64 ((wrap64 ((l.length : Int) + 8)) - 1)) 8) = (((l.length + 7) / 8 : Nat) : Int) := by
    rw [IntWalk.wrap64_in ((l.length : Int) + 8) (by omega), IntWalk.wrap64_in ((l.length : Int) + 8 - 1) (by omega), Int.tdiv_eq_ediv_of_nonneg (by omega), IntWalk.wrap64_in (((l.length : Int) + 8 - 1) / 8) (by omega)]
    omega
  rw [e]
  exact h
end Go.Proofs.Ytpllpagbdmikpaa.PAll

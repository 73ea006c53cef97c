import Derived.Test.YtpllpagbdmikpaaHk
namespace Go.Proofs.Ytpllpagbdmikpaa.PAll
open Go.RowKit Go.Proofs.YtpllpagbdmikpaaW.PrintWords Go.Proofs.Ytpllpagbdmikpaa.Plain
/-! ### a right node's kids -/
theorem less_irrefl : ∀ a : List UInt8, Op.bytesLess a a = false
  | [] => rfl
  | a :: x => by simp [Op.bytesLess, less_irrefl x]
theorem less_trans : ∀ {a b c : List UInt8}, Op.bytesLess a b = true → Op.bytesLess b c = true → Op.bytesLess a c = true
  | _, [], _, h, _ => by cases ‹List UInt8› <;> simp [Op.bytesLess] at h
  | _, _ :: _, [], _, h => by simp [Op.bytesLess] at h
  | [], _ :: _, _ :: _, _, _ => by simp [Op.bytesLess]
  | a :: x, b :: y, c :: z, h1, h2 => by
    simp only [Op.bytesLess, Bool.or_eq_true, decide_eq_true_eq, Bool.and_eq_true, beq_iff_eq] at h1 h2 ⊢
    rcases h1 with h1 | ⟨rfl, h1⟩
    · rcases h2 with h2 | ⟨rfl, h2⟩
      · exact .inl (UInt8.lt_trans h1 h2)
      · exact .inl h1
    · rcases h2 with h2 | ⟨rfl, h2⟩
      · exact .inl h2
      · exact .inr ⟨rfl, less_trans h1 h2⟩
theorem leB_mono {s : S69} {a b : ByteArray} (hab : Op.bytesLess b.toList a.toList = false) (h : leB s a = true) : leB s b = true := by
  rw [leB_is] at h ⊢
  have h1 : Op.bytesLess a.toList s.f0.toList = false := by simpa using h
  cases h2 : Op.bytesLess b.toList s.f0.toList with
  | false => rfl
  | true =>
    -- b < s, and not a < s, so s <= a; so b < a
    exfalso
    have h3 := less_total s.f0.toList a.toList
    rw [h1] at h3
    rw [Bool.not_false, Bool.or_eq_true] at h3
    rcases h3 with h3 | h3
    · rw [less_trans h2 h3] at hab; cases hab
    · rw [beq_iff_eq] at h3
      rw [h3] at h2
      rw [h2] at hab; cases hab
theorem childN_range (l : List S69) (key : ByteArray) : ∀ n : Nat, -1 ≤ childN l key n ∧ childN l key n < n
  | 0 => by simp [childN]
  | n + 1 => by
    have := childN_range l key n
    unfold childN
    split <;> omega
theorem childN_mono (l : List S69) {a b : ByteArray} (hab : Op.bytesLess b.toList a.toList = false) : ∀ n : Nat, childN l a n ≤ childN l b n
  | 0 => by simp [childN]
  | n + 1 => by
    have ih := childN_mono l hab n
    have hr := childN_range l a n
    unfold childN
    by_cases h1 : leB (l.getD n z69) a = true
    · rw [if_pos h1, if_pos (leB_mono hab h1)]; omega
    · rw [if_neg h1]
      split
      · omega
      · exact ih
theorem right_step {lv : Int} {l : List S69} (h : rightB lv l = true) {k : Nat} (hk : k + 1 < l.length) : Op.bytesLess (l.getD k z69).f0.toList (l.getD (k + 1) z69).f0.toList = true := by
  unfold rightB at h
  rw [Bool.and_eq_true, List.all_eq_true] at h
  have h2 := h.2 (k + 1) (List.mem_range.2 hk)
  unfold slotOk at h2
  rw [Bool.and_eq_true] at h2
  simpa using h2.2
theorem right_lt {lv : Int} {l : List S69} (h : rightB lv l = true) {i : Nat} : ∀ {j : Nat}, i < j → j < l.length → Op.bytesLess (l.getD i z69).f0.toList (l.getD j z69).f0.toList = true
  | 0, h1, _ => by omega
  | j + 1, h1, h2 => by
    rcases Nat.lt_or_ge i j with h3 | h3
    · exact less_trans (right_lt h h3 (by omega)) (right_step h h2)
    · obtain rfl : i = j := by omega
      exact right_step h h2
theorem child_own {lv : Int} {l : List S69} (h : rightB lv l = true) {k : Nat} (hk : k < l.length) : childN l (l.getD k z69).f0 l.length = (k : Int) := by
  refine childN_at ?_ hk (fun j h1 h2 => ?_)
  · rw [leB_is, less_irrefl]; rfl
  · rw [leB_is, right_lt h h1 h2]; rfl
theorem child_none {lv : Int} {l : List S69} (h : rightB lv l = true) (a : ByteArray) : Op.bytesLess a.toList (l.getD 0 z69).f0.toList = decide (childN l a l.length = -1) := by
  have h1 := (right_8 h).2.2.1
  cases e : Op.bytesLess a.toList (l.getD 0 z69).f0.toList with
  | true =>
    rw [childN_all (fun j hj => ?_)]
    · rfl
    · rw [leB_is]
      rcases Nat.eq_zero_or_pos j with rfl | hj0
      · rw [e]; rfl
      · rw [less_trans e (right_lt h hj0 hj)]; rfl
  | false =>
    have h2 : ∀ n, 1 ≤ n → 0 ≤ childN l a n := by
      intro n
      induction n with
      | zero => omega
      | succ n ih =>
        intro _
        unfold childN
        split
        · omega
        · rename_i hn
          rcases Nat.eq_zero_or_pos n with rfl | hn0
          · exfalso
            rw [leB_is, e] at hn
            exact hn rfl
          · exact ih hn0
    have := h2 l.length h1
    symm
    rw [decide_eq_false_iff_not]
    omega
end Go.Proofs.Ytpllpagbdmikpaa.PAll

import Derived.Test.YtpllpagbdmikpaaHu
namespace Go.Proofs.Ytpllpagbdmikpaa.PAll
open Go.RowKit Go.Proofs.YtpllpagbdmikpaaW.PrintWords
set_option linter.unusedSimpArgs false
set_option linter.unusedVariables false
/-! ### the bytes of an index: plain -/
def sk (k : ByteArray) : S69 := ⟨k, z67⟩
def skr (k : ByteArray) : S50 := ⟨k, z48⟩
theorem conv_skr (k : ByteArray) : conv (skr k) = sk k := rfl
theorem map_skr (ks : List ByteArray) : (ks.map skr).map conv = ks.map sk := by rw [List.map_map]; rfl
def z9 : ByteArray := ⟨#[]⟩
def keyAt (ks : List ByteArray) (i : Nat) : Bool := keyOk (ks.getD i z9) && (i == 0 || Op.bytesLess (ks.getD (i - 1) z9).toList (ks.getD i z9).toList)
def ascB (ks : List ByteArray) : Bool := (List.range ks.length).all (keyAt ks)
def kSum : List ByteArray → Nat
  | [] => 0
  | k :: r => 8 + k.size + kSum r
def nPart (n : Nat) : Nat := (n + 7) / 8
def heads (ks : List ByteArray) : List ByteArray := (List.range (nPart ks.length)).map fun i => (part ks i).getD 0 z9
def bnd : Nat → List ByteArray → Nat
  | 0, _ => 0
  | f + 1, ks => if ks.length = 0 then 0 else 9 * nPart ks.length + kSum ks + (if nPart ks.length = 1 then 0 else bnd f (heads ks))
def boundL (ks : List ByteArray) : Nat := if ascB ks = true then bnd (ks.length + 1) ks else 0
theorem heads_len (ks : List ByteArray) : (heads ks).length = nPart ks.length := by simp [heads]
theorem kSum_append (a b : List ByteArray) : kSum (a ++ b) = kSum a + kSum b := by
  induction a with
  | nil => simp [kSum]
  | cons x a ih => simp only [List.cons_append, kSum, ih]; omega
theorem kSum_take_succ (l : List ByteArray) (j : Nat) (hj : j < l.length) : kSum (l.take (j + 1)) = kSum (l.take j) + (8 + (l.getD j z9).size) := by
  rw [List.take_succ_eq_append_getElem hj, kSum_append]
  simp [kSum, List.getD, hj]
theorem kSum_take_le (l : List ByteArray) (j : Nat) : kSum (l.take j) ≤ kSum l := by
  have h := kSum_append (l.take j) (l.drop j)
  rw [List.take_append_drop] at h
  omega
theorem kSum_part (ks : List ByteArray) (i : Nat) (hi : i < nPart ks.length) : kSum (ks.take (partLo ks.length (i + 1))) = kSum (ks.take (partLo ks.length i)) + kSum (part ks i) := by
  rw [← take_part ks i hi, kSum_append]
theorem part_map {α β : Type} (f : α → β) (l : List α) (i : Nat) : part (l.map f) i = (part l i).map f := by
  simp [part, List.map_take, List.map_drop, List.length_map]
theorem heads_get (ks : List ByteArray) (i : Nat) (hi : i < nPart ks.length) : (heads ks).getD i z9 = (part ks i).getD 0 z9 := by
  simp [heads, List.getD, hi]
theorem heads_take (ks : List ByteArray) (i : Nat) (hi : i < nPart ks.length) : (heads ks).take (i + 1) = (heads ks).take i ++ [(part ks i).getD 0 z9] := by
  rw [List.take_succ_eq_append_getElem (by rw [heads_len]; exact hi)]
  congr 2
  have := heads_get ks i hi
  rw [← this]
  simp [List.getD, heads_len, hi]
theorem part_pos (ks : List ByteArray) (i : Nat) (hi : i < nPart ks.length) : 1 ≤ (part ks i).length := by rw [part_len ks i hi]; exact partN_pos _ i hi
theorem part_get (ks : List ByteArray) (i j : Nat) (hj : j < (part ks i).length) : (part ks i).getD j z9 = ks.getD (partLo ks.length i + j) z9 ∧ partLo ks.length i + j < ks.length := by
  unfold part at hj ⊢
  rw [List.length_drop, List.length_take] at hj
  refine ⟨?_, by omega⟩
  simp only [List.getD, List.getElem?_drop]
  rw [List.getElem?_take, if_pos (by omega)]
theorem heads_mem (ks : List ByteArray) (k : ByteArray) (h : k ∈ heads ks) : k ∈ ks := by
  unfold heads at h
  obtain ⟨i, hi, rfl⟩ := List.mem_map.1 h
  have hi2 := List.mem_range.1 hi
  obtain ⟨e, hlt⟩ := part_get ks i 0 (by have := part_pos ks i hi2; omega)
  rw [e]
  simp only [List.getD, List.getElem?_eq_getElem hlt, Option.getD_some]
  exact List.getElem_mem hlt
theorem nPart_lt {n : Nat} (h : 2 ≤ n) : nPart n < n := by unfold nPart; omega
theorem bnd_fuel : ∀ (f g : Nat) (ks : List ByteArray), ks.length < f → ks.length < g → bnd f ks = bnd g ks
  | 0, _, _, h, _ => absurd h (by omega)
  | _, 0, _, _, h => absurd h (by omega)
  | f + 1, g + 1, ks, h1, h2 => by
    simp only [bnd]
    by_cases h0 : ks.length = 0
    · rw [if_pos h0, if_pos h0]
    · rw [if_neg h0, if_neg h0]
      by_cases h3 : nPart ks.length = 1
      · rw [if_pos h3, if_pos h3]
      · rw [if_neg h3, if_neg h3]
        have hn : 2 ≤ ks.length := by unfold nPart at h3; omega
        have := nPart_lt hn
        rw [bnd_fuel f g (heads ks) (by rw [heads_len]; omega) (by rw [heads_len]; omega)]
theorem kSum_le (ks : List ByteArray) (h : ∀ k ∈ ks, k.size ≤ 64) : kSum ks ≤ 72 * ks.length := by
  induction ks with
  | nil => simp [kSum]
  | cons k r ih =>
    have h1 := h k List.mem_cons_self
    have h2 := ih (fun x hx => h x (List.mem_cons_of_mem _ hx))
    simp only [kSum, List.length_cons]
    omega
/-- How many levels n keys take. -/
def lvls : Nat → Nat → Nat
  | 0, _ => 0
  | f + 1, n => if n ≤ 8 then 1 else 1 + lvls f (nPart n)
theorem bnd_le : ∀ (f g : Nat) (ks : List ByteArray), (∀ k ∈ ks, k.size ≤ 64) → ks.length < g → 1 ≤ ks.length → bnd f ks ≤ 90 * ks.length + 81 * lvls g ks.length
  | 0, _, _, _, _, _ => by simp [bnd]
  | _, 0, _, _, h, _ => absurd h (by omega)
  | f + 1, g + 1, ks, hk, hg, h1 => by
    simp only [bnd, lvls]
    rw [if_neg (by omega)]
    have hs := kSum_le ks hk
    by_cases h8 : ks.length ≤ 8
    · rw [if_pos h8, if_pos (by unfold nPart; omega)]
      unfold nPart
      omega
    · rw [if_neg h8, if_neg (by unfold nPart; omega)]
      have hn : nPart ks.length < ks.length := nPart_lt (by omega)
      have ih := bnd_le f g (heads ks) (fun k hx => hk k (heads_mem ks k hx)) (by rw [heads_len]; omega) (by rw [heads_len]; unfold nPart; omega)
      rw [heads_len] at ih
      have h7 : 8 * nPart ks.length ≤ ks.length + 7 := by unfold nPart; omega
      omega
theorem lvls_le : ∀ (g n : Nat), lvls g n ≤ g
  | 0, _ => by simp [lvls]
  | g + 1, n => by
    simp only [lvls]
    split
    · omega
    · have := lvls_le g (nPart n); omega
theorem bnd_ge (f : Nat) (ks : List ByteArray) (hf : 1 ≤ f) : kSum ks ≤ bnd f ks := by
  match f, hf with
  | f + 1, _ =>
    simp only [bnd]
    by_cases h0 : ks.length = 0
    · rw [if_pos h0, List.length_eq_zero_iff.1 h0]; simp [kSum]
    · rw [if_neg h0]; omega
theorem asc_key {ks : List ByteArray} (h : ascB ks = true) : ∀ k ∈ ks, k.size ≤ 64 := by
  intro k hk
  obtain ⟨i, hi, rfl⟩ := List.mem_iff_getElem.1 hk
  have h2 := List.all_eq_true.1 h i (List.mem_range.2 hi)
  unfold keyAt keyOk at h2
  rw [Bool.and_eq_true, decide_eq_true_eq] at h2
  have e : ks.getD i z9 = ks[i] := by simp [List.getD, hi]
  rw [e] at h2
  exact h2.1.2
theorem bl_irrefl : ∀ a : List UInt8, Op.bytesLess a a = false
  | [] => rfl
  | a :: x => by simp [Op.bytesLess, bl_irrefl x]
theorem bl_trans : ∀ {a b c : List UInt8}, Op.bytesLess a b = true → Op.bytesLess b c = true → Op.bytesLess a c = true
  | _, [], _, h, _ => by cases ‹List UInt8› <;> simp [Op.bytesLess] at h
  | _, _ :: _, [], _, h => by simp [Op.bytesLess] at h
  | [], _ :: _, _ :: _, _, _ => by simp [Op.bytesLess]
  | a :: x, b :: y, c :: z, h1, h2 => by
    simp only [Op.bytesLess, Bool.or_eq_true, decide_eq_true_eq, Bool.and_eq_true, beq_iff_eq] at h1 h2 ⊢
    rcases h1 with h1 | ⟨rfl, h1⟩
    · rcases h2 with h2 | ⟨rfl, h2⟩
      · exact .inl (UInt8.lt_trans h1 h2)
      · exact .inl h1
    · rcases h2 with h2 | ⟨rfl, h2⟩
      · exact .inl h2
      · exact .inr ⟨rfl, bl_trans h1 h2⟩
theorem asc_lt {ks : List ByteArray} {n : Nat} (h : ∀ t, t < n → keyAt ks t = true) {i : Nat} : ∀ {j : Nat}, i < j → j < n → Op.bytesLess (ks.getD i z9).toList (ks.getD j z9).toList = true
  | 0, hij, _ => absurd hij (by omega)
  | j + 1, hij, hj => by
    have h2 := h (j + 1) hj
    unfold keyAt at h2
    simp only [Bool.and_eq_true, Bool.or_eq_true, beq_iff_eq, Nat.add_sub_cancel] at h2
    have h3 : Op.bytesLess (ks.getD j z9).toList (ks.getD (j + 1) z9).toList = true := by
      rcases h2.2 with h4 | h4
      · omega
      · exact h4
    rcases Nat.lt_or_ge i j with hlt | hge
    · exact bl_trans (asc_lt h hlt (by omega)) h3
    · rw [show i = j by omega]; exact h3
theorem sk_get (ks : List ByteArray) (i : Nat) (hi : i < ks.length) : (ks.map sk).getD i z69 = sk (ks.getD i z9) := by simp [List.getD, hi]
end Go.Proofs.Ytpllpagbdmikpaa.PAll

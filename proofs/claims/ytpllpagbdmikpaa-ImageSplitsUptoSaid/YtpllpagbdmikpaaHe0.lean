import Derived.Test.YtpllpagbdmikpaaHd
import Derived.Test.YtpllpagbdmikpaaReg
import Derived.Lib.AppendStr
import Derived.Lib.SmallJoins
import Derived.Deep.RegionLaw
import Derived.WalkSpells
import Derived.Outline
namespace Go.Proofs.Ytpllpagbdmikpaa.PAll
open Go.RowKit Go.Proofs.YtpllpagbdmikpaaW.PrintWords Go.Proofs.YtpllpagbdmikpaaW.PrintLast Go.Proofs.YtpllpagbdmikpaaW.PrintMore
attribute [local go_sem] max2_int min2_int max_two min_two max_three min_three max_four min_four
/-! ### pumicelaw10.ImageSplit -/
def conv (s : S50) : S69 := ⟨s.f0, ⟨s.f1.f0, s.f1.f1, s.f1.f2⟩⟩
theorem slots_l (l : List S50) (hl : l.length ≤ 3518437208883) : ∀ d n : Nat, n + d = l.length → pumicelaw10_slots.l0 (d + 1) l ((l.take n).map conv) (n : Int) = some (l.map conv) := by
  intro d
  induction d with
  | zero =>
    intro n hn
    unfold pumicelaw10_slots.l0
    have hnl : n = l.length := by omega
    subst hnl
    simp only [Int.lt_irrefl, if_false, List.take_length]
  | succ d ih =>
    intro n hn
    unfold pumicelaw10_slots.l0
    have hw : wrap64 ((n : Int) + 1) = ((n + 1 : Nat) : Int) := by
      rw [show ((n + 1 : Nat) : Int) = (n : Int) + 1 from rfl]
      exact IntWalk.wrap64_in ((n : Int) + 1) (by omega)
    have hlt : n < l.length := by omega
    have hx : rd_T50 l (n : Int) = l[n] := by simp [rd_T50, List.getD, hlt]
    have ht : (l.take n).map conv ++ [conv l[n]] = (l.take (n + 1)).map conv := by
      rw [List.take_succ_eq_append_getElem hlt, List.map_append]; rfl
    have c1 : (n : Int) < (l.length : Int) := by omega
    have c2 : 0 ≤ (n : Int) := by omega
    have c3 : ((l.take n).map conv).length < 3518437208883 := by rw [List.length_map, List.length_take]; omega
    simp only [eq_true c1, eq_true c2, eq_true c3, if_true, hw, hx]
    show pumicelaw10_slots.l0 (d + 1) l ((l.take n).map conv ++ [conv l[n]]) _ = _
    rw [ht]
    exact ih (n + 1) (by omega)
theorem slots_is (l : List S50) (hl : l.length ≤ 3518437208883) : pumicelaw10_slots.f (l.length + 1) l = some (l.map conv) := slots_l l hl l.length 0 (by omega)
theorem equal_l (m : List S69) (hl : m.length ≤ 3518437208883) : ∀ d n : Nat, n + d = m.length → pumicelaw10_equal.l0 (d + 1) m m (n : Int) = some true := by
  intro d
  induction d with
  | zero =>
    intro n hn
    unfold pumicelaw10_equal.l0
    have hnl : n = m.length := by omega
    subst hnl
    simp only [Int.lt_irrefl, if_false]
  | succ d ih =>
    intro n hn
    unfold pumicelaw10_equal.l0
    have hw : wrap64 ((n : Int) + 1) = ((n + 1 : Nat) : Int) := by
      rw [show ((n + 1 : Nat) : Int) = (n : Int) + 1 from rfl]
      exact IntWalk.wrap64_in ((n : Int) + 1) (by omega)
    have c1 : (n : Int) < (m.length : Int) := by omega
    have c2 : 0 ≤ (n : Int) := by omega
    simp only [eq_true c1, eq_true c2, if_true, hw, beq_self_eq_true, Bool.not_true, Bool.or_self, Bool.false_eq_true, if_false]
    exact ih (n + 1) (by omega)
theorem equal_is (m : List S69) (hl : m.length ≤ 3518437208883) : pumicelaw10_equal.f (m.length + 1) m m = some true := by
  unfold pumicelaw10_equal.f
  rw [if_pos rfl]
  exact equal_l m hl m.length 0 (by omega)
theorem splitL_len {α : Type} (l : List α) : (splitL l).length = (l.length + 7) / 8 := by simp [splitL]
theorem splitL_get (m : List S69) (i : Nat) (hi : i < (m.length + 7) / 8) : (splitL m).getD i [] = part m i := by
  simp [splitL, List.getD, hi]
theorem part_len {α : Type} (m : List α) (i : Nat) (hi : i < (m.length + 7) / 8) : (part m i).length = partN m.length i := by
  have h1 := partLo_le m.length (i + 1) (by omega)
  rw [partLo_succ] at h1
  unfold part
  rw [List.length_drop, List.length_take]
  omega
theorem take_part {α : Type} (m : List α) (i : Nat) (_ : i < (m.length + 7) / 8) : m.take (partLo m.length i) ++ part m i = m.take (partLo m.length (i + 1)) := by
  rw [partLo_succ]
  unfold part
  rw [List.drop_take, show partLo m.length i + partN m.length i - partLo m.length i = partN m.length i from by omega, List.take_add]
theorem partLo_end (len : Nat) : partLo len ((len + 7) / 8) = len := by
  unfold partLo
  have h := Nat.div_add_mod len ((len + 7) / 8)
  rcases Nat.eq_zero_or_pos len with h0 | h0
  · subst h0; simp
  · have h2 := Nat.mod_lt len (show (len + 7) / 8 > 0 by omega)
    rw [Nat.min_eq_right (by omega)]
    exact h
theorem partN_le (len i : Nat) (hi : i < (len + 7) / 8) : partN len i ≤ 8 := by
  have h := Nat.div_add_mod len ((len + 7) / 8)
  have h8 : len / ((len + 7) / 8) ≤ 8 := by
    have : len / ((len + 7) / 8) < 9 := by
      rw [Nat.div_lt_iff_lt_mul (by omega)]
      omega
    omega
  unfold partN
  split
  · rename_i hr
    have h7 : len / ((len + 7) / 8) ≠ 8 := by
      intro he
      rw [he] at h
      omega
    omega
  · omega
theorem partN_0 (len i : Nat) : partN len i ≤ partN len 0 ∧ partN len 0 ≤ partN len i + 1 := by
  unfold partN
  split <;> split <;> omega
theorem partN_down (len i : Nat) : partN len (i + 1) ≤ partN len i := by
  unfold partN
  split <;> split <;> omega
theorem row_at (m : List S69) {w : World} {A : Option Addr} (h : Kd.C (Kd.slice 69 k69) w A (splitL m).length (splitL m)) (i : Nat) (hi : i < (m.length + 7) / 8) :
    ∃ ad Ai ci, A = some ad ∧ w.cell? (ad.add i) = some (.slice Ai (partN m.length i) ci) ∧ partN m.length i ≤ ci ∧ Kd.C k69 w Ai (partN m.length i) (part m i) := by
  obtain ⟨ad, cc, e, _, hk, hc⟩ := Kd.C_get h [] (i : Int) (by omega) (by rw [splitL_len]; omega)
  rw [show ((i : Int)).toNat = i from rfl, splitL_get m i hi] at hk
  obtain ⟨Ai, ci, rfl, q4, q5⟩ := hk
  have hx := hc 0 _ rfl
  rw [show ((i : Int)).toNat * (Kd.slice 69 k69).sz + 0 = i from by simp [Kd.slice]] at hx
  rw [part_len m i hi] at hx q4 q5
  exact ⟨ad, Ai, ci, e, hx, q4, q5⟩
end Go.Proofs.Ytpllpagbdmikpaa.PAll

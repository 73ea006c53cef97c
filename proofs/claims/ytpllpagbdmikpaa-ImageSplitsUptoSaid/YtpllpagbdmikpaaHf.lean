import Derived.Test.YtpllpagbdmikpaaHe0
import Derived.Test.YtpllpagbdmikpaaPAllx6
import Derived.Test.YtpllpagbdmikpaaPAllx7
import Derived.Test.YtpllpagbdmikpaaMath
namespace Go.Proofs.Ytpllpagbdmikpaa.PAll
open Go.RowKit Go.Proofs.YtpllpagbdmikpaaW.PrintWords Go.Proofs.Ytpllpagbdmikpaa.Plain
/-! ### what the reference's small functions tell -/
def clamp (b : Int) : Nat := if b < 0 then 0 else if 8 < b then 8 else b.toNat

theorem rPut_l0 (n b : Int) (hn : 0 ≤ n) : ∀ (d i : Nat), i + d = clamp b → Ev (fun k => pumiceref01_Put.l0 k n b (putL i n) (i : Int)) (putL (clamp b) n)
  | 0, i, hi => by
    refine Ev.step (f := fun _ => some _) (fun k => ?_) (Ev.now _)
    have hi2 : i = clamp b := by omega
    simp only [pumiceref01_Put.l0]
    rw [hi2]
    unfold clamp
    split
    · rw [if_neg (by omega)]
    · split
      · by_cases h : ((8 : Nat) : Int) < b
        · rw [if_pos h, if_neg (by omega)]
        · rw [if_neg h]
      · rw [if_neg (by omega)]
  | d + 1, i, hi => by
    have h2 := rPut_l0 n b hn d (i + 1) (by omega)
    have hlt : (i : Int) < b ∧ (i : Int) < 8 := by
      unfold clamp at hi
      split at hi
      · omega
      · split at hi <;> omega
    refine Ev.step (fun k => ?_) h2
    simp only [pumiceref01_Put.l0]
    have e1 : wrap64 (8 * (i : Int)) = 8 * (i : Int) := wrap64_of (by omega) (by omega)
    have e2 : IntKind.u64.wrap (8 * (i : Int)) = 8 * (i : Int) := wrapU64_of (by omega) (by omega)
    have e3 : min (8 * (i : Int)).toNat IntKind.u64.bits = 8 * i := by simp only [IntKind.bits]; omega
    have e5 : wrap64 ((i : Int) + 1) = ((i + 1 : Nat) : Int) := by rw [wrap64_of (by omega) (by omega)]; simp
    have q1 : (0 : Int) ≤ 8 * (i : Int) := by omega
    have q2 : (putL i n).length < 140737488355328 := by have := putL_length i n; omega
    simp only [e1, e2, e5, eq_true hlt.1, eq_true hlt.2, eq_true q1, eq_true q2, if_true]
    rw [putL_succ]
    unfold shr
    rw [e3, pow_is i (by omega)]
theorem rPut_ev (n b : Int) (hn : 0 ≤ n) : Ev (fun k => pumiceref01_Put.f k n b) (putL (clamp b) n) := rPut_l0 n b hn (clamp b) 0 (by omega)
theorem rput_is (x : Int) (n : Nat) (h : n ≤ 8) : ∃ K, pumiceref01_Put.f K (IntKind.u64.wrap x) (n : Int) = some (putL n (IntKind.u64.wrap x)) := by
  obtain ⟨K, hK⟩ := rPut_ev (IntKind.u64.wrap x) (n : Int) (Plain.wrapU64_nn x).1
  have hc : clamp (n : Int) = n := by unfold clamp; rw [if_neg (by omega), if_neg (by omega)]; simp
  rw [hc] at hK
  exact ⟨K, hK K (Nat.le_refl _)⟩
theorem tlen (s : ByteArray) : s.data.toList.length = s.size := Array.length_toList
theorem bt_get (s : ByteArray) (i : Nat) (h : i < s.size) : bt s (i : Int) = ((s.data.toList[i]'(by rw [tlen]; exact h)).toNat : Int) := by
  unfold bt
  rw [dif_pos (by simpa using h)]
  simp [ByteArray.getElem_eq_getElem_data]
theorem rLess_l0 (a b : ByteArray) (ha : a.size ≤ 9223372036854775806) : ∀ (d i : Nat), i + d = a.size → i ≤ b.size → Ev (fun k => pumiceref02_Less.l0 k a b (i : Int)) (Op.bytesLess (a.data.toList.drop i) (b.data.toList.drop i)) := by
  intro d
  induction d with
  | zero =>
    intro i hi hib
    have hn : ¬ (i : Int) < (a.size : Int) := by omega
    refine Ev.step (f := fun k => pumiceref02_Less.j1 k a b (i : Int) false) (fun k => ?_) (Ev.step (f := fun _ => some _) (fun k => ?_) (Ev.now _))
    · simp only [pumiceref02_Less.l0]
      rw [if_neg hn]
    · simp only [pumiceref02_Less.j1]
      rw [if_neg (by simp), List.drop_of_length_le (show a.data.toList.length ≤ i by rw [tlen]; omega)]
      congr 1
      rcases Nat.lt_or_ge i b.size with h | h
      · have h2 : i < b.data.toList.length := by rw [tlen]; exact h
        rw [List.drop_eq_getElem_cons h2]
        simp [Op.bytesLess]
        omega
      · rw [List.drop_of_length_le (show b.data.toList.length ≤ i by rw [tlen]; exact h)]
        simp [Op.bytesLess]
        omega
  | succ d ih =>
    intro i hi hib
    have hlt : (i : Int) < (a.size : Int) := by omega
    have hla : i < a.data.toList.length := by rw [tlen]; omega
    rcases Nat.lt_or_ge i b.size with h | h
    · have hlb : (i : Int) < (b.size : Int) := by omega
      have h0 : (0 : Int) ≤ (i : Int) := by omega
      have hlb2 : i < b.data.toList.length := by rw [tlen]; exact h
      have hw : wrap64 ((i : Int) + 1) = ((i + 1 : Nat) : Int) := by rw [IntWalk.wrap64_in ((i : Int) + 1) (by omega)]; rfl
      rw [List.drop_eq_getElem_cons hla, List.drop_eq_getElem_cons hlb2]
      have ea := bt_get a i (by omega)
      have eb := bt_get b i h
      simp only [Op.bytesLess]
      by_cases he : a.data.toList[i] = b.data.toList[i]
      · have h2 := ih (i + 1) (by omega) (by omega)
        rw [he]
        simp only [UInt8.lt_irrefl, decide_false, Bool.false_or, beq_self_eq_true, Bool.true_and]
        refine Ev.step (f := fun k => pumiceref02_Less.j1 k a b (i : Int) true) (fun k => ?_) (Ev.step (fun k => ?_) h2)
        · simp only [pumiceref02_Less.l0]
          rw [if_pos hlt, decide_eq_true hlb]
        · simp only [pumiceref02_Less.j1, if_true, eq_true hlt, eq_true hlb, eq_true h0, hw]
          rw [if_pos (by rw [ea, eb, he])]
      · refine Ev.step (f := fun k => pumiceref02_Less.j1 k a b (i : Int) true) (fun k => ?_) (Ev.step (f := fun _ => some _) (fun k => ?_) (Ev.now _))
        · simp only [pumiceref02_Less.l0]
          rw [if_pos hlt, decide_eq_true hlb]
        · simp only [pumiceref02_Less.j1, if_true, eq_true hlt, eq_true hlb, eq_true h0]
          have hne : ¬ bt a (i : Int) = bt b (i : Int) := by
            rw [ea, eb]
            intro h9
            exact he (UInt8.toNat_inj.1 (by omega))
          rw [if_neg hne, ea, eb]
          congr 1
          rw [beq_false_of_ne he]
          simp [UInt8.lt_iff_toNat_lt]
    · have hlb : ¬ (i : Int) < (b.size : Int) := by omega
      rw [List.drop_eq_getElem_cons hla, List.drop_of_length_le (show b.data.toList.length ≤ i by rw [tlen]; exact h)]
      refine Ev.step (f := fun k => pumiceref02_Less.j1 k a b (i : Int) false) (fun k => ?_) (Ev.step (f := fun _ => some _) (fun k => ?_) (Ev.now _))
      · simp only [pumiceref02_Less.l0]
        rw [if_pos hlt, decide_eq_false hlb]
      · simp only [pumiceref02_Less.j1]
        rw [if_neg (by simp)]
        congr 1
        simp [Op.bytesLess]
        omega
theorem rLess_ev (a b : ByteArray) (ha : a.size ≤ 9223372036854775806) : Ev (fun k => pumiceref02_Less.f k a b) (Op.bytesLess a.toList b.toList) := by
  have h := rLess_l0 a b ha a.size 0 (by omega) (by omega)
  rw [Lib.toList_data, Lib.toList_data]
  exact h
theorem rkey_f (s : ByteArray) : pumiceref10_RightKey.f s = some (keyOk s) := by
  unfold pumiceref10_RightKey.f keyOk
  by_cases h : (s.size : Int) ≥ 1
  · rw [if_pos h, Option.some.injEq, Bool.eq_iff_iff, decide_eq_true_iff, decide_eq_true_iff]; omega
  · rw [if_neg h, Option.some.injEq, Bool.eq_iff_iff, decide_eq_true_iff]; simp only [Bool.false_eq_true, false_iff]; omega
theorem rplace_f (a b c : Int) : pumiceref10_RightPlace.f a b c = some (plOk a b c) := by
  unfold pumiceref10_RightPlace.f plOk
  (repeat' split) <;> (rw [Option.some.injEq, Bool.eq_iff_iff]; simp only [decide_eq_true_iff, Bool.false_eq_true, false_iff]; omega)
theorem rRight_l0 (lv : Int) (l : List S50) (hk : ∀ s ∈ l, s.f0.size ≤ 9223372036854775806) (hl : l.length ≤ 9223372036854775806) : ∀ (d i : Nat), i + d = l.length → Ev (fun k => pumiceref10_Right.l0 k (i : Int) lv l) ((List.range' i d).all (slotOk (l.map conv))) := by
  intro d
  induction d with
  | zero =>
    intro i hi
    refine Ev.step (f := fun _ => some _) (fun k => ?_) (Ev.now _)
    simp only [pumiceref10_Right.l0]
    rw [if_neg (show ¬ (i : Int) < (l.length : Int) by omega)]
    rfl
  | succ d ih =>
    intro i hi
    have hlt : i < l.length := by omega
    have h1 : (i : Int) < (l.length : Int) := by omega
    have h0 : (0 : Int) ≤ (i : Int) := by omega
    have hw : wrap64 ((i : Int) + 1) = ((i + 1 : Nat) : Int) := by rw [IntWalk.wrap64_in ((i : Int) + 1) (by omega)]; rfl
    have hx : rd_T50 l (i : Int) = l[i] := by simp [rd_T50, List.getD, hlt]
    have hg : (l.map conv).getD i z69 = conv l[i] := by simp [List.getD, hlt]
    have h2 := ih (i + 1) (by omega)
    rw [← hw] at h2
    rw [List.range'_succ, List.all_cons]
    have hs : slotOk (l.map conv) i = (keyOk l[i].f0 && plOk l[i].f1.f0 l[i].f1.f1 l[i].f1.f2 && (i == 0 || Op.bytesLess ((l.map conv).getD (i - 1) z69).f0.toList l[i].f0.toList)) := by
      unfold slotOk
      rw [hg]
      rfl
    cases e1 : keyOk l[i].f0 with
    | false =>
      rw [hs, e1]
      refine Ev.step (f := fun _ => some _) (fun k => ?_) (Ev.now _)
      simp only [pumiceref10_Right.l0, eq_true h1, eq_true h0, if_true, hx, rkey_f, e1, Option.bind_some, Bool.false_eq_true, if_false, Bool.false_and]
    | true =>
      cases e2 : plOk l[i].f1.f0 l[i].f1.f1 l[i].f1.f2 with
      | false =>
        rw [hs, e1, e2]
        refine Ev.step (f := fun _ => some _) (fun k => ?_) (Ev.now _)
        simp only [pumiceref10_Right.l0, eq_true h1, eq_true h0, if_true, hx, rkey_f, rplace_f, e1, e2, Option.bind_some, Bool.false_eq_true, if_false, Bool.false_and, Bool.and_false]
      | true =>
        rcases Nat.eq_zero_or_pos i with hi0 | hi0
        · have hz : ¬ (i : Int) > 0 := by omega
          rw [hs, e1, e2, show (i == 0) = true from by simp [hi0]]
          simp only [Bool.true_or, Bool.and_self, Bool.true_and]
          refine Ev.step (fun k => ?_) h2
          simp only [pumiceref10_Right.l0, eq_true h1, eq_true h0, if_true, hx, rkey_f, rplace_f, e1, e2, Option.bind_some, eq_false hz, if_false]
        · have hz : (i : Int) > 0 := by omega
          have hw1 : wrap64 ((i : Int) - 1) = ((i - 1 : Nat) : Int) := by rw [IntWalk.wrap64_in ((i : Int) - 1) (by omega)]; omega
          have hx1 : rd_T50 l ((i - 1 : Nat) : Int) = l[i - 1] := by simp [rd_T50, List.getD, show i - 1 < l.length by omega]
          have hg1 : (l.map conv).getD (i - 1) z69 = conv l[i - 1] := by simp [List.getD, show i - 1 < l.length by omega]
          have z0 : (0 : Int) ≤ ((i - 1 : Nat) : Int) := by omega
          have z1 : ((i - 1 : Nat) : Int) < (l.length : Int) := by omega
          obtain ⟨K, hK⟩ := rLess_ev l[i - 1].f0 l[i].f0 (hk _ (List.getElem_mem _))
          rw [hs, e1, e2, show (i == 0) = false from by simp; omega, hg1]
          simp only [Bool.false_or, Bool.true_and, Bool.and_self]
          show Ev _ (Op.bytesLess (conv l[i - 1]).f0.toList l[i].f0.toList && _)
          cases e3 : Op.bytesLess l[i - 1].f0.toList l[i].f0.toList with
          | false =>
            refine ⟨K + 1, fun k hk => ?_⟩
            obtain ⟨k, rfl⟩ : ∃ k', k = k' + 1 := ⟨k - 1, by omega⟩
            have hKk := hK k (by omega)
            rw [e3] at hKk
            simp only [pumiceref10_Right.l0, eq_true h1, eq_true h0, if_true, hx, rkey_f, rplace_f, e1, e2, Option.bind_some, eq_true hz, hw1, hx1, eq_true z0, eq_true z1, hKk, Bool.false_eq_true, if_false]
            rw [show (conv l[i - 1]).f0 = l[i - 1].f0 from rfl, e3]
            rfl
          | true =>
            obtain ⟨K2, hK2⟩ := h2
            refine ⟨K + K2 + 1, fun k hk => ?_⟩
            obtain ⟨k, rfl⟩ : ∃ k', k = k' + 1 := ⟨k - 1, by omega⟩
            have hKk := hK k (by omega)
            have hK2k := hK2 k (by omega)
            rw [e3] at hKk
            simp only [pumiceref10_Right.l0, eq_true h1, eq_true h0, if_true, hx, rkey_f, rplace_f, e1, e2, Option.bind_some, eq_true hz, hw1, hx1, eq_true z0, eq_true z1, hKk, hK2k]
            rw [show (conv l[i - 1]).f0 = l[i - 1].f0 from rfl, e3, Bool.true_and]
theorem rRight_ev (lv : Int) (l : List S50) (hk : ∀ s ∈ l, s.f0.size ≤ 9223372036854775806) (hl : l.length ≤ 9223372036854775806) : Ev (fun k => pumiceref10_Right.f k lv l) (rightB lv (l.map conv)) := by
  have h := rRight_l0 lv l hk hl l.length 0 (by omega)
  rw [← List.range_eq_range'] at h
  have hH : headOk lv (l.map conv) = decide (0 ≤ lv ∧ lv ≤ 15 ∧ 1 ≤ l.length ∧ l.length ≤ 8) := by unfold headOk; rw [List.length_map]
  by_cases h1 : lv < 0
  · rw [show rightB lv (l.map conv) = false from by unfold rightB; rw [hH, decide_eq_false (by omega)]; rfl]
    refine Ev.step (f := fun _ => some _) (fun k => ?_) (Ev.now _)
    simp only [pumiceref10_Right.f, eq_true h1, if_true, pumiceref10_Right.j0]
  · by_cases h2 : lv > 15
    · rw [show rightB lv (l.map conv) = false from by unfold rightB; rw [hH, decide_eq_false (by omega)]; rfl]
      refine Ev.step (f := fun _ => some _) (fun k => ?_) (Ev.now _)
      simp only [pumiceref10_Right.f, eq_false h1, eq_true h2, if_true, if_false, pumiceref10_Right.j0]
    · by_cases h3 : (l.length : Int) < 1
      · rw [show rightB lv (l.map conv) = false from by unfold rightB; rw [hH, decide_eq_false (by omega)]; rfl]
        refine Ev.step (f := fun _ => some _) (fun k => ?_) (Ev.now _)
        simp only [pumiceref10_Right.f, eq_false h1, eq_false h2, eq_true h3, if_true, if_false, pumiceref10_Right.j0]
      · by_cases h4 : (l.length : Int) > 8
        · rw [show rightB lv (l.map conv) = false from by unfold rightB; rw [hH, decide_eq_false (by omega)]; rfl]
          refine Ev.step (f := fun _ => some _) (fun k => ?_) (Ev.now _)
          simp only [pumiceref10_Right.f, eq_false h1, eq_false h2, eq_false h3, if_false, decide_eq_true h4, pumiceref10_Right.j0, if_true]
        · rw [show rightB lv (l.map conv) = (List.range l.length).all (slotOk (l.map conv)) from by unfold rightB; rw [hH, decide_eq_true (by omega), List.length_map]; rfl]
          refine Ev.step (fun k => ?_) h
          simp only [pumiceref10_Right.f, eq_false h1, eq_false h2, eq_false h3, if_false, decide_eq_false h4, pumiceref10_Right.j0, Bool.false_eq_true]
          rfl
end Go.Proofs.Ytpllpagbdmikpaa.PAll

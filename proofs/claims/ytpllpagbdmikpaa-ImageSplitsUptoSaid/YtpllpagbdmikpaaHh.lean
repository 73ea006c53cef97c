import Derived.Test.YtpllpagbdmikpaaHg
import Derived.Lib.AppendStr
import Derived.Lib.SmallJoins
import Derived.Lib.BufferRead
import Derived.Deep.RegionLaw
import Derived.WalkSpells
import Derived.Outline
namespace Go.Proofs.Ytpllpagbdmikpaa.PAll
open Go.RowKit Go.Proofs.YtpllpagbdmikpaaW.PrintWords Go.Proofs.YtpllpagbdmikpaaW.PrintLast Go.Proofs.YtpllpagbdmikpaaW.PrintMore
attribute [local go_sem] max2_int min2_int max_two min_two max_three min_three max_four min_four
def packE (lv : Int) (l : List S69) : Int := if rightB lv l = true then 0 else 22
def packB (lv : Int) (l : List S69) : List Int := if rightB lv l = true then packL lv l else []
def sizeOf' (lv : Int) (l : List S69) : Int := if rightB lv l = true then 6 + ((packL lv l).length : Int) else 0
theorem packL_le {lv : Int} {l : List S69} (h : rightB lv l = true) : (packL lv l).length ≤ 600 := by
  have h8 := (right_8 h).2.2.2
  have hk : ∀ k, k ≤ l.length → (packTo lv l k).length ≤ 3 + 72 * k := by
    intro k
    induction k with
    | zero => intro _; simp [packTo]
    | succ k ih =>
      intro hk
      have hs := right_key h (k := k) (by omega)
      rw [packTo_succ lv l k (by omega), List.length_append, slotBytes_len]
      have := ih (by omega)
      omega
  have := hk l.length (Nat.le_refl _)
  rw [packTo_all] at this
  omega
theorem pack_no (lv : Int) (A : Option Addr) (c : Nat) (l : List S69) (w : World) (hr : Kd.C k69 w A l.length l) (hc : l.length ≤ c) (hR : rightB lv l = false) :
    Calls Try.prog 15 #[.agg #[.int .i64 lv, .slice A l.length c]] w fun e w' => e = .returned (.tuple #[.slice none 0 0, .int .i64 22]) ∧ Below w.heap.size w w' := by
  have HR := Aside0.mk hr
  have HC := Aside0.mk hc
  have HT := Aside0.mk hR
  clear hr hc hR
  go_enter Try.func15, Try.ntmps15
  go_wp2_with (first
    | (go_at_call 18; (refine (right_any lv A c l _ ?a1 ?a2).mono ?_); (case a1 => exact Kd.C_alloc HR.out _); (case a2 => exact HC.out); rintro e w1 ⟨rfl, hb1⟩; rw [HT.out]; have HB1 := Aside0.mk hb1; clear hb1))
  go_ret2
  exact ⟨rfl, below_step (below_alloc (Below.refl _ _) _) HB1.out⟩
theorem pack_any (lv : Int) (A : Option Addr) (c : Nat) (l : List S69) (w : World) (hr : Kd.C k69 w A l.length l) (hc : l.length ≤ c) :
    Calls Try.prog 15 #[.agg #[.int .i64 lv, .slice A l.length c]] w fun e w' => ∃ v0_ : Value, e = .returned (.tuple #[v0_, .int .i64 (packE lv l)]) ∧ Kd.R (Kd.int .u8) 5 w' w.heap.size (fun _ => True) v0_ (packB lv l) ∧ Below w.heap.size w w' := by
  unfold packE packB
  cases h : rightB lv l with
  | true => exact pack_yes lv A c l w hr hc h
  | false =>
    refine (pack_no lv A c l w hr hc h).mono ?_
    rintro e w' ⟨rfl, hb⟩
    exact ⟨_, rfl, Kd.R_nil _ _ _ _ _, hb⟩
theorem rpack_no (lv : Int) (A : Option Addr) (c : Nat) (l : List S50) (w : World) (hr : Kd.C k50 w A l.length l) (hc : l.length ≤ c) (hG : ∀ s ∈ l, s.f0.size ≤ 140737488351232) (hl : l.length ≤ 3518437208883) (hR : rightB lv (l.map conv) = false) :
    Calls Try.prog 17 #[.agg #[.int .i64 lv, .slice A l.length c]] w fun e w' => e = .returned (.tuple #[.slice none 0 0, .int .i64 22]) ∧ Below w.heap.size w w' := by
  obtain ⟨KR, hKR⟩ := rRight_ev lv l (fun s hs => by have := hG s hs; omega) (by omega)
  have hKR2 := hKR KR (Nat.le_refl _)
  rw [hR] at hKR2
  have HKR := Aside0.mk hKR2
  have HR := Aside0.mk hr
  have HC := Aside0.mk hc
  clear hr hc hR hKR hKR2 hG hl
  go_enter Try.func17, Try.ntmps17
  go_wp2_with (first
    | (go_at_call 19; (with_reducible refine (pumiceref10_Right.calls KR lv A c l false _ ?a1 ?a2 HKR.out).mono ?_); (case a1 => exact Kd.C_alloc HR.out _); (case a2 => exact HC.out); rintro e w1 ⟨rfl, hb1⟩; have HB1 := Aside0.mk hb1; clear hb1))
  go_ret2
  exact ⟨rfl, below_step (below_alloc (Below.refl _ _) _) HB1.out⟩
theorem rpack_any (lv : Int) (A : Option Addr) (c : Nat) (l : List S50) (w : World) (hr : Kd.C k50 w A l.length l) (hc : l.length ≤ c) (hG : ∀ s ∈ l, s.f0.size ≤ 140737488351232) (hl : l.length ≤ 3518437208883) :
    Calls Try.prog 17 #[.agg #[.int .i64 lv, .slice A l.length c]] w fun e w' => ∃ v0_ : Value, e = .returned (.tuple #[v0_, .int .i64 (packE lv (l.map conv))]) ∧ Kd.R (Kd.int .u8) 5 w' w.heap.size (fun _ => True) v0_ (packB lv (l.map conv)) ∧ Below w.heap.size w w' := by
  unfold packE packB
  cases h : rightB lv (l.map conv) with
  | true => exact rpack_yes lv A c l w hr hc hG hl h
  | false =>
    refine (rpack_no lv A c l w hr hc hG hl h).mono ?_
    rintro e w' ⟨rfl, hb⟩
    exact ⟨_, rfl, Kd.R_nil _ _ _ _ _, hb⟩
theorem size_any (lv : Int) (A : Option Addr) (c : Nat) (l : List S69) (w : World) (hr : Kd.C k69 w A l.length l) (hc : l.length ≤ c) :
    Calls Try.prog 20 #[.agg #[.int .i64 lv, .slice A l.length c]] w fun e w' => e = .returned (.int .i64 (sizeOf' lv l)) ∧ Below w.heap.size w w' := by
  have HR := Aside0.mk hr
  have HC := Aside0.mk hc
  unfold sizeOf'
  cases h : rightB lv l with
  | true =>
    have hp : packB lv l = packL lv l := by unfold packB; rw [h]; rfl
    have he : packE lv l = 0 := by unfold packE; rw [h]; rfl
    have h6 := packL_le h
    obtain ⟨p, hpp⟩ : ∃ p, p = packL lv l := ⟨_, rfl⟩
    rw [← hpp] at hp h6
    rw [← hpp]
    have HP := Aside0.mk hp
    have HE := Aside0.mk he
    clear hr hc h hp he hpp
    go_enter Try.func20, Try.ntmps20
    go_wp2_with (first
      | (go_at_call 15; (refine (pack_any lv A c l _ ?a1 ?a2).mono ?_); (case a1 => exact Kd.C_alloc HR.out _); (case a2 => exact HC.out); rintro e w1 ⟨v1, rfl, ho1, hb1⟩; rw [HP.out] at ho1; rw [HE.out]; have HB1 := Aside0.mk hb1; obtain ⟨A1, c1, e1⟩ := Kd.R_slice ho1; subst e1; clear hb1 ho1))
    go_ret
    exact ⟨rfl, below_step (below_alloc (Below.refl _ _) _) HB1.out⟩
  | false =>
    have he : packE lv l = 22 := by unfold packE; rw [h]; rfl
    have HE := Aside0.mk he
    clear hr hc h he
    go_enter Try.func20, Try.ntmps20
    go_wp2_with (first
      | (go_at_call 15; (refine (pack_any lv A c l _ ?b1 ?b2).mono ?_); (case b1 => exact Kd.C_alloc HR.out _); (case b2 => exact HC.out); rintro e w1 ⟨v1, rfl, ho1, hb1⟩; rw [HE.out]; have HB1 := Aside0.mk hb1; clear hb1 ho1))
    go_ret
    exact ⟨rfl, below_step (below_alloc (Below.refl _ _) _) HB1.out⟩
theorem rsize_any (lv : Int) (A : Option Addr) (c : Nat) (l : List S50) (w : World) (hr : Kd.C k50 w A l.length l) (hc : l.length ≤ c) (hG : ∀ s ∈ l, s.f0.size ≤ 140737488351232) (hl : l.length ≤ 3518437208883) :
    Calls Try.prog 21 #[.agg #[.int .i64 lv, .slice A l.length c]] w fun e w' => e = .returned (.int .i64 (sizeOf' lv (l.map conv))) ∧ Below w.heap.size w w' := by
  have HR := Aside0.mk hr
  have HC := Aside0.mk hc
  unfold sizeOf'
  cases h : rightB lv (l.map conv) with
  | true =>
    have hp : packB lv (l.map conv) = packL lv (l.map conv) := by unfold packB; rw [h]; rfl
    have he : packE lv (l.map conv) = 0 := by unfold packE; rw [h]; rfl
    have h6 := packL_le h
    obtain ⟨p, hpp⟩ : ∃ p, p = packL lv (l.map conv) := ⟨_, rfl⟩
    rw [← hpp] at hp h6
    rw [← hpp]
    have HP := Aside0.mk hp
    have HE := Aside0.mk he
    clear hr hc h hp he hpp
    go_enter Try.func21, Try.ntmps21
    go_wp2_with (first
      | (go_at_call 17; (refine (rpack_any lv A c l _ ?a1 ?a2 hG hl).mono ?_); (case a1 => exact Kd.C_alloc HR.out _); (case a2 => exact HC.out); rintro e w1 ⟨v1, rfl, ho1, hb1⟩; rw [HP.out] at ho1; rw [HE.out]; have HB1 := Aside0.mk hb1; obtain ⟨A1, c1, e1⟩ := Kd.R_slice ho1; subst e1; clear hb1 ho1))
    go_ret
    exact ⟨rfl, below_step (below_alloc (Below.refl _ _) _) HB1.out⟩
  | false =>
    have he : packE lv (l.map conv) = 22 := by unfold packE; rw [h]; rfl
    have HE := Aside0.mk he
    clear hr hc h he
    go_enter Try.func21, Try.ntmps21
    go_wp2_with (first
      | (go_at_call 17; (refine (rpack_any lv A c l _ ?b1 ?b2 hG hl).mono ?_); (case b1 => exact Kd.C_alloc HR.out _); (case b2 => exact HC.out); rintro e w1 ⟨v1, rfl, ho1, hb1⟩; rw [HE.out]; have HB1 := Aside0.mk hb1; clear hb1 ho1))
    go_ret
    exact ⟨rfl, below_step (below_alloc (Below.refl _ _) _) HB1.out⟩
theorem mine_any (lv : Int) (A : Option Addr) (c : Nat) (l : List S50) (w : World) (hr : Kd.C k50 w A l.length l) (hc : l.length ≤ c) (hl : l.length ≤ 3518437208883) :
    Calls Try.prog 16 #[.agg #[.int .i64 lv, .slice A l.length c]] w fun e w' => ∃ A1 c1, e = .returned (.agg #[.int .i64 lv, .slice A1 (l.map conv).length c1]) ∧ (l.map conv).length ≤ c1 ∧ Kd.C k69 w' A1 (l.map conv).length (l.map conv) ∧ Below w.heap.size w w' := by
  have hs := slots_is l hl
  refine (pumicelaw10_mine.calls (l.length + 1) lv A c l lv (l.map conv) w hr hc (by unfold pumicelaw10_mine.f; rw [hs]; rfl)).mono ?_
  rintro e w' ⟨v1, rfl, ho, hb⟩
  obtain ⟨A1, c1, e1⟩ := Kd.R_slice ho
  subst e1
  have h := Kd.R_reads' ho
  exact ⟨A1, c1, rfl, h.2.1, h.2.2, hb⟩
end Go.Proofs.Ytpllpagbdmikpaa.PAll

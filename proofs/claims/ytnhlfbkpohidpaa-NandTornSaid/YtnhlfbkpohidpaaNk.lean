import Derived.Test.YtnhlfbkpohidpaaNi
namespace Go.Proofs.Ytnhlfbkpohidpaa.PAll
open Go.RowKit Go.Proofs.YtnhlfbkpohidpaaW.PrintWords Go.Proofs.YtnhlfbkpohidpaaW.PrintLast Go.Proofs.YtnhlfbkpohidpaaW.PrintMore
set_option linter.unusedSimpArgs false
set_option linter.unusedVariables false
variable {w0 W : World} {gc gb : Nat} {gp : Nat → Nat} {m m' : Ch} {D D' : Nat → Nat → List Int}
/-! ### what a chip answers, as plain functions of its state -/
structure Inv (m : Ch) (D : Nat → Nat → List Int) : Prop where
  st : ∀ i j, i < 16 → j < 16 → ((m.bk i).pg j).st = 0 ∨ ((m.bk i).pg j).st = 1 ∨ ((m.bk i).pg j).st = 2
  len : ∀ i j, i < 16 → j < 16 → (D i j).length ≤ 128
def Quiet (m : Ch) : Prop := m.off = false ∧ m.pl = []
def rdE (m : Ch) (n p : Int) : Int :=
  if m.off = true then 6 else if n < 0 ∨ 16 ≤ n then 22 else if p < 0 ∨ 16 ≤ p then 22 else if ((m.bk n.toNat).pg p.toNat).st = 2 then 5 else 0
def rdL (m : Ch) (D : Nat → Nat → List Int) (n p : Int) : List Int :=
  if m.off = true then [] else if n < 0 ∨ 16 ≤ n then [] else if p < 0 ∨ 16 ≤ p then [] else if ((m.bk n.toNat).pg p.toNat).st = 2 then [] else if ((m.bk n.toNat).pg p.toNat).st = 1 then D n.toNat p.toNat ++ List.replicate (128 - (D n.toNat p.toNat).length) 255 else List.replicate 128 255
def nxt (m : Ch) (n : Int) : Int := if n < 0 ∨ 16 ≤ n then 0 else (m.bk n.toNat).nx
theorem read_any (h : St w0 W gc gb gp m D) (hi : Inv m D) (n p : Int) :
    Calls Try.prog 9 #[cp gc, .int .i64 n, .int .i64 p] W fun e w' => ∃ v : Value, e = .returned (.tuple #[v, .int .i64 (rdE m n p)]) ∧ Kd.R (Kd.int .u8) 5 w' W.heap.size (fun _ => True) v (rdL m D n p) ∧ Below W.heap.size W w' := by
  cases hoff : m.off with
  | true =>
    refine (read_err (k := 6) (by decide) n p (ready_off h hoff n)).mono fun e w' ⟨he, hb⟩ => ⟨.slice none 0 0, ?_, ?_, hb⟩
    · rw [he]; unfold rdE; rw [if_pos hoff]
    · unfold rdL; rw [if_pos hoff]; exact Kd.R_nil _ _ _ _ _
  | false =>
    have ho : ¬ (m.off = true) := by rw [hoff]; decide
    by_cases hn : n < 0 ∨ 16 ≤ n
    · refine (read_err (k := 22) (by decide) n p (ready_no h hoff n hn)).mono fun e w' ⟨he, hb⟩ => ⟨.slice none 0 0, ?_, ?_, hb⟩
      · rw [he]; unfold rdE; rw [if_neg ho, if_pos hn]
      · unfold rdL; rw [if_neg ho, if_pos hn]; exact Kd.R_nil _ _ _ _ _
    · obtain ⟨n, rfl⟩ : ∃ k : Nat, n = (k : Int) := ⟨n.toNat, by omega⟩
      have hn2 : n < 16 := by omega
      by_cases hp : p < 0 ∨ 16 ≤ p
      · refine (read_range h hoff n hn2 p hp).mono fun e w' ⟨he, hb⟩ => ⟨.slice none 0 0, ?_, ?_, hb⟩
        · rw [he]; unfold rdE; rw [if_neg ho, if_neg hn, if_pos hp]
        · unfold rdL; rw [if_neg ho, if_neg hn, if_pos hp]; exact Kd.R_nil _ _ _ _ _
      · obtain ⟨p, rfl⟩ : ∃ k : Nat, p = (k : Int) := ⟨p.toNat, by omega⟩
        have hp2 : p < 16 := by omega
        have hE : rdE m n p = if ((m.bk n).pg p).st = 2 then 5 else 0 := by unfold rdE; rw [if_neg ho, if_neg hn, if_neg hp, Int.toNat_natCast, Int.toNat_natCast]
        have hL : rdL m D n p = if ((m.bk n).pg p).st = 2 then [] else if ((m.bk n).pg p).st = 1 then D n p ++ List.replicate (128 - (D n p).length) 255 else List.replicate 128 255 := by unfold rdL; rw [if_neg ho, if_neg hn, if_neg hp, Int.toNat_natCast, Int.toNat_natCast]
        rw [hE, hL]
        rcases hi.st n p hn2 hp2 with hs | hs | hs
        · rw [hs]
          exact (read_blank h hoff n p hn2 hp2 hs).mono fun e w' ⟨v, he, hr, hb⟩ => ⟨v, he, hr, hb⟩
        · rw [hs]
          exact (read_data h hoff n p hn2 hp2 hs (hi.len n p hn2 hp2)).mono fun e w' ⟨v, he, hr, hb⟩ => ⟨v, he, hr, hb⟩
        · rw [hs]
          exact (read_torn h hoff n p hn2 hp2 hs).mono fun e w' ⟨he, hb⟩ => ⟨.slice none 0 0, he, Kd.R_nil _ _ _ _ _, hb⟩
theorem next_any (h : St w0 W gc gb gp m D) (n : Int) :
    Calls Try.prog 10 #[cp gc, .int .i64 n] W fun e w' => e = .returned (.int .i64 (nxt m n)) ∧ Below W.heap.size W w' := by
  by_cases hn : n < 0 ∨ 16 ≤ n
  · unfold nxt; rw [if_pos hn]; exact next_no h n hn
  · obtain ⟨n, rfl⟩ : ∃ k : Nat, n = (k : Int) := ⟨n.toNat, by omega⟩
    unfold nxt; rw [if_neg hn, Int.toNat_natCast]; exact next_yes h n (by omega)
def SameAt (m : Ch) (D : Nat → Nat → List Int) (m' : Ch) (D' : Nat → Nat → List Int) (a b : Int) : Prop := rdE m' a b = rdE m a b ∧ rdL m' D' a b = rdL m D a b
theorem SameAt.of {a b : Int} (ho : m'.off = m.off) (h : 0 ≤ a → a < 16 → 0 ≤ b → b < 16 → (m'.bk a.toNat).pg b.toNat = (m.bk a.toNat).pg b.toNat ∧ D' a.toNat b.toNat = D a.toNat b.toNat) : SameAt m D m' D' a b := by
  unfold SameAt rdE rdL
  rw [ho]
  by_cases hn : a < 0 ∨ 16 ≤ a
  · simp only [if_pos hn, and_self]
  · by_cases hp : b < 0 ∨ 16 ≤ b
    · simp only [if_neg hn, if_pos hp, and_self]
    · obtain ⟨h1, h2⟩ := h (by omega) (by omega) (by omega) (by omega)
      rw [h1, h2]
      exact ⟨rfl, rfl⟩
theorem SameAt.refl' (ho : m'.off = m.off) (hb : m'.bk = m.bk) (a b : Int) : SameAt m D m' D a b := SameAt.of ho (fun _ _ _ _ => by rw [hb]; exact ⟨rfl, rfl⟩)
/-- What a call of Program that answers x may have done. -/
def PStep (m : Ch) (D : Nat → Nat → List Int) (n p : Int) (x : Int) (m' : Ch) (D' : Nat → Nat → List Int) : Prop :=
  Inv m' D' ∧ Quiet m' ∧ (∀ a b, (x ≠ 0 ∨ ¬ (n = a ∧ p = b)) → SameAt m D m' D' a b) ∧ (x = 0 → nxt m n = p ∧ nxt m' n = p + 1 ∧ 0 ≤ p ∧ p < 16)
theorem Inv.setBk (hi : Inv m D) (n : Nat) (b : Bk) (hst : ∀ j, j < 16 → (b.pg j).st = 0 ∨ (b.pg j).st = 1 ∨ (b.pg j).st = 2) (hl : ∀ i j, i < 16 → j < 16 → (D' i j).length ≤ 128) : Inv (m.setBk n b) D' := by
  refine ⟨fun i j hi2 hj => ?_, hl⟩
  by_cases h : i = n
  · subst h; rw [setBk_self]; exact hst j hj
  · rw [setBk_other _ _ _ _ h]; exact hi.st i j hi2 hj
theorem program_any (h : St w0 W gc gb gp m D) (hi : Inv m D) (hq : Quiet m) (n p : Int) (A : Option Addr) (c : Nat) (l : List Int) (hr : ∀ w', Below w0.heap.size w0 w' → Keeps W w' → Kd.C (Kd.int .u8) w' A l.length l) (hc : l.length ≤ c) :
    Calls Try.prog 11 #[cp gc, .int .i64 n, .int .i64 p, .slice A l.length c] W fun e w' => ∃ (x : Int) (m' : Ch) (D' : Nat → Nat → List Int), e = .returned (.int .i64 x) ∧ St w0 w' gc gb gp m' D' ∧ Keeps W w' ∧ PStep m D n p x m' D' := by
  have stay : ∀ (x : Int), x ≠ 0 → ∀ m1 : Ch, m1.off = m.off → m1.pl = m.pl → m1.bk = m.bk → PStep m D n p x m1 D := fun x hx m1 h1 h2 h3 =>
    ⟨⟨fun i j => by rw [h3]; exact hi.st i j, hi.len⟩, ⟨h1.trans hq.1, h2.trans hq.2⟩, fun a b _ => SameAt.refl' h1 h3 a b, fun h => absurd h hx⟩
  by_cases hn : n < 0 ∨ 16 ≤ n
  · exact (program_err (k := 22) (by decide) n p _ (ready_no h hq.1 n hn)).mono fun e w' ⟨he, hb⟩ => ⟨22, m, D, he, h.grow hb, Keeps.of_below hb, stay 22 (by decide) m rfl rfl rfl⟩
  · obtain ⟨n, rfl⟩ : ∃ k : Nat, n = (k : Int) := ⟨n.toNat, by omega⟩
    have hn2 : n < 16 := by omega
    by_cases hp : p < 0 ∨ 16 ≤ p ∨ 128 < l.length
    · exact (program_range h hq.1 n hn2 p A l.length c hp).mono fun e w' ⟨he, hb⟩ => ⟨22, m, D, he, h.grow hb, Keeps.of_below hb, stay 22 (by decide) m rfl rfl rfl⟩
    · obtain ⟨p, rfl⟩ : ∃ k : Nat, p = (k : Int) := ⟨p.toNat, by omega⟩
      have hp2 : p < 16 := by omega
      by_cases hb : (m.bk n).bad = true ∨ (m.bk n).nx ≠ p
      · exact (program_perm h hq.1 n p hn2 hp2 hb A l.length c (by omega)).mono fun e w' ⟨he, h2, hk⟩ => ⟨1, _, D, he, h2, hk, stay 1 (by decide) _ rfl rfl rfl⟩
      · have hbad : (m.bk n).bad = false := by
          cases h9 : (m.bk n).bad with
          | true => exact absurd (.inl h9) hb
          | false => rfl
        have hnx : (m.bk n).nx = p := Classical.byContradiction fun h9 => hb (.inr h9)
        refine (program_ok h hq.1 (by rw [hq.2]; intro f hf; cases hf) n p hn2 hp2 hbad hnx A c l hr hc (by omega)).mono fun e w' ⟨he, ⟨v, h2⟩, hk⟩ => ⟨0, _, _, he, h2, hk, ?_⟩
        refine ⟨Inv.setBk (m := { m with ops := wrap64 (m.ops + 1) }) ⟨hi.st, hi.len⟩ n _ (fun j hj => ?_) (fun i j hi2 hj => ?_), hq, fun a b hab => SameAt.of rfl (fun ha1 ha2 hb1 hb2 => ?_), fun _ => ⟨?_, ?_, by omega, by omega⟩⟩
        · by_cases hjp : j = p
          · subst hjp
            exact .inr (.inl (by simp [Bk.setPg]))
          · simp only [Bk.setPg, hjp, if_false]
            exact hi.st n j hn2 hj
        · unfold updD
          by_cases h9 : i = n ∧ j = p
          · rw [if_pos h9]; omega
          · rw [if_neg h9]; exact hi.len i j hi2 hj
        · have hne : ¬ (a.toNat = n ∧ b.toNat = p) := by
            rcases hab with h9 | h9
            · exact absurd rfl h9
            · omega
          unfold updD
          rw [if_neg hne]
          refine ⟨?_, rfl⟩
          by_cases h8 : a.toNat = n
          · rw [h8, setBk_self]
            have h7 : b.toNat ≠ p := fun h7 => hne ⟨h8, h7⟩
            simp only [Bk.setPg, h7, if_false]
          · rw [setBk_other _ _ _ _ h8]
        · unfold nxt; rw [if_neg hn, Int.toNat_natCast]; exact hnx
        · unfold nxt; rw [if_neg hn, Int.toNat_natCast, setBk_self]
def EStep (m : Ch) (D : Nat → Nat → List Int) (n : Int) (x : Int) (m' : Ch) (D' : Nat → Nat → List Int) : Prop :=
  Inv m' D' ∧ Quiet m' ∧ (∀ a b, (x ≠ 0 ∨ n ≠ a) → SameAt m D m' D' a b) ∧ (x = 0 → nxt m' n = 0)
theorem erase_any (h : St w0 W gc gb gp m D) (hi : Inv m D) (hq : Quiet m) (n : Int) :
    Calls Try.prog 12 #[cp gc, .int .i64 n] W fun e w' => ∃ (x : Int) (m' : Ch) (D' : Nat → Nat → List Int), e = .returned (.int .i64 x) ∧ St w0 w' gc gb gp m' D' ∧ Keeps W w' ∧ EStep m D n x m' D' := by
  have stay : ∀ (x : Int), x ≠ 0 → ∀ m1 : Ch, m1.off = m.off → m1.pl = m.pl → m1.bk = m.bk → EStep m D n x m1 D := fun x hx m1 h1 h2 h3 =>
    ⟨⟨fun i j => by rw [h3]; exact hi.st i j, hi.len⟩, ⟨h1.trans hq.1, h2.trans hq.2⟩, fun a b _ => SameAt.refl' h1 h3 a b, fun h => absurd h hx⟩
  by_cases hn : n < 0 ∨ 16 ≤ n
  · exact (erase_err (k := 22) (by decide) n (ready_no h hq.1 n hn)).mono fun e w' ⟨he, hb⟩ => ⟨22, m, D, he, h.grow hb, Keeps.of_below hb, stay 22 (by decide) m rfl rfl rfl⟩
  · obtain ⟨n, rfl⟩ : ∃ k : Nat, n = (k : Int) := ⟨n.toNat, by omega⟩
    have hn2 : n < 16 := by omega
    cases hb : (m.bk n).bad with
    | true => exact (erase_perm h hq.1 n hn2 hb).mono fun e w' ⟨he, h2, hk⟩ => ⟨1, _, D, he, h2, hk, stay 1 (by decide) _ rfl rfl rfl⟩
    | false =>
      refine (erase_ok h hq.1 (by rw [hq.2]; intro f hf; cases hf) n hn2 hb).mono fun e w' ⟨he, h2, hk⟩ => ⟨0, _, _, he, h2, hk, ?_⟩
      refine ⟨Inv.setBk (m := { m with ops := wrap64 (m.ops + 1) }) ⟨hi.st, hi.len⟩ n _ (fun j hj => ?_) (fun i j hi2 hj => ?_), hq, fun a b hab => SameAt.of rfl (fun ha1 ha2 hb1 hb2 => ?_), fun _ => ?_⟩
      · exact .inl (by simp [clr, hj])
      · unfold clrD
        by_cases h9 : i = n ∧ j < 16
        · rw [if_pos h9]; simp
        · rw [if_neg h9]; exact hi.len i j hi2 hj
      · have hne : a.toNat ≠ n := by
          rcases hab with h9 | h9
          · exact absurd rfl h9
          · omega
        unfold clrD
        rw [if_neg (fun h9 => hne h9.1), setBk_other _ _ _ _ hne]
        exact ⟨rfl, rfl⟩
      · unfold nxt; rw [if_neg hn, Int.toNat_natCast, setBk_self]
def MStep (m : Ch) (D : Nat → Nat → List Int) (m' : Ch) : Prop := Inv m' D ∧ Quiet m' ∧ ∀ a b, SameAt m D m' D a b
theorem mark_any (h : St w0 W gc gb gp m D) (hi : Inv m D) (hq : Quiet m) (n : Int) :
    Calls Try.prog 13 #[cp gc, .int .i64 n] W fun e w' => ∃ (x : Int) (m' : Ch), e = .returned (.int .i64 x) ∧ St w0 w' gc gb gp m' D ∧ Keeps W w' ∧ MStep m D m' := by
  by_cases hn : n < 0 ∨ 16 ≤ n
  · exact (mark_err (k := 22) (by decide) n (ready_no h hq.1 n hn)).mono fun e w' ⟨he, hb⟩ => ⟨22, m, he, h.grow hb, Keeps.of_below hb, hi, hq, fun a b => ⟨rfl, rfl⟩⟩
  · obtain ⟨n, rfl⟩ : ∃ k : Nat, n = (k : Int) := ⟨n.toNat, by omega⟩
    have hn2 : n < 16 := by omega
    refine (mark_ok h hq.1 n hn2).mono fun e w' ⟨he, h2, hk⟩ => ⟨0, _, he, h2, hk, Inv.setBk hi n _ (fun j hj => hi.st n j hn2 hj) hi.len, hq, fun a b => SameAt.of rfl (fun _ _ _ _ => ⟨?_, rfl⟩)⟩
    by_cases h8 : a.toNat = n
    · rw [h8, setBk_self]
    · rw [setBk_other _ _ _ _ h8]
end Go.Proofs.Ytnhlfbkpohidpaa.PAll

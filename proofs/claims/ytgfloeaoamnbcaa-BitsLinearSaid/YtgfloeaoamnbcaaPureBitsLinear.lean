/- The check sums of three texts of one length, put together bit by bit, are the sum of the three put together: 'pumicelaw01.BitsLinear' answers true; no conditions. -/
import Derived.Test.YtgfloeaoamnbcaaPBitsLinearx3
import Derived.Test.YtgfloeaoamnbcaaMath
namespace Go.Proofs.Ytgfloeaoamnbcaa.Pure
open Go.RowKit Go.Proofs.Ytgfloeaoamnbcaa.PBitsLinear Go.Proofs.YtgfloeaoamnbcaaW.PrintWords Go.Proofs.YtgfloeaoamnbcaaW.PrintLast Go.Proofs.Ytgfloeaoamnbcaa.Plain
set_option linter.unusedVariables false
set_option linter.unusedSimpArgs false

theorem bSum_l1 (l : List Int) (n i r : Int) : ∀ (d : Nat) (s : BitVec 32) (j : Int), j + d = 8 → 0 ≤ j →
    Ev (fun k => bits_Sum.l0 k ((steps d s).toNat : Int) l n (wrap64 (i + 1))) r → Ev (fun k => bits_Sum.l1 k (s.toNat : Int) l n i j) r
  | 0, s, j, hd, hj, h => Ev.step (fun k => by simp only [bits_Sum.l1]; rw [if_neg (by omega)]; rfl) h
  | d + 1, s, j, hd, hj, h => by
    have h2 := bSum_l1 l n i r d (crcStep s) (j + 1) (by omega) (by omega) h
    refine Ev.step (fun k => ?_) h2
    simp only [bits_Sum.l1]
    rw [if_pos (by omega), wrap64_of (by omega) (by omega)]
    by_cases hb : s.getLsbD 0 = true
    · rw [if_pos ((odd32 s).2 hb), half32, poly32, xor32]; unfold crcStep; rw [if_pos hb]
    · rw [if_neg (fun h => hb ((odd32 s).1 h)), half32]; unfold crcStep; rw [if_neg hb]
theorem bSum_l0 (l : List Int) (hl : Bytes l) (hn : l.length ≤ 9223372036854775806) : ∀ (d i : Nat) (s : BitVec 32), i + d = l.length →
    Ev (fun k => bits_Sum.l0 k (s.toNat : Int) l (l.length : Int) (i : Int)) (((0xFFFFFFFF#32 ^^^ (l.drop i).foldl feed s).toNat : Nat) : Int)
  | 0, i, s, hi => by
    refine Ev.step (f := fun _ => some _) (fun k => ?_) (Ev.now _)
    simp only [bits_Sum.l0]
    rw [if_neg (by omega), ones32, xor32, List.drop_of_length_le (by omega)]; rfl
  | d + 1, i, s, hi => by
    have h2 := bSum_l0 l hl hn d (i + 1) (feed s (l[i]'(by omega))) (by omega)
    rw [← List.foldl_cons, List.getElem_cons_drop] at h2
    have hw : wrap64 ((i : Int) + 1) = ((i + 1 : Nat) : Int) := by rw [wrap64_of (by omega) (by omega)]; simp
    rw [← hw] at h2
    have h3 := bSum_l1 l (l.length : Int) (i : Int) _ 8 (s ^^^ BitVec.ofInt 32 (l[i]'(by omega))) 0 (by omega) (by omega) h2
    refine Ev.step (fun k => ?_) h3
    simp only [bits_Sum.l0]
    rw [if_pos (by omega), if_pos (by omega), if_pos (by omega), rd_at l i (by omega), byte32, xor32]
theorem bSum_ev (l : List Int) (hl : Bytes l) (hn : l.length ≤ 9223372036854775806) : Ev (fun k => bits_Sum.f k l) (((crc l).toNat : Nat) : Int) :=
  bSum_l0 l hl hn l.length 0 0xFFFFFFFF#32 (by omega)

theorem alive_ev : Ev (fun k => pumicelaw01_alive.f k) true := Ev.of (fun k => pumicelaw01_alive.mono k) alive_true

theorem lin_l0 {a b c : List Int} (ha : Bytes a) (hb : Bytes b) (hc : Bytes c) (h1 : b.length = a.length) (h2 : c.length = a.length) (hn : a.length ≤ 140737488351232) :
    ∀ (d i : Nat), i + d = a.length → Ev (fun k => pumicelaw01_BitsLinear.l0 k a b c (xorL a b c i) (i : Int)) true
  | 0, i, hi => by
    have hi2 : i = a.length := by omega
    subst hi2
    obtain ⟨K1, s1⟩ := bSum_ev a ha (by omega)
    obtain ⟨K2, s2⟩ := bSum_ev b hb (by omega)
    obtain ⟨K3, s3⟩ := bSum_ev c hc (by omega)
    obtain ⟨K4, s4⟩ := bSum_ev (xorL a b c a.length) (xorL_bytes ha hb hc _) (by rw [xorL_length]; omega)
    obtain ⟨K7, h7⟩ := alive_ev
    refine ⟨K1 + K2 + K3 + K4 + K7 + 1, fun k hk => ?_⟩
    obtain ⟨k, rfl⟩ : ∃ m, k = m + 1 := ⟨k - 1, by omega⟩
    have e1 := s1 k (by omega)
    have e2 := s2 k (by omega)
    have e3 := s3 k (by omega)
    have e4 := s4 k (by omega)
    have e7 := h7 k (by omega)
    simp only [] at e1 e2 e3 e4 e7
    simp only [pumicelaw01_BitsLinear.l0]
    rw [if_neg (by omega), e1, e2, e3, e4]
    simp only [Option.bind_some]
    rw [xor32, xor32, if_pos (by rw [crc_linear ha hb hc h1 h2]), e7]
    rfl
  | d + 1, i, hi => by
    have h3 := lin_l0 ha hb hc h1 h2 hn d (i + 1) (by omega)
    refine Ev.step (fun k => ?_) h3
    have e := xorL_length a b c i
    have e5 : wrap64 ((i : Int) + 1) = ((i + 1 : Nat) : Int) := by rw [wrap64_of (by omega) (by omega)]; simp
    have q1 : (i : Int) < (a.length : Int) := by omega
    have q2 : (i : Int) < (b.length : Int) := by omega
    have q3 : (i : Int) < (c.length : Int) := by omega
    have q4 : (0 : Int) ≤ (i : Int) := by omega
    have q5 : (xorL a b c i).length < 140737488355328 := by omega
    simp only [pumicelaw01_BitsLinear.l0, eq_true q1, eq_true q2, eq_true q3, eq_true q4, eq_true q5, if_true, e5]
    rw [xorL_succ]
    rfl
theorem BitsLinear : pumicelaw01_BitsLinear.Pure := by
  intro a b c hm1 hn1 hw1 hm2 hn2 hw2 hm3 hn3 hw3
  obtain ⟨K7, h7⟩ := alive_ev
  unfold pumicelaw01_BitsLinear.f
  by_cases h1 : b.length = a.length
  · by_cases h2 : c.length = a.length
    · obtain ⟨K, h⟩ := lin_l0 (bytes_of hw1) (bytes_of hw2) (bytes_of hw3) h1 h2 (by omega) a.length 0 (by omega)
      refine ⟨K + 1, ?_⟩
      have e := h K (by omega)
      rw [if_pos (by omega), show ((b.length : Int) != (c.length : Int)) = false by simp; omega]
      simp only [pumicelaw01_BitsLinear.j0, Bool.false_eq_true, if_false]
      exact e
    · refine ⟨K7 + 1, ?_⟩
      have e7 := h7 K7 (by omega)
      simp only [] at e7
      rw [if_pos (by omega), show ((b.length : Int) != (c.length : Int)) = true by simp; omega]
      simp only [pumicelaw01_BitsLinear.j0, if_true, e7, Option.bind_some]
  · refine ⟨K7 + 1, ?_⟩
    have e7 := h7 K7 (by omega)
    simp only [] at e7
    rw [if_neg (by omega)]
    simp only [pumicelaw01_BitsLinear.j0, if_true, e7, Option.bind_some]
end Go.Proofs.Ytgfloeaoamnbcaa.Pure

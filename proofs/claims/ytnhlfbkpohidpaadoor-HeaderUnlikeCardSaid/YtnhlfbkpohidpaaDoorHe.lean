/- The document's payload, ParseCount, ParseMapping. -/
import Derived.Test.YtnhlfbkpohidpaaDoorHd
namespace Go.Proofs.YtnhlfbkpohidpaaDoor.PAll
open Go.RowKit Go.Proofs.YtnhlfbkpohidpaaDoorW.PrintWords Go.Proofs.YtnhlfbkpohidpaaDoorW.PrintLast Go.Proofs.YtnhlfbkpohidpaaDoorW.PrintMore Go.Proofs.YtnhlfbkpohidpaaDoor.Plain
set_option linter.unusedVariables false
set_option linter.unusedSimpArgs false
attribute [local go_sem] max2_int min2_int max_two min_two max_three min_three max_four min_four
theorem open_is_some {l : List Int} {kind : Int} {n : Nat} {p : List Int} (h : openL l kind n = some p) : p = (unframeL l).1 := by
  unfold openL at h
  split at h
  · cases h
  · split at h
    · cases h; rfl
    · cases h
theorem payload_ev (l : List Int) (hl : Bytes l) (hn : l.length ≤ 140737488351232) (kind : Int) (n : Nat) (h0 : 0 < n) : Ev (fun k => pumiceref05_payload.f k l kind (n : Int)) ((unframeL l).1, (openL l kind n).isSome) := by
  unfold pumiceref05_payload.f
  refine Ev.bind (rUnframe_ev l hl (by omega)) ?_
  have hen := unframe_end hl
  have hO : openL l kind n = if l.length < 64 ∨ 512 < l.length then none else if (unframeL l).2.2 = true ∧ (unframeL l).1.length = n ∧ (unframeL l).1.getD 0 0 = kind ∧ blankL (l.drop (unframeL l).2.1.toNat) = true then some (unframeL l).1 else none := rfl
  rw [hO]
  by_cases h1 : (unframeL l).2.2 = true
  · simp only [if_pos h1]
    by_cases h64 : l.length < 64
    · simp only [if_neg (show ¬ ((l.length : Int) ≥ 64) by omega), if_pos (show l.length < 64 ∨ 512 < l.length from .inl h64)]
      exact Ev.now _
    · simp only [if_pos (show ((l.length : Int) ≥ 64) by omega)]
      by_cases h512 : 512 < l.length
      · simp only [if_neg (show ¬ ((l.length : Int) ≤ 512) by omega), if_pos (show l.length < 64 ∨ 512 < l.length from .inr h512)]
        exact Ev.now _
      · simp only [if_pos (show ((l.length : Int) ≤ 512) by omega), if_neg (show ¬ (l.length < 64 ∨ 512 < l.length) by omega)]
        by_cases hp : (unframeL l).1.length = n
        · simp only [if_pos (show (((unframeL l).1.length : Int) = (n : Int)) by omega), if_pos (show 0 < ((unframeL l).1.length : Int) by omega)]
          by_cases hk : (unframeL l).1.getD 0 0 = kind
          · have hk2 : rd (unframeL l).1 0 = kind := hk
            simp only [if_pos hk2, if_pos hen.1, if_pos hen.2]
            refine Ev.bind (rBlank_ev _ (by rw [List.length_drop]; omega)) ?_
            cases hb : blankL (l.drop (unframeL l).2.1.toNat) with
            | true =>
              rw [if_pos ⟨h1, hp, hk, rfl⟩]
              exact Ev.now _
            | false =>
              rw [if_neg (by rintro ⟨_, _, _, h⟩; cases h)]
              exact Ev.now _
          · have hk2 : ¬ (rd (unframeL l).1 0 = kind) := hk
            simp only [if_neg hk2]
            rw [if_neg (by rintro ⟨_, _, h, _⟩; exact hk h)]
            exact Ev.now _
        · simp only [if_neg (show ¬ (((unframeL l).1.length : Int) = (n : Int)) by omega)]
          rw [if_neg (by rintro ⟨_, h, _⟩; exact hp h)]
          exact Ev.now _
  · simp only [if_neg h1]
    have hN : (if l.length < 64 ∨ 512 < l.length then (none : Option (List Int)) else if (unframeL l).2.2 = true ∧ (unframeL l).1.length = n ∧ (unframeL l).1.getD 0 0 = kind ∧ blankL (l.drop (unframeL l).2.1.toNat) = true then some (unframeL l).1 else none) = none := by
      by_cases h9 : l.length < 64 ∨ 512 < l.length
      · rw [if_pos h9]
      · rw [if_neg h9, if_neg (by rintro ⟨h, _⟩; exact h1 h)]
    rw [hN]
    exact Ev.now _
theorem rpayload_is (A : Option Addr) (c : Nat) (l : List Int) (kind : Int) (n : Nat) (w : World) (hn : 0 < n) (hl : Bytes l) (hs : l.length ≤ 140737488351232) (hr : Kd.C kB w A l.length l) (hc : l.length ≤ c) :
    Calls Tryd.prog 24 #[.slice A l.length c, .int .u8 kind, .int .i64 n] w fun e w' => ∃ v, e = .returned (.tuple #[v, .bool (openL l kind n).isSome]) ∧ Kd.R kB 5 w' w.heap.size (fun _ => True) v (unframeL l).1 ∧ Below w.heap.size w w' := by
  obtain ⟨k, hk⟩ := (payload_ev l hl hs kind n hn).rounds
  exact pumiceref05_payload.calls k A c l kind n _ _ w hr hc hk
set_option maxRecDepth 100000 in
set_option maxHeartbeats 8000000 in
theorem rparseCount_is (A : Option Addr) (c : Nat) (l : List Int) (w : World) (hl : Bytes l) (hs : l.length ≤ 140737488351232) (hr : Kd.C kB w A l.length l) (hc : l.length ≤ c) :
    Calls Tryd.prog 14 #[.slice A l.length c] w fun e w' => e = .returned (.tuple #[.int .i64 (parseCountL l).1, .bool (parseCountL l).2]) ∧ Below w.heap.size w w' := by
  have HO := Aside0.mk (show Calls Tryd.prog 24 #[.slice A l.length c, .int .u8 69, .int .i64 5] w _ from rpayload_is A c l 69 5 w (by decide) hl hs hr hc)
  cases ho : openL l 69 5 with
  | none =>
    have hP : parseCountL l = (0, false) := by unfold parseCountL; rw [ho]
    rw [hP]
    rw [ho] at HO
    clear hP ho hl hr hc hs
    go_enter Tryd.func14, Tryd.ntmps14
    go_wp2_with (first
      | (go_at_call 24; (with_reducible refine HO.out.mono ?_); rintro e w1 ⟨v, rfl, _, hb1⟩; have HB1 := Aside0.mk hb1; clear hb1))
    go_ret2
    exact ⟨rfl, HB1.out⟩
  | some p =>
    obtain ⟨hpb, hpl, hpk⟩ := open_bytes hl ho
    have hpe := open_is_some ho
    have hP : parseCountL l = if 2147483647 < getL (p.drop 1) then (0, false) else (getL (p.drop 1), true) := by unfold parseCountL; rw [ho]
    rw [hP]
    rw [ho, ← hpe] at HO
    have hbd := getL_u64 (hpb.drop 1) 4 (by decide) (by rw [List.length_drop]; omega)
    have hwr : IntKind.i64.wrap (getL (p.drop 1)) = getL (p.drop 1) := by rw [i64_w]; exact wrap64_of (by omega) (by omega)
    obtain ⟨q, hq⟩ : ∃ q, q = p.drop (1 : Int).toNat := ⟨_, rfl⟩
    have hqb : Bytes q := by rw [hq]; exact hpb.drop 1
    have hq1 : p.drop 1 = q := hq.symm
    rw [hq1] at hbd hwr ⊢
    have HQB := Aside0.mk hqb
    have HQ := Aside0.mk hq
    have HPL := Aside0.mk hpl
    have HGT := Aside0.mk (fun (w' : World) (A : Option Addr) (c : Nat) (hr : Kd.C kB w' A q.length q) (hc : q.length ≤ c) => rget_is A c q w' HQB.out hr hc)
    obtain ⟨x, hx⟩ : ∃ x, x = getL q := ⟨_, rfl⟩
    rw [← hx] at hbd hwr HGT ⊢
    clear hP ho hl hr hc hs hpe hpb hpk hqb hq1 hq hx hpl
    by_cases hbig : 2147483647 < x
    · have d0 : decide (2147483647 < x) = true := decide_eq_true hbig
      rw [if_pos hbig]
      clear hbig hbd
      go_enter Tryd.func14, Tryd.ntmps14
      go_upto_region 2 with (first
        | (go_at_call 24; (with_reducible refine HO.out.mono ?_); rintro e w1 ⟨v, rfl, hr1, hb1⟩; obtain ⟨A1, c1, rfl, hl1, hC1⟩ := Kd.R_reads hr1; have HC1 := Aside0.mk hC1; have HB1 := Aside0.mk hb1; have HL1 := Aside0.mk hl1; clear hr1 hC1 hb1 hl1))
      obtain ⟨A5, c5, hcut5, hc5, hC5⟩ := sl_from A1 c1 p 1 (by decide) (by have := HPL.out; omega) HL1.out
      rw [← HQ.out] at hcut5 hc5 hC5
      have HC5 := Aside0.mk (hC5 w1 HC1.out)
      have HL5 := Aside0.mk hc5
      have HG1 := Aside0.mk (HGT.out w1 A5 c5 HC5.out HL5.out)
      clear hC5 hc5
      have hu25 := Tryd.underlying25
      go_wp2_with (first
        | (go_at_call 25; (with_reducible refine HG1.out.mono ?_); rintro e w2 ⟨rfl, hb2⟩; have HB2 := Aside0.mk (below_step HB1.out hb2); clear hb2))
      go_ret2
      exact ⟨rfl, HB2.out⟩
    · have d0 : decide (2147483647 < x) = false := decide_eq_false hbig
      rw [if_neg hbig]
      clear hbig hbd
      go_enter Tryd.func14, Tryd.ntmps14
      go_upto_region 2 with (first
        | (go_at_call 24; (with_reducible refine HO.out.mono ?_); rintro e w1 ⟨v, rfl, hr1, hb1⟩; obtain ⟨A1, c1, rfl, hl1, hC1⟩ := Kd.R_reads hr1; have HC1 := Aside0.mk hC1; have HB1 := Aside0.mk hb1; have HL1 := Aside0.mk hl1; clear hr1 hC1 hb1 hl1))
      obtain ⟨A5, c5, hcut5, hc5, hC5⟩ := sl_from A1 c1 p 1 (by decide) (by have := HPL.out; omega) HL1.out
      rw [← HQ.out] at hcut5 hc5 hC5
      have HC5 := Aside0.mk (hC5 w1 HC1.out)
      have HL5 := Aside0.mk hc5
      have HG1 := Aside0.mk (HGT.out w1 A5 c5 HC5.out HL5.out)
      clear hC5 hc5
      have hu25 := Tryd.underlying25
      go_upto_region 4 with (first
        | (go_at_call 25; (with_reducible refine HG1.out.mono ?_); rintro e w2 ⟨rfl, hb2⟩; have HB2 := Aside0.mk (below_step HB1.out hb2); have HG2 := Aside0.mk (HGT.out w2 A5 c5 (Kd.C_below HC5.out hb2) HL5.out); clear hb2))
      go_wp2_with (first
        | (go_at_call 25; (with_reducible refine HG2.out.mono ?_); rintro e w3 ⟨rfl, hb3⟩; have HB3 := Aside0.mk (below_step HB2.out hb3); clear hb3))
      go_ret2
      exact ⟨rfl, HB3.out⟩
theorem parseMap_ev (l : List Int) (hl : Bytes l) (hn : l.length ≤ 140737488351232) : Ev (fun k => pumiceref05_ParseMapping.f k l) ((parseMapL l).1.1, (parseMapL l).1.2.1, (parseMapL l).1.2.2, (parseMapL l).2) := by
  unfold pumiceref05_ParseMapping.f
  refine Ev.bind (payload_ev l hl hn 77 12 (by decide)) ?_
  cases ho : openL l 77 12 with
  | none =>
    have hP : parseMapL l = ((0, 0, 0), false) := by unfold parseMapL; rw [ho]
    rw [hP]
    simp only [Option.isSome_none, Bool.false_eq_true, if_false]
    exact Ev.now _
  | some p =>
    obtain ⟨hpb, hpl, hpk⟩ := open_bytes hl ho
    have hpe := open_is_some ho
    have hP : parseMapL l = if 256 ≤ getL ((p.drop 1).take 2) ∨ 64 < getL ((p.drop 11).take 1) then ((0, 0, 0), false) else ((getL ((p.drop 1).take 2), getL ((p.drop 3).take 8), getL ((p.drop 11).take 1)), true) := by
      unfold parseMapL
      rw [ho]
    rw [hP, ← hpe]
    have e1 : (p.take 3).drop 1 = (p.drop 1).take 2 := by rw [List.drop_take]
    have e2 : (p.take 11).drop 3 = (p.drop 3).take 8 := by rw [List.drop_take]
    have hr11 : getL ((p.drop 11).take 1) = rd p 11 := by
      have h11 : (11 : Nat) < p.length := by omega
      have h12 : (p.drop 11).take 1 = [p.getD 11 0] := by
        rw [List.drop_eq_getElem_cons h11, List.take_succ_cons, List.take_zero]
        simp [List.getD_eq_getElem?_getD, h11]
      rw [h12]
      show getN [p.getD 11 0] 1 = p.getD 11 0
      simp [getN]
    have hb1 := getL_u64 ((hpb.drop 1).take 2) 2 (by decide) (by rw [List.length_take]; omega)
    have hb3 := rd_lt p hpb 11
    simp only [Option.isSome_some, if_true, if_pos (show (1 : Int) ≤ 3 by decide), if_pos (show (3 : Int) ≤ 11 by decide), if_pos (show (3 : Int) ≤ (p.length : Int) by omega), if_pos (show (11 : Int) ≤ (p.length : Int) by omega), if_pos (show (11 : Int) < (p.length : Int) by omega), e1, e2]
    refine Ev.bind (rGet_ev _ ((hpb.drop 1).take 2)) ?_
    refine Ev.bind (rGet_ev _ ((hpb.drop 3).take 8)) ?_
    rw [hr11, wrap64_of (by omega) (by omega), wrap64_of (by omega) (by omega)]
    by_cases h256 : getL ((p.drop 1).take 2) ≥ 256
    · rw [if_pos h256, if_pos (.inl h256)]
      exact Ev.now _
    · by_cases h64 : rd p 11 > 64
      · rw [if_neg h256, if_pos h64, if_pos (.inr h64)]
        exact Ev.now _
      · rw [if_neg h256, if_neg h64, if_neg (by omega)]
        exact Ev.now _
theorem rparseMap_is (A : Option Addr) (c : Nat) (l : List Int) (w : World) (hl : Bytes l) (hs : l.length ≤ 140737488351232) (hr : Kd.C kB w A l.length l) (hc : l.length ≤ c) :
    Calls Tryd.prog 16 #[.slice A l.length c] w fun e w' => e = .returned (.tuple #[.agg #[.int .i64 (parseMapL l).1.1, .int .u64 (parseMapL l).1.2.1, .int .i64 (parseMapL l).1.2.2], .bool (parseMapL l).2]) ∧ Below w.heap.size w w' := by
  obtain ⟨k, hk⟩ := (parseMap_ev l hl hs).rounds
  exact pumiceref05_ParseMapping.calls k A c l _ _ _ _ w hr hc hk
end Go.Proofs.YtnhlfbkpohidpaaDoor.PAll

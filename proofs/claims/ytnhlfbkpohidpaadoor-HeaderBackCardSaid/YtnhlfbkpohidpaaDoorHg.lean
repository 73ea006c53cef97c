/- The laws HeaderMakes, HeaderParses, walked. -/
import Derived.Test.YtnhlfbkpohidpaaDoorHf
namespace Go.Proofs.YtnhlfbkpohidpaaDoor.PAll
open Go.RowKit Go.Proofs.YtnhlfbkpohidpaaDoorW.PrintWords Go.Proofs.YtnhlfbkpohidpaaDoorW.PrintLast Go.Proofs.YtnhlfbkpohidpaaDoorW.PrintMore Go.Proofs.YtnhlfbkpohidpaaDoor.Plain
set_option linter.unusedVariables false
set_option linter.unusedSimpArgs false
attribute [local go_sem] max2_int min2_int max_two min_two max_three min_three max_four min_four
set_option maxRecDepth 100000 in
set_option maxHeartbeats 8000000 in
theorem makes_is (n page leb seq pages : Int) (hs : 0 ≤ seq) (a : Addr) (w : World) (hg : gNone w a) :
    Calls Tryd.prog 3 #[.int .i64 n, .int .i64 page, .agg #[.int .i64 leb, .int .u64 seq, .int .i64 pages]] w fun e w' => e = .returned (.bool true) ∧ Below w.heap.size w w' := by
  have hcb := count_bytes n page
  have hmb := map_bytes leb seq pages page
  have HC := Aside0.mk (fun w => count_is n page w)
  have HRC := Aside0.mk (fun w => rcount_is n page w)
  have HM := Aside0.mk (fun w => mapping_is leb seq pages page hs w)
  have HRM := Aside0.mk (fun w => rmapping_is leb seq pages page hs w)
  generalize (countL n page).1 = xa at hcb HC HRC
  generalize (countL n page).2 = ea at HC HRC
  generalize (mapL leb seq pages page).1 = xb at hmb HM HRM
  generalize (mapL leb seq pages page).2 = eb at HM HRM
  have HS := Aside0.mk (fun (A B : Option Addr) (c d : Nat) (w : World) (hr : Kd.C kB w A xa.length xa) (hc : xa.length ≤ c) (hr2 : Kd.C kB w B xa.length xa) (hc2 : xa.length ≤ d) => show Calls Tryd.prog 11 #[.slice A xa.length c, .slice B xa.length d] w (fun e w' => e = .returned (.bool true) ∧ Below w.heap.size w w') from (same_is A B c d xa xa w hcb hcb hr hc hr2 hc2).mono fun e w' h => ⟨h.1.trans (by rw [decide_eq_true rfl]), h.2⟩)
  have HT := Aside0.mk (fun (A B : Option Addr) (c d : Nat) (w : World) (hr : Kd.C kB w A xb.length xb) (hc : xb.length ≤ c) (hr2 : Kd.C kB w B xb.length xb) (hc2 : xb.length ≤ d) => show Calls Tryd.prog 11 #[.slice A xb.length c, .slice B xb.length d] w (fun e w' => e = .returned (.bool true) ∧ Below w.heap.size w w') from (same_is A B c d xb xb w hmb hmb hr hc hr2 hc2).mono fun e w' h => ⟨h.1.trans (by rw [decide_eq_true rfl]), h.2⟩)
  have HAL := Aside0.mk (fun (w' : World) (hb : Below w.heap.size w w') => halive_is a w' (cell_below hg hb))
  have hu24 := Tryd.underlying24
  have hu30 := Tryd.underlying30
  clear hcb hmb hs hg
  go_enter Tryd.func3, Tryd.ntmps3
  go_upto_region 1 with (fail)
  generalize hW : w.alloc (.cells #[.int .i64 leb, .int .u64 seq, .int .i64 pages] 24) = wa
  have HBA : Aside0 (Below w.heap.size w wa) := ⟨by rw [← hW]; exact below_alloc (Below.refl _ _) _⟩
  have HXA : Aside0 (wa.heap[w.heap.size]? = some (.cells #[.int .i64 leb, .int .u64 seq, .int .i64 pages] 24 (0, 0))) := ⟨by rw [← hW]; exact new_blk _ _ _⟩
  generalize w.heap.size = gm at HXA ⊢
  clear hW
  go_upto_region 3 with (first
    | (go_at_call 7; (with_reducible refine (HC.out _).mono ?_); rintro e w1 ⟨v1, rfl, hr1, hb1⟩; obtain ⟨A1, c1, rfl, hl1, hC1⟩ := Kd.R_reads hr1; have HC1 := Aside0.mk hC1; have HB1 := Aside0.mk (below_step HBA.out hb1); have HL1 := Aside0.mk hl1; have HX1 := Aside0.mk (keep_below HXA.out hb1); clear hr1 hC1 hb1 hl1)
    | (go_at_call 8; (with_reducible refine (HRC.out _).mono ?_); rintro e w2 ⟨v2, rfl, hr2, hb2⟩; obtain ⟨A2, c2, rfl, hl2, hC2⟩ := Kd.R_reads hr2; have HC2 := Aside0.mk hC2; have HB2 := Aside0.mk (below_step HB1.out hb2); have HL2 := Aside0.mk hl2; have HX2 := Aside0.mk (keep_below HX1.out hb2); have HD2 := Aside0.mk (Kd.C_below HC1.out hb2); clear hr2 hC2 hb2 hl2))
  have y0 := Joins.cell_of_block HX2.out 0
  have y1 := Joins.cell_of_block HX2.out 1
  have y2 := Joins.cell_of_block HX2.out 2
  go_upto_region 4 with (first
    | (go_at_call 9; (with_reducible refine (HM.out _).mono ?_); rintro e w3 ⟨v3, rfl, hr3, hb3⟩; obtain ⟨A3, c3, rfl, hl3, hC3⟩ := Kd.R_reads hr3; have HC3 := Aside0.mk hC3; have HB3 := Aside0.mk (below_step HB2.out hb3); have HL3 := Aside0.mk hl3; have HX3 := Aside0.mk (keep_below HX2.out hb3); have HD3 := Aside0.mk (Kd.C_below HD2.out hb3); have HE3 := Aside0.mk (Kd.C_below HC2.out hb3); clear hr3 hC3 hb3 hl3))
  clear y0 y1 y2
  have y0 := Joins.cell_of_block HX3.out 0
  have y1 := Joins.cell_of_block HX3.out 1
  have y2 := Joins.cell_of_block HX3.out 2
  go_upto_region 5 with (first
    | (go_at_call 10; (with_reducible refine (HRM.out _).mono ?_); rintro e w4 ⟨v4, rfl, hr4, hb4⟩; obtain ⟨A4, c4, rfl, hl4, hC4⟩ := Kd.R_reads hr4; have HC4 := Aside0.mk hC4; have HB4 := Aside0.mk (below_step HB3.out hb4); have HL4 := Aside0.mk hl4; have HD4 := Aside0.mk (Kd.C_below HD3.out hb4); have HE4 := Aside0.mk (Kd.C_below HE3.out hb4); have HF4 := Aside0.mk (Kd.C_below HC3.out hb4); clear hr4 hC4 hb4 hl4))
  clear y0 y1 y2
  have HS4 := Aside0.mk (HS.out A1 A2 c1 c2 w4 HD4.out HL1.out HE4.out HL2.out)
  have e1 : (ea == ea) = true := by simp
  have e2 : (eb == eb) = true := by simp
  go_wp2_with (first
    | (go_at_call 11; (with_reducible refine HS4.out.mono ?_); rintro e w5 ⟨rfl, hb5⟩; have HB5 := Aside0.mk (below_step HB4.out hb5); have HT5 := Aside0.mk (HT.out A3 A4 c3 c4 w5 (Kd.C_below HF4.out hb5) HL3.out (Kd.C_below HC4.out hb5) HL4.out); clear hb5)
    | (go_at_call 11; (with_reducible refine HT5.out.mono ?_); rintro e w6 ⟨rfl, hb6⟩; have HB6 := Aside0.mk (below_step HB5.out hb6); have HA6 := Aside0.mk (HAL.out w6 HB6.out); clear hb6)
    | (go_at_call 12; (with_reducible refine HA6.out.mono ?_); rintro e w7 ⟨rfl, hb7⟩; have HB7 := Aside0.mk (below_step HB6.out hb7); clear hb7))
  go_ret
  exact ⟨rfl, HB7.out⟩
set_option maxRecDepth 100000 in
set_option maxHeartbeats 8000000 in
theorem parses_is (A : Option Addr) (c : Nat) (l : List Int) (a : Addr) (w : World) (hl : Bytes l) (hs : l.length ≤ 140737488351232) (hr : Kd.C kB w A l.length l) (hc : l.length ≤ c) (hg : gNone w a) :
    Calls Tryd.prog 4 #[.slice A l.length c] w fun e w' => e = .returned (.bool true) ∧ Below w.heap.size w w' := by
  have H1 := Aside0.mk (fun (w' : World) (hb : Below w.heap.size w w') => parseCount_is A c l a w' hl (Kd.C_below hr hb) hc (cell_below hg hb))
  have H2 := Aside0.mk (fun (w' : World) (hb : Below w.heap.size w w') => rparseCount_is A c l w' hl hs (Kd.C_below hr hb) hc)
  have H3 := Aside0.mk (fun (w' : World) (hb : Below w.heap.size w w') => parseMap_is A c l a w' hl (Kd.C_below hr hb) hc (cell_below hg hb))
  have H4 := Aside0.mk (fun (w' : World) (hb : Below w.heap.size w w') => rparseMap_is A c l w' hl hs (Kd.C_below hr hb) hc)
  have HAL := Aside0.mk (fun (w' : World) (hb : Below w.heap.size w w') => halive_is a w' (cell_below hg hb))
  generalize (parseCountL l).1 = n at H1 H2
  generalize (parseCountL l).2 = is at H1 H2
  generalize (parseMapL l).1.1 = x at H3 H4
  generalize (parseMapL l).1.2.1 = y at H3 H4
  generalize (parseMapL l).1.2.2 = z at H3 H4
  generalize (parseMapL l).2 = has at H3 H4
  have hu24 := Tryd.underlying24
  have hu30 := Tryd.underlying30
  have K1 := Aside0.mk (H1.out w (Below.refl _ _))
  clear hl hs hr hc hg
  go_enter Tryd.func4, Tryd.ntmps4
  go_upto_region 3 with (first
    | (go_at_call 13; (with_reducible refine K1.out.mono ?_); rintro e w1 ⟨rfl, hb1⟩; have HB1 := Aside0.mk hb1; have K2 := Aside0.mk (H2.out w1 hb1); clear hb1)
    | (go_at_call 14; (with_reducible refine K2.out.mono ?_); rintro e w2 ⟨rfl, hb2⟩; have HB2 := Aside0.mk (below_step HB1.out hb2); have K3 := Aside0.mk (H3.out w2 HB2.out); clear hb2))
  go_upto_region 4 with (first
    | (go_at_call 15; (with_reducible refine K3.out.mono ?_); rintro e w3 ⟨rfl, hb3⟩; have HB3 := Aside0.mk (below_step HB2.out hb3); clear hb3))
  generalize hW : w3.alloc (.cells #[.int .i64 x, .int .u64 y, .int .i64 z] 30) = w4
  have hb4 : Below w3.heap.size w3 w4 := by rw [← hW]; exact below_alloc (Below.refl _ _) _
  have HX4 : Aside0 (w4.heap[w3.heap.size]? = some (.cells #[.int .i64 x, .int .u64 y, .int .i64 z] 30 (0, 0))) := ⟨by rw [← hW]; exact new_blk _ _ _⟩
  generalize w3.heap.size = g1 at HX4 hb4 ⊢
  have HB4 := Aside0.mk (below_step HB3.out (by rw [← hW]; exact below_alloc (Below.refl _ _) _ : Below w3.heap.size w3 w4))
  have K4 := Aside0.mk (H4.out w4 HB4.out)
  clear hW hb4
  go_upto_region 5 with (first
    | (go_at_call 16; (with_reducible refine K4.out.mono ?_); rintro e w5 ⟨rfl, hb5⟩; have HB5 := Aside0.mk (below_step HB4.out hb5); have HX5 := Aside0.mk (keep_below HX4.out hb5); clear hb5))
  generalize hW : w5.alloc (.cells #[.int .i64 x, .int .u64 y, .int .i64 z] 24) = w6
  have hb6 : Below w5.heap.size w5 w6 := by rw [← hW]; exact below_alloc (Below.refl _ _) _
  have HX6 : Aside0 (w6.heap[g1]? = some (.cells #[.int .i64 x, .int .u64 y, .int .i64 z] 30 (0, 0))) := ⟨keep_below HX5.out hb6⟩
  have HB6 := Aside0.mk (below_step HB5.out hb6)
  have HY6 : Aside0 (w6.heap[w5.heap.size]? = some (.cells #[.int .i64 x, .int .u64 y, .int .i64 z] 24 (0, 0))) := ⟨by rw [← hW]; exact new_blk _ _ _⟩
  generalize w5.heap.size = g2 at HY6 hb6 ⊢
  clear hW hb6
  have y0 := Joins.cell_of_block HX6.out 0
  have y1 := Joins.cell_of_block HX6.out 1
  have y2 := Joins.cell_of_block HX6.out 2
  have z0 := Joins.cell_of_block HY6.out 0
  have z1 := Joins.cell_of_block HY6.out 1
  have z2 := Joins.cell_of_block HY6.out 2
  have K6 := Aside0.mk (HAL.out w6 HB6.out)
  go_wp2_with (first
    | (go_at_call 12; (with_reducible refine K6.out.mono ?_); rintro e w7 ⟨rfl, hb7⟩; have HB7 := Aside0.mk (below_step HB6.out hb7); clear hb7))
  go_ret
  exact ⟨rfl, HB7.out⟩
end Go.Proofs.YtnhlfbkpohidpaaDoor.PAll

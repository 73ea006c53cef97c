/- The laws of headers: alive, HeaderMakes, HeaderParses. -/
import Derived.Test.YtnhlfbkpohidpaaDoorHe
import Derived.Deep.CutBlock
namespace Go.Proofs.YtnhlfbkpohidpaaDoor.PAll
open Go.RowKit Go.Proofs.YtnhlfbkpohidpaaDoorW.PrintWords Go.Proofs.YtnhlfbkpohidpaaDoorW.PrintLast Go.Proofs.YtnhlfbkpohidpaaDoorW.PrintMore Go.Proofs.YtnhlfbkpohidpaaDoor.Plain
set_option linter.unusedVariables false
set_option linter.unusedSimpArgs false
attribute [local go_sem] max2_int min2_int max_two min_two max_three min_three max_four min_four
theorem same_dec {a b : List Int} (ha : Bytes a) (hb : Bytes b) : pumicelaw01_Same.f a b = some (decide (a = b)) := by
  by_cases h : a = b
  · subst h
    rw [same_refl, decide_eq_true rfl]
  · unfold pumicelaw01_Same.f
    rw [decide_eq_false h]
    have h2 : ¬ (strOfNums a).toList = (strOfNums b).toList := fun h3 => h (nums_inj ha hb h3)
    first
      | (simp; exact fun h3 => h2 (by rw [h3]))
      | (simp [h2]; done)
theorem same_is (A B : Option Addr) (c d : Nat) (a b : List Int) (w : World) (ha : Bytes a) (hb : Bytes b) (hr : Kd.C kB w A a.length a) (hc : a.length ≤ c) (hr2 : Kd.C kB w B b.length b) (hc2 : b.length ≤ d) :
    Calls Tryd.prog 11 #[.slice A a.length c, .slice B b.length d] w fun e w' => e = .returned (.bool (decide (a = b))) ∧ Below w.heap.size w w' :=
  (pumicelaw01_Same.calls A c a B d b _ w hr hc hr2 hc2 (same_dec ha hb)).mono fun e w' h => ⟨h.1, h.2.below⟩
theorem count_ok {n page : Int} (hn : 0 ≤ n ∧ n ≤ 2147483647) (hp : 64 ≤ page ∧ page ≤ 512) : countL n page = (imageL (countP n) page, 0) := by
  unfold countL
  rw [if_neg (by omega)]
theorem map_ok {leb seq pages page : Int} (h1 : 0 ≤ leb ∧ leb < 256) (h3 : 0 ≤ pages ∧ pages ≤ 64) (hp : 64 ≤ page ∧ page ≤ 512) : mapL leb seq pages page = (imageL (mapP leb seq pages) page, 0) := by
  unfold mapL
  rw [if_neg (by omega)]
theorem count_bytes (n page : Int) : Bytes (countL n page).1 := by
  unfold countL
  split
  · exact fun _ h => by cases h
  · exact image_bytes (countP_bytes n) page
theorem map_bytes (leb seq pages page : Int) : Bytes (mapL leb seq pages page).1 := by
  unfold mapL
  split
  · exact fun _ h => by cases h
  · exact image_bytes (mapP_bytes leb seq pages (by omega)) page
set_option maxRecDepth 100000 in
set_option maxHeartbeats 8000000 in
theorem halive_is (a : Addr) (w : World) (hg : gNone w a) : Calls Tryd.prog 12 #[] w fun e w' => e = .returned (.bool true) ∧ Below w.heap.size w w' := by
  obtain ⟨xa, hxa⟩ : ∃ x, x = imageL (countP 7) 64 := ⟨_, rfl⟩
  obtain ⟨xb, hxb⟩ : ∃ x, x = imageL (mapP 3 9 2) 64 := ⟨_, rfl⟩
  have hla : xa.length = 64 := by rw [hxa, image_length]; rfl
  have hba : Bytes xa := by rw [hxa]; exact image_bytes (countP_bytes 7) 64
  have hbb : Bytes xb := by rw [hxb]; exact image_bytes (mapP_bytes 3 9 2 (by decide)) 64
  have HC := Aside0.mk (fun (w : World) => show Calls Tryd.prog 7 #[.int .i64 7, .int .i64 64] w (fun e w' => ∃ v : Value, e = .returned (.tuple #[v, .int .i64 0]) ∧ Kd.R kB 5 w' w.heap.size (fun _ => True) v xa ∧ Below w.heap.size w w') from by
    have h := count_is 7 64 w
    rw [count_ok (by decide) (by decide), ← hxa] at h
    exact h)
  have HM := Aside0.mk (fun (w : World) => show Calls Tryd.prog 9 #[.agg #[.int .i64 3, .int .u64 9, .int .i64 2], .int .i64 64] w (fun e w' => ∃ v : Value, e = .returned (.tuple #[v, .int .i64 0]) ∧ Kd.R kB 5 w' w.heap.size (fun _ => True) v xb ∧ Below w.heap.size w w') from by
    have h := mapping_is 3 9 2 64 (by decide) w
    rw [map_ok (by decide) (by decide) (by decide), ← hxb] at h
    exact h)
  have HPC := Aside0.mk (fun (w' : World) (A : Option Addr) (c : Nat) (hb : Below w.heap.size w w') (hr : Kd.C kB w' A xa.length xa) (hc : xa.length ≤ c) => show Calls Tryd.prog 13 #[.slice A xa.length c] w' (fun e w2 => e = .returned (.tuple #[.int .i64 7, .bool true]) ∧ Below w'.heap.size w' w2) from by
    have h := parseCount_is A c xa a w' hba hr hc (cell_below hg hb)
    have h2 : parseCountL xa = (7, true) := by rw [hxa]; exact parse_count (by decide) (by decide)
    rw [h2] at h
    exact h)
  have HPM := Aside0.mk (fun (w' : World) (A : Option Addr) (c : Nat) (hb : Below w.heap.size w w') (hr : Kd.C kB w' A xb.length xb) (hc : xb.length ≤ c) => show Calls Tryd.prog 15 #[.slice A xb.length c] w' (fun e w2 => e = .returned (.tuple #[.agg #[.int .i64 3, .int .u64 9, .int .i64 2], .bool true]) ∧ Below w'.heap.size w' w2) from by
    have h := parseMap_is A c xb a w' hbb hr hc (cell_below hg hb)
    have h2 : parseMapL xb = ((3, 9, 2), true) := by rw [hxb]; exact parse_map (by decide) (by decide) (by decide) (by decide)
    rw [h2] at h
    exact h)
  have HPN := Aside0.mk (fun (w' : World) (A : Option Addr) (c : Nat) (hb : Below w.heap.size w w') (hr : Kd.C kB w' A xb.length xb) (hc : xb.length ≤ c) => show Calls Tryd.prog 13 #[.slice A xb.length c] w' (fun e w2 => e = .returned (.tuple #[.int .i64 0, .bool false]) ∧ Below w'.heap.size w' w2) from by
    have h := parseCount_is A c xb a w' hbb hr hc (cell_below hg hb)
    have h2 : parseCountL xb = (0, false) := by rw [hxb]; exact parse_count_map (by decide)
    rw [h2] at h
    exact h)
  have e1 : ((xa.length : Int) == 64) = true := by rw [hla]; rfl
  have hu30 := Tryd.underlying30
  clear hxa hxb hla hba hbb hg
  go_enter Tryd.func12, Tryd.ntmps12
  go_upto_region 4 with (first
    | (go_at_call 7; (with_reducible refine (HC.out _).mono ?_); rintro e w1 ⟨v1, rfl, hr1, hb1⟩; obtain ⟨A1, c1, rfl, hl1, hC1⟩ := Kd.R_reads hr1; have HC1 := Aside0.mk hC1; have HB1 := Aside0.mk hb1; have HL1 := Aside0.mk hl1; clear hr1 hC1 hb1 hl1)
    | (go_at_call 9; (with_reducible refine (HM.out _).mono ?_); rintro e w2 ⟨v2, rfl, hr2, hb2⟩; obtain ⟨A2, c2, rfl, hl2, hC2⟩ := Kd.R_reads hr2; have HC2 := Aside0.mk hC2; have HB2 := Aside0.mk (below_step HB1.out hb2); have HL2 := Aside0.mk hl2; have HP2 := Aside0.mk (HPC.out w2 A1 c1 HB2.out (Kd.C_below HC1.out hb2) HL1.out); clear hr2 hC2 hb2 hl2)
    | (go_at_call 13; (with_reducible refine HP2.out.mono ?_); rintro e w3 ⟨rfl, hb3⟩; have HB3 := Aside0.mk (below_step HB2.out hb3); have HC3 := Aside0.mk (Kd.C_below HC2.out hb3); have HP3 := Aside0.mk (HPM.out w3 A2 c2 HB3.out HC3.out HL2.out); clear hb3))
  go_upto_region 5 with (first
    | (go_at_call 15; (with_reducible refine HP3.out.mono ?_); rintro e w4 ⟨rfl, hb4⟩; have HB4 := Aside0.mk (below_step HB3.out hb4); have HC4 := Aside0.mk (Kd.C_below HC3.out hb4); clear hb4))
  generalize hW : w4.alloc (.cells #[.int .i64 3, .int .u64 9, .int .i64 2] 30) = w5
  have hb5 : Below w4.heap.size w4 w5 := by rw [← hW]; exact below_alloc (Below.refl _ _) _
  have hx5 : w5.heap[w4.heap.size]? = some (.cells #[.int .i64 3, .int .u64 9, .int .i64 2] 30 (0, 0)) := by rw [← hW]; exact new_blk _ _ _
  have HX5 := Aside0.mk hx5
  have HB5 := Aside0.mk (below_step HB4.out hb5)
  have HP5 := Aside0.mk (HPN.out w5 A2 c2 HB5.out (Kd.C_below HC4.out hb5) HL2.out)
  clear hW hb5 hx5
  go_upto_region 6 with (first
    | (go_at_call 13; (with_reducible refine HP5.out.mono ?_); rintro e w6 ⟨rfl, hb6⟩; have HB6 := Aside0.mk (below_step HB5.out hb6); have HX6 := Aside0.mk (keep_below HX5.out hb6); clear hb6))
  have y0 := Joins.cell_of_block HX6.out 0
  have y1 := Joins.cell_of_block HX6.out 1
  have y2 := Joins.cell_of_block HX6.out 2
  go_wp2
  go_ret
  exact ⟨rfl, HB6.out⟩
end Go.Proofs.YtnhlfbkpohidpaaDoor.PAll

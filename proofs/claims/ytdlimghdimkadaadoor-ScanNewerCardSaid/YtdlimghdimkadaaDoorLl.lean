/- alive of layer 7. -/
import Derived.Test.YtdlimghdimkadaaDoorLj
import Derived.Test.YtdlimghdimkadaaDoorLk
namespace Go.Proofs.YtdlimghdimkadaaDoor.PAll
open Go Go.RowKit Go.Shelf Go.Proofs.YtdlimghdimkadaaDoorW.PrintWords Go.Proofs.YtdlimghdimkadaaDoorW.PrintLast Go.Proofs.YtdlimghdimkadaaDoorW.PrintMore Go.Proofs.YtdlimghdimkadaaDoor.Plain
set_option linter.unusedSimpArgs false
set_option linter.unusedVariables false
attribute [local go_sem] max2_int min2_int max_two min_two max_three min_three max_four min_four
theorem countL_ok {n page : Int} (hn : 0 ≤ n ∧ n ≤ 2147483647) (hp : 64 ≤ page ∧ page ≤ 512) : countL n page = (imageL (countP n) page, 0) := by
  unfold countL
  rw [if_neg (by omega)]
theorem mapL_ok {leb seq pages page : Int} (h1 : 0 ≤ leb ∧ leb < 256) (h3 : 0 ≤ pages ∧ pages ≤ 64) (hp : 64 ≤ page ∧ page ≤ 512) : mapL leb seq pages page = (imageL (mapP leb seq pages) page, 0) := by
  unfold mapL
  rw [if_neg (by omega)]
/-- The document's count of a page of 128. -/
theorem rcount128 (n : Int) (hn : 0 ≤ n ∧ n ≤ 2147483647) : ∃ xa : List Int, xa.length = 128 ∧ Bytes xa ∧ parseCountL xa = (n, true) ∧ ∀ w, Calls Tryd.prog 16 #[.int .i64 n, .int .i64 128] w fun e w' => ∃ v : Value, e = .returned (.tuple #[v, .int .i64 0]) ∧ Kd.R kB 5 w' w.heap.size (fun _ => True) v xa ∧ Below w.heap.size w w' := by
  refine ⟨imageL (countP n) 128, by rw [image_length]; rfl, image_bytes (countP_bytes n) 128, parse_count hn (by decide), fun w => ?_⟩
  have h := rcount_is n 128 w
  rw [countL_ok hn (by decide)] at h
  exact h
theorem rmap128 (leb seq pages : Int) (h1 : 0 ≤ leb ∧ leb < 256) (h2 : 0 ≤ seq ∧ seq < 18446744073709551616) (h3 : 0 ≤ pages ∧ pages ≤ 64) : ∃ xm : List Int, xm.length = 128 ∧ Bytes xm ∧ parseMapL xm = ((leb, seq, pages), true) ∧ ∀ w, Calls Tryd.prog 17 #[.agg #[.int .i64 leb, .int .u64 seq, .int .i64 pages], .int .i64 128] w fun e w' => ∃ v : Value, e = .returned (.tuple #[v, .int .i64 0]) ∧ Kd.R kB 5 w' w.heap.size (fun _ => True) v xm ∧ Below w.heap.size w w' := by
  refine ⟨imageL (mapP leb seq pages) 128, by rw [image_length]; rfl, image_bytes (mapP_bytes leb seq pages (by omega)) 128, parse_map h1 h2 h3 (by decide), fun w => ?_⟩
  have h := rmapping_is leb seq pages 128 h2.1 w
  rw [mapL_ok h1 h3 (by decide)] at h
  exact h
/-- A small chip, made. -/
theorem new_small (w : World) : Calls Tryd.prog 14 #[.agg #[.int .i64 16, .int .i64 16, .int .i64 128, .int .i64 2], .slice none 0 0] w fun e w' => ∃ gc : Nat, e = .returned (.tuple #[cp gc, .int .i64 0]) ∧ Chip w w' gc (newA smallG []) :=
  chip_new smallG none 0 [] w ⟨rfl, by decide, fun h => by cases h⟩ (Nat.le_refl _) (by kernel_rfl) (by rfl)
theorem small_is (w : World) : Calls Tryd.prog 15 #[] w fun e w' => e = .returned (.agg #[.int .i64 16, .int .i64 16, .int .i64 128, .int .i64 2]) ∧ Below w.heap.size w w' := pumicelaw03_Small.calls 16 16 128 2 w rfl
theorem chipE_bytes {xa xm : List Int} (ha : Bytes xa) (hm : Bytes xm) : ABytes (chipE xa xm) := by
  have h1 : Bytes [120] := fun x hx => by simp at hx; subst hx; decide
  have h0 : Bytes [] := fun x hx => by cases hx
  intro i j
  by_cases h4 : i = 4
  · subst h4
    by_cases j2 : j = 2
    · subst j2; exact h1
    by_cases j1 : j = 1
    · subst j1; exact hm
    by_cases j0 : j = 0
    · subst j0; exact ha
    simp only [chipE, if_pos, if_neg j2, if_neg j1, if_neg j0]; exact h0
  by_cases hi1 : i = 1
  · subst hi1
    by_cases j0 : j = 0
    · subst j0; exact ha
    simp only [chipE, if_neg h4, if_pos, if_neg j0]; exact h0
  simp only [chipE, if_neg h4, if_neg hi1]; exact h0
set_option maxRecDepth 100000 in
set_option maxHeartbeats 16000000 in
theorem salive_is (aE : Addr) (w : World) (hg : gNone w aE) : Calls Tryd.prog 13 #[] w fun e w' => e = .returned (.bool true) ∧ Below w.heap.size w w' := by
  obtain ⟨xa, la, ba, pa, HCa⟩ := rcount128 5 (by decide)
  obtain ⟨xm, lm, bm, pm, HMa⟩ := rmap128 2 7 0 (by decide) (by decide) (by decide)
  have HC := Aside0.mk HCa
  have HM := Aside0.mk HMa
  have HSM := Aside0.mk small_is
  have HNW := Aside0.mk new_small
  have HRUN := Aside0.mk ((chipL_run la lm).trans chipL_eq)
  have HBY := Aside0.mk (chipE_bytes ba bm)
  have HSC := Aside0.mk (show scanA (chipE xa xm) = aliveL by rw [← chipL_eq]; exact scan_alive la lm pa pm)
  have HG := Aside0.mk hg
  have hcv := fun (w : World) (x : Int) => Lib.run_convert_bytes_const (P := Tryd.prog) w 39 5 #[.int .u8 x] 1 1 Tryd.underlying39 Tryd.underlying5
  clear la ba pa HCa lm bm pm HMa hg
  go_enter Tryd.func13, Tryd.ntmps13
  go_upto_region 4 with (first
    | (go_at_call 15; (with_reducible refine (HSM.out _).mono ?_); rintro e w1 ⟨rfl, hb1⟩; have HB1 := Aside0.mk hb1; clear hb1)
    | (go_at_call 14; (with_reducible refine (HNW.out _).mono ?_); rintro e w2 ⟨gc, rfl, hc2⟩; have HC2 := Aside0.mk (hc2.lower HB1.out); clear hc2))
  go_upto_region 6 with (first
    | (go_at_call 16; (with_reducible refine (HC.out _).mono ?_); rintro e w3 ⟨v3, rfl, hr3, hb3⟩; obtain ⟨A3, c3, rfl⟩ := Kd.R_slice hr3; have HC3 := Aside0.mk (HC2.out.grow hb3); have HA3 := Aside0.mk hr3; clear hr3 hb3)
    | (go_at_call 17; (with_reducible refine (HM.out _).mono ?_); rintro e w4 ⟨v4, rfl, hr4, hb4⟩; obtain ⟨A4, c4, rfl⟩ := Kd.R_slice hr4; have HC4 := Aside0.mk (HC3.out.grow hb4); have HA4 := Aside0.mk (Kd.R_below HA3.out hb4); have HM4 := Aside0.mk hr4; clear hr4 hb4))
  have HP5 := Aside0.mk (HC4.out.program 1 0 A3 c3 xa (fun w' _ hk => C_keeps hk HA4.out) (Kd.R_reads' HA4.out).2.1)
  go_upto_region 7 with (first
    | (go_at_call 18; (with_reducible refine HP5.out.mono ?_); rintro e w5 ⟨rfl, hc5, hk5⟩; have HC5 := Aside0.mk hc5; have HA5 := Aside0.mk (R_keeps hk5 HA4.out); have HM5 := Aside0.mk (R_keeps hk5 HM4.out); clear hc5 hk5))
  have HP6 := Aside0.mk (HC5.out.program 4 0 A3 c3 xa (fun w' _ hk => C_keeps hk HA5.out) (Kd.R_reads' HA5.out).2.1)
  go_upto_region 8 with (first
    | (go_at_call 18; (with_reducible refine HP6.out.mono ?_); rintro e w6 ⟨rfl, hc6, hk6⟩; have HC6 := Aside0.mk hc6; have HM6 := Aside0.mk (R_keeps hk6 HM5.out); clear hc6 hk6))
  have HP7 := Aside0.mk (HC6.out.program 4 1 A4 c4 xm (fun w' _ hk => C_keeps hk HM6.out) (Kd.R_reads' HM6.out).2.1)
  go_upto_region 9 with (first
    | (go_at_call 18; (with_reducible refine HP7.out.mono ?_); rintro e w7 ⟨rfl, hc7, hk7⟩; have HC7 := Aside0.mk hc7; clear hc7 hk7))
  have HX7 := Aside0.mk (World.alloc_heap_new w7 (.cells #[.int .u8 120] 5 (1, 2)))
  have HC8 := Aside0.mk (HC7.out.grow (below_alloc (Below.refl _ _) (.cells #[.int .u8 120] 5 (1, 2))))
  have HP8 := Aside0.mk (show Calls Tryd.prog 18 #[cp gc, .int .i64 4, .int .i64 2, .slice (some ⟨w7.heap.size, 0, none⟩) 1 1] (w7.alloc (.cells #[.int .u8 120] 5 (1, 2))) _ from HC8.out.program 4 2 (some ⟨w7.heap.size, 0, none⟩) 1 [120] (fun w' _ hk => by
    refine ⟨rfl, by decide, fun _ => ⟨_, rfl, fun j p hj => ?_⟩⟩
    have hx := hk _ _ _ _ (by decide) (by decide) (by decide) (by decide) HX7.out
    match j, hj with
    | 0, hj =>
      cases hj
      refine ⟨[.int .u8 120], rfl, rfl, fun i u hi => ?_⟩
      match i, hi with
      | 0, hi => cases hi; simp [World.cell?, hx, Addr.add]
      | i + 1, hi => simp at hi
    | j + 1, hj => simp at hj) (by decide))
  go_upto_region 10 with (first
    | (go_at_call 18; (with_reducible refine HP8.out.mono ?_); rintro e w8 ⟨rfl, hc8, hk8⟩; have HC9 := Aside0.mk (show Chip w w8 gc (chipE xa xm) from (by rw [← HRUN.out]; exact hc8)); clear hc8 hk8))
  have HGE := Aside0.mk (cell_below HG.out HC9.out.below)
  have HSCAN := Aside0.mk (show Calls Tryd.prog 19 #[cp gc] w8 (fun e w' => ∃ (g c : Nat), e = .returned (.tuple #[.slice (some ⟨g, 0, none⟩) 16 c, .int .i64 0]) ∧ 16 ≤ c ∧ Rows w' g aliveL ∧ Below w8.heap.size w8 w') from by
    have h := Scan_is HC9.out HBY.out aE HGE.out rfl
    rw [HSC.out] at h
    exact h)
  go_wp2_with (first
    | (go_at_call 19; (with_reducible refine HSCAN.out.mono ?_); rintro e w9 ⟨gl, cl, rfl, hcl, hR, hb9⟩; have HB9 := Aside0.mk (below_step HC9.out.below hb9); have HR9 := Aside0.mk hR; have HCL := Aside0.mk hcl; have z0 : w9.cell? ⟨gl, 0, none⟩ = some (.int .i64 3) := (hR.cell 0 (by decide)).1; have z1 : w9.cell? ⟨gl, 1, none⟩ = some (.int .i64 5) := (hR.cell 0 (by decide)).2.1; have z6 : w9.cell? ⟨gl, 6, none⟩ = some (.int .i64 2) := (hR.cell 1 (by decide)).1; have z24 : w9.cell? ⟨gl, 24, none⟩ = some (.int .i64 4) := (hR.cell 4 (by decide)).1; have z26 : w9.cell? ⟨gl, 26, none⟩ = some (.int .i64 2) := (hR.cell 4 (by decide)).2.2.1; have z27 : w9.cell? ⟨gl, 27, none⟩ = some (.int .i64 1) := (hR.cell 4 (by decide)).2.2.2.1; have HFI := Aside0.mk (show Calls Tryd.prog 7 #[.slice (some ⟨gl, 0, none⟩) 16 cl, .int .i64 2] w9 (fun e w' => e = .returned (.int .i64 4) ∧ Below w9.heap.size w9 w') from find_is (some ⟨gl, 0, none⟩) cl aliveL 2 w9 (hR.reads (by decide)) (by decide)); clear hR hcl hb9)
    | (go_at_call 7; (with_reducible refine HFI.out.mono ?_); rintro e w10 ⟨rfl, hb10⟩; have HB10 := Aside0.mk (below_step HB9.out hb10); have HR10 := Aside0.mk (HR9.out.keep (hb10.block gl HR9.out.lt)); have HLE := Aside0.mk (show Calls Tryd.prog 9 #[.slice (some ⟨gl, 0, none⟩) 16 cl] w10 (fun e w' => e = .returned (.int .i64 1) ∧ Below w10.heap.size w10 w') from least_is (some ⟨gl, 0, none⟩) cl aliveL w10 (HR10.out.reads (by decide)) (by decide)); clear hb10 z0 z1 z6 z24 z26 z27)
    | (go_at_call 9; (with_reducible refine HLE.out.mono ?_); rintro e w11 ⟨rfl, hb11⟩; have HB11 := Aside0.mk (below_step HB10.out hb11); have HR11 := Aside0.mk (HR10.out.keep (hb11.block gl HR10.out.lt)); have HGO := Aside0.mk (show Calls Tryd.prog 11 #[.slice (some ⟨gl, 0, none⟩) 16 cl] w11 (fun e w' => e = .returned (.int .i64 16) ∧ Below w11.heap.size w11 w') from good_is (some ⟨gl, 0, none⟩) cl aliveL w11 (HR11.out.reads (by decide)) HCL.out (by decide)); clear hb11)
    | (go_at_call 11; (with_reducible refine HGO.out.mono ?_); rintro e w12 ⟨rfl, hb12⟩; have HB12 := Aside0.mk (below_step HB11.out hb12); clear hb12))
  go_ret
  exact ⟨rfl, HB12.out⟩
end Go.Proofs.YtdlimghdimkadaaDoor.PAll

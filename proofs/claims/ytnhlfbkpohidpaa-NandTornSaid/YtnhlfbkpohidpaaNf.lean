import Derived.Test.YtnhlfbkpohidpaaNe
namespace Go.Proofs.Ytnhlfbkpohidpaa.PAll
open Go.RowKit Go.Proofs.YtnhlfbkpohidpaaW.PrintWords Go.Proofs.YtnhlfbkpohidpaaW.PrintLast Go.Proofs.YtnhlfbkpohidpaaW.PrintMore
set_option linter.unusedSimpArgs false
set_option linter.unusedVariables false
attribute [local go_sem] max2_int min2_int max_two min_two max_three min_three max_four min_four
theorem wrap_in (n : Int) (h : -9223372036854775808 ≤ n ∧ n ≤ 9223372036854775807) : wrap64 n = n := by unfold wrap64; omega
theorem new_blkf (W : World) (o : Obj) : (W.alloc o).heap[W.heap.size]? = some o := Array.getElem?_push_size
theorem C_one {W : World} {g : Nat} {x : Int} {fr : Nat × Nat} (h : W.heap[g]? = some (.cells #[.int .u8 x] 5 fr)) : Kd.C (Kd.int .u8) W (some ⟨g, 0, none⟩) [x].length [x] := by
  refine ⟨rfl, by simp, fun _ => ⟨_, rfl, fun j p hj => ?_⟩⟩
  cases j with
  | succ j => simp at hj
  | zero =>
    simp only [List.getElem?_cons_zero, Option.some.injEq] at hj
    subst hj
    refine ⟨[.int .u8 x], rfl, rfl, fun i u hu => ?_⟩
    cases i with
    | succ i => simp at hu
    | zero =>
      simp only [List.getElem?_cons_zero, Option.some.injEq] at hu
      subst hu
      exact Joins.cell_of_block h 0
set_option maxRecDepth 100000 in
set_option maxHeartbeats 8000000 in
theorem alive_is (w : World) : Calls Try.prog 8 #[] w fun e w' => e = .returned (.bool true) ∧ Below w.heap.size w w' := by
  have hcv := fun (w : World) (x : Int) => Lib.run_convert_bytes_const (P := Try.prog) w 31 5 #[.int .u8 x] 1 1 Try.underlying31 Try.underlying5
  go_enter Try.func8, Try.ntmps8
  go_upto_region 2 with (first
    | (go_at_call 7; (with_reducible refine (small_is _).mono ?_); rintro e w1 ⟨rfl, hb1⟩; have HB1 := Aside0.mk hb1; clear hb1)
    | (go_at_call 6; (with_reducible refine (new_small _).mono ?_); rintro e w2 ⟨gc, gb, gp, rfl, h2⟩; have H2 := Aside0.mk h2; clear h2))
  go_upto_region 4 with (fail)
  have HP4 := Aside0.mk (show Calls Try.prog 11 #[cp gc, .int .i64 3, .int .i64 0, .slice (some ⟨w2.heap.size, 0, none⟩) 1 1] (w2.alloc (.cells #[.int .u8 97] 5 (1, 2))) _ from program_ok (H2.out.grow (below_alloc (Below.refl _ _) (.cells #[.int .u8 97] 5 (1, 2)))) rfl (fun _ h => nomatch h) 3 0 (by decide) (by decide) rfl rfl (some ⟨w2.heap.size, 0, none⟩) 1 [97] (fun w' _ hk => C_one (hk.blk (new_blkf _ _))) (by decide) (by decide))
  go_upto_region 5 with (first
    | (go_at_call 11; (with_reducible refine HP4.out.mono ?_); rintro e w3 ⟨rfl, ⟨v, h3⟩, -⟩; have H3 := Aside0.mk h3; clear h3))
  have HP5 := Aside0.mk (show Calls Try.prog 11 #[cp gc, .int .i64 3, .int .i64 0, .slice (some ⟨w3.heap.size, 0, none⟩) 1 1] (w3.alloc (.cells #[.int .u8 98] 5 (1, 2))) _ from program_perm (H3.out.grow (below_alloc (Below.refl _ _) (.cells #[.int .u8 98] 5 (1, 2)))) rfl 3 0 (by decide) (by decide) (.inr (fun h => absurd (show (1 : Int) = 0 from h) (by decide))) (some ⟨w3.heap.size, 0, none⟩) 1 1 (by decide))
  go_upto_region 6 with (first
    | (go_at_call 11; (with_reducible refine HP5.out.mono ?_); rintro e w4 ⟨rfl, h4, -⟩; have H4 := Aside0.mk h4; clear h4))
  obtain ⟨m4, H4, hw4, ho4, hn4, hf4, hs4⟩ : ∃ m4, Aside0 (St w1 w4 gc gb gp m4 (updD (fun _ _ => []) 3 0 [97])) ∧ m4.wrong = 1 ∧ m4.ops = 1 ∧ (m4.bk 3).nx = 1 ∧ m4.off = false ∧ ((m4.bk 3).pg 0).st = 1 := ⟨_, H4, (wrap_in (0 + 1) (by decide)), (wrap_in (0 + 1) (by decide)), rfl, rfl, rfl⟩
  have HR := Aside0.mk (show Calls Try.prog 9 #[cp gc, .int .i64 3, .int .i64 0] w4 _ from read_data H4.out hf4 3 0 (by decide) (by decide) hs4 (by decide))
  go_upto_region 7 with (first
    | (go_at_call 9; (with_reducible refine HR.out.mono ?_); rintro e w5 ⟨v5, rfl, h5, hb5⟩; have HV := Aside0.mk h5; have HB5 := Aside0.mk hb5; clear h5 hb5))
  obtain ⟨g5, c5, e5, _, _, _⟩ := Kd.R_form HV.out (by decide)
  subst e5
  have HV2 : Aside0 (Kd.R (Kd.int .u8) 5 w5 w4.heap.size (fun _ => True) (.slice (some ⟨g5, 0, none⟩) 128 c5) ([97] ++ List.replicate 127 255)) := HV
  have p0 := (Kd.R_celln 0 HV2.out 0 (by decide) (by decide)).1
  have p1 := (Kd.R_celln 0 HV2.out 1 (by decide) (by decide)).1
  change _ = some (Value.int .u8 97) at p0
  change _ = some (Value.int .u8 255) at p1
  simp only [show Int.toNat 0 = 0 from rfl, show Int.toNat 1 = 1 from rfl] at p0 p1
  have H5 := Aside0.mk (H4.out.grow HB5.out)
  have HN5 := Aside0.mk (show Calls Try.prog 10 #[cp gc, .int .i64 3] w5 (fun e w' => e = .returned (.int .i64 1) ∧ Below w5.heap.size w5 w') from (next_yes H5.out 3 (by decide)).mono (fun e w' h => ⟨h.1.trans (by rw [hn4]), h.2⟩))
  have HE := Aside0.mk hw4
  have HF := Aside0.mk ho4
  clear hw4 ho4 hn4 hf4 hs4
  go_wp2_with (first
    | (go_at_call 10; (with_reducible refine HN5.out.mono ?_); rintro e w6 ⟨rfl, hb6⟩; have HB6 := Aside0.mk hb6; have HW6 := Aside0.mk (show Calls Try.prog 18 #[cp gc] w6 (fun e w' => e = .returned (.int .i64 1) ∧ Below w6.heap.size w6 w') from (wrong_is (H5.out.grow hb6)).mono (fun e w' h => ⟨h.1.trans (by rw [HE.out]), h.2⟩)); clear hb6)
    | (go_at_call 18; (with_reducible refine HW6.out.mono ?_); rintro e w7 ⟨rfl, hb7⟩; have HB7 := Aside0.mk (below_step HB6.out hb7); have HW7 := Aside0.mk (show Calls Try.prog 20 #[cp gc] w7 (fun e w' => e = .returned (.int .i64 1) ∧ Below w7.heap.size w7 w') from (ops_is (H5.out.grow HB7.out)).mono (fun e w' h => ⟨h.1.trans (by rw [HF.out]), h.2⟩)); clear hb7)
    | (go_at_call 20; (with_reducible refine HW7.out.mono ?_); rintro e w8 ⟨rfl, hb8⟩; have HB8 := Aside0.mk (below_step HB7.out hb8); clear hb8))
  go_ret
  exact ⟨rfl, below_step HB1.out (H5.out.grow HB8.out).below⟩
end Go.Proofs.Ytnhlfbkpohidpaa.PAll

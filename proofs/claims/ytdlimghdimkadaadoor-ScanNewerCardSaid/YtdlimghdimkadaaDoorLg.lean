/- scan.Least. -/
import Derived.Test.YtdlimghdimkadaaDoorLf
import Derived.Test.YtdlimghdimkadaaDoorRegIn
namespace Go.Proofs.YtdlimghdimkadaaDoor.PAll
open Go Go.RowKit Go.Shelf Go.Proofs.YtdlimghdimkadaaDoorW.PrintWords Go.Proofs.YtdlimghdimkadaaDoorW.PrintLast Go.Proofs.YtdlimghdimkadaaDoorW.PrintMore
set_option linter.unusedSimpArgs false
set_option linter.unusedVariables false
attribute [local go_sem] Oper.semAt_some
theorem cell_heap {W W' : World} (h : W'.heap = W.heap) (p : Addr) : W'.cell? p = W.cell? p := by unfold World.cell?; rw [h]
theorem keeps_heap {W W' : World} (h : W'.heap = W.heap) : KeepsOthers W W' := ⟨by rw [h]; exact Nat.le_refl _, fun k o hk _ => by rw [h]; exact hk⟩
theorem boxed_heap {W W' : World} (h : W'.heap = W.heap) {B : Nat} {t : TypeId} {v : Value} (hb : Boxed W B t v) : Boxed W' B t v := by
  unfold Boxed at hb ⊢
  rw [h]
  exact hb
set_option maxRecDepth 100000 in
set_option maxHeartbeats 8000000 in
theorem Least_in (F : Fence) (n : Nat) (h9 : F.fn 9) (h27 : F.fn 27) (h50 : F.fn 50) (hro : F.round = none) (hn : 4 ≤ n) (A : Option Addr) (c : Nat) (xs : List Blk) (w : World) (hr : Kd.C kBlk w A xs.length xs) (hlen : xs.length ≤ 4611686018427387904) :
    CallsIn F n Tryd.prog 9 #[.slice A xs.length c] w fun e W' => e = .returned (.int .i64 (leastL xs)) ∧ Below w.heap.size w W' := by
  have h1 : 1 ≤ n := by omega
  refine callsIn_of_wp_marks Tryd.func9 rfl h9 ?_ hro
  simp only [Tryd.ntmps9, List.size_toArray, List.length_cons, List.length_nil, Nat.reduceAdd, Nat.reduceSub, Array.replicate_succ, Array.replicate_zero, List.push_toArray, List.append_toArray, List.nil_append, List.cons_append]
  gi_wp2_with (gi_at_call 27; refine (blocks_in F (n - 1) h27 hro _ _ _ _ _).mono ?_; rintro e w' ⟨rfl, rfl⟩)
  have bS0 := (((Boxed.new w 23 (.slice A xs.length c)).alloc (.cells #[.int .i64 (-1)] 3)).alloc (.cells #[.slice A xs.length c] 23)).alloc (.cells #[.int .i64 2] 3)
  have bR := ((Boxed.new (w.alloc (.cells #[.slice A xs.length c] 23)) 3 (.int .i64 (-1))).alloc (.cells #[.slice A xs.length c] 23)).alloc (.cells #[.int .i64 2] 3)
  have bS := (Boxed.new ((w.alloc (.cells #[.slice A xs.length c] 23)).alloc (.cells #[.int .i64 (-1)] 3)) 23 (.slice A xs.length c)).alloc (.cells #[.int .i64 2] 3)
  have bT := Boxed.new (((w.alloc (.cells #[.slice A xs.length c] 23)).alloc (.cells #[.int .i64 (-1)] 3)).alloc (.cells #[.slice A xs.length c] 23)) 3 (.int .i64 2)
  simp only [World.size_alloc] at bS0 bR bS bT
  have hB0 : Below w.heap.size w ((((w.alloc (.cells #[.slice A xs.length c] 23)).alloc (.cells #[.int .i64 (-1)] 3)).alloc (.cells #[.slice A xs.length c] 23)).alloc (.cells #[.int .i64 2] 3)) := ((((Below.refl _ w).alloc (Nat.le_refl _) _).alloc (by simp) _).alloc (by simp; omega) _).alloc (by simp; omega) _
  have hsz : ((((w.alloc (.cells #[.slice A xs.length c] 23)).alloc (.cells #[.int .i64 (-1)] 3)).alloc (.cells #[.slice A xs.length c] 23)).alloc (.cells #[.int .i64 2] 3)).heap.size = w.heap.size + 4 := by simp
  obtain ⟨W0, hW0⟩ : ∃ W0, (((w.alloc (.cells #[.slice A xs.length c] 23)).alloc (.cells #[.int .i64 (-1)] 3)).alloc (.cells #[.slice A xs.length c] 23)).alloc (.cells #[.int .i64 2] 3) = W0 := ⟨_, rfl⟩
  rw [hW0] at bS0 bR bS bT hB0 hsz ⊢
  clear hW0
  refine range_blocks hro (by omega) h50 (w.heap.size + 1 + 1) (w.heap.size + 1 + 1 + 1) 2 A c xs rfl rfl hlen
    (fun pre W => (((-1 ≤ leastE pre ∧ leastE pre < (xs.length : Int)) ∧ Boxed W w.heap.size 23 (.slice A xs.length c)) ∧ Boxed W (w.heap.size + 1) 3 (.int .i64 (leastE pre))) ∧ (Boxed W (w.heap.size + 1 + 1) 23 (.slice A xs.length c) ∧ Boxed W (w.heap.size + 1 + 1 + 1) 3 (.int .i64 2)) ∧ Below w.heap.size w W)
    (fun pre W => False)
    (OwnFrom.and (OwnFrom.and (OwnFrom.and (ownFrom_pure _ _) (Own.from (boxed_own _ _ _) _)) (Own.from (boxed_own _ _ (fun pre => Value.int .i64 (leastE pre))) _)) (OwnFrom.and (OwnFrom.and (Own.from (boxed_own _ _ _) _) (Own.from (boxed_own _ _ _) _)) (ownFrom_below (Nat.le_refl _) (by omega))))
    (ownFrom_pure _ _)
    (fun pre W' h => h.2.1.1.cell) (fun pre W' h => h.2.1.2.cell) (fun k W' h hi => entry_of (Kd.C_below hr hi.2.2) k h)
    ⟨⟨⟨⟨by show (-1 : Int) ≤ -1; omega, by show (-1 : Int) < _; omega⟩, bS0⟩, bR⟩, ⟨bS, bT⟩, hB0⟩
    (fun x a' W => ∃ Bx, w.heap.size + 4 ≤ Bx ∧ W.heap[Bx]? = some (.cells (bC x.1.2) 49 (0, 0)) ∧ a' = { tmps := #[.slice A xs.length c, .pointer (some ⟨w.heap.size, 0, none⟩), .int .i64 0, .pointer (some ⟨w.heap.size + 1, 0, none⟩), .int .i64 (x.1.1 : Int), .pointer (some ⟨Bx, 0, none⟩), .slice A xs.length c, .func (.func 50) #[] #[.pointer (some ⟨w.heap.size + 1 + 1, 0, none⟩), .pointer (some ⟨w.heap.size + 1 + 1 + 1, 0, none⟩)], .int .i64 (x.1.1 : Int), .agg (bC x.1.2), undef, undef, undef, undef, undef, undef, undef, undef, undef, undef, undef, undef, undef, undef], defers := [] })
    (fun x a' _ X Y row hs hg hrow => by obtain ⟨Bx, h1, h2, h3⟩ := hs; exact ⟨Bx, h1, box6_own (β := Unit) Bx 49 (bC x.1.2) () X Y row h2 hg (fun r e => (hrow r e).2), h3⟩)
    ?assign ?body ?done ?stop
  case assign =>
    rintro l pre x W K ⟨⟨⟨hp, bS1⟩, bR1⟩, ⟨bB1, bT1⟩, hB1⟩ hK
    have hu49 := Tryd.underlying49
    have hs1 : w.heap.size + 1 + 1 + 1 < W.heap.size := (Array.getElem?_eq_some_iff.1 (show W.heap[w.heap.size + 1 + 1 + 1]? = _ from bT1)).1
    simp only [encE]
    gi_wp2
    exact hK _ _ ((KeepsOthers.alloc _ _).from _) ⟨⟨⟨hp, bS1.alloc _⟩, bR1.alloc _⟩, ⟨bB1.alloc _, bT1.alloc _⟩, hB1.alloc hB1.size _⟩ ⟨W.heap.size, by omega, World.alloc_heap_new W _, rfl⟩
  case body =>
    rintro l pre x a' W ⟨⟨⟨⟨hp1, hp2⟩, bS1⟩, bR1⟩, ⟨bB1, bT1⟩, hB1⟩ ⟨Bx, hBx, bX, rfl⟩ hlt
    have HLS := Aside0.mk (leastE_snoc pre x)
    have HBS := Aside0.mk bS1
    have HBR := Aside0.mk bR1
    have HBB := Aside0.mk bB1
    have HBT := Aside0.mk bT1
    have HB1 := Aside0.mk hB1
    have HXL := Aside0.mk x.2.1
    have cB := bR1.cell
    have cS := bS1.cell
    have cX : W.cell? ⟨Bx, 1, none⟩ = some (.int .i64 x.1.2.f1) := Joins.cell_of_block bX 1
    clear bS1 bB1 bT1 bR1
    have Done : ∀ W', W'.heap = W.heap → Below W.heap.size W W' → leastE (pre ++ [x]) = leastE pre → rPost W0.heap.size (fun pre W => (((-1 ≤ leastE pre ∧ leastE pre < (xs.length : Int)) ∧ Boxed W w.heap.size 23 (.slice A xs.length c)) ∧ Boxed W (w.heap.size + 1) 3 (.int .i64 (leastE pre))) ∧ (Boxed W (w.heap.size + 1 + 1) 23 (.slice A xs.length c) ∧ Boxed W (w.heap.size + 1 + 1 + 1) 3 (.int .i64 2)) ∧ Below w.heap.size w W) (fun pre W => False) (pre ++ [x]) W .normal { tmps := #[], defers := [] } W' := fun W' hh hb he => by
      refine ⟨(keeps_heap hh).from _, ⟨⟨⟨by rw [he]; exact ⟨hp1, hp2⟩, boxed_heap hh HBS.out⟩, by rw [he]; exact boxed_heap hh HBR.out⟩, ⟨boxed_heap hh HBB.out, boxed_heap hh HBT.out⟩, below_step HB1.out hb⟩⟩
    have Put : ∀ W', W'.heap = W.heap → Below W.heap.size W W' → leastE (pre ++ [x]) = (x.1.1 : Int) → rPost W0.heap.size (fun pre W => (((-1 ≤ leastE pre ∧ leastE pre < (xs.length : Int)) ∧ Boxed W w.heap.size 23 (.slice A xs.length c)) ∧ Boxed W (w.heap.size + 1) 3 (.int .i64 (leastE pre))) ∧ (Boxed W (w.heap.size + 1 + 1) 23 (.slice A xs.length c) ∧ Boxed W (w.heap.size + 1 + 1 + 1) 3 (.int .i64 2)) ∧ Below w.heap.size w W) (fun pre W => False) (pre ++ [x]) W .normal { tmps := #[], defers := [] } (W'.setCell ⟨w.heap.size + 1, 0, none⟩ (.int .i64 (x.1.1 : Int))) := fun W' hh hb he => by
      refine ⟨((keeps_heap hh).trans (KeepsOthers.setCell _ _ _)).from _, ⟨⟨⟨by rw [he]; exact ⟨by omega, by have := HXL.out; omega⟩, (boxed_heap hh HBS.out).other (by omega) _⟩, by rw [he]; exact (boxed_heap hh HBR.out).set _⟩, ⟨(boxed_heap hh HBB.out).other (by omega) _, (boxed_heap hh HBT.out).other (by omega) _⟩, (below_step HB1.out hb).setCell (p := ⟨w.heap.size + 1, 0, none⟩) (by simp) _⟩⟩
    have HDONE := Aside0.mk Done
    have HPUT := Aside0.mk Put
    clear Done Put hB1
    by_cases hb0 : leastE pre < 0
    · have hm1 : leastE pre = -1 := by omega
      have HE := Aside0.mk (show leastE (pre ++ [x]) = (x.1.1 : Int) by rw [HLS.out, if_pos (.inl hb0)])
      rw [hm1] at cB
      clear hm1 hb0 hp1 hp2
      gi_wp2
      refine Reg.detIn [(0, 10, ?r1v0), (1, 11, ?r1v1), (2, 12, ?r1v2), (3, 13, undef), (4, 14, undef), (5, 15, undef), (6, 16, undef), (7, 17, undef), (8, 18, undef), (9, 19, undef), (10, 20, undef), (11, 21, ?r1v11)] (fun w' => w'.heap = W.heap ∧ Below W.heap.size W w') (by rfl) rfl (by rfl) (by rintro ⟨_, _, h⟩; exact h) (by kernel_rfl) ?r1S ?r1steps ?r1okv ?r1hlt ?r1fin
      case r1S => exact ⟨rfl, below_drew (Below.refl _ _)⟩
      case r1steps =>
        refine Reg.from_some 0 rfl rfl (fun a w hS hK K hC => ?_) ?_
        · refine Reg.step_on (by rfl) ?_
          have e3 := hK.off 3 _ rfl rfl
          have zb := (cell_heap hS.1 _).trans cB
          have zs := (cell_heap hS.1 _).trans cS
          have zx := (cell_heap hS.1 _).trans cX
          clear hK
          go_simp
          exact hC _ hS
        refine Reg.from_some 1 rfl rfl (fun a w hS hK K hC => ?_) ?_
        · refine Reg.step_on (by rfl) ?_
          have e10 := hK.slot 0 _ _ _ rfl (by kernel_rfl)
          clear hK
          go_simp
          exact hC _ hS
        refine Reg.from_some 2 rfl rfl (fun a w hS hK K hC => ?_) ?_
        · refine Reg.step_on (by rfl) ?_
          have e11 := hK.slot 1 _ _ _ rfl (by kernel_rfl)
          clear hK
          go_simp
          exact hC _ hS
        refine Reg.from_some 3 rfl rfl (fun a w hS hK K hC => ?_) ?_
        · refine Reg.step_off (wanted_off (g := 2) rfl rfl rfl (hK.slot 2 _ _ _ rfl (by kernel_rfl))) ?_
          exact hC _ hS
        refine Reg.from_some 4 rfl rfl (fun a w hS hK K hC => ?_) ?_
        · refine Reg.step_off (wanted_off (g := 2) rfl rfl rfl (hK.slot 2 _ _ _ rfl (by kernel_rfl))) ?_
          exact hC _ hS
        refine Reg.from_some 5 rfl rfl (fun a w hS hK K hC => ?_) ?_
        · refine Reg.step_off (wanted_off (g := 2) rfl rfl rfl (hK.slot 2 _ _ _ rfl (by kernel_rfl))) ?_
          exact hC _ hS
        refine Reg.from_some 6 rfl rfl (fun a w hS hK K hC => ?_) ?_
        · refine Reg.step_off (wanted_off (g := 2) rfl rfl rfl (hK.slot 2 _ _ _ rfl (by kernel_rfl))) ?_
          exact hC _ hS
        refine Reg.from_some 7 rfl rfl (fun a w hS hK K hC => ?_) ?_
        · refine Reg.step_off (wanted_off (g := 2) rfl rfl rfl (hK.slot 2 _ _ _ rfl (by kernel_rfl))) ?_
          exact hC _ hS
        refine Reg.from_some 8 rfl rfl (fun a w hS hK K hC => ?_) ?_
        · refine Reg.step_off (wanted_off (g := 2) rfl rfl rfl (hK.slot 2 _ _ _ rfl (by kernel_rfl))) ?_
          exact hC _ hS
        refine Reg.from_some 9 rfl rfl (fun a w hS hK K hC => ?_) ?_
        · refine Reg.step_off (wanted_off (g := 2) rfl rfl rfl (hK.slot 2 _ _ _ rfl (by kernel_rfl))) ?_
          exact hC _ hS
        refine Reg.from_some 10 rfl rfl (fun a w hS hK K hC => ?_) ?_
        · refine Reg.step_off (wanted_off (g := 2) rfl rfl rfl (hK.slot 2 _ _ _ rfl (by kernel_rfl))) ?_
          exact hC _ hS
        refine Reg.from_some 11 rfl rfl (fun a w hS hK K hC => ?_) ?_
        · refine Reg.step_on (by rfl) ?_
          have e12 := hK.slot 2 _ _ _ rfl (by kernel_rfl)
          have e20 := hK.slot 10 _ _ _ rfl (by kernel_rfl)
          clear hK
          go_simp
          exact hC _ hS
        exact Reg.from_nil
      case r1okv => rfl
      case r1hlt => rfl
      case r1fin =>
        intro wz hS
        simp only [Reg.putV, List.foldl_cons, List.foldl_nil, Act.put, List.setIfInBounds_toArray, List.set_cons_zero, List.set_cons_succ]
        have HS1 := Aside0.mk hS.1
        have HS2 := Aside0.mk hS.2
        have zb := (cell_heap hS.1 _).trans cB
        have zf := (boxed_heap hS.1 HBR.out).frozen
        clear hS
        gi_wp2
        exact HPUT.out _ HS1.out HS2.out HE.out
    · obtain ⟨k, hk⟩ : ∃ k : Nat, leastE pre = (k : Int) := ⟨(leastE pre).toNat, by omega⟩
      have hkl : k < xs.length := by omega
      obtain ⟨ad, eA, -, cK, -⟩ := entry_of (Kd.C_below hr HB1.out) k hkl
      subst eA
      have HE := Aside0.mk (show leastE (pre ++ [x]) = if x.1.2.f1 < xs[k].f1 then (x.1.1 : Int) else (k : Int) by
        rw [HLS.out, hk, Int.toNat_natCast, getD_of hkl]
        by_cases h : x.1.2.f1 < xs[k].f1
        · rw [if_pos h, if_pos (.inr h)]
        · rw [if_neg h, if_neg (by rintro (h2 | h2); · omega
                                   · exact h h2)])
      have HK := Aside0.mk hk
      rw [hk] at cB
      have d0 : decide ((k : Int) < 0) = false := decide_eq_false (by omega)
      have hq : (k < xs.length) = True := eq_true hkl
      have hqi : ((k : Int) < (xs.length : Int)) = True := eq_true (by omega)
      clear hk hb0 hp1 hp2
      generalize xs[k].f1 = fk at cK HE
      by_cases hlt2 : x.1.2.f1 < fk
      · have d1 : decide (x.1.2.f1 < fk) = true := decide_eq_true hlt2
        have HE2 := Aside0.mk (HE.out.trans (if_pos hlt2))
        clear hlt2
        gi_wp2
        refine Reg.detIn [(0, 10, ?r2v0), (1, 11, ?r2v1), (2, 12, ?r2v2), (3, 13, ?r2v3), (4, 14, ?r2v4), (5, 15, ?r2v5), (6, 16, ?r2v6), (7, 17, ?r2v7), (8, 18, ?r2v8), (9, 19, ?r2v9), (10, 20, ?r2v10), (11, 21, ?r2v11)] (fun w' => w'.heap = W.heap ∧ Below W.heap.size W w') (by rfl) rfl (by rfl) (by rintro ⟨_, _, h⟩; exact h) (by kernel_rfl) ?r2S ?r2steps ?r2okv ?r2hlt ?r2fin
        case r2S => exact ⟨rfl, below_drew (Below.refl _ _)⟩
        case r2steps =>
          refine Reg.from_some 0 rfl rfl (fun a w hS hK K hC => ?_) ?_
          · refine Reg.step_on (by rfl) ?_
            have e3 := hK.off 3 _ rfl rfl
            have zb := (cell_heap hS.1 _).trans cB
            have zs := (cell_heap hS.1 _).trans cS
            have zx := (cell_heap hS.1 _).trans cX
            have zk := (cell_heap hS.1 _).trans cK
            clear hK
            go_simp
            exact hC _ hS
          refine Reg.from_some 1 rfl rfl (fun a w hS hK K hC => ?_) ?_
          · refine Reg.step_on (by rfl) ?_
            have e10 := hK.slot 0 _ _ _ rfl (by kernel_rfl)
            clear hK
            go_simp
            exact hC _ hS
          refine Reg.from_some 2 rfl rfl (fun a w hS hK K hC => ?_) ?_
          · refine Reg.step_on (by rfl) ?_
            have e11 := hK.slot 1 _ _ _ rfl (by kernel_rfl)
            clear hK
            go_simp
            exact hC _ hS
          refine Reg.from_some 3 rfl rfl (fun a w hS hK K hC => ?_) ?_
          · refine Reg.step_on (wanted_on (g := 2) rfl rfl rfl (hK.slot 2 _ _ _ rfl (by kernel_rfl))) ?_
            have e5 := hK.off 5 _ rfl rfl
            clear hK
            go_simp
            exact hC _ hS
          refine Reg.from_some 4 rfl rfl (fun a w hS hK K hC => ?_) ?_
          · refine Reg.step_on (wanted_on (g := 2) rfl rfl rfl (hK.slot 2 _ _ _ rfl (by kernel_rfl))) ?_
            have e13 := hK.slot 3 _ _ _ rfl (by kernel_rfl)
            have zb := (cell_heap hS.1 _).trans cB
            have zs := (cell_heap hS.1 _).trans cS
            have zx := (cell_heap hS.1 _).trans cX
            have zk := (cell_heap hS.1 _).trans cK
            clear hK
            go_simp
            exact hC _ hS
          refine Reg.from_some 5 rfl rfl (fun a w hS hK K hC => ?_) ?_
          · refine Reg.step_on (wanted_on (g := 2) rfl rfl rfl (hK.slot 2 _ _ _ rfl (by kernel_rfl))) ?_
            have e1 := hK.off 1 _ rfl rfl
            have zb := (cell_heap hS.1 _).trans cB
            have zs := (cell_heap hS.1 _).trans cS
            have zx := (cell_heap hS.1 _).trans cX
            have zk := (cell_heap hS.1 _).trans cK
            clear hK
            go_simp
            exact hC _ hS
          refine Reg.from_some 6 rfl rfl (fun a w hS hK K hC => ?_) ?_
          · refine Reg.step_on (wanted_on (g := 2) rfl rfl rfl (hK.slot 2 _ _ _ rfl (by kernel_rfl))) ?_
            have e3 := hK.off 3 _ rfl rfl
            have zb := (cell_heap hS.1 _).trans cB
            have zs := (cell_heap hS.1 _).trans cS
            have zx := (cell_heap hS.1 _).trans cX
            have zk := (cell_heap hS.1 _).trans cK
            clear hK
            go_simp
            exact hC _ hS
          refine Reg.from_some 7 rfl rfl (fun a w hS hK K hC => ?_) ?_
          · refine Reg.step_on (wanted_on (g := 2) rfl rfl rfl (hK.slot 2 _ _ _ rfl (by kernel_rfl))) ?_
            have e15 := hK.slot 5 _ _ _ rfl (by kernel_rfl)
            have e16 := hK.slot 6 _ _ _ rfl (by kernel_rfl)
            clear hK
            go_simp
            exact hC _ hS
          refine Reg.from_some 8 rfl rfl (fun a w hS hK K hC => ?_) ?_
          · refine Reg.step_on (wanted_on (g := 2) rfl rfl rfl (hK.slot 2 _ _ _ rfl (by kernel_rfl))) ?_
            have e17 := hK.slot 7 _ _ _ rfl (by kernel_rfl)
            clear hK
            go_simp
            exact hC _ hS
          refine Reg.from_some 9 rfl rfl (fun a w hS hK K hC => ?_) ?_
          · refine Reg.step_on (wanted_on (g := 2) rfl rfl rfl (hK.slot 2 _ _ _ rfl (by kernel_rfl))) ?_
            have e18 := hK.slot 8 _ _ _ rfl (by kernel_rfl)
            have zb := (cell_heap hS.1 _).trans cB
            have zs := (cell_heap hS.1 _).trans cS
            have zx := (cell_heap hS.1 _).trans cX
            have zk := (cell_heap hS.1 _).trans cK
            clear hK
            go_simp
            exact hC _ hS
          refine Reg.from_some 10 rfl rfl (fun a w hS hK K hC => ?_) ?_
          · refine Reg.step_on (wanted_on (g := 2) rfl rfl rfl (hK.slot 2 _ _ _ rfl (by kernel_rfl))) ?_
            have e14 := hK.slot 4 _ _ _ rfl (by kernel_rfl)
            have e19 := hK.slot 9 _ _ _ rfl (by kernel_rfl)
            clear hK
            go_simp
            exact hC _ hS
          refine Reg.from_some 11 rfl rfl (fun a w hS hK K hC => ?_) ?_
          · refine Reg.step_on (by rfl) ?_
            have e12 := hK.slot 2 _ _ _ rfl (by kernel_rfl)
            have e20 := hK.slot 10 _ _ _ rfl (by kernel_rfl)
            clear hK
            go_simp
            exact hC _ hS
          exact Reg.from_nil
        case r2okv => rfl
        case r2hlt => rfl
        case r2fin =>
          intro wz hS
          simp only [Reg.putV, List.foldl_cons, List.foldl_nil, Act.put, List.setIfInBounds_toArray, List.set_cons_zero, List.set_cons_succ]
          have HS1 := Aside0.mk hS.1
          have HS2 := Aside0.mk hS.2
          have zb := (cell_heap hS.1 _).trans cB
          have zf := (boxed_heap hS.1 HBR.out).frozen
          clear hS
          gi_wp2
          exact HPUT.out _ HS1.out HS2.out HE2.out
      · have d1 : decide (x.1.2.f1 < fk) = false := decide_eq_false hlt2
        have HE2 := Aside0.mk (HE.out.trans (if_neg hlt2))
        clear hlt2
        gi_wp2
        refine Reg.detIn [(0, 10, ?r3v0), (1, 11, ?r3v1), (2, 12, ?r3v2), (3, 13, ?r3v3), (4, 14, ?r3v4), (5, 15, ?r3v5), (6, 16, ?r3v6), (7, 17, ?r3v7), (8, 18, ?r3v8), (9, 19, ?r3v9), (10, 20, ?r3v10), (11, 21, ?r3v11)] (fun w' => w'.heap = W.heap ∧ Below W.heap.size W w') (by rfl) rfl (by rfl) (by rintro ⟨_, _, h⟩; exact h) (by kernel_rfl) ?r3S ?r3steps ?r3okv ?r3hlt ?r3fin
        case r3S => exact ⟨rfl, below_drew (Below.refl _ _)⟩
        case r3steps =>
          refine Reg.from_some 0 rfl rfl (fun a w hS hK K hC => ?_) ?_
          · refine Reg.step_on (by rfl) ?_
            have e3 := hK.off 3 _ rfl rfl
            have zb := (cell_heap hS.1 _).trans cB
            have zs := (cell_heap hS.1 _).trans cS
            have zx := (cell_heap hS.1 _).trans cX
            have zk := (cell_heap hS.1 _).trans cK
            clear hK
            go_simp
            exact hC _ hS
          refine Reg.from_some 1 rfl rfl (fun a w hS hK K hC => ?_) ?_
          · refine Reg.step_on (by rfl) ?_
            have e10 := hK.slot 0 _ _ _ rfl (by kernel_rfl)
            clear hK
            go_simp
            exact hC _ hS
          refine Reg.from_some 2 rfl rfl (fun a w hS hK K hC => ?_) ?_
          · refine Reg.step_on (by rfl) ?_
            have e11 := hK.slot 1 _ _ _ rfl (by kernel_rfl)
            clear hK
            go_simp
            exact hC _ hS
          refine Reg.from_some 3 rfl rfl (fun a w hS hK K hC => ?_) ?_
          · refine Reg.step_on (wanted_on (g := 2) rfl rfl rfl (hK.slot 2 _ _ _ rfl (by kernel_rfl))) ?_
            have e5 := hK.off 5 _ rfl rfl
            clear hK
            go_simp
            exact hC _ hS
          refine Reg.from_some 4 rfl rfl (fun a w hS hK K hC => ?_) ?_
          · refine Reg.step_on (wanted_on (g := 2) rfl rfl rfl (hK.slot 2 _ _ _ rfl (by kernel_rfl))) ?_
            have e13 := hK.slot 3 _ _ _ rfl (by kernel_rfl)
            have zb := (cell_heap hS.1 _).trans cB
            have zs := (cell_heap hS.1 _).trans cS
            have zx := (cell_heap hS.1 _).trans cX
            have zk := (cell_heap hS.1 _).trans cK
            clear hK
            go_simp
            exact hC _ hS
          refine Reg.from_some 5 rfl rfl (fun a w hS hK K hC => ?_) ?_
          · refine Reg.step_on (wanted_on (g := 2) rfl rfl rfl (hK.slot 2 _ _ _ rfl (by kernel_rfl))) ?_
            have e1 := hK.off 1 _ rfl rfl
            have zb := (cell_heap hS.1 _).trans cB
            have zs := (cell_heap hS.1 _).trans cS
            have zx := (cell_heap hS.1 _).trans cX
            have zk := (cell_heap hS.1 _).trans cK
            clear hK
            go_simp
            exact hC _ hS
          refine Reg.from_some 6 rfl rfl (fun a w hS hK K hC => ?_) ?_
          · refine Reg.step_on (wanted_on (g := 2) rfl rfl rfl (hK.slot 2 _ _ _ rfl (by kernel_rfl))) ?_
            have e3 := hK.off 3 _ rfl rfl
            have zb := (cell_heap hS.1 _).trans cB
            have zs := (cell_heap hS.1 _).trans cS
            have zx := (cell_heap hS.1 _).trans cX
            have zk := (cell_heap hS.1 _).trans cK
            clear hK
            go_simp
            exact hC _ hS
          refine Reg.from_some 7 rfl rfl (fun a w hS hK K hC => ?_) ?_
          · refine Reg.step_on (wanted_on (g := 2) rfl rfl rfl (hK.slot 2 _ _ _ rfl (by kernel_rfl))) ?_
            have e15 := hK.slot 5 _ _ _ rfl (by kernel_rfl)
            have e16 := hK.slot 6 _ _ _ rfl (by kernel_rfl)
            clear hK
            go_simp
            exact hC _ hS
          refine Reg.from_some 8 rfl rfl (fun a w hS hK K hC => ?_) ?_
          · refine Reg.step_on (wanted_on (g := 2) rfl rfl rfl (hK.slot 2 _ _ _ rfl (by kernel_rfl))) ?_
            have e17 := hK.slot 7 _ _ _ rfl (by kernel_rfl)
            clear hK
            go_simp
            exact hC _ hS
          refine Reg.from_some 9 rfl rfl (fun a w hS hK K hC => ?_) ?_
          · refine Reg.step_on (wanted_on (g := 2) rfl rfl rfl (hK.slot 2 _ _ _ rfl (by kernel_rfl))) ?_
            have e18 := hK.slot 8 _ _ _ rfl (by kernel_rfl)
            have zb := (cell_heap hS.1 _).trans cB
            have zs := (cell_heap hS.1 _).trans cS
            have zx := (cell_heap hS.1 _).trans cX
            have zk := (cell_heap hS.1 _).trans cK
            clear hK
            go_simp
            exact hC _ hS
          refine Reg.from_some 10 rfl rfl (fun a w hS hK K hC => ?_) ?_
          · refine Reg.step_on (wanted_on (g := 2) rfl rfl rfl (hK.slot 2 _ _ _ rfl (by kernel_rfl))) ?_
            have e14 := hK.slot 4 _ _ _ rfl (by kernel_rfl)
            have e19 := hK.slot 9 _ _ _ rfl (by kernel_rfl)
            clear hK
            go_simp
            exact hC _ hS
          refine Reg.from_some 11 rfl rfl (fun a w hS hK K hC => ?_) ?_
          · refine Reg.step_on (by rfl) ?_
            have e12 := hK.slot 2 _ _ _ rfl (by kernel_rfl)
            have e20 := hK.slot 10 _ _ _ rfl (by kernel_rfl)
            clear hK
            go_simp
            exact hC _ hS
          exact Reg.from_nil
        case r3okv => rfl
        case r3hlt => rfl
        case r3fin =>
          intro wz hS
          simp only [Reg.putV, List.foldl_cons, List.foldl_nil, Act.put, List.setIfInBounds_toArray, List.set_cons_zero, List.set_cons_succ]
          have HS1 := Aside0.mk hS.1
          have HS2 := Aside0.mk hS.2
          clear hS
          gi_wp2
          exact HDONE.out _ HS1.out HS2.out (HE2.out.trans HK.out.symm)
  case done =>
    rintro W ⟨⟨⟨hp, bS1⟩, bR1⟩, ⟨bB1, bT1⟩, hB1⟩ hK
    have hcr := bR1.cell
    gi_wp2
    refine ⟨by simp, .inl ⟨_, _, rfl, run_takeDeferred hK, ?_⟩⟩
    refine ⟨.int .i64 (leastL xs), ?_, ?_, hB1.trans (belowK_b (w := w) (Nat.le_refl _) _ W0.heap.size _ _ (by omega) hK rfl rfl)⟩
    · simp [results, Tryd.f9, go_sem, leastL]
    · rfl
  case stop => rintro k hk W hs h hK; exact h.elim
end Go.Proofs.YtdlimghdimkadaaDoor.PAll

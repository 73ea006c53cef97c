/- What the law ScanOnce rests on, part 10: texts of the session and what the print wrote for it, one behind the other; only what the proof names is kept. -/
import Derived.Test.YtdlimghdimkadaaDoorQ1
import Derived.Test.YtdlimghdimkadaaDoorQ9
import Derived.Test.YtdlimghdimkadaaDoorQ6
namespace Go.Proofs.YtdlimghdimkadaaDoor.PAll
open Go.RowKit Go.Proofs.YtdlimghdimkadaaDoorW.PrintWords Go.Proofs.YtdlimghdimkadaaDoorW.PrintLast Go.Proofs.YtdlimghdimkadaaDoorW.PrintMore
attribute [local go_sem] max2_int min2_int max_two min_two max_three min_three max_four min_four   
set_option linter.unusedVariables false
set_option linter.unusedSimpArgs false
def pumiceref03_power.l0 : Nat → Int → Option (Bool)
 | 0, _ => none
 | k + 1, x0 => if x0 > 1 then (if (Int.tmod x0 2) = 0 then (pumiceref03_power.l0 k (wrap64 (Int.tdiv x0 2))) else (some (x0 == 1))) else (some (x0 == 1))
def pumiceref03_power.f (k : Nat) (a0 : Int) : Option (Bool) := pumiceref03_power.l0 k a0
theorem pumiceref03_power.mono_l : ∀ k, (∀ y0, LeO (pumiceref03_power.l0 k y0) (pumiceref03_power.l0 (k + 1) y0))
 | 0 => fun _ r h => by simp [pumiceref03_power.l0] at h
 | k + 1 => by
  have ih0 := pumiceref03_power.mono_l k
  ·intro y0
   unfold pumiceref03_power.l0
   repeat' first
   | (with_reducible exact ih0 _)
   | (with_reducible exact LeO.refl _)
   | (with_reducible exact LeO.none _)
   | (with_reducible refine LeO.ite ?_ ?_)
   | (with_reducible refine LeO.bind ?_ (fun _ => ?_))
   | exact ih0 _
   | exact LeO.none _
   | refine LeO.ite ?_ ?_
   | refine LeO.bind ?_ (fun _ => ?_)
theorem pumiceref03_power.mono : ∀ a0 k, LeO (pumiceref03_power.f k a0) (pumiceref03_power.f (k + 1) a0) := by
 intro a0 k
 have ih0 := pumiceref03_power.mono_l k
 unfold pumiceref03_power.f
 repeat' first
   | (with_reducible exact ih0 _)
   | (with_reducible exact LeO.refl _)
   | (with_reducible exact LeO.none _)
   | (with_reducible refine LeO.ite ?_ ?_)
   | (with_reducible refine LeO.bind ?_ (fun _ => ?_))
   | exact ih0 _
   | exact LeO.none _
   | refine LeO.ite ?_ ?_
   | refine LeO.bind ?_ (fun _ => ?_)
set_option maxHeartbeats 8000000 in
set_option maxRecDepth 100000 in
theorem pumiceref03_power.calls (k : Nat) (a0 : Int) (r : Bool) (w : World) (h : pumiceref03_power.f k a0 = some r) :
  Calls Tryd.prog 60 #[.int .i64 a0] w fun e w' => e = .returned (.bool r) ∧ Drawn0 w w' := by
 have H : (pumiceref03_power.l0 k a0) = some r := h
 clear h
 have H' := Aside0.mk H
 clear H
 go_enter Tryd.func60, Tryd.ntmps60
 go_wp2
 go_loopg [0] k (fun kq v0 w' => ∃ (x0_1 : Int), v0 = .int .i64 x0_1 ∧ Aside0 (pumiceref03_power.l0 kq x0_1 = some r) ∧ Aside0 (kq ≤ k) ∧ Drawn0 w w')
 case atStart => exact ⟨(a0), (by first | rfl | (simp; done) | (simp [*]; done)), H', ⟨Nat.le_refl _⟩, by repeat (first | exact Drawn0.refl _ | apply Drawn0.step)⟩
 case round =>
  clear H'
  obtain ⟨x0_1, rfl, HA, HK1, ⟨m1, rfl⟩⟩ := hrel
  cases gk with
  | zero => exact absurd HA.out (by simp [pumiceref03_power.l0])
  | succ k1 =>
   have H := HA.out
   clear HA
   simp only [pumiceref03_power.l0] at H
   by_cases c2 : x0_1 > 1
   ·rw [if_pos c2] at H
    have c2b0 : decide (1 < x0_1) = true := decide_eq_true c2
    clear c2
    by_cases c3 : (Int.tmod x0_1 2) = 0
    ·rw [if_pos c3] at H
     have c3b0 : ((Int.tmod x0_1 2) == 0) = true := beq_iff_eq.mpr c3
     have c3b1 : ((Int.tmod x0_1 2) != 0) = false := bne_eq_false_iff_eq.mpr c3
     clear c3
     have H' := Aside0.mk H
     clear H
     go_wp2
     go_roundg k1
     case measure => have := HK1.out; omega
     case rel => exact ⟨(wrap64 (Int.tdiv x0_1 2)), (by first | rfl | (simp; done) | (simp [*]; done)), H', ⟨by have := HK1.out; omega⟩, by repeat (first | exact Drawn0.refl _ | apply Drawn0.step)⟩
    ·rw [if_neg c3] at H
     have c3b0 : ((Int.tmod x0_1 2) == 0) = false := beq_eq_false_iff_ne.mpr c3
     have c3b1 : ((Int.tmod x0_1 2) != 0) = true := bne_iff_ne.mpr c3
     obtain rfl := Option.some.inj H
     go_wp2
     go_ret
     exact ⟨by first | rfl | (simp; done) | (simp [*]; done), by repeat (first | exact Drawn0.refl _ | apply Drawn0.step)⟩
   ·rw [if_neg c2] at H
    have c2b0 : decide (1 < x0_1) = false := decide_eq_false c2
    clear c2
    obtain rfl := Option.some.inj H
    go_wp2
    go_ret
    exact ⟨by first | rfl | (simp; done) | (simp [*]; done), by repeat (first | exact Drawn0.refl _ | apply Drawn0.step)⟩
def pumiceref03_Right.f (k : Nat) (a0_0 : Int) (a0_1 : Int) (a0_2 : Int) (a0_3 : Int) : Option (Bool) := if a0_0 < 16 then (some false) else (if a0_0 > 256 then (some false) else (if a0_1 < 8 then (some false) else (if a0_1 > 64 then (some false) else ((pumiceref03_power.f k a0_1).bind fun t218 => (if t218 = true then (if a0_2 ≥ 64 then (if a0_2 ≤ 512 then ((pumiceref03_power.f k a0_2).bind fun t219 => (if t219 = true then (if (wrap64 ((wrap64 (a0_1 - 2)) * a0_2)) ≥ 1536 then (if a0_3 ≥ 0 then (some (decide (a0_3 ≤ (wrap64 (Int.tdiv a0_0 4))))) else (some false)) else (some false)) else (some false))) else (some false)) else (some false)) else (some false))))))
theorem pumiceref03_Right.mono : ∀ a0 a1 a2 a3 k, LeO (pumiceref03_Right.f k a0 a1 a2 a3) (pumiceref03_Right.f (k + 1) a0 a1 a2 a3) := by
 intro a0 a1 a2 a3 k
 unfold pumiceref03_Right.f
 repeat' first
   | (with_reducible exact pumiceref03_power.mono _ _)
   | (with_reducible exact LeO.refl _)
   | (with_reducible exact LeO.none _)
   | (with_reducible refine LeO.ite ?_ ?_)
   | (with_reducible refine LeO.bind ?_ (fun _ => ?_))
   | exact pumiceref03_power.mono _ _
   | exact LeO.none _
   | refine LeO.ite ?_ ?_
   | refine LeO.bind ?_ (fun _ => ?_)
set_option maxHeartbeats 8000000 in
set_option maxRecDepth 100000 in
theorem pumiceref03_Right.calls (k : Nat) (a0_0 : Int) (a0_1 : Int) (a0_2 : Int) (a0_3 : Int) (r : Bool) (w : World) (h : pumiceref03_Right.f k a0_0 a0_1 a0_2 a0_3 = some r) :
  Calls Tryd.prog 39 #[.agg #[.int .i64 a0_0, .int .i64 a0_1, .int .i64 a0_2, .int .i64 a0_3]] w fun e w' => e = .returned (.bool r) ∧ Below w.heap.size w w' := by
 have hu37 := Tryd.underlying37
 have HB := Aside0.mk (Below.refl w.heap.size w)
 have H : (if a0_0 < 16 then (some false) else (if a0_0 > 256 then (some false) else (if a0_1 < 8 then (some false) else (if a0_1 > 64 then (some false) else ((pumiceref03_power.f k a0_1).bind fun t218 => (if t218 = true then (if a0_2 ≥ 64 then (if a0_2 ≤ 512 then ((pumiceref03_power.f k a0_2).bind fun t219 => (if t219 = true then (if (wrap64 ((wrap64 (a0_1 - 2)) * a0_2)) ≥ 1536 then (if a0_3 ≥ 0 then (some (decide (a0_3 ≤ (wrap64 (Int.tdiv a0_0 4))))) else (some false)) else (some false)) else (some false))) else (some false)) else (some false)) else (some false))))))) = some r := h
 clear h
 by_cases c2 : a0_0 < 16
 ·rw [if_pos c2] at H
  have c2b0 : decide (a0_0 < 16) = true := decide_eq_true c2
  clear c2
  obtain rfl := Option.some.inj H
  go_enter Tryd.func39, Tryd.ntmps39
  go_wp2_with (first | ((with_reducible refine gate_dst (N := 1) rfl ?_); refine box_event ?hg (N := 1) ?hd (cs := #[.int .i64 a0_0, .int .i64 a0_1, .int .i64 a0_2, .int .i64 a0_3]) (t := 37) ?hr ?_; (case hd => rfl); (case hg => rfl); (case hr => first | (go_simp; done) | (go_simp; rfl)); intro gb217 hg w3 hbox hb; have n0_ := Aside0.mk (below_step (by repeat (first | (with_reducible first | exact HB.out | apply below_alloc | apply pw_below_drewN | apply below_drew1) | exact HB.out)) hb); have n1_ := Aside0.mk (hbox); have n2_ := Aside0.mk ((by rw [hg]; exact (below_size (by repeat (first | (with_reducible first | exact HB.out | apply below_alloc | apply pw_below_drewN | apply below_drew1) | exact HB.out))) : w.heap.size ≤ gb217)); have n3_ := Aside0.mk ((by rw [hg]; exact (below_size (by repeat (first | (with_reducible first | exact HB.out | apply below_alloc | apply pw_below_drewN | apply below_drew1) | exact HB.out))) : w.heap.size ≤ gb217)); clear HB; have HB := n0_; have BK217 := n1_; have GW217 := n2_; have GE217 := n3_; clear n0_ n1_ n2_ n3_; clear hb hbox hg; have hcz4_0 : w3.cell? ⟨gb217, 0, none⟩ = some (.int .i64 a0_0) := (blk_cell BK217.out 0).trans rfl; have hcz4_1 : w3.cell? ⟨gb217, 1, none⟩ = some (.int .i64 a0_1) := (blk_cell BK217.out 1).trans rfl; have hcz4_2 : w3.cell? ⟨gb217, 2, none⟩ = some (.int .i64 a0_2) := (blk_cell BK217.out 2).trans rfl; have hcz4_3 : w3.cell? ⟨gb217, 3, none⟩ = some (.int .i64 a0_3) := (blk_cell BK217.out 3).trans rfl; have hfz4_0 := blk_frozen BK217.out 0; have hfz4_1 := blk_frozen BK217.out 1; have hfz4_2 := blk_frozen BK217.out 2; have hfz4_3 := blk_frozen BK217.out 3))
  go_ret
  exact ⟨by first | rfl | (simp [errW_none, errW_some] <;> rfl) | (simp [*, errW_none, errW_some] <;> rfl), by repeat (first | (with_reducible first | exact HB.out | apply below_alloc | apply pw_below_drewN | apply below_drew1 | refine below_set ?_ GE217.out) | exact HB.out)⟩
 ·rw [if_neg c2] at H
  have c2b0 : decide (a0_0 < 16) = false := decide_eq_false c2
  clear c2
  by_cases c5 : a0_0 > 256
  ·rw [if_pos c5] at H
   have c5b0 : decide (256 < a0_0) = true := decide_eq_true c5
   clear c5
   obtain rfl := Option.some.inj H
   go_enter Tryd.func39, Tryd.ntmps39
   go_wp2_with (first | ((with_reducible refine gate_dst (N := 1) rfl ?_); refine box_event ?hg (N := 1) ?hd (cs := #[.int .i64 a0_0, .int .i64 a0_1, .int .i64 a0_2, .int .i64 a0_3]) (t := 37) ?hr ?_; (case hd => rfl); (case hg => rfl); (case hr => first | (go_simp; done) | (go_simp; rfl)); intro gb217 hg w6 hbox hb; have n0_ := Aside0.mk (below_step (by repeat (first | (with_reducible first | exact HB.out | apply below_alloc | apply pw_below_drewN | apply below_drew1) | exact HB.out)) hb); have n1_ := Aside0.mk (hbox); have n2_ := Aside0.mk ((by rw [hg]; exact (below_size (by repeat (first | (with_reducible first | exact HB.out | apply below_alloc | apply pw_below_drewN | apply below_drew1) | exact HB.out))) : w.heap.size ≤ gb217)); have n3_ := Aside0.mk ((by rw [hg]; exact (below_size (by repeat (first | (with_reducible first | exact HB.out | apply below_alloc | apply pw_below_drewN | apply below_drew1) | exact HB.out))) : w.heap.size ≤ gb217)); clear HB; have HB := n0_; have BK217 := n1_; have GW217 := n2_; have GE217 := n3_; clear n0_ n1_ n2_ n3_; clear hb hbox hg; have hcz7_0 : w6.cell? ⟨gb217, 0, none⟩ = some (.int .i64 a0_0) := (blk_cell BK217.out 0).trans rfl; have hcz7_1 : w6.cell? ⟨gb217, 1, none⟩ = some (.int .i64 a0_1) := (blk_cell BK217.out 1).trans rfl; have hcz7_2 : w6.cell? ⟨gb217, 2, none⟩ = some (.int .i64 a0_2) := (blk_cell BK217.out 2).trans rfl; have hcz7_3 : w6.cell? ⟨gb217, 3, none⟩ = some (.int .i64 a0_3) := (blk_cell BK217.out 3).trans rfl; have hfz7_0 := blk_frozen BK217.out 0; have hfz7_1 := blk_frozen BK217.out 1; have hfz7_2 := blk_frozen BK217.out 2; have hfz7_3 := blk_frozen BK217.out 3))
   go_ret
   exact ⟨by first | rfl | (simp [errW_none, errW_some] <;> rfl) | (simp [*, errW_none, errW_some] <;> rfl), by repeat (first | (with_reducible first | exact HB.out | apply below_alloc | apply pw_below_drewN | apply below_drew1 | refine below_set ?_ GE217.out) | exact HB.out)⟩
  ·rw [if_neg c5] at H
   have c5b0 : decide (256 < a0_0) = false := decide_eq_false c5
   clear c5
   by_cases c8 : a0_1 < 8
   ·rw [if_pos c8] at H
    have c8b0 : decide (a0_1 < 8) = true := decide_eq_true c8
    clear c8
    obtain rfl := Option.some.inj H
    go_enter Tryd.func39, Tryd.ntmps39
    go_wp2_with (first | ((with_reducible refine gate_dst (N := 1) rfl ?_); refine box_event ?hg (N := 1) ?hd (cs := #[.int .i64 a0_0, .int .i64 a0_1, .int .i64 a0_2, .int .i64 a0_3]) (t := 37) ?hr ?_; (case hd => rfl); (case hg => rfl); (case hr => first | (go_simp; done) | (go_simp; rfl)); intro gb217 hg w9 hbox hb; have n0_ := Aside0.mk (below_step (by repeat (first | (with_reducible first | exact HB.out | apply below_alloc | apply pw_below_drewN | apply below_drew1) | exact HB.out)) hb); have n1_ := Aside0.mk (hbox); have n2_ := Aside0.mk ((by rw [hg]; exact (below_size (by repeat (first | (with_reducible first | exact HB.out | apply below_alloc | apply pw_below_drewN | apply below_drew1) | exact HB.out))) : w.heap.size ≤ gb217)); have n3_ := Aside0.mk ((by rw [hg]; exact (below_size (by repeat (first | (with_reducible first | exact HB.out | apply below_alloc | apply pw_below_drewN | apply below_drew1) | exact HB.out))) : w.heap.size ≤ gb217)); clear HB; have HB := n0_; have BK217 := n1_; have GW217 := n2_; have GE217 := n3_; clear n0_ n1_ n2_ n3_; clear hb hbox hg; have hcz10_0 : w9.cell? ⟨gb217, 0, none⟩ = some (.int .i64 a0_0) := (blk_cell BK217.out 0).trans rfl; have hcz10_1 : w9.cell? ⟨gb217, 1, none⟩ = some (.int .i64 a0_1) := (blk_cell BK217.out 1).trans rfl; have hcz10_2 : w9.cell? ⟨gb217, 2, none⟩ = some (.int .i64 a0_2) := (blk_cell BK217.out 2).trans rfl; have hcz10_3 : w9.cell? ⟨gb217, 3, none⟩ = some (.int .i64 a0_3) := (blk_cell BK217.out 3).trans rfl; have hfz10_0 := blk_frozen BK217.out 0; have hfz10_1 := blk_frozen BK217.out 1; have hfz10_2 := blk_frozen BK217.out 2; have hfz10_3 := blk_frozen BK217.out 3))
    go_ret
    exact ⟨by first | rfl | (simp [errW_none, errW_some] <;> rfl) | (simp [*, errW_none, errW_some] <;> rfl), by repeat (first | (with_reducible first | exact HB.out | apply below_alloc | apply pw_below_drewN | apply below_drew1 | refine below_set ?_ GE217.out) | exact HB.out)⟩
   ·rw [if_neg c8] at H
    have c8b0 : decide (a0_1 < 8) = false := decide_eq_false c8
    clear c8
    by_cases c11 : a0_1 > 64
    ·rw [if_pos c11] at H
     have c11b0 : decide (64 < a0_1) = true := decide_eq_true c11
     clear c11
     obtain rfl := Option.some.inj H
     go_enter Tryd.func39, Tryd.ntmps39
     go_wp2_with (first | ((with_reducible refine gate_dst (N := 1) rfl ?_); refine box_event ?hg (N := 1) ?hd (cs := #[.int .i64 a0_0, .int .i64 a0_1, .int .i64 a0_2, .int .i64 a0_3]) (t := 37) ?hr ?_; (case hd => rfl); (case hg => rfl); (case hr => first | (go_simp; done) | (go_simp; rfl)); intro gb217 hg w12 hbox hb; have n0_ := Aside0.mk (below_step (by repeat (first | (with_reducible first | exact HB.out | apply below_alloc | apply pw_below_drewN | apply below_drew1) | exact HB.out)) hb); have n1_ := Aside0.mk (hbox); have n2_ := Aside0.mk ((by rw [hg]; exact (below_size (by repeat (first | (with_reducible first | exact HB.out | apply below_alloc | apply pw_below_drewN | apply below_drew1) | exact HB.out))) : w.heap.size ≤ gb217)); have n3_ := Aside0.mk ((by rw [hg]; exact (below_size (by repeat (first | (with_reducible first | exact HB.out | apply below_alloc | apply pw_below_drewN | apply below_drew1) | exact HB.out))) : w.heap.size ≤ gb217)); clear HB; have HB := n0_; have BK217 := n1_; have GW217 := n2_; have GE217 := n3_; clear n0_ n1_ n2_ n3_; clear hb hbox hg; have hcz13_0 : w12.cell? ⟨gb217, 0, none⟩ = some (.int .i64 a0_0) := (blk_cell BK217.out 0).trans rfl; have hcz13_1 : w12.cell? ⟨gb217, 1, none⟩ = some (.int .i64 a0_1) := (blk_cell BK217.out 1).trans rfl; have hcz13_2 : w12.cell? ⟨gb217, 2, none⟩ = some (.int .i64 a0_2) := (blk_cell BK217.out 2).trans rfl; have hcz13_3 : w12.cell? ⟨gb217, 3, none⟩ = some (.int .i64 a0_3) := (blk_cell BK217.out 3).trans rfl; have hfz13_0 := blk_frozen BK217.out 0; have hfz13_1 := blk_frozen BK217.out 1; have hfz13_2 := blk_frozen BK217.out 2; have hfz13_3 := blk_frozen BK217.out 3))
     go_ret
     exact ⟨by first | rfl | (simp [errW_none, errW_some] <;> rfl) | (simp [*, errW_none, errW_some] <;> rfl), by repeat (first | (with_reducible first | exact HB.out | apply below_alloc | apply pw_below_drewN | apply below_drew1 | refine below_set ?_ GE217.out) | exact HB.out)⟩
    ·rw [if_neg c11] at H
     have c11b0 : decide (64 < a0_1) = false := decide_eq_false c11
     clear c11
     replace H := Option.bind_eq_some_iff.mp H
     obtain ⟨t218, A140, H⟩ := H
     replace H : (if t218 = true then (if a0_2 ≥ 64 then (if a0_2 ≤ 512 then ((pumiceref03_power.f k a0_2).bind fun t219 => (if t219 = true then (if (wrap64 ((wrap64 (a0_1 - 2)) * a0_2)) ≥ 1536 then (if a0_3 ≥ 0 then (some (decide (a0_3 ≤ (wrap64 (Int.tdiv a0_0 4))))) else (some false)) else (some false)) else (some false))) else (some false)) else (some false)) else (some false)) = some r := H
     have A14 := Aside0.mk A140
     clear A140
     by_cases c15 : t218 = true
     ·subst c15
      have H1 : (if a0_2 ≥ 64 then (if a0_2 ≤ 512 then ((pumiceref03_power.f k a0_2).bind fun t219 => (if t219 = true then (if (wrap64 ((wrap64 (a0_1 - 2)) * a0_2)) ≥ 1536 then (if a0_3 ≥ 0 then (some (decide (a0_3 ≤ (wrap64 (Int.tdiv a0_0 4))))) else (some false)) else (some false)) else (some false))) else (some false)) else (some false)) = some r := by rw [if_pos rfl] at H; exact H
      clear H
      have H := H1
      clear H1
      by_cases c16 : a0_2 ≥ 64
      ·rw [if_pos c16] at H
       have c16b0 : decide (64 ≤ a0_2) = true := decide_eq_true c16
       clear c16
       by_cases c17 : a0_2 ≤ 512
       ·rw [if_pos c17] at H
        have c17b0 : decide (a0_2 ≤ 512) = true := decide_eq_true c17
        clear c17
        replace H := Option.bind_eq_some_iff.mp H
        obtain ⟨t219, A180, H⟩ := H
        replace H : (if t219 = true then (if (wrap64 ((wrap64 (a0_1 - 2)) * a0_2)) ≥ 1536 then (if a0_3 ≥ 0 then (some (decide (a0_3 ≤ (wrap64 (Int.tdiv a0_0 4))))) else (some false)) else (some false)) else (some false)) = some r := H
        have A18 := Aside0.mk A180
        clear A180
        by_cases c19 : t219 = true
        ·subst c19
         have H1 : (if (wrap64 ((wrap64 (a0_1 - 2)) * a0_2)) ≥ 1536 then (if a0_3 ≥ 0 then (some (decide (a0_3 ≤ (wrap64 (Int.tdiv a0_0 4))))) else (some false)) else (some false)) = some r := by rw [if_pos rfl] at H; exact H
         clear H
         have H := H1
         clear H1
         by_cases c20 : (wrap64 ((wrap64 (a0_1 - 2)) * a0_2)) ≥ 1536
         ·rw [if_pos c20] at H
          have c20b0 : decide (1536 ≤ (wrap64 ((wrap64 (a0_1 - 2)) * a0_2))) = true := decide_eq_true c20
          clear c20
          by_cases c21 : a0_3 ≥ 0
          ·rw [if_pos c21] at H
           have c21b0 : decide (0 ≤ a0_3) = true := decide_eq_true c21
           clear c21
           obtain rfl := Option.some.inj H
           go_enter Tryd.func39, Tryd.ntmps39
           go_wp2_with (first | ((with_reducible refine gate_dst (N := 1) rfl ?_); refine box_event ?hg (N := 1) ?hd (cs := #[.int .i64 a0_0, .int .i64 a0_1, .int .i64 a0_2, .int .i64 a0_3]) (t := 37) ?hr ?_; (case hd => rfl); (case hg => rfl); (case hr => first | (go_simp; done) | (go_simp; rfl)); intro gb217 hg w22 hbox hb; have n0_ := Aside0.mk (below_step (by repeat (first | (with_reducible first | exact HB.out | apply below_alloc | apply pw_below_drewN | apply below_drew1) | exact HB.out)) hb); have n1_ := Aside0.mk (hbox); have n2_ := Aside0.mk ((by rw [hg]; exact (below_size (by repeat (first | (with_reducible first | exact HB.out | apply below_alloc | apply pw_below_drewN | apply below_drew1) | exact HB.out))) : w.heap.size ≤ gb217)); have n3_ := Aside0.mk ((by rw [hg]; exact (below_size (by repeat (first | (with_reducible first | exact HB.out | apply below_alloc | apply pw_below_drewN | apply below_drew1) | exact HB.out))) : w.heap.size ≤ gb217)); clear HB; have HB := n0_; have BK217 := n1_; have GW217 := n2_; have GE217 := n3_; clear n0_ n1_ n2_ n3_; clear hb hbox hg; have hcz23_0 : w22.cell? ⟨gb217, 0, none⟩ = some (.int .i64 a0_0) := (blk_cell BK217.out 0).trans rfl; have hcz23_1 : w22.cell? ⟨gb217, 1, none⟩ = some (.int .i64 a0_1) := (blk_cell BK217.out 1).trans rfl; have hcz23_2 : w22.cell? ⟨gb217, 2, none⟩ = some (.int .i64 a0_2) := (blk_cell BK217.out 2).trans rfl; have hcz23_3 : w22.cell? ⟨gb217, 3, none⟩ = some (.int .i64 a0_3) := (blk_cell BK217.out 3).trans rfl; have hfz23_0 := blk_frozen BK217.out 0; have hfz23_1 := blk_frozen BK217.out 1; have hfz23_2 := blk_frozen BK217.out 2; have hfz23_3 := blk_frozen BK217.out 3) | (go_at_call 60; (with_reducible refine (pumiceref03_power.calls k a0_1 true _ A14.out).mono ?_); rintro e w' ⟨rfl, ⟨nd, rfl⟩⟩) | (go_at_call 60; (with_reducible refine (pumiceref03_power.calls k a0_2 true _ A18.out).mono ?_); rintro e w' ⟨rfl, ⟨nd, rfl⟩⟩))
           go_ret
           exact ⟨by first | rfl | (simp [errW_none, errW_some] <;> rfl) | (simp [*, errW_none, errW_some] <;> rfl), by repeat (first | (with_reducible first | exact HB.out | apply below_alloc | apply pw_below_drewN | apply below_drew1 | refine below_set ?_ GE217.out) | exact HB.out)⟩
          ·rw [if_neg c21] at H
           have c21b0 : decide (0 ≤ a0_3) = false := decide_eq_false c21
           clear c21
           obtain rfl := Option.some.inj H
           go_enter Tryd.func39, Tryd.ntmps39
           go_wp2_with (first | ((with_reducible refine gate_dst (N := 1) rfl ?_); refine box_event ?hg (N := 1) ?hd (cs := #[.int .i64 a0_0, .int .i64 a0_1, .int .i64 a0_2, .int .i64 a0_3]) (t := 37) ?hr ?_; (case hd => rfl); (case hg => rfl); (case hr => first | (go_simp; done) | (go_simp; rfl)); intro gb217 hg w24 hbox hb; have n0_ := Aside0.mk (below_step (by repeat (first | (with_reducible first | exact HB.out | apply below_alloc | apply pw_below_drewN | apply below_drew1) | exact HB.out)) hb); have n1_ := Aside0.mk (hbox); have n2_ := Aside0.mk ((by rw [hg]; exact (below_size (by repeat (first | (with_reducible first | exact HB.out | apply below_alloc | apply pw_below_drewN | apply below_drew1) | exact HB.out))) : w.heap.size ≤ gb217)); have n3_ := Aside0.mk ((by rw [hg]; exact (below_size (by repeat (first | (with_reducible first | exact HB.out | apply below_alloc | apply pw_below_drewN | apply below_drew1) | exact HB.out))) : w.heap.size ≤ gb217)); clear HB; have HB := n0_; have BK217 := n1_; have GW217 := n2_; have GE217 := n3_; clear n0_ n1_ n2_ n3_; clear hb hbox hg; have hcz25_0 : w24.cell? ⟨gb217, 0, none⟩ = some (.int .i64 a0_0) := (blk_cell BK217.out 0).trans rfl; have hcz25_1 : w24.cell? ⟨gb217, 1, none⟩ = some (.int .i64 a0_1) := (blk_cell BK217.out 1).trans rfl; have hcz25_2 : w24.cell? ⟨gb217, 2, none⟩ = some (.int .i64 a0_2) := (blk_cell BK217.out 2).trans rfl; have hcz25_3 : w24.cell? ⟨gb217, 3, none⟩ = some (.int .i64 a0_3) := (blk_cell BK217.out 3).trans rfl; have hfz25_0 := blk_frozen BK217.out 0; have hfz25_1 := blk_frozen BK217.out 1; have hfz25_2 := blk_frozen BK217.out 2; have hfz25_3 := blk_frozen BK217.out 3) | (go_at_call 60; (with_reducible refine (pumiceref03_power.calls k a0_1 true _ A14.out).mono ?_); rintro e w' ⟨rfl, ⟨nd, rfl⟩⟩) | (go_at_call 60; (with_reducible refine (pumiceref03_power.calls k a0_2 true _ A18.out).mono ?_); rintro e w' ⟨rfl, ⟨nd, rfl⟩⟩))
           go_ret
           exact ⟨by first | rfl | (simp [errW_none, errW_some] <;> rfl) | (simp [*, errW_none, errW_some] <;> rfl), by repeat (first | (with_reducible first | exact HB.out | apply below_alloc | apply pw_below_drewN | apply below_drew1 | refine below_set ?_ GE217.out) | exact HB.out)⟩
         ·rw [if_neg c20] at H
          have c20b0 : decide (1536 ≤ (wrap64 ((wrap64 (a0_1 - 2)) * a0_2))) = false := decide_eq_false c20
          clear c20
          obtain rfl := Option.some.inj H
          go_enter Tryd.func39, Tryd.ntmps39
          go_wp2_with (first | ((with_reducible refine gate_dst (N := 1) rfl ?_); refine box_event ?hg (N := 1) ?hd (cs := #[.int .i64 a0_0, .int .i64 a0_1, .int .i64 a0_2, .int .i64 a0_3]) (t := 37) ?hr ?_; (case hd => rfl); (case hg => rfl); (case hr => first | (go_simp; done) | (go_simp; rfl)); intro gb217 hg w26 hbox hb; have n0_ := Aside0.mk (below_step (by repeat (first | (with_reducible first | exact HB.out | apply below_alloc | apply pw_below_drewN | apply below_drew1) | exact HB.out)) hb); have n1_ := Aside0.mk (hbox); have n2_ := Aside0.mk ((by rw [hg]; exact (below_size (by repeat (first | (with_reducible first | exact HB.out | apply below_alloc | apply pw_below_drewN | apply below_drew1) | exact HB.out))) : w.heap.size ≤ gb217)); have n3_ := Aside0.mk ((by rw [hg]; exact (below_size (by repeat (first | (with_reducible first | exact HB.out | apply below_alloc | apply pw_below_drewN | apply below_drew1) | exact HB.out))) : w.heap.size ≤ gb217)); clear HB; have HB := n0_; have BK217 := n1_; have GW217 := n2_; have GE217 := n3_; clear n0_ n1_ n2_ n3_; clear hb hbox hg; have hcz27_0 : w26.cell? ⟨gb217, 0, none⟩ = some (.int .i64 a0_0) := (blk_cell BK217.out 0).trans rfl; have hcz27_1 : w26.cell? ⟨gb217, 1, none⟩ = some (.int .i64 a0_1) := (blk_cell BK217.out 1).trans rfl; have hcz27_2 : w26.cell? ⟨gb217, 2, none⟩ = some (.int .i64 a0_2) := (blk_cell BK217.out 2).trans rfl; have hcz27_3 : w26.cell? ⟨gb217, 3, none⟩ = some (.int .i64 a0_3) := (blk_cell BK217.out 3).trans rfl; have hfz27_0 := blk_frozen BK217.out 0; have hfz27_1 := blk_frozen BK217.out 1; have hfz27_2 := blk_frozen BK217.out 2; have hfz27_3 := blk_frozen BK217.out 3) | (go_at_call 60; (with_reducible refine (pumiceref03_power.calls k a0_1 true _ A14.out).mono ?_); rintro e w' ⟨rfl, ⟨nd, rfl⟩⟩) | (go_at_call 60; (with_reducible refine (pumiceref03_power.calls k a0_2 true _ A18.out).mono ?_); rintro e w' ⟨rfl, ⟨nd, rfl⟩⟩))
          go_ret
          exact ⟨by first | rfl | (simp [errW_none, errW_some] <;> rfl) | (simp [*, errW_none, errW_some] <;> rfl), by repeat (first | (with_reducible first | exact HB.out | apply below_alloc | apply pw_below_drewN | apply below_drew1 | refine below_set ?_ GE217.out) | exact HB.out)⟩
        ·replace c19 := Bool.eq_false_iff.mpr c19
         subst c19
         have H1 : (some false) = some r := by rw [if_neg (show ¬ (false = true) by decide)] at H; exact H
         clear H
         have H := H1
         clear H1
         obtain rfl := Option.some.inj H
         go_enter Tryd.func39, Tryd.ntmps39
         go_wp2_with (first | ((with_reducible refine gate_dst (N := 1) rfl ?_); refine box_event ?hg (N := 1) ?hd (cs := #[.int .i64 a0_0, .int .i64 a0_1, .int .i64 a0_2, .int .i64 a0_3]) (t := 37) ?hr ?_; (case hd => rfl); (case hg => rfl); (case hr => first | (go_simp; done) | (go_simp; rfl)); intro gb217 hg w28 hbox hb; have n0_ := Aside0.mk (below_step (by repeat (first | (with_reducible first | exact HB.out | apply below_alloc | apply pw_below_drewN | apply below_drew1) | exact HB.out)) hb); have n1_ := Aside0.mk (hbox); have n2_ := Aside0.mk ((by rw [hg]; exact (below_size (by repeat (first | (with_reducible first | exact HB.out | apply below_alloc | apply pw_below_drewN | apply below_drew1) | exact HB.out))) : w.heap.size ≤ gb217)); have n3_ := Aside0.mk ((by rw [hg]; exact (below_size (by repeat (first | (with_reducible first | exact HB.out | apply below_alloc | apply pw_below_drewN | apply below_drew1) | exact HB.out))) : w.heap.size ≤ gb217)); clear HB; have HB := n0_; have BK217 := n1_; have GW217 := n2_; have GE217 := n3_; clear n0_ n1_ n2_ n3_; clear hb hbox hg; have hcz29_0 : w28.cell? ⟨gb217, 0, none⟩ = some (.int .i64 a0_0) := (blk_cell BK217.out 0).trans rfl; have hcz29_1 : w28.cell? ⟨gb217, 1, none⟩ = some (.int .i64 a0_1) := (blk_cell BK217.out 1).trans rfl; have hcz29_2 : w28.cell? ⟨gb217, 2, none⟩ = some (.int .i64 a0_2) := (blk_cell BK217.out 2).trans rfl; have hcz29_3 : w28.cell? ⟨gb217, 3, none⟩ = some (.int .i64 a0_3) := (blk_cell BK217.out 3).trans rfl; have hfz29_0 := blk_frozen BK217.out 0; have hfz29_1 := blk_frozen BK217.out 1; have hfz29_2 := blk_frozen BK217.out 2; have hfz29_3 := blk_frozen BK217.out 3) | (go_at_call 60; (with_reducible refine (pumiceref03_power.calls k a0_1 true _ A14.out).mono ?_); rintro e w' ⟨rfl, ⟨nd, rfl⟩⟩) | (go_at_call 60; (with_reducible refine (pumiceref03_power.calls k a0_2 false _ A18.out).mono ?_); rintro e w' ⟨rfl, ⟨nd, rfl⟩⟩))
         go_ret
         exact ⟨by first | rfl | (simp [errW_none, errW_some] <;> rfl) | (simp [*, errW_none, errW_some] <;> rfl), by repeat (first | (with_reducible first | exact HB.out | apply below_alloc | apply pw_below_drewN | apply below_drew1 | refine below_set ?_ GE217.out) | exact HB.out)⟩
       ·rw [if_neg c17] at H
        have c17b0 : decide (a0_2 ≤ 512) = false := decide_eq_false c17
        clear c17
        obtain rfl := Option.some.inj H
        go_enter Tryd.func39, Tryd.ntmps39
        go_wp2_with (first | ((with_reducible refine gate_dst (N := 1) rfl ?_); refine box_event ?hg (N := 1) ?hd (cs := #[.int .i64 a0_0, .int .i64 a0_1, .int .i64 a0_2, .int .i64 a0_3]) (t := 37) ?hr ?_; (case hd => rfl); (case hg => rfl); (case hr => first | (go_simp; done) | (go_simp; rfl)); intro gb217 hg w30 hbox hb; have n0_ := Aside0.mk (below_step (by repeat (first | (with_reducible first | exact HB.out | apply below_alloc | apply pw_below_drewN | apply below_drew1) | exact HB.out)) hb); have n1_ := Aside0.mk (hbox); have n2_ := Aside0.mk ((by rw [hg]; exact (below_size (by repeat (first | (with_reducible first | exact HB.out | apply below_alloc | apply pw_below_drewN | apply below_drew1) | exact HB.out))) : w.heap.size ≤ gb217)); have n3_ := Aside0.mk ((by rw [hg]; exact (below_size (by repeat (first | (with_reducible first | exact HB.out | apply below_alloc | apply pw_below_drewN | apply below_drew1) | exact HB.out))) : w.heap.size ≤ gb217)); clear HB; have HB := n0_; have BK217 := n1_; have GW217 := n2_; have GE217 := n3_; clear n0_ n1_ n2_ n3_; clear hb hbox hg; have hcz31_0 : w30.cell? ⟨gb217, 0, none⟩ = some (.int .i64 a0_0) := (blk_cell BK217.out 0).trans rfl; have hcz31_1 : w30.cell? ⟨gb217, 1, none⟩ = some (.int .i64 a0_1) := (blk_cell BK217.out 1).trans rfl; have hcz31_2 : w30.cell? ⟨gb217, 2, none⟩ = some (.int .i64 a0_2) := (blk_cell BK217.out 2).trans rfl; have hcz31_3 : w30.cell? ⟨gb217, 3, none⟩ = some (.int .i64 a0_3) := (blk_cell BK217.out 3).trans rfl; have hfz31_0 := blk_frozen BK217.out 0; have hfz31_1 := blk_frozen BK217.out 1; have hfz31_2 := blk_frozen BK217.out 2; have hfz31_3 := blk_frozen BK217.out 3) | (go_at_call 60; (with_reducible refine (pumiceref03_power.calls k a0_1 true _ A14.out).mono ?_); rintro e w' ⟨rfl, ⟨nd, rfl⟩⟩))
        go_ret
        exact ⟨by first | rfl | (simp [errW_none, errW_some] <;> rfl) | (simp [*, errW_none, errW_some] <;> rfl), by repeat (first | (with_reducible first | exact HB.out | apply below_alloc | apply pw_below_drewN | apply below_drew1 | refine below_set ?_ GE217.out) | exact HB.out)⟩
      ·rw [if_neg c16] at H
       have c16b0 : decide (64 ≤ a0_2) = false := decide_eq_false c16
       clear c16
       obtain rfl := Option.some.inj H
       go_enter Tryd.func39, Tryd.ntmps39
       go_wp2_with (first | ((with_reducible refine gate_dst (N := 1) rfl ?_); refine box_event ?hg (N := 1) ?hd (cs := #[.int .i64 a0_0, .int .i64 a0_1, .int .i64 a0_2, .int .i64 a0_3]) (t := 37) ?hr ?_; (case hd => rfl); (case hg => rfl); (case hr => first | (go_simp; done) | (go_simp; rfl)); intro gb217 hg w32 hbox hb; have n0_ := Aside0.mk (below_step (by repeat (first | (with_reducible first | exact HB.out | apply below_alloc | apply pw_below_drewN | apply below_drew1) | exact HB.out)) hb); have n1_ := Aside0.mk (hbox); have n2_ := Aside0.mk ((by rw [hg]; exact (below_size (by repeat (first | (with_reducible first | exact HB.out | apply below_alloc | apply pw_below_drewN | apply below_drew1) | exact HB.out))) : w.heap.size ≤ gb217)); have n3_ := Aside0.mk ((by rw [hg]; exact (below_size (by repeat (first | (with_reducible first | exact HB.out | apply below_alloc | apply pw_below_drewN | apply below_drew1) | exact HB.out))) : w.heap.size ≤ gb217)); clear HB; have HB := n0_; have BK217 := n1_; have GW217 := n2_; have GE217 := n3_; clear n0_ n1_ n2_ n3_; clear hb hbox hg; have hcz33_0 : w32.cell? ⟨gb217, 0, none⟩ = some (.int .i64 a0_0) := (blk_cell BK217.out 0).trans rfl; have hcz33_1 : w32.cell? ⟨gb217, 1, none⟩ = some (.int .i64 a0_1) := (blk_cell BK217.out 1).trans rfl; have hcz33_2 : w32.cell? ⟨gb217, 2, none⟩ = some (.int .i64 a0_2) := (blk_cell BK217.out 2).trans rfl; have hcz33_3 : w32.cell? ⟨gb217, 3, none⟩ = some (.int .i64 a0_3) := (blk_cell BK217.out 3).trans rfl; have hfz33_0 := blk_frozen BK217.out 0; have hfz33_1 := blk_frozen BK217.out 1; have hfz33_2 := blk_frozen BK217.out 2; have hfz33_3 := blk_frozen BK217.out 3) | (go_at_call 60; (with_reducible refine (pumiceref03_power.calls k a0_1 true _ A14.out).mono ?_); rintro e w' ⟨rfl, ⟨nd, rfl⟩⟩))
       go_ret
       exact ⟨by first | rfl | (simp [errW_none, errW_some] <;> rfl) | (simp [*, errW_none, errW_some] <;> rfl), by repeat (first | (with_reducible first | exact HB.out | apply below_alloc | apply pw_below_drewN | apply below_drew1 | refine below_set ?_ GE217.out) | exact HB.out)⟩
     ·replace c15 := Bool.eq_false_iff.mpr c15
      subst c15
      have H1 : (some false) = some r := by rw [if_neg (show ¬ (false = true) by decide)] at H; exact H
      clear H
      have H := H1
      clear H1
      obtain rfl := Option.some.inj H
      go_enter Tryd.func39, Tryd.ntmps39
      go_wp2_with (first | ((with_reducible refine gate_dst (N := 1) rfl ?_); refine box_event ?hg (N := 1) ?hd (cs := #[.int .i64 a0_0, .int .i64 a0_1, .int .i64 a0_2, .int .i64 a0_3]) (t := 37) ?hr ?_; (case hd => rfl); (case hg => rfl); (case hr => first | (go_simp; done) | (go_simp; rfl)); intro gb217 hg w34 hbox hb; have n0_ := Aside0.mk (below_step (by repeat (first | (with_reducible first | exact HB.out | apply below_alloc | apply pw_below_drewN | apply below_drew1) | exact HB.out)) hb); have n1_ := Aside0.mk (hbox); have n2_ := Aside0.mk ((by rw [hg]; exact (below_size (by repeat (first | (with_reducible first | exact HB.out | apply below_alloc | apply pw_below_drewN | apply below_drew1) | exact HB.out))) : w.heap.size ≤ gb217)); have n3_ := Aside0.mk ((by rw [hg]; exact (below_size (by repeat (first | (with_reducible first | exact HB.out | apply below_alloc | apply pw_below_drewN | apply below_drew1) | exact HB.out))) : w.heap.size ≤ gb217)); clear HB; have HB := n0_; have BK217 := n1_; have GW217 := n2_; have GE217 := n3_; clear n0_ n1_ n2_ n3_; clear hb hbox hg; have hcz35_0 : w34.cell? ⟨gb217, 0, none⟩ = some (.int .i64 a0_0) := (blk_cell BK217.out 0).trans rfl; have hcz35_1 : w34.cell? ⟨gb217, 1, none⟩ = some (.int .i64 a0_1) := (blk_cell BK217.out 1).trans rfl; have hcz35_2 : w34.cell? ⟨gb217, 2, none⟩ = some (.int .i64 a0_2) := (blk_cell BK217.out 2).trans rfl; have hcz35_3 : w34.cell? ⟨gb217, 3, none⟩ = some (.int .i64 a0_3) := (blk_cell BK217.out 3).trans rfl; have hfz35_0 := blk_frozen BK217.out 0; have hfz35_1 := blk_frozen BK217.out 1; have hfz35_2 := blk_frozen BK217.out 2; have hfz35_3 := blk_frozen BK217.out 3) | (go_at_call 60; (with_reducible refine (pumiceref03_power.calls k a0_1 false _ A14.out).mono ?_); rintro e w' ⟨rfl, ⟨nd, rfl⟩⟩))
      go_ret
      exact ⟨by first | rfl | (simp [errW_none, errW_some] <;> rfl) | (simp [*, errW_none, errW_some] <;> rfl), by repeat (first | (with_reducible first | exact HB.out | apply below_alloc | apply pw_below_drewN | apply below_drew1 | refine below_set ?_ GE217.out) | exact HB.out)⟩
end Go.Proofs.YtdlimghdimkadaaDoor.PAll
namespace Go.Proofs.YtdlimghdimkadaaDoor.PAll
open Go.RowKit Go.Proofs.YtdlimghdimkadaaDoorW.PrintWords Go.Proofs.YtdlimghdimkadaaDoorW.PrintLast Go.Proofs.YtdlimghdimkadaaDoorW.PrintMore
attribute [local go_sem] max2_int min2_int max_two min_two max_three min_three max_four min_four   
set_option linter.unusedVariables false
set_option linter.unusedSimpArgs false
mutual
def pumiceref03_RightPlan.l0 : Nat → List (S71) → Int → Option (Bool)
 | 0, _, _ => none
 | k + 1, x0, x3 => if x3 < (x0.length : Int) then (if 0 ≤ x3 then (if ((rd_T71 x0 x3).f0) < 1 then (pumiceref03_RightPlan.j1 k x0 x3 true ((rd_T71 x0 x3).f0) ((rd_T71 x0 x3).f1) ((rd_T71 x0 x3).f2)) else (if ((rd_T71 x0 x3).f1) = 1 then (if ((rd_T71 x0 x3).f2) < 0 then (pumiceref03_RightPlan.j1 k x0 x3 true ((rd_T71 x0 x3).f0) ((rd_T71 x0 x3).f1) ((rd_T71 x0 x3).f2)) else (if ((rd_T71 x0 x3).f2) > 2 then (pumiceref03_RightPlan.j1 k x0 x3 true ((rd_T71 x0 x3).f0) ((rd_T71 x0 x3).f1) ((rd_T71 x0 x3).f2)) else (if ((rd_T71 x0 x3).f1) = 2 then (pumiceref03_RightPlan.j1 k x0 x3 (decide (((rd_T71 x0 x3).f2) > 0)) ((rd_T71 x0 x3).f0) ((rd_T71 x0 x3).f1) ((rd_T71 x0 x3).f2)) else (pumiceref03_RightPlan.j1 k x0 x3 false ((rd_T71 x0 x3).f0) ((rd_T71 x0 x3).f1) ((rd_T71 x0 x3).f2))))) else (if ((rd_T71 x0 x3).f1) = 2 then (if ((rd_T71 x0 x3).f2) < 0 then (pumiceref03_RightPlan.j1 k x0 x3 true ((rd_T71 x0 x3).f0) ((rd_T71 x0 x3).f1) ((rd_T71 x0 x3).f2)) else (pumiceref03_RightPlan.j1 k x0 x3 (decide (((rd_T71 x0 x3).f2) > 0)) ((rd_T71 x0 x3).f0) ((rd_T71 x0 x3).f1) ((rd_T71 x0 x3).f2))) else (pumiceref03_RightPlan.j1 k x0 x3 true ((rd_T71 x0 x3).f0) ((rd_T71 x0 x3).f1) ((rd_T71 x0 x3).f2))))) else (none)) else (some true)
def pumiceref03_RightPlan.j1 : Nat → List (S71) → Int → Bool → Int → Int → Int → Option (Bool)
 | 0, _, _, _, _, _, _ => none
 | k + 1, x0, x3, x56, x222000, x222001, x222002 => if x56 = true then (some false) else (pumiceref03_RightPlan.l1 k x0 x3 0 x222000 x222001 x222002)
def pumiceref03_RightPlan.l1 : Nat → List (S71) → Int → Int → Int → Int → Int → Option (Bool)
 | 0, _, _, _, _, _, _ => none
 | k + 1, x0, x3, x5, x222000, x222001, x222002 => if x5 < x3 then (if 0 ≤ x5 then (if x5 < (x0.length : Int) then (if ((rd_T71 x0 x5).f0) = x222000 then (some false) else (pumiceref03_RightPlan.l1 k x0 x3 (wrap64 (x5 + 1)) x222000 x222001 x222002)) else (none)) else (none)) else (pumiceref03_RightPlan.l0 k x0 (wrap64 (x3 + 1)))
end
def pumiceref03_RightPlan.f (k : Nat) (l0 : List (S71)) : Option (Bool) := if (l0.length : Int) > 256 then (some false) else (pumiceref03_RightPlan.l0 k l0 0)
theorem pumiceref03_RightPlan.mono_l : ∀ k, (∀ y0 y1, LeO (pumiceref03_RightPlan.l0 k y0 y1) (pumiceref03_RightPlan.l0 (k + 1) y0 y1)) ∧ (∀ y0 y1 y2 y3 y4 y5, LeO (pumiceref03_RightPlan.j1 k y0 y1 y2 y3 y4 y5) (pumiceref03_RightPlan.j1 (k + 1) y0 y1 y2 y3 y4 y5)) ∧ (∀ y0 y1 y2 y3 y4 y5, LeO (pumiceref03_RightPlan.l1 k y0 y1 y2 y3 y4 y5) (pumiceref03_RightPlan.l1 (k + 1) y0 y1 y2 y3 y4 y5))
 | 0 => ⟨fun _ _ r h => by simp [pumiceref03_RightPlan.l0] at h, fun _ _ _ _ _ _ r h => by simp [pumiceref03_RightPlan.j1] at h, fun _ _ _ _ _ _ r h => by simp [pumiceref03_RightPlan.l1] at h⟩
 | k + 1 => by
  obtain ⟨ih0, ih1, ih2⟩ := pumiceref03_RightPlan.mono_l k
  refine ⟨?_, ?_, ?_⟩
  ·intro y0 y1
   unfold pumiceref03_RightPlan.l0
   repeat' first
   | (with_reducible exact ih0 _ _)
   | (with_reducible exact ih1 _ _ _ _ _ _)
   | (with_reducible exact ih2 _ _ _ _ _ _)
   | (with_reducible exact LeO.refl _)
   | (with_reducible exact LeO.none _)
   | (with_reducible refine LeO.ite ?_ ?_)
   | (with_reducible refine LeO.bind ?_ (fun _ => ?_))
   | exact ih0 _ _
   | exact ih1 _ _ _ _ _ _
   | exact ih2 _ _ _ _ _ _
   | exact LeO.none _
   | refine LeO.ite ?_ ?_
   | refine LeO.bind ?_ (fun _ => ?_)
  ·intro y0 y1 y2 y3 y4 y5
   unfold pumiceref03_RightPlan.j1
   repeat' first
   | (with_reducible exact ih0 _ _)
   | (with_reducible exact ih1 _ _ _ _ _ _)
   | (with_reducible exact ih2 _ _ _ _ _ _)
   | (with_reducible exact LeO.refl _)
   | (with_reducible exact LeO.none _)
   | (with_reducible refine LeO.ite ?_ ?_)
   | (with_reducible refine LeO.bind ?_ (fun _ => ?_))
   | exact ih0 _ _
   | exact ih1 _ _ _ _ _ _
   | exact ih2 _ _ _ _ _ _
   | exact LeO.none _
   | refine LeO.ite ?_ ?_
   | refine LeO.bind ?_ (fun _ => ?_)
  ·intro y0 y1 y2 y3 y4 y5
   unfold pumiceref03_RightPlan.l1
   repeat' first
   | (with_reducible exact ih0 _ _)
   | (with_reducible exact ih1 _ _ _ _ _ _)
   | (with_reducible exact ih2 _ _ _ _ _ _)
   | (with_reducible exact LeO.refl _)
   | (with_reducible exact LeO.none _)
   | (with_reducible refine LeO.ite ?_ ?_)
   | (with_reducible refine LeO.bind ?_ (fun _ => ?_))
   | exact ih0 _ _
   | exact ih1 _ _ _ _ _ _
   | exact ih2 _ _ _ _ _ _
   | exact LeO.none _
   | refine LeO.ite ?_ ?_
   | refine LeO.bind ?_ (fun _ => ?_)
theorem pumiceref03_RightPlan.mono : ∀ a0 k, LeO (pumiceref03_RightPlan.f k a0) (pumiceref03_RightPlan.f (k + 1) a0) := by
 intro a0 k
 obtain ⟨ih0, ih1, ih2⟩ := pumiceref03_RightPlan.mono_l k
 unfold pumiceref03_RightPlan.f
 repeat' first
   | (with_reducible exact ih0 _ _)
   | (with_reducible exact ih1 _ _ _ _ _ _)
   | (with_reducible exact ih2 _ _ _ _ _ _)
   | (with_reducible exact LeO.refl _)
   | (with_reducible exact LeO.none _)
   | (with_reducible refine LeO.ite ?_ ?_)
   | (with_reducible refine LeO.bind ?_ (fun _ => ?_))
   | exact ih0 _ _
   | exact ih1 _ _ _ _ _ _
   | exact ih2 _ _ _ _ _ _
   | exact LeO.none _
   | refine LeO.ite ?_ ?_
   | refine LeO.bind ?_ (fun _ => ?_)
set_option maxHeartbeats 8000000 in
set_option maxRecDepth 100000 in
theorem pumiceref03_RightPlan.calls (k : Nat) (A0 : Option Addr) (c0 : Nat) (l0 : List (S71)) (r : Bool) (w : World) (hr0 : Kd.C k71 w A0 l0.length l0) (hc0 : l0.length ≤ c0) (h : pumiceref03_RightPlan.f k l0 = some r) :
  Calls Tryd.prog 40 #[.slice A0 l0.length c0] w fun e w' => e = .returned (.bool r) ∧ Below w.heap.size w w' := by
 have hu71 := Tryd.underlying71
 have HR0 := Aside0.mk hr0
 have HC0 := Aside0.mk hc0
 clear hr0 hc0
 have HB := Aside0.mk (Below.refl w.heap.size w)
 have H : (if (l0.length : Int) > 256 then (some false) else (pumiceref03_RightPlan.l0 k l0 0)) = some r := h
 clear h
 by_cases c2 : (l0.length : Int) > 256
 ·rw [if_pos c2] at H
  have c2b0 : decide (256 < (l0.length : Int)) = true := decide_eq_true c2
  have c2b1 : decide (256 < l0.length) = true := decide_eq_true (by omega)
  clear c2
  obtain rfl := Option.some.inj H
  go_enter Tryd.func40, Tryd.ntmps40
  go_wp2
  repeat (go_quiet (fail); try go_wp2)
  go_ret
  exact ⟨by first | rfl | (simp [errW_none, errW_some] <;> rfl) | (simp [*, errW_none, errW_some] <;> rfl), by repeat (first | (with_reducible first | exact HB.out | apply below_alloc | apply pw_below_drewN | apply below_drew1) | exact HB.out)⟩
 ·rw [if_neg c2] at H
  have c2b0 : decide (256 < (l0.length : Int)) = false := decide_eq_false c2
  have c2b1 : decide (256 < l0.length) = false := decide_eq_false (by omega)
  clear c2
  have H' := Aside0.mk H
  clear H
  go_enter Tryd.func40, Tryd.ntmps40
  go_wp2
  repeat (go_quiet (fail); try go_wp2)
  go_loopg [3] k (fun kq v3 w' => ∃ (x3_1 : Int), v3 = .int .i64 x3_1 ∧ Aside0 (pumiceref03_RightPlan.l0 kq l0 x3_1 = some r) ∧ Aside0 (kq ≤ k) ∧ Aside0 (Below w.heap.size w w'))
  case atStart => exact ⟨(0), (by first | rfl | (simp; done) | (simp [*]; done)), H', ⟨Nat.le_refl _⟩, ⟨by repeat (first | (with_reducible first | exact HB.out | apply below_alloc | apply pw_below_drewN | apply below_drew1) | exact HB.out)⟩⟩
  case round =>
   clear H'
   try clear c2
   try clear c2b0
   try clear c2b1
   try clear p2
   obtain ⟨x3_1, rfl, HA, HK1, HB⟩ := hrel
   cases gk with
   | zero => exact absurd HA.out (by simp [pumiceref03_RightPlan.l0])
   | succ k1 =>
    have H := HA.out
    clear HA
    simp only [pumiceref03_RightPlan.l0] at H
    by_cases c3 : x3_1 < (l0.length : Int)
    ·rw [if_pos c3] at H
     have c3b0 : decide (x3_1 < (l0.length : Int)) = true := decide_eq_true c3
     clear c3
     by_cases c4 : 0 ≤ x3_1
     ·rw [if_pos c4] at H
      have c4b0 : decide (0 ≤ x3_1) = true := decide_eq_true c4
      clear c4
      have HC5 := Aside0.mk H
      clear H
      have p220 : 0 ≤ (x3_1 : Int) := of_decide_eq_true (by first | (with_reducible assumption) | assumption)
      have q220 : x3_1 < (l0.length : Int) := of_decide_eq_true (by first | (with_reducible assumption) | assumption)
      obtain ⟨ad220, e220, hx220_0, hx220_1, hx220_2⟩ := at_T71 HR0.out x3_1 p220 q220
      cases e220
      replace hx220_0 := (HB.out.cell (World.block_lt_of_cell? w _ hx220_0)).trans hx220_0
      replace hx220_1 := (HB.out.cell (World.block_lt_of_cell? w _ hx220_1)).trans hx220_1
      replace hx220_2 := (HB.out.cell (World.block_lt_of_cell? w _ hx220_2)).trans hx220_2
      replace p220 := eq_true p220
      replace q220 := eq_true q220
      go_upto_region 7 with (first | ((with_reducible refine gate_dst (N := 4) rfl ?_); refine box_event ?hg (N := 4) ?hd (cs := #[.int .i64 0, .int .i64 0, .int .i64 0]) (t := 71) ?hr ?_; (case hd => rfl); (case hg => rfl); (case hr => first | (go_simp; done) | (go_simp; rfl)); intro gb221 hg w6 hbox hb; have n0_ := Aside0.mk (below_step (by repeat (first | (with_reducible first | exact HB.out | apply below_alloc | apply pw_below_drewN | apply below_drew1) | exact HB.out)) hb); have n1_ := Aside0.mk (hbox); have n2_ := Aside0.mk ((by rw [hg]; exact (below_size (by repeat (first | (with_reducible first | exact HB.out | apply below_alloc | apply pw_below_drewN | apply below_drew1) | exact HB.out))) : w.heap.size ≤ gb221)); have n3_ := Aside0.mk ((by rw [hg]; exact (below_size (by repeat (first | (with_reducible first | exact HB.out | apply below_alloc | apply pw_below_drewN | apply below_drew1) | exact HB.out))) : w.heap.size ≤ gb221)); clear HB; have HB := n0_; have BK221 := n1_; have GW221 := n2_; have GE221 := n3_; clear n0_ n1_ n2_ n3_; clear hb hbox hg; have hcz7_0 : w6.cell? ⟨gb221, 0, none⟩ = some (.int .i64 0) := (blk_cell BK221.out 0).trans rfl; have hcz7_1 : w6.cell? ⟨gb221, 1, none⟩ = some (.int .i64 0) := (blk_cell BK221.out 1).trans rfl; have hcz7_2 : w6.cell? ⟨gb221, 2, none⟩ = some (.int .i64 0) := (blk_cell BK221.out 2).trans rfl; have hfz7_0 := blk_frozen BK221.out 0; have hfz7_1 := blk_frozen BK221.out 1; have hfz7_2 := blk_frozen BK221.out 2))
      repeat (go_quiet (first | ((with_reducible refine gate_dst (N := 4) rfl ?_); refine box_event ?hg (N := 4) ?hd (cs := #[.int .i64 0, .int .i64 0, .int .i64 0]) (t := 71) ?hr ?_; (case hd => rfl); (case hg => rfl); (case hr => first | (go_simp; done) | (go_simp; rfl)); intro gb221 hg w6 hbox hb; have n0_ := Aside0.mk (below_step (by repeat (first | (with_reducible first | exact HB.out | apply below_alloc | apply pw_below_drewN | apply below_drew1) | exact HB.out)) hb); have n1_ := Aside0.mk (hbox); have n2_ := Aside0.mk ((by rw [hg]; exact (below_size (by repeat (first | (with_reducible first | exact HB.out | apply below_alloc | apply pw_below_drewN | apply below_drew1) | exact HB.out))) : w.heap.size ≤ gb221)); have n3_ := Aside0.mk ((by rw [hg]; exact (below_size (by repeat (first | (with_reducible first | exact HB.out | apply below_alloc | apply pw_below_drewN | apply below_drew1) | exact HB.out))) : w.heap.size ≤ gb221)); clear HB; have HB := n0_; have BK221 := n1_; have GW221 := n2_; have GE221 := n3_; clear n0_ n1_ n2_ n3_; clear hb hbox hg; have hcz7_0 : w6.cell? ⟨gb221, 0, none⟩ = some (.int .i64 0) := (blk_cell BK221.out 0).trans rfl; have hcz7_1 : w6.cell? ⟨gb221, 1, none⟩ = some (.int .i64 0) := (blk_cell BK221.out 1).trans rfl; have hcz7_2 : w6.cell? ⟨gb221, 2, none⟩ = some (.int .i64 0) := (blk_cell BK221.out 2).trans rfl; have hfz7_0 := blk_frozen BK221.out 0; have hfz7_1 := blk_frozen BK221.out 1; have hfz7_2 := blk_frozen BK221.out 2)); go_upto_region 7 with (first | ((with_reducible refine gate_dst (N := 4) rfl ?_); refine box_event ?hg (N := 4) ?hd (cs := #[.int .i64 0, .int .i64 0, .int .i64 0]) (t := 71) ?hr ?_; (case hd => rfl); (case hg => rfl); (case hr => first | (go_simp; done) | (go_simp; rfl)); intro gb221 hg w6 hbox hb; have n0_ := Aside0.mk (below_step (by repeat (first | (with_reducible first | exact HB.out | apply below_alloc | apply pw_below_drewN | apply below_drew1) | exact HB.out)) hb); have n1_ := Aside0.mk (hbox); have n2_ := Aside0.mk ((by rw [hg]; exact (below_size (by repeat (first | (with_reducible first | exact HB.out | apply below_alloc | apply pw_below_drewN | apply below_drew1) | exact HB.out))) : w.heap.size ≤ gb221)); have n3_ := Aside0.mk ((by rw [hg]; exact (below_size (by repeat (first | (with_reducible first | exact HB.out | apply below_alloc | apply pw_below_drewN | apply below_drew1) | exact HB.out))) : w.heap.size ≤ gb221)); clear HB; have HB := n0_; have BK221 := n1_; have GW221 := n2_; have GE221 := n3_; clear n0_ n1_ n2_ n3_; clear hb hbox hg; have hcz7_0 : w6.cell? ⟨gb221, 0, none⟩ = some (.int .i64 0) := (blk_cell BK221.out 0).trans rfl; have hcz7_1 : w6.cell? ⟨gb221, 1, none⟩ = some (.int .i64 0) := (blk_cell BK221.out 1).trans rfl; have hcz7_2 : w6.cell? ⟨gb221, 2, none⟩ = some (.int .i64 0) := (blk_cell BK221.out 2).trans rfl; have hfz7_0 := blk_frozen BK221.out 0; have hfz7_1 := blk_frozen BK221.out 1; have hfz7_2 := blk_frozen BK221.out 2)))
      (try simp only [Act.put, List.setIfInBounds_toArray, List.set_cons_zero, List.set_cons_succ])
      go_cut [56] (fun v56 wc => ∃ (kq : Nat) (x56_4 : Bool), v56 = .bool x56_4 ∧ Aside0 (pumiceref03_RightPlan.j1 kq l0 x3_1 x56_4 ((rd_T71 l0 x3_1).f0) ((rd_T71 l0 x3_1).f1) ((rd_T71 l0 x3_1).f2) = some r) ∧ Aside0 (kq ≤ k1) ∧ Aside0 (wc.heap[gb221]? = some (.cells #[.int .i64 ((rd_T71 l0 x3_1).f0), .int .i64 ((rd_T71 l0 x3_1).f1), .int .i64 ((rd_T71 l0 x3_1).f2)] 71 (0, 0))) ∧ Aside0 (Below w.heap.size w wc))
      case first =>
       have H := HC5.out
       clear HC5
       by_cases c8 : ((rd_T71 l0 x3_1).f0) < 1
       ·rw [if_pos c8] at H
        have c8b0 : decide (((rd_T71 l0 x3_1).f0) < 1) = true := decide_eq_true c8
        clear c8
        (first | rw [c8b0] | (simp only [i64_w, i32_w]; rw [c8b0]) | skip)
        have H' := Aside0.mk H
        clear H
        have hcz9_0 : w6.cell? ⟨gb221, 0, none⟩ = some (.int .i64 0) := (blk_cell BK221.out 0).trans rfl
        have hcz9_1 : w6.cell? ⟨gb221, 1, none⟩ = some (.int .i64 0) := (blk_cell BK221.out 1).trans rfl
        have hcz9_2 : w6.cell? ⟨gb221, 2, none⟩ = some (.int .i64 0) := (blk_cell BK221.out 2).trans rfl
        have hfz9_0 := blk_frozen BK221.out 0
        have hfz9_1 := blk_frozen BK221.out 1
        have hfz9_2 := blk_frozen BK221.out 2
        go_wp2
        repeat (go_quiet (fail); try go_wp2)
        go_meet
        case rel => exact ⟨_, (true), (by first | rfl | (simp; done) | (simp [*]; done)), H', ⟨by have := HK1.out; first | omega | exact Nat.le_refl _⟩, ⟨by (with_reducible repeat (first | refine blk_drewN ?_ _ | refine blk_drew ?_ | refine blk_alloc ?_ _)); refine blk_put (cs := #[.int .i64 ((rd_T71 l0 x3_1).f0), .int .i64 ((rd_T71 l0 x3_1).f1), .int .i64 0]) ?_ 2 _ rfl; (with_reducible repeat (first | refine blk_drewN ?_ _ | refine blk_drew ?_ | refine blk_alloc ?_ _)); refine blk_put (cs := #[.int .i64 ((rd_T71 l0 x3_1).f0), .int .i64 0, .int .i64 0]) ?_ 1 _ rfl; (with_reducible repeat (first | refine blk_drewN ?_ _ | refine blk_drew ?_ | refine blk_alloc ?_ _)); refine blk_put (cs := #[.int .i64 0, .int .i64 0, .int .i64 0]) ?_ 0 _ rfl; (with_reducible repeat (first | refine blk_drewN ?_ _ | refine blk_drew ?_ | refine blk_alloc ?_ _)); exact BK221.out⟩, ⟨by repeat (first | (with_reducible first | exact HB.out | apply below_alloc | apply pw_below_drewN | apply below_drew1 | refine below_set ?_ GE221.out) | exact HB.out)⟩⟩
       ·rw [if_neg c8] at H
        have c8b0 : decide (((rd_T71 l0 x3_1).f0) < 1) = false := decide_eq_false c8
        clear c8
        (first | rw [c8b0] | (simp only [i64_w, i32_w]; rw [c8b0]) | skip)
        by_cases c10 : ((rd_T71 l0 x3_1).f1) = 1
        ·rw [if_pos c10] at H
         have c10b0 : (((rd_T71 l0 x3_1).f1) == 1) = true := beq_iff_eq.mpr c10
         have c10b1 : (((rd_T71 l0 x3_1).f1) != 1) = false := bne_eq_false_iff_eq.mpr c10
         clear c10
         by_cases c11 : ((rd_T71 l0 x3_1).f2) < 0
         ·rw [if_pos c11] at H
          have c11b0 : decide (((rd_T71 l0 x3_1).f2) < 0) = true := decide_eq_true c11
          clear c11
          have H' := Aside0.mk H
          clear H
          have hcz12_0 : w6.cell? ⟨gb221, 0, none⟩ = some (.int .i64 0) := (blk_cell BK221.out 0).trans rfl
          have hcz12_1 : w6.cell? ⟨gb221, 1, none⟩ = some (.int .i64 0) := (blk_cell BK221.out 1).trans rfl
          have hcz12_2 : w6.cell? ⟨gb221, 2, none⟩ = some (.int .i64 0) := (blk_cell BK221.out 2).trans rfl
          have hfz12_0 := blk_frozen BK221.out 0
          have hfz12_1 := blk_frozen BK221.out 1
          have hfz12_2 := blk_frozen BK221.out 2
          go_wp2
          repeat (go_quiet (fail); try go_wp2)
          go_meet
          case rel => exact ⟨_, (true), (by first | rfl | (simp; done) | (simp [*]; done)), H', ⟨by have := HK1.out; first | omega | exact Nat.le_refl _⟩, ⟨by (with_reducible repeat (first | refine blk_drewN ?_ _ | refine blk_drew ?_ | refine blk_alloc ?_ _)); refine blk_put (cs := #[.int .i64 ((rd_T71 l0 x3_1).f0), .int .i64 ((rd_T71 l0 x3_1).f1), .int .i64 0]) ?_ 2 _ rfl; (with_reducible repeat (first | refine blk_drewN ?_ _ | refine blk_drew ?_ | refine blk_alloc ?_ _)); refine blk_put (cs := #[.int .i64 ((rd_T71 l0 x3_1).f0), .int .i64 0, .int .i64 0]) ?_ 1 _ rfl; (with_reducible repeat (first | refine blk_drewN ?_ _ | refine blk_drew ?_ | refine blk_alloc ?_ _)); refine blk_put (cs := #[.int .i64 0, .int .i64 0, .int .i64 0]) ?_ 0 _ rfl; (with_reducible repeat (first | refine blk_drewN ?_ _ | refine blk_drew ?_ | refine blk_alloc ?_ _)); exact BK221.out⟩, ⟨by repeat (first | (with_reducible first | exact HB.out | apply below_alloc | apply pw_below_drewN | apply below_drew1 | refine below_set ?_ GE221.out) | exact HB.out)⟩⟩
         ·rw [if_neg c11] at H
          have c11b0 : decide (((rd_T71 l0 x3_1).f2) < 0) = false := decide_eq_false c11
          clear c11
          by_cases c13 : ((rd_T71 l0 x3_1).f2) > 2
          ·rw [if_pos c13] at H
           have c13b0 : decide (2 < ((rd_T71 l0 x3_1).f2)) = true := decide_eq_true c13
           clear c13
           have H' := Aside0.mk H
           clear H
           have hcz14_0 : w6.cell? ⟨gb221, 0, none⟩ = some (.int .i64 0) := (blk_cell BK221.out 0).trans rfl
           have hcz14_1 : w6.cell? ⟨gb221, 1, none⟩ = some (.int .i64 0) := (blk_cell BK221.out 1).trans rfl
           have hcz14_2 : w6.cell? ⟨gb221, 2, none⟩ = some (.int .i64 0) := (blk_cell BK221.out 2).trans rfl
           have hfz14_0 := blk_frozen BK221.out 0
           have hfz14_1 := blk_frozen BK221.out 1
           have hfz14_2 := blk_frozen BK221.out 2
           go_wp2
           repeat (go_quiet (fail); try go_wp2)
           go_meet
           case rel => exact ⟨_, (true), (by first | rfl | (simp; done) | (simp [*]; done)), H', ⟨by have := HK1.out; first | omega | exact Nat.le_refl _⟩, ⟨by (with_reducible repeat (first | refine blk_drewN ?_ _ | refine blk_drew ?_ | refine blk_alloc ?_ _)); refine blk_put (cs := #[.int .i64 ((rd_T71 l0 x3_1).f0), .int .i64 ((rd_T71 l0 x3_1).f1), .int .i64 0]) ?_ 2 _ rfl; (with_reducible repeat (first | refine blk_drewN ?_ _ | refine blk_drew ?_ | refine blk_alloc ?_ _)); refine blk_put (cs := #[.int .i64 ((rd_T71 l0 x3_1).f0), .int .i64 0, .int .i64 0]) ?_ 1 _ rfl; (with_reducible repeat (first | refine blk_drewN ?_ _ | refine blk_drew ?_ | refine blk_alloc ?_ _)); refine blk_put (cs := #[.int .i64 0, .int .i64 0, .int .i64 0]) ?_ 0 _ rfl; (with_reducible repeat (first | refine blk_drewN ?_ _ | refine blk_drew ?_ | refine blk_alloc ?_ _)); exact BK221.out⟩, ⟨by repeat (first | (with_reducible first | exact HB.out | apply below_alloc | apply pw_below_drewN | apply below_drew1 | refine below_set ?_ GE221.out) | exact HB.out)⟩⟩
          ·rw [if_neg c13] at H
           have c13b0 : decide (2 < ((rd_T71 l0 x3_1).f2)) = false := decide_eq_false c13
           clear c13
           by_cases c15 : ((rd_T71 l0 x3_1).f1) = 2
           ·rw [if_pos c15] at H
            have c15b0 : (((rd_T71 l0 x3_1).f1) == 2) = true := beq_iff_eq.mpr c15
            have c15b1 : (((rd_T71 l0 x3_1).f1) != 2) = false := bne_eq_false_iff_eq.mpr c15
            clear c15
            have H' := Aside0.mk H
            clear H
            have hcz16_0 : w6.cell? ⟨gb221, 0, none⟩ = some (.int .i64 0) := (blk_cell BK221.out 0).trans rfl
            have hcz16_1 : w6.cell? ⟨gb221, 1, none⟩ = some (.int .i64 0) := (blk_cell BK221.out 1).trans rfl
            have hcz16_2 : w6.cell? ⟨gb221, 2, none⟩ = some (.int .i64 0) := (blk_cell BK221.out 2).trans rfl
            have hfz16_0 := blk_frozen BK221.out 0
            have hfz16_1 := blk_frozen BK221.out 1
            have hfz16_2 := blk_frozen BK221.out 2
            go_wp2
            repeat (go_quiet (fail); try go_wp2)
            go_meet
            case rel => exact ⟨_, (decide (((rd_T71 l0 x3_1).f2) > 0)), (by first | rfl | (simp; done) | (simp [*]; done)), H', ⟨by have := HK1.out; first | omega | exact Nat.le_refl _⟩, ⟨by (with_reducible repeat (first | refine blk_drewN ?_ _ | refine blk_drew ?_ | refine blk_alloc ?_ _)); refine blk_put (cs := #[.int .i64 ((rd_T71 l0 x3_1).f0), .int .i64 ((rd_T71 l0 x3_1).f1), .int .i64 0]) ?_ 2 _ rfl; (with_reducible repeat (first | refine blk_drewN ?_ _ | refine blk_drew ?_ | refine blk_alloc ?_ _)); refine blk_put (cs := #[.int .i64 ((rd_T71 l0 x3_1).f0), .int .i64 0, .int .i64 0]) ?_ 1 _ rfl; (with_reducible repeat (first | refine blk_drewN ?_ _ | refine blk_drew ?_ | refine blk_alloc ?_ _)); refine blk_put (cs := #[.int .i64 0, .int .i64 0, .int .i64 0]) ?_ 0 _ rfl; (with_reducible repeat (first | refine blk_drewN ?_ _ | refine blk_drew ?_ | refine blk_alloc ?_ _)); exact BK221.out⟩, ⟨by repeat (first | (with_reducible first | exact HB.out | apply below_alloc | apply pw_below_drewN | apply below_drew1 | refine below_set ?_ GE221.out) | exact HB.out)⟩⟩
           ·rw [if_neg c15] at H
            have c15b0 : (((rd_T71 l0 x3_1).f1) == 2) = false := beq_eq_false_iff_ne.mpr c15
            have c15b1 : (((rd_T71 l0 x3_1).f1) != 2) = true := bne_iff_ne.mpr c15
            have H' := Aside0.mk H
            clear H
            have hcz17_0 : w6.cell? ⟨gb221, 0, none⟩ = some (.int .i64 0) := (blk_cell BK221.out 0).trans rfl
            have hcz17_1 : w6.cell? ⟨gb221, 1, none⟩ = some (.int .i64 0) := (blk_cell BK221.out 1).trans rfl
            have hcz17_2 : w6.cell? ⟨gb221, 2, none⟩ = some (.int .i64 0) := (blk_cell BK221.out 2).trans rfl
            have hfz17_0 := blk_frozen BK221.out 0
            have hfz17_1 := blk_frozen BK221.out 1
            have hfz17_2 := blk_frozen BK221.out 2
            go_wp2
            repeat (go_quiet (fail); try go_wp2)
            go_meet
            case rel => exact ⟨_, (false), (by first | rfl | (simp; done) | (simp [*]; done)), H', ⟨by have := HK1.out; first | omega | exact Nat.le_refl _⟩, ⟨by (with_reducible repeat (first | refine blk_drewN ?_ _ | refine blk_drew ?_ | refine blk_alloc ?_ _)); refine blk_put (cs := #[.int .i64 ((rd_T71 l0 x3_1).f0), .int .i64 ((rd_T71 l0 x3_1).f1), .int .i64 0]) ?_ 2 _ rfl; (with_reducible repeat (first | refine blk_drewN ?_ _ | refine blk_drew ?_ | refine blk_alloc ?_ _)); refine blk_put (cs := #[.int .i64 ((rd_T71 l0 x3_1).f0), .int .i64 0, .int .i64 0]) ?_ 1 _ rfl; (with_reducible repeat (first | refine blk_drewN ?_ _ | refine blk_drew ?_ | refine blk_alloc ?_ _)); refine blk_put (cs := #[.int .i64 0, .int .i64 0, .int .i64 0]) ?_ 0 _ rfl; (with_reducible repeat (first | refine blk_drewN ?_ _ | refine blk_drew ?_ | refine blk_alloc ?_ _)); exact BK221.out⟩, ⟨by repeat (first | (with_reducible first | exact HB.out | apply below_alloc | apply pw_below_drewN | apply below_drew1 | refine below_set ?_ GE221.out) | exact HB.out)⟩⟩
        ·rw [if_neg c10] at H
         have c10b0 : (((rd_T71 l0 x3_1).f1) == 1) = false := beq_eq_false_iff_ne.mpr c10
         have c10b1 : (((rd_T71 l0 x3_1).f1) != 1) = true := bne_iff_ne.mpr c10
         by_cases c18 : ((rd_T71 l0 x3_1).f1) = 2
         ·rw [if_pos c18] at H
          have c18b0 : (((rd_T71 l0 x3_1).f1) == 2) = true := beq_iff_eq.mpr c18
          have c18b1 : (((rd_T71 l0 x3_1).f1) != 2) = false := bne_eq_false_iff_eq.mpr c18
          clear c18
          by_cases c19 : ((rd_T71 l0 x3_1).f2) < 0
          ·rw [if_pos c19] at H
           have c19b0 : decide (((rd_T71 l0 x3_1).f2) < 0) = true := decide_eq_true c19
           clear c19
           have H' := Aside0.mk H
           clear H
           have hcz20_0 : w6.cell? ⟨gb221, 0, none⟩ = some (.int .i64 0) := (blk_cell BK221.out 0).trans rfl
           have hcz20_1 : w6.cell? ⟨gb221, 1, none⟩ = some (.int .i64 0) := (blk_cell BK221.out 1).trans rfl
           have hcz20_2 : w6.cell? ⟨gb221, 2, none⟩ = some (.int .i64 0) := (blk_cell BK221.out 2).trans rfl
           have hfz20_0 := blk_frozen BK221.out 0
           have hfz20_1 := blk_frozen BK221.out 1
           have hfz20_2 := blk_frozen BK221.out 2
           go_wp2
           repeat (go_quiet (fail); try go_wp2)
           go_meet
           case rel => exact ⟨_, (true), (by first | rfl | (simp; done) | (simp [*]; done)), H', ⟨by have := HK1.out; first | omega | exact Nat.le_refl _⟩, ⟨by (with_reducible repeat (first | refine blk_drewN ?_ _ | refine blk_drew ?_ | refine blk_alloc ?_ _)); refine blk_put (cs := #[.int .i64 ((rd_T71 l0 x3_1).f0), .int .i64 ((rd_T71 l0 x3_1).f1), .int .i64 0]) ?_ 2 _ rfl; (with_reducible repeat (first | refine blk_drewN ?_ _ | refine blk_drew ?_ | refine blk_alloc ?_ _)); refine blk_put (cs := #[.int .i64 ((rd_T71 l0 x3_1).f0), .int .i64 0, .int .i64 0]) ?_ 1 _ rfl; (with_reducible repeat (first | refine blk_drewN ?_ _ | refine blk_drew ?_ | refine blk_alloc ?_ _)); refine blk_put (cs := #[.int .i64 0, .int .i64 0, .int .i64 0]) ?_ 0 _ rfl; (with_reducible repeat (first | refine blk_drewN ?_ _ | refine blk_drew ?_ | refine blk_alloc ?_ _)); exact BK221.out⟩, ⟨by repeat (first | (with_reducible first | exact HB.out | apply below_alloc | apply pw_below_drewN | apply below_drew1 | refine below_set ?_ GE221.out) | exact HB.out)⟩⟩
          ·rw [if_neg c19] at H
           have c19b0 : decide (((rd_T71 l0 x3_1).f2) < 0) = false := decide_eq_false c19
           clear c19
           have H' := Aside0.mk H
           clear H
           have hcz21_0 : w6.cell? ⟨gb221, 0, none⟩ = some (.int .i64 0) := (blk_cell BK221.out 0).trans rfl
           have hcz21_1 : w6.cell? ⟨gb221, 1, none⟩ = some (.int .i64 0) := (blk_cell BK221.out 1).trans rfl
           have hcz21_2 : w6.cell? ⟨gb221, 2, none⟩ = some (.int .i64 0) := (blk_cell BK221.out 2).trans rfl
           have hfz21_0 := blk_frozen BK221.out 0
           have hfz21_1 := blk_frozen BK221.out 1
           have hfz21_2 := blk_frozen BK221.out 2
           go_wp2
           repeat (go_quiet (fail); try go_wp2)
           go_meet
           case rel => exact ⟨_, (decide (((rd_T71 l0 x3_1).f2) > 0)), (by first | rfl | (simp; done) | (simp [*]; done)), H', ⟨by have := HK1.out; first | omega | exact Nat.le_refl _⟩, ⟨by (with_reducible repeat (first | refine blk_drewN ?_ _ | refine blk_drew ?_ | refine blk_alloc ?_ _)); refine blk_put (cs := #[.int .i64 ((rd_T71 l0 x3_1).f0), .int .i64 ((rd_T71 l0 x3_1).f1), .int .i64 0]) ?_ 2 _ rfl; (with_reducible repeat (first | refine blk_drewN ?_ _ | refine blk_drew ?_ | refine blk_alloc ?_ _)); refine blk_put (cs := #[.int .i64 ((rd_T71 l0 x3_1).f0), .int .i64 0, .int .i64 0]) ?_ 1 _ rfl; (with_reducible repeat (first | refine blk_drewN ?_ _ | refine blk_drew ?_ | refine blk_alloc ?_ _)); refine blk_put (cs := #[.int .i64 0, .int .i64 0, .int .i64 0]) ?_ 0 _ rfl; (with_reducible repeat (first | refine blk_drewN ?_ _ | refine blk_drew ?_ | refine blk_alloc ?_ _)); exact BK221.out⟩, ⟨by repeat (first | (with_reducible first | exact HB.out | apply below_alloc | apply pw_below_drewN | apply below_drew1 | refine below_set ?_ GE221.out) | exact HB.out)⟩⟩
         ·rw [if_neg c18] at H
          have c18b0 : (((rd_T71 l0 x3_1).f1) == 2) = false := beq_eq_false_iff_ne.mpr c18
          have c18b1 : (((rd_T71 l0 x3_1).f1) != 2) = true := bne_iff_ne.mpr c18
          have H' := Aside0.mk H
          clear H
          have hcz22_0 : w6.cell? ⟨gb221, 0, none⟩ = some (.int .i64 0) := (blk_cell BK221.out 0).trans rfl
          have hcz22_1 : w6.cell? ⟨gb221, 1, none⟩ = some (.int .i64 0) := (blk_cell BK221.out 1).trans rfl
          have hcz22_2 : w6.cell? ⟨gb221, 2, none⟩ = some (.int .i64 0) := (blk_cell BK221.out 2).trans rfl
          have hfz22_0 := blk_frozen BK221.out 0
          have hfz22_1 := blk_frozen BK221.out 1
          have hfz22_2 := blk_frozen BK221.out 2
          go_wp2
          repeat (go_quiet (fail); try go_wp2)
          go_meet
          case rel => exact ⟨_, (true), (by first | rfl | (simp; done) | (simp [*]; done)), H', ⟨by have := HK1.out; first | omega | exact Nat.le_refl _⟩, ⟨by (with_reducible repeat (first | refine blk_drewN ?_ _ | refine blk_drew ?_ | refine blk_alloc ?_ _)); refine blk_put (cs := #[.int .i64 ((rd_T71 l0 x3_1).f0), .int .i64 ((rd_T71 l0 x3_1).f1), .int .i64 0]) ?_ 2 _ rfl; (with_reducible repeat (first | refine blk_drewN ?_ _ | refine blk_drew ?_ | refine blk_alloc ?_ _)); refine blk_put (cs := #[.int .i64 ((rd_T71 l0 x3_1).f0), .int .i64 0, .int .i64 0]) ?_ 1 _ rfl; (with_reducible repeat (first | refine blk_drewN ?_ _ | refine blk_drew ?_ | refine blk_alloc ?_ _)); refine blk_put (cs := #[.int .i64 0, .int .i64 0, .int .i64 0]) ?_ 0 _ rfl; (with_reducible repeat (first | refine blk_drewN ?_ _ | refine blk_drew ?_ | refine blk_alloc ?_ _)); exact BK221.out⟩, ⟨by repeat (first | (with_reducible first | exact HB.out | apply below_alloc | apply pw_below_drewN | apply below_drew1 | refine below_set ?_ GE221.out) | exact HB.out)⟩⟩
      case rest =>
       clear HC5
       try clear c1
       try clear c2
       try clear c2b0
       try clear c2b1
       try clear p2
       try clear q2
       try clear hx2
       try clear c3
       try clear c3b0
       try clear c4
       try clear c4b0
       try clear c8
       try clear c8b0
       try clear c10
       try clear c10b0
       try clear c10b1
       try clear c11
       try clear c11b0
       try clear c13
       try clear c13b0
       try clear c15
       try clear c15b0
       try clear c15b1
       try clear c18
       try clear c18b0
       try clear c18b1
       try clear c19
       try clear c19b0
       try clear p22
       try clear q22
       try clear hx22
       try clear hcz12_0
       try clear hcz12_1
       try clear hcz12_2
       try clear hcz14_0
       try clear hcz14_1
       try clear hcz14_2
       try clear hcz16_0
       try clear hcz16_1
       try clear hcz16_2
       try clear hcz17_0
       try clear hcz17_1
       try clear hcz17_2
       try clear hcz20_0
       try clear hcz20_1
       try clear hcz20_2
       try clear hcz21_0
       try clear hcz21_1
       try clear hcz21_2
       try clear hcz22_0
       try clear hcz22_1
       try clear hcz22_2
       try clear hcz7_0
       try clear hcz7_1
       try clear hcz7_2
       try clear hcz9_0
       try clear hcz9_1
       try clear hcz9_2
       try clear hfz12_0
       try clear hfz12_1
       try clear hfz12_2
       try clear hfz14_0
       try clear hfz14_1
       try clear hfz14_2
       try clear hfz16_0
       try clear hfz16_1
       try clear hfz16_2
       try clear hfz17_0
       try clear hfz17_1
       try clear hfz17_2
       try clear hfz20_0
       try clear hfz20_1
       try clear hfz20_2
       try clear hfz21_0
       try clear hfz21_1
       try clear hfz21_2
       try clear hfz22_0
       try clear hfz22_1
       try clear hfz22_2
       try clear hfz7_0
       try clear hfz7_1
       try clear hfz7_2
       try clear hfz9_0
       try clear hfz9_1
       try clear hfz9_2
       try clear hx220_0
       try clear hx220_1
       try clear hx220_2
       try clear p2
       try clear p220
       try clear q220
       obtain ⟨kq, x56_4, rfl, HA, HJ4, BK221, HB⟩ := hcut
       cases kq with
       | zero => exact absurd HA.out (by simp [pumiceref03_RightPlan.j1])
       | succ kj4 =>
        have H := HA.out
        clear HA
        simp only [pumiceref03_RightPlan.j1] at H
        by_cases c23 : x56_4 = true
        ·subst c23
         have H1 : (some false) = some r := by rw [if_pos rfl] at H; exact H
         clear H
         have H := H1
         clear H1
         obtain rfl := Option.some.inj H
         go_wp2
         repeat (go_quiet (fail); try go_wp2)
         go_ret
         exact ⟨by first | rfl | (simp [errW_none, errW_some] <;> rfl) | (simp [*, errW_none, errW_some] <;> rfl), by repeat (first | (with_reducible first | exact HB.out | apply below_alloc | apply pw_below_drewN | apply below_drew1 | refine below_set ?_ GE221.out) | exact HB.out)⟩
        ·replace c23 := Bool.eq_false_iff.mpr c23
         subst c23
         have H1 : (pumiceref03_RightPlan.l1 kj4 l0 x3_1 0 ((rd_T71 l0 x3_1).f0) ((rd_T71 l0 x3_1).f1) ((rd_T71 l0 x3_1).f2)) = some r := by rw [if_neg (show ¬ (false = true) by decide)] at H; exact H
         clear H
         have H := H1
         clear H1
         have H' := Aside0.mk H
         clear H
         go_wp2
         repeat (go_quiet (fail); try go_wp2)
         go_loopg [5] kj4 (fun kq v5 w' => ∃ (x5_3 : Int), v5 = .int .i64 x5_3 ∧ Aside0 (pumiceref03_RightPlan.l1 kq l0 x3_1 x5_3 ((rd_T71 l0 x3_1).f0) ((rd_T71 l0 x3_1).f1) ((rd_T71 l0 x3_1).f2) = some r) ∧ Aside0 (kq ≤ kj4) ∧ Aside0 (w'.heap[gb221]? = some (.cells #[.int .i64 ((rd_T71 l0 x3_1).f0), .int .i64 ((rd_T71 l0 x3_1).f1), .int .i64 ((rd_T71 l0 x3_1).f2)] 71 (0, 0))) ∧ Aside0 (Below w.heap.size w w'))
         case atStart => exact ⟨(0), (by first | rfl | (simp; done) | (simp [*]; done)), H', ⟨Nat.le_refl _⟩, ⟨by (with_reducible repeat (first | refine blk_drewN ?_ _ | refine blk_drew ?_ | refine blk_alloc ?_ _)); exact BK221.out⟩, ⟨by repeat (first | (with_reducible first | exact HB.out | apply below_alloc | apply pw_below_drewN | apply below_drew1 | refine below_set ?_ GE221.out) | exact HB.out)⟩⟩
         case round =>
          clear H'
          try clear c1
          try clear c2
          try clear c2b0
          try clear c2b1
          try clear p2
          try clear q2
          try clear hx2
          try clear c3
          try clear c3b0
          try clear c4
          try clear c4b0
          try clear c8
          try clear c8b0
          try clear c10
          try clear c10b0
          try clear c10b1
          try clear c11
          try clear c11b0
          try clear c13
          try clear c13b0
          try clear c15
          try clear c15b0
          try clear c15b1
          try clear c18
          try clear c18b0
          try clear c18b1
          try clear c19
          try clear c19b0
          try clear p22
          try clear q22
          try clear hx22
          try clear c23
          try clear hcz12_0
          try clear hcz12_1
          try clear hcz12_2
          try clear hcz14_0
          try clear hcz14_1
          try clear hcz14_2
          try clear hcz16_0
          try clear hcz16_1
          try clear hcz16_2
          try clear hcz17_0
          try clear hcz17_1
          try clear hcz17_2
          try clear hcz20_0
          try clear hcz20_1
          try clear hcz20_2
          try clear hcz21_0
          try clear hcz21_1
          try clear hcz21_2
          try clear hcz22_0
          try clear hcz22_1
          try clear hcz22_2
          try clear hcz7_0
          try clear hcz7_1
          try clear hcz7_2
          try clear hcz9_0
          try clear hcz9_1
          try clear hcz9_2
          try clear hfz12_0
          try clear hfz12_1
          try clear hfz12_2
          try clear hfz14_0
          try clear hfz14_1
          try clear hfz14_2
          try clear hfz16_0
          try clear hfz16_1
          try clear hfz16_2
          try clear hfz17_0
          try clear hfz17_1
          try clear hfz17_2
          try clear hfz20_0
          try clear hfz20_1
          try clear hfz20_2
          try clear hfz21_0
          try clear hfz21_1
          try clear hfz21_2
          try clear hfz22_0
          try clear hfz22_1
          try clear hfz22_2
          try clear hfz7_0
          try clear hfz7_1
          try clear hfz7_2
          try clear hfz9_0
          try clear hfz9_1
          try clear hfz9_2
          try clear hx220_0
          try clear hx220_1
          try clear hx220_2
          try clear p2
          try clear p22
          try clear p220
          try clear q2
          try clear q22
          try clear q220
          obtain ⟨x5_3, rfl, HA, HK3, BK221, HB⟩ := hrel
          cases gk with
          | zero => exact absurd HA.out (by simp [pumiceref03_RightPlan.l1])
          | succ k3 =>
           have H := HA.out
           clear HA
           simp only [pumiceref03_RightPlan.l1] at H
           by_cases c24 : x5_3 < x3_1
           ·rw [if_pos c24] at H
            have c24b0 : decide (x5_3 < x3_1) = true := decide_eq_true c24
            clear c24
            by_cases c25 : 0 ≤ x5_3
            ·rw [if_pos c25] at H
             have c25b0 : decide (0 ≤ x5_3) = true := decide_eq_true c25
             clear c25
             by_cases c26 : x5_3 < (l0.length : Int)
             ·rw [if_pos c26] at H
              have c26b0 : decide (x5_3 < (l0.length : Int)) = true := decide_eq_true c26
              clear c26
              by_cases c27 : ((rd_T71 l0 x5_3).f0) = ((rd_T71 l0 x3_1).f0)
              ·rw [if_pos c27] at H
               have c27b0 : (((rd_T71 l0 x5_3).f0) == ((rd_T71 l0 x3_1).f0)) = true := beq_iff_eq.mpr c27
               have c27b1 : (((rd_T71 l0 x5_3).f0) != ((rd_T71 l0 x3_1).f0)) = false := bne_eq_false_iff_eq.mpr c27
               clear c27
               obtain rfl := Option.some.inj H
               have p222 : 0 ≤ (x5_3 : Int) := of_decide_eq_true (by first | (with_reducible assumption) | assumption)
               have q222 : x5_3 < (l0.length : Int) := of_decide_eq_true (by first | (with_reducible assumption) | assumption)
               obtain ⟨ad222, e222, hx222_0, hx222_1, hx222_2⟩ := at_T71 HR0.out x5_3 p222 q222
               obtain rfl : ad220 = ad222 := (by injection e222)
               replace hx222_0 := (HB.out.cell (World.block_lt_of_cell? w _ hx222_0)).trans hx222_0
               replace hx222_1 := (HB.out.cell (World.block_lt_of_cell? w _ hx222_1)).trans hx222_1
               replace hx222_2 := (HB.out.cell (World.block_lt_of_cell? w _ hx222_2)).trans hx222_2
               replace p222 := eq_true p222
               replace q222 := eq_true q222
               have hcz28_0 : wr.cell? ⟨gb221, 0, none⟩ = some (.int .i64 ((rd_T71 l0 x3_1).f0)) := (blk_cell BK221.out 0).trans rfl
               have hcz28_1 : wr.cell? ⟨gb221, 1, none⟩ = some (.int .i64 ((rd_T71 l0 x3_1).f1)) := (blk_cell BK221.out 1).trans rfl
               have hcz28_2 : wr.cell? ⟨gb221, 2, none⟩ = some (.int .i64 ((rd_T71 l0 x3_1).f2)) := (blk_cell BK221.out 2).trans rfl
               have hfz28_0 := blk_frozen BK221.out 0
               have hfz28_1 := blk_frozen BK221.out 1
               have hfz28_2 := blk_frozen BK221.out 2
               go_wp2
               repeat (go_quiet (fail); try go_wp2)
               go_ret
               exact ⟨by first | rfl | (simp [errW_none, errW_some] <;> rfl) | (simp [*, errW_none, errW_some] <;> rfl), by repeat (first | (with_reducible first | exact HB.out | apply below_alloc | apply pw_below_drewN | apply below_drew1 | refine below_set ?_ GE221.out) | exact HB.out)⟩
              ·rw [if_neg c27] at H
               have c27b0 : (((rd_T71 l0 x5_3).f0) == ((rd_T71 l0 x3_1).f0)) = false := beq_eq_false_iff_ne.mpr c27
               have c27b1 : (((rd_T71 l0 x5_3).f0) != ((rd_T71 l0 x3_1).f0)) = true := bne_iff_ne.mpr c27
               have H' := Aside0.mk H
               clear H
               have p222 : 0 ≤ (x5_3 : Int) := of_decide_eq_true (by first | (with_reducible assumption) | assumption)
               have q222 : x5_3 < (l0.length : Int) := of_decide_eq_true (by first | (with_reducible assumption) | assumption)
               obtain ⟨ad222, e222, hx222_0, hx222_1, hx222_2⟩ := at_T71 HR0.out x5_3 p222 q222
               obtain rfl : ad220 = ad222 := (by injection e222)
               replace hx222_0 := (HB.out.cell (World.block_lt_of_cell? w _ hx222_0)).trans hx222_0
               replace hx222_1 := (HB.out.cell (World.block_lt_of_cell? w _ hx222_1)).trans hx222_1
               replace hx222_2 := (HB.out.cell (World.block_lt_of_cell? w _ hx222_2)).trans hx222_2
               replace p222 := eq_true p222
               replace q222 := eq_true q222
               have hcz29_0 : wr.cell? ⟨gb221, 0, none⟩ = some (.int .i64 ((rd_T71 l0 x3_1).f0)) := (blk_cell BK221.out 0).trans rfl
               have hcz29_1 : wr.cell? ⟨gb221, 1, none⟩ = some (.int .i64 ((rd_T71 l0 x3_1).f1)) := (blk_cell BK221.out 1).trans rfl
               have hcz29_2 : wr.cell? ⟨gb221, 2, none⟩ = some (.int .i64 ((rd_T71 l0 x3_1).f2)) := (blk_cell BK221.out 2).trans rfl
               have hfz29_0 := blk_frozen BK221.out 0
               have hfz29_1 := blk_frozen BK221.out 1
               have hfz29_2 := blk_frozen BK221.out 2
               go_wp2
               repeat (go_quiet (fail); try go_wp2)
               go_roundg k3
               case measure => have := HK1.out; have := HJ4.out; have := HK3.out; omega
               case rel => exact ⟨(wrap64 (x5_3 + 1)), (by first | rfl | (simp; done) | (simp [*]; done)), H', ⟨by have := HK1.out; have := HJ4.out; have := HK3.out; omega⟩, ⟨by (with_reducible repeat (first | refine blk_drewN ?_ _ | refine blk_drew ?_ | refine blk_alloc ?_ _)); exact BK221.out⟩, ⟨by repeat (first | (with_reducible first | exact HB.out | apply below_alloc | apply pw_below_drewN | apply below_drew1 | refine below_set ?_ GE221.out) | exact HB.out)⟩⟩
             ·rw [if_neg c26] at H
              exact absurd H (by simp)
            ·rw [if_neg c25] at H
             exact absurd H (by simp)
           ·rw [if_neg c24] at H
            have c24b0 : decide (x5_3 < x3_1) = false := decide_eq_false c24
            clear c24
            have H' := Aside0.mk H
            clear H
            go_wp2
            repeat (go_quiet (fail); try go_wp2)
            go_roundg k3
            case measure => have := HK1.out; have := HJ4.out; have := HK3.out; omega
            case rel => exact ⟨(wrap64 (x3_1 + 1)), (by first | rfl | (simp; done) | (simp [*]; done)), H', ⟨by have := HK1.out; have := HJ4.out; have := HK3.out; omega⟩, ⟨by repeat (first | (with_reducible first | exact HB.out | apply below_alloc | apply pw_below_drewN | apply below_drew1 | refine below_set ?_ GE221.out) | exact HB.out)⟩⟩
     ·rw [if_neg c4] at H
      exact absurd H (by simp)
    ·rw [if_neg c3] at H
     have c3b0 : decide (x3_1 < (l0.length : Int)) = false := decide_eq_false c3
     clear c3
     obtain rfl := Option.some.inj H
     go_wp2
     repeat (go_quiet (fail); try go_wp2)
     go_ret
     exact ⟨by first | rfl | (simp [errW_none, errW_some] <;> rfl) | (simp [*, errW_none, errW_some] <;> rfl), by repeat (first | (with_reducible first | exact HB.out | apply below_alloc | apply pw_below_drewN | apply below_drew1) | exact HB.out)⟩
end Go.Proofs.YtdlimghdimkadaaDoor.PAll
namespace Go.Proofs.YtdlimghdimkadaaDoor.PAll
open Go.RowKit Go.Proofs.YtdlimghdimkadaaDoorW.PrintWords Go.Proofs.YtdlimghdimkadaaDoorW.PrintLast Go.Proofs.YtdlimghdimkadaaDoorW.PrintMore
set_option linter.unusedSimpArgs false
set_option linter.unusedVariables false
abbrev SF := S71
abbrev kS := k71
def toS (f : F3) : SF := ⟨f.f0, f.f1, f.f2⟩
theorem C_toS {w : World} {A : Option Addr} {n : Nat} {xs : List F3} (h : Kd.C kF w A n xs) : Kd.C kS w A n (xs.map toS) := by
 refine ⟨by rw [List.length_map]; exact h.1, h.2.1, fun h0 => ?_⟩
 obtain ⟨ad, e, hc⟩ := h.2.2 h0
 refine ⟨ad, e, fun j p hj => ?_⟩
 rw [List.getElem?_map] at hj
 obtain ⟨q, hq, rfl⟩ := Option.map_eq_some_iff.1 hj
 obtain ⟨c, h1, h2, h3⟩ := hc j q hq
 exact ⟨c, h1, h2, h3⟩
theorem rd_toS (l : List F3) (i : Nat) (hi : i < l.length) : rd_T71 (l.map toS) (i : Int) = toS l[i] := by
 unfold rd_T71
 rw [Int.toNat_natCast, List.getD_eq_getElem?_getD, List.getElem?_map, List.getElem?_eq_getElem hi]
 rfl
theorem w64_nat (i : Nat) (h : i ≤ 300) : wrap64 ((i : Int) + 1) = ((i + 1 : Nat) : Int) := by
 unfold wrap64; omega
theorem plan_l1 (l : List F3) (hl : l.length ≤ 256) (i : Nat) (hi : i < l.length) (f0 f1 f2 : Int) (r : Bool) (K : Nat) (h0 : ∀ k, K ≤ k → pumiceref03_RightPlan.l0 k (l.map toS) ((i + 1 : Nat) : Int) = some r) :
  ∀ e j, j + e = i → ∀ k, K + e + 1 ≤ k → pumiceref03_RightPlan.l1 k (l.map toS) i j f0 f1 f2 = some (!(((l.take i).drop j).any (fun o => o.f0 == f0)) && r) := by
 intro e
 induction e with
 | zero =>
  intro j hj k hk
  obtain ⟨k, rfl⟩ : ∃ q, k = q + 1 := ⟨k - 1, by omega⟩
  obtain rfl : j = i := by omega
  unfold pumiceref03_RightPlan.l1
  rw [if_neg (by omega), w64_nat _ (by omega), h0 k (by omega), List.drop_eq_nil_of_le (by rw [List.length_take]; omega)]
  rfl
 | succ e ih =>
  intro j hj k hk
  obtain ⟨k, rfl⟩ : ∃ q, k = q + 1 := ⟨k - 1, by omega⟩
  have hji : j < (l.take i).length := by rw [List.length_take]; omega
  have hjl : j < l.length := by omega
  unfold pumiceref03_RightPlan.l1
  rw [if_pos (by omega), if_pos (by omega), if_pos (by rw [List.length_map]; omega), rd_toS l j hjl, w64_nat _ (by omega), ih (j + 1) (by omega) k (by omega), ← List.getElem_cons_drop (h := hji), List.any_cons, List.getElem_take]
  by_cases hf : (toS l[j]).f0 = f0
  ·rw [if_pos hf]
   have : (l[j].f0 == f0) = true := by simpa [toS] using hf
   rw [this]
   rfl
  ·rw [if_neg hf]
   have : (l[j].f0 == f0) = false := by simpa [toS] using hf
   rw [this]
   rfl
theorem plan_l0 (l : List F3) (hl : l.length ≤ 256) : ∀ d i, i + d = l.length → ∃ K, ∀ k, K ≤ k → pumiceref03_RightPlan.l0 k (l.map toS) (i : Int) = some (planGo (l.take i) (l.drop i)) := by
 intro d
 induction d with
 | zero =>
  intro i hi
  refine ⟨1, fun k hk => ?_⟩
  obtain ⟨k, rfl⟩ : ∃ q, k = q + 1 := ⟨k - 1, by omega⟩
  unfold pumiceref03_RightPlan.l0
  rw [if_neg (by rw [List.length_map]; omega), List.drop_eq_nil_of_le (by omega)]
  rfl
 | succ d ih =>
  intro i hi
  obtain ⟨K, hK⟩ := ih (i + 1) (by omega)
  have hlt : i < l.length := by omega
  have h1 := fun f0 f1 f2 k hk => plan_l1 l hl i hlt f0 f1 f2 _ K hK i 0 (by omega) k hk
  refine ⟨K + i + 4, fun k hk => ?_⟩
  obtain ⟨k, rfl⟩ : ∃ q, k = q + 2 := ⟨k - 2, by omega⟩
  have h2 := fun f0 f1 f2 => h1 f0 f1 f2 k (by omega)
  rw [planGo_at (List.getElem?_eq_getElem hlt)]
  unfold pumiceref03_RightPlan.l0
  rw [if_pos (by rw [List.length_map]; omega), if_pos (by omega), rd_toS l i hlt]
  generalize l[i] = f at *
  obtain ⟨f0, f1, f2⟩ := f
  simp only [toS]
  have j1t : ∀ a b c, pumiceref03_RightPlan.j1 (k + 1) (l.map toS) i true a b c = some false := fun a b c => by unfold pumiceref03_RightPlan.j1; rfl
  have j1f : ∀ a b c, pumiceref03_RightPlan.j1 (k + 1) (l.map toS) i false a b c = some (!((l.take i).any (fun o => o.f0 == a)) && planGo (l.take (i + 1)) (l.drop (i + 1))) := fun a b c => by
   unfold pumiceref03_RightPlan.j1
   rw [if_neg (by decide)]
   have := h2 a b c
   rw [List.drop_zero] at this
   exact this
  unfold tornF
  simp only
  by_cases c0 : f0 < 1
  ·simp [c0, j1t]
  by_cases c1 : f1 = 1
  ·subst c1
   by_cases c2 : f2 < 0
   ·simp [c0, c2, j1t, show ¬ 0 ≤ f2 by omega]
   by_cases c3 : f2 > 2
   ·simp [c0, c2, c3, j1t, show ¬ f2 ≤ 2 by omega]
   simp [c0, c2, c3, j1f, show 0 ≤ f2 by omega, show f2 ≤ 2 by omega]
  by_cases c2 : f1 = 2
  ·subst c2
   by_cases c3 : f2 < 0
   ·simp [c0, c3, j1t, show ¬ f2 = 0 by omega]
   by_cases c4 : f2 > 0
   ·simp [c0, c3, c4, j1t, show ¬ f2 = 0 by omega]
   ·obtain rfl : f2 = 0 := by omega
    simp [c0, j1f]
  ·simp [c0, c1, c2, j1t]
theorem rplan_is (A : Option Addr) (c : Nat) (l : List F3) (W : World) (hr : Kd.C kF W A l.length l) (hc : l.length ≤ c) : Calls Tryd.prog 40 #[.slice A l.length c] W fun e w' => e = .returned (.bool (planOK l)) ∧ Below W.heap.size W w' := by
 have hf : ∃ k, pumiceref03_RightPlan.f k (l.map toS) = some (planOK l) := by
  unfold pumiceref03_RightPlan.f planOK
  by_cases h : 256 < l.length
  ·refine ⟨0, ?_⟩
   rw [if_pos (by rw [List.length_map]; omega), decide_eq_true h]
   rfl
  ·obtain ⟨K, hK⟩ := plan_l0 l (by omega) l.length 0 (by omega)
   refine ⟨K, ?_⟩
   rw [if_neg (by rw [List.length_map]; omega), decide_eq_false h]
   have := hK K (Nat.le_refl _)
   rw [List.take_zero, List.drop_zero] at this
   exact this
 obtain ⟨k, hk⟩ := hf
 have h := pumiceref03_RightPlan.calls k A c (l.map toS) (planOK l) W (by rw [List.length_map]; exact C_toS hr) (by rw [List.length_map]; exact hc) hk
 rw [List.length_map] at h
 exact h
set_option maxRecDepth 100000 in
theorem power_tab : ∀ n : Fin 513, pumiceref03_power.f 12 ((n.val : Nat) : Int) = some (pow2 ((n.val : Nat) : Int)) := by decide +kernel
theorem power_at (n : Int) (h0 : 0 ≤ n) (h1 : n ≤ 512) : pumiceref03_power.f 12 n = some (pow2 n) := by
 obtain ⟨m, rfl⟩ := Int.eq_ofNat_of_zero_le h0
 exact power_tab ⟨m, by omega⟩
theorem rright_is (B P Z R : Int) (W : World) : Calls Tryd.prog 39 #[.agg #[.int .i64 B, .int .i64 P, .int .i64 Z, .int .i64 R]] W fun e w' => e = .returned (.bool (rightG B P Z R)) ∧ Below W.heap.size W w' := by
 refine pumiceref03_Right.calls 12 B P Z R (rightG B P Z R) W ?_
 unfold pumiceref03_Right.f rightG
 by_cases c0 : B < 16
 ·rw [if_pos c0]; simp [show ¬ 16 ≤ B by omega]
 rw [if_neg c0]
 by_cases c1 : B > 256
 ·rw [if_pos c1]; simp [show ¬ B ≤ 256 by omega]
 rw [if_neg c1]
 by_cases c2 : P < 8
 ·rw [if_pos c2]; simp [show ¬ 8 ≤ P by omega]
 rw [if_neg c2]
 by_cases c3 : P > 64
 ·rw [if_pos c3]; simp [show ¬ P ≤ 64 by omega]
 rw [if_neg c3, power_at P (by omega) (by omega)]
 simp only [Option.bind_some, decide_eq_true (show (16 : Int) ≤ B by omega), decide_eq_true (show B ≤ 256 by omega), decide_eq_true (show (8 : Int) ≤ P by omega), decide_eq_true (show P ≤ 64 by omega), Bool.true_and]
 by_cases c4 : pow2 P = true
 ·rw [if_pos c4, c4]
  by_cases c5 : Z ≥ 64
  ·rw [if_pos c5]
   by_cases c6 : Z ≤ 512
   ·rw [if_pos c6, power_at Z (by omega) c6]
    simp only [Option.bind_some, decide_eq_true (show (64 : Int) ≤ Z by omega), decide_eq_true c6, Bool.true_and]
    by_cases c7 : pow2 Z = true
    ·rw [if_pos c7, c7]
     by_cases c8 : wrap64 (wrap64 (P - 2) * Z) ≥ 1536
     ·rw [if_pos c8]
      by_cases c9 : R ≥ 0
      ·rw [if_pos c9]; simp [show (1536 : Int) ≤ wrap64 (wrap64 (P - 2) * Z) from c8, show (0 : Int) ≤ R from c9]
      ·rw [if_neg c9]; simp [show ¬ (0 : Int) ≤ R by omega]
     ·rw [if_neg c8]; simp [show ¬ (1536 : Int) ≤ wrap64 (wrap64 (P - 2) * Z) by omega]
    ·rw [if_neg c7]; simp [c7]
   ·rw [if_neg c6]; simp [c6]
  ·rw [if_neg c5]; simp [show ¬ (64 : Int) ≤ Z by omega]
 ·rw [if_neg c4]; simp [c4]
end Go.Proofs.YtdlimghdimkadaaDoor.PAll
namespace Go.Proofs.YtdlimghdimkadaaDoor.PAll
open Go.RowKit Go.Proofs.YtdlimghdimkadaaDoorW.PrintWords Go.Proofs.YtdlimghdimkadaaDoorW.PrintLast Go.Proofs.YtdlimghdimkadaaDoorW.PrintMore
set_option linter.unusedSimpArgs false
set_option linter.unusedVariables false
attribute [local go_sem] max2_int min2_int max_two min_two max_three min_three max_four min_four
variable {w0 W : World} {gd : Nat} {m : DM} {a : AC}
theorem info_fault : (Tryd.prog.info? 71).map (fun i => (i.zero, i.size, i.bytes)) = some (some (.agg #[.int .i64 0, .int .i64 0, .int .i64 0]), 3, 24) := by kernel_rfl
theorem DS.setPlan (h : DS w0 W gd m a) (v : Value) (l : List F3) (hv : Kd.R kF 71 W w0.heap.size (fun _ => True) v l) : DS w0 (W.setCell ⟨gd, 6, none⟩ v) gd { m with plan := v } { a with pl := l } := by
 refine ⟨?_, ?_, fun i hi => ?_, h.inj, h.ec, h.eb, h.ep, fun i j hi hj => ?_, Kd.R_set hv h.c (by decide) _ _, below_set h.below h.ec, h.gok, h.cap⟩
 ·have e : dC { m with plan := v } { a with pl := l } = (dC m a).setIfInBounds 6 v := rfl
  rw [e]
  exact blk_set h.c 6 v
 ·exact h.b.keep (fun _ hk => blk_far hk (h.b.ne h.c (by decide)) _)
 ·exact (h.p i hi).keep (fun _ hk => blk_far hk ((h.p i hi).ne h.c (by decide)) _)
 ·exact Kd.R_set (h.d i j hi hj) h.c (by decide) _ _
set_option maxRecDepth 100000 in
theorem darm_bad (h : DS w0 W gd m a) (A : Option Addr) (c : Nat) (l : List F3) (hr : Kd.C kF W A l.length l) (hc : l.length ≤ c) (hp : planOK l = false) : Calls Tryd.prog 48 #[cp gd, .slice A l.length c] W fun e w' => e = .returned (.int .i64 22) ∧ Below W.heap.size W w' := by
 have HP := Aside0.mk (rplan_is A c l W hr hc)
 rw [hp] at HP
 clear h hr hc hp
 go_enter Tryd.func48, Tryd.ntmps48
 go_wp2_with (first | (go_at_call 40; (with_reducible refine HP.out.mono ?_); rintro e w1 ⟨rfl, hb1⟩; have HB1 := Aside0.mk hb1; clear hb1))
 go_ret
 exact ⟨rfl, HB1.out⟩
set_option maxRecDepth 100000 in
set_option maxHeartbeats 4000000 in
theorem darm_ok (h : DS w0 W gd m a) (A : Option Addr) (c : Nat) (l : List F3) (hr : Kd.C kF W A l.length l) (hc : l.length ≤ c) (hp : planOK l = true) : Calls Tryd.prog 48 #[cp gd, .slice A l.length c] W fun e w' => e = .returned (.int .i64 0) ∧ DChip w0 w' gd { a with pl := l, frm := a.ops } ∧ DKeeps W w' := by
 have hlen := planOK_len hp
 have HP := Aside0.mk (rplan_is A c l W hr hc)
 rw [hp] at HP
 have HR := Aside0.mk hr
 have HL := Aside0.mk hlen
 have H := Aside0.mk h
 clear h hr hc hp hlen
 go_enter Tryd.func48, Tryd.ntmps48
 go_upto_region 5 with (first | (go_at_call 40; (with_reducible refine HP.out.mono ?_); rintro e w1 ⟨rfl, hb1⟩; have HB1 := Aside0.mk hb1; clear hb1))
 have HR1 := Aside0.mk (Kd.C_below HR.out HB1.out)
 have H1 := Aside0.mk (H.out.grow HB1.out)
 go_upto_region 6 with (first
   | ((with_reducible refine gate_dst (N := 11) rfl ?_); refine Kd.R_lit kF (w0 := w1) w1.heap.size 71 ?hg (N := 11) ?hd (xs := ([] : List F3)) (inner := []) (ok := fun _ => True) (okp := fun _ => True) ?hr ?hp (fun _ hk => hk) trivial (Below.refl _ _) (Nat.le_refl _) (by simp) ?_; (case hd => rfl); (case hg => rfl); (case hr => first | (go_simp; done) | (go_simp; rfl)); (case hp => exact (Reps.none _ _)); intro v2 w2 ho hb _ _; have HO := Aside0.mk ho; have HB2 := Aside0.mk hb; clear ho hb)
   | ((with_reducible refine gate_builtin (b := .append) (xs := #[.tmp 11, .tmp 12]) rfl ?_); at_builtin; refine Kd.R_append_rows kF (w0 := w1) w1.heap.size rfl (.tmp 11) (.tmp 12) 56 71 (.agg #[.int .i64 0, .int .i64 0, .int .i64 0]) 24 rfl Tryd.underlying56 info_fault rfl (by decide) (by decide) v2 [] l _ _ _ (fun _ => True) (fun _ => False) rfl rfl ?aO ?aR (fun _ _ h => h) (fun _ h => h.elim) ?aF ?aB ?aS ?aL ?_; (case aO => exact HO.out); (case aR => exact Kd.C_below HR1.out HB2.out); (case aF => exact fun _ _ => trivial); (case aB => exact HB2.out); (case aS => exact below_size HB2.out); (case aL => have := HL.out; simp; omega); intro v3 w3 ho2 hb2 _ _; have HO3 := Aside0.mk ho2; have HB3 := Aside0.mk hb2; have h3 := H1.out.grow hb2; have H3 := Aside0.mk h3; have f6 := blk_frozen h3.c 6; have c6 : w3.cell? ⟨gd, 6, none⟩ = some m.plan := h3.cell 6; obtain ⟨A6, c6', e6⟩ := (show ∃ A6 c6', v3 = Value.slice A6 l.length c6' from Kd.R_slice ho2); rw [e6] at HO3; subst e6; clear ho2 hb2 h3))
 generalize hW : w3.setCell ⟨gd, 6, none⟩ (.slice A6 l.length c6') = W4
 have H4 := Aside0.mk (show DS w0 W4 gd { m with plan := .slice A6 l.length c6' } { a with pl := l } by rw [← hW]; exact H3.out.setPlan _ l (Kd.R_lower HO3.out (below_size H1.out.below)))
 have HK4 := Aside0.mk (show DKeeps W W4 by rw [← hW]; exact (DKeeps.of_below (below_step HB1.out HB3.out)).set ⟨_, H3.out.c⟩ (by decide) _ _)
 have c8 : W4.cell? ⟨gd, 8, none⟩ = some (.int .i64 a.ops) := H4.out.cell 8
 have c7 : W4.cell? ⟨gd, 7, none⟩ = some (.int .i64 a.frm) := H4.out.cell 7
 have f7 := blk_frozen H4.out.c 7
 clear hW c6 f6
 go_wp2
 go_ret
 exact ⟨rfl, ⟨_, H4.out.setC 7 _ rfl rfl rfl rfl⟩, HK4.out.set ⟨_, H4.out.c⟩ (by decide) _ _⟩
theorem DChip.arm (h : DChip w0 W gd a) (A : Option Addr) (c : Nat) (l : List F3) (hr : Kd.C kF W A l.length l) (hc : l.length ≤ c) : Calls Tryd.prog 48 #[cp gd, .slice A l.length c] W fun e w' => e = .returned (.int .i64 (armA a l).1) ∧ DChip w0 w' gd (armA a l).2 ∧ DKeeps W w' := by
 obtain ⟨m, h⟩ := h
 by_cases hp : planOK l = true
 ·rw [show armA a l = (0, { a with pl := l, frm := a.ops }) from if_pos hp]
  exact darm_ok h A c l hr hc hp
 ·rw [show armA a l = (22, a) from if_neg hp]
  refine (darm_bad h A c l hr hc (by simpa using hp)).mono ?_
  rintro e w' ⟨rfl, hb⟩
  exact ⟨rfl, ⟨m, h.grow hb⟩, DKeeps.of_below hb⟩
end Go.Proofs.YtdlimghdimkadaaDoor.PAll

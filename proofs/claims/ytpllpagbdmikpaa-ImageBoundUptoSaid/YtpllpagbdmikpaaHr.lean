import Derived.Test.YtpllpagbdmikpaaPAllx2
import Derived.Test.YtpllpagbdmikpaaPAllx4
import Derived.Test.YtpllpagbdmikpaaHb
import Derived.Test.YtpllpagbdmikpaaMath
import Derived.Lib.AppendStr
import Derived.Lib.SmallJoins
import Derived.WalkLawsBesides
import Derived.Laws.Cover1
import Derived.IntWalk
import Derived.Deep.RegionLaw
import Derived.Test.YtpllpagbdmikpaaReg
import Derived.WalkSpells

import Derived.Outline
namespace Go.Proofs.Ytpllpagbdmikpaa.PAll
open Go.RowKit Go.Proofs.YtpllpagbdmikpaaW.PrintWords Go.Proofs.YtpllpagbdmikpaaW.PrintLast Go.Proofs.YtpllpagbdmikpaaW.PrintMore
attribute [local go_sem] max2_int min2_int max_two min_two max_three min_three max_four min_four
theorem keep_blk {W w1 : World} {row : Option Nat} {g t : Nat} {cs : Array Value} (h : W.heap[g]? = some (.cells cs t (0, 0))) (hg : W.grownBy w1 row) (hne : some g ≠ row) : w1.heap[g]? = some (.cells cs t (0, 0)) := by
  rw [hg.block g (blk_lt h) hne]; exact h
theorem keep_below {W w1 : World} {g t : Nat} {cs : Array Value} (h : W.heap[g]? = some (.cells cs t (0, 0))) (hb : Below W.heap.size W w1) : w1.heap[g]? = some (.cells cs t (0, 0)) := by
  rw [hb.block g (blk_lt h)]; exact h
theorem keep_alloc {W : World} {g t : Nat} {cs : Array Value} (h : W.heap[g]? = some (.cells cs t (0, 0))) (o : Obj) : (W.alloc o).heap[g]? = some (.cells cs t (0, 0)) :=
  keep_below h (below_alloc (Below.refl _ _) o)
theorem new_blk (W : World) (cs : Array Value) (t : Nat) : (W.alloc (.cells cs t)).heap[W.heap.size]? = some (.cells cs t (0, 0)) := Array.getElem?_push_size
/-! ### image.Right -/
theorem cell_below {W w1 : World} {a : Addr} {v : Value} (h : W.cell? a = some v) (hb : Below W.heap.size W w1) : w1.cell? a = some v := by
  rw [hb.cell (World.block_lt_of_cell? _ _ h)]; exact h
def keyOk (s : ByteArray) : Bool := decide (1 ≤ s.size ∧ s.size ≤ 64)
def plOk (a b c : Int) : Bool := decide (0 ≤ a ∧ a < 256 ∧ 0 ≤ b ∧ b ≤ 16777215 ∧ 0 ≤ c ∧ c ≤ 65535)
def slotOk (l : List S69) (i : Nat) : Bool := keyOk (l.getD i z69).f0 && plOk (l.getD i z69).f1.f0 (l.getD i z69).f1.f1 (l.getD i z69).f1.f2 && (i == 0 || Op.bytesLess (l.getD (i - 1) z69).f0.toList (l.getD i z69).f0.toList)
def headOk (lv : Int) (l : List S69) : Bool := decide (0 ≤ lv ∧ lv ≤ 15 ∧ 1 ≤ l.length ∧ l.length ≤ 8)
def rightB (lv : Int) (l : List S69) : Bool := headOk lv l && (List.range l.length).all (slotOk l)
theorem key_f (s : ByteArray) : image_goodKey.f s = some (keyOk s) := by
  unfold image_goodKey.f keyOk
  by_cases h : (s.size : Int) ≥ 1
  · rw [if_pos h, Option.some.injEq, Bool.eq_iff_iff, decide_eq_true_iff, decide_eq_true_iff]; omega
  · rw [if_neg h, Option.some.injEq, Bool.eq_iff_iff, decide_eq_true_iff]; simp only [Bool.false_eq_true, false_iff]; omega
theorem place_f (a b c : Int) : image_goodPlace.f a b c = some (plOk a b c) := by
  unfold image_goodPlace.f plOk
  (repeat' split) <;> (rw [Option.some.injEq, Bool.eq_iff_iff]; simp only [decide_eq_true_iff, Bool.false_eq_true, false_iff]; omega)
theorem right_false {lv : Int} {l : List S69} {k : Nat} (hk : k < l.length) (h : slotOk l k = false) : rightB lv l = false := by
  unfold rightB
  have : (List.range l.length).all (slotOk l) = false := by
    rw [List.all_eq_false]
    exact ⟨k, List.mem_range.2 hk, by rw [h]; simp⟩
  rw [this, Bool.and_false]
set_option maxRecDepth 100000 in
set_option maxHeartbeats 4000000 in
theorem right_any (lv : Int) (A : Option Addr) (c : Nat) (l : List S69) (w : World) (hr : Kd.C k69 w A l.length l) (hc : l.length ≤ c) :
    Calls Try.prog 18 #[.agg #[.int .i64 lv, .slice A l.length c]] w fun e w' => e = .returned (.bool (rightB lv l)) ∧ Below w.heap.size w w' := by
  have HR := Aside0.mk hr
  have HC := Aside0.mk hc
  clear hr hc
  by_cases hh : headOk lv l = true
  · have hh2 : 0 ≤ lv ∧ lv ≤ 15 ∧ 1 ≤ l.length ∧ l.length ≤ 8 := of_decide_eq_true hh
    obtain ⟨h1, h2, h3, h4⟩ := hh2
    have HH := Aside0.mk hh
    clear hh
    obtain ⟨ad, rfl, _⟩ := HR.out.2.2 (by omega)
    go_enter Try.func18, Try.ntmps18
    go_wp2
    go_loopw [28] (fun i wr => ∃ k : Nat, k ≤ l.length ∧ i = .int .i64 k ∧ Aside0 ((List.range k).all (slotOk l) = true) ∧ Below w.heap.size w wr ∧ wr.heap[w.heap.size]? = some (.cells #[.int .i64 lv, .slice (some ad) l.length c] 37 (0, 0))) (fun i _ => l.length - (intOf i).toNat)
    case atStart => exact ⟨0, Nat.zero_le _, rfl, ⟨rfl⟩, (Below.refl _ _).alloc (Nat.le_refl _) _, new_blk _ _ _⟩
    case round =>
      obtain ⟨k, hk, rfl, HA, hb, hx⟩ := hrel
      have HB := Aside0.mk hb
      have HX := Aside0.mk hx
      have hz : w.heap.size < wr.heap.size := blk_lt hx
      clear hb hx
      by_cases hlt : k < l.length
      · obtain ⟨ad', e0, c0, c1, c2, c3⟩ := at_T69 (Kd.C_below HR.out HB.out) (k : Int) (by omega) (by omega)
        cases e0
        simp only [Int.toNat_natCast] at c0 c1 c2 c3
        obtain ⟨s, hs⟩ : ∃ s, s = l.getD k z69 := ⟨_, rfl⟩
        have ers : rd_T69 l (k : Int) = s := by rw [hs]; rfl
        rw [ers] at c0 c1 c2 c3
        have HS := Aside0.mk hs
        clear hs ers
        rcases hK : keyOk s.f0
        · have HK := Aside0.mk hK
          clear hK
          obtain ⟨m, hm⟩ : ∃ m, m = k - 1 := ⟨_, rfl⟩
          have hm1 : (m : Int) < (l.length : Int) := by omega
          have HM := Aside0.mk hm
          clear hm
          obtain ⟨pv, hpv⟩ : ∃ pv, pv = (l.getD (k - 1) z69).f0 := ⟨_, rfl⟩
          have HPV := Aside0.mk hpv
          clear hpv
          have cp : 0 < k → wr.cell? (ad.add (m * 4)) = some (.string pv) := fun h => by
            obtain ⟨ad', e1, p0, _⟩ := at_T69 (Kd.C_below HR.out HB.out) ((k : Int) - 1) (by omega) (by omega)
            cases e1
            rw [show ((k : Int) - 1).toNat = m from by rw [HM.out]; omega] at p0
            rw [p0, HPV.out, show rd_T69 l ((k : Int) - 1) = l.getD (k - 1) z69 from by unfold rd_T69; rw [show ((k : Int) - 1).toNat = k - 1 from by omega]]
          have HCP := Aside0.mk cp
          clear cp
          go_wp2
          generalize hW : wr.alloc (.cells #[.string s.f0, .int .i64 s.f1.f0, .int .i64 s.f1.f1, .int .i64 s.f1.f2] 69) = W0
          have hbW : Below wr.heap.size wr W0 := by rw [← hW]; exact below_alloc (Below.refl _ _) _
          have d0 : W0.cell? ⟨wr.heap.size, 0, none⟩ = some (.string s.f0) := by rw [← hW]; exact Joins.cell_of_block (new_blk _ _ _) 0
          have d1 : W0.cell? ⟨wr.heap.size, 1, none⟩ = some (.int .i64 s.f1.f0) := by rw [← hW]; exact Joins.cell_of_block (new_blk _ _ _) 1
          have d2 : W0.cell? ⟨wr.heap.size, 2, none⟩ = some (.int .i64 s.f1.f1) := by rw [← hW]; exact Joins.cell_of_block (new_blk _ _ _) 2
          have d3 : W0.cell? ⟨wr.heap.size, 3, none⟩ = some (.int .i64 s.f1.f2) := by rw [← hW]; exact Joins.cell_of_block (new_blk _ _ _) 3
          have x1 : W0.cell? ⟨w.heap.size, 1, none⟩ = some (.slice (some ad) l.length c) := cell_below (Joins.cell_of_block HX.out 1) hbW
          have hpv : 0 < k → W0.cell? (ad.add (m * 4)) = some (.string pv) := fun h => cell_below (HCP.out h) hbW
          have HB2 := Aside0.mk (show Below w.heap.size w W0 from below_step HB.out hbW)
          have HX2 := Aside0.mk (keep_below HX.out hbW)
          clear hW hbW
          refine Reg.det [(0, 33, ?r1v0), (1, 34, ?r1v1), (2, 35, ?r1v2), (3, 36, ?r1v3), (4, 37, ?r1v4), (5, 38, undef), (6, 39, undef), (7, 40, undef), (8, 41, undef), (9, 42, ?r1v9), (10, 43, ?r1v10), (11, 44, undef), (12, 45, undef), (13, 46, undef), (14, 47, undef), (15, 48, undef), (16, 49, undef), (17, 50, undef), (18, 51, undef), (19, 52, undef), (20, 53, undef), (21, 54, undef), (22, 55, undef), (23, 56, undef), (24, 57, undef), (25, 58, ?r1v25)] (fun w' => (w'.cell? ⟨wr.heap.size, 0, none⟩ = some (.string s.f0) ∧ w'.cell? ⟨wr.heap.size, 1, none⟩ = some (.int .i64 s.f1.f0) ∧ w'.cell? ⟨wr.heap.size, 2, none⟩ = some (.int .i64 s.f1.f1) ∧ w'.cell? ⟨wr.heap.size, 3, none⟩ = some (.int .i64 s.f1.f2)) ∧ w'.cell? ⟨w.heap.size, 1, none⟩ = some (.slice (some ad) l.length c) ∧ (0 < k → w'.cell? (ad.add (m * 4)) = some (.string pv)) ∧ Below W0.heap.size W0 w') (by rfl) rfl (by kernel_rfl) ?r1S ?r1steps ?r1okv ?r1hlt ?r1fin
          case r1S => exact ⟨⟨d0, d1, d2, d3⟩, x1, hpv, (Below.refl _ _).drew⟩
          case r1steps =>
            refine Reg.from_some 0 rfl rfl (fun a w hS hK K hC => ?_) ?_
            · refine Reg.step_on (by rfl) ?_
              have e4 := hK.off 4 _ rfl rfl
              clear hK
              go_simp
              exact hC _ hS
            refine Reg.from_some 1 rfl rfl (fun a w hS hK K hC => ?_) ?_
            · refine Reg.step_on (by rfl) ?_
              have e33 := hK.slot 0 _ _ _ rfl (by kernel_rfl)
              have hS2 := hS
              obtain ⟨⟨f0, f1, f2, f3⟩, f4, f5, f6⟩ := hS2
              (try have f7 := f5 hk1)
              clear hK
              go_simp
              exact hC _ hS
            refine Reg.from_some 2 rfl rfl (fun a w hS hK K hC => ?_) ?_
            · refine Reg.step_on (by rfl) ?_
              have e34 := hK.slot 1 _ _ _ rfl (by kernel_rfl)
              clear hK
              go_simp
              refine (image_goodKey.calls s.f0 false _ (by rw [key_f, HK.out])).mono ?_
              rintro e w' ⟨rfl, nd, rfl⟩
              exact hC (w.drewN nd) ⟨hS.1, hS.2.1, hS.2.2.1, pw_below_drewN hS.2.2.2 _⟩
            refine Reg.from_some 3 rfl rfl (fun a w hS hK K hC => ?_) ?_
            · refine Reg.step_on (by rfl) ?_
              have e35 := hK.slot 2 _ _ _ rfl (by kernel_rfl)
              clear hK
              go_simp
              exact hC _ hS
            refine Reg.from_some 4 rfl rfl (fun a w hS hK K hC => ?_) ?_
            · refine Reg.step_on (by rfl) ?_
              have e36 := hK.slot 3 _ _ _ rfl (by kernel_rfl)
              clear hK
              go_simp
              exact hC _ hS
            refine Reg.from_some 5 rfl rfl (fun a w hS hK K hC => ?_) ?_
            · refine Reg.step_off (wanted_off (g := 4) rfl rfl rfl (hK.slot 4 _ _ _ rfl (by kernel_rfl))) ?_
              exact hC _ hS
            refine Reg.from_some 6 rfl rfl (fun a w hS hK K hC => ?_) ?_
            · refine Reg.step_off (wanted_off (g := 4) rfl rfl rfl (hK.slot 4 _ _ _ rfl (by kernel_rfl))) ?_
              exact hC _ hS
            refine Reg.from_some 7 rfl rfl (fun a w hS hK K hC => ?_) ?_
            · refine Reg.step_off (wanted_off (g := 4) rfl rfl rfl (hK.slot 4 _ _ _ rfl (by kernel_rfl))) ?_
              exact hC _ hS
            refine Reg.from_some 8 rfl rfl (fun a w hS hK K hC => ?_) ?_
            · refine Reg.step_off (wanted_off (g := 4) rfl rfl rfl (hK.slot 4 _ _ _ rfl (by kernel_rfl))) ?_
              exact hC _ hS
            refine Reg.from_some 9 rfl rfl (fun a w hS hK K hC => ?_) ?_
            · refine Reg.step_on (by rfl) ?_
              have e37 := hK.slot 4 _ _ _ rfl (by kernel_rfl)
              have e41 := hK.slot 8 _ _ _ rfl (by kernel_rfl)
              clear hK
              go_simp
              exact hC _ hS
            refine Reg.from_some 10 rfl rfl (fun a w hS hK K hC => ?_) ?_
            · refine Reg.step_on (by rfl) ?_
              have e42 := hK.slot 9 _ _ _ rfl (by kernel_rfl)
              clear hK
              go_simp
              exact hC _ hS
            refine Reg.from_some 11 rfl rfl (fun a w hS hK K hC => ?_) ?_
            · refine Reg.step_off (wanted_off (g := 10) rfl rfl rfl (hK.slot 10 _ _ _ rfl (by kernel_rfl))) ?_
              exact hC _ hS
            refine Reg.from_some 12 rfl rfl (fun a w hS hK K hC => ?_) ?_
            · refine Reg.step_off (wanted_off (g := 10) rfl rfl rfl (hK.slot 10 _ _ _ rfl (by kernel_rfl))) ?_
              exact hC _ hS
            refine Reg.from_some 13 rfl rfl (fun a w hS hK K hC => ?_) ?_
            · refine Reg.step_off (wanted_off (g := 10) rfl rfl rfl (hK.slot 10 _ _ _ rfl (by kernel_rfl))) ?_
              exact hC _ hS
            refine Reg.from_some 14 rfl rfl (fun a w hS hK K hC => ?_) ?_
            · refine Reg.step_off (Reg.wanted_undef (g := 13) rfl rfl rfl (hK.slot 13 _ _ _ rfl (by kernel_rfl))) ?_
              exact hC _ hS
            refine Reg.from_some 15 rfl rfl (fun a w hS hK K hC => ?_) ?_
            · refine Reg.step_off (Reg.wanted_undef (g := 13) rfl rfl rfl (hK.slot 13 _ _ _ rfl (by kernel_rfl))) ?_
              exact hC _ hS
            refine Reg.from_some 16 rfl rfl (fun a w hS hK K hC => ?_) ?_
            · refine Reg.step_off (Reg.wanted_undef (g := 13) rfl rfl rfl (hK.slot 13 _ _ _ rfl (by kernel_rfl))) ?_
              exact hC _ hS
            refine Reg.from_some 17 rfl rfl (fun a w hS hK K hC => ?_) ?_
            · refine Reg.step_off (Reg.wanted_undef (g := 13) rfl rfl rfl (hK.slot 13 _ _ _ rfl (by kernel_rfl))) ?_
              exact hC _ hS
            refine Reg.from_some 18 rfl rfl (fun a w hS hK K hC => ?_) ?_
            · refine Reg.step_off (Reg.wanted_undef (g := 13) rfl rfl rfl (hK.slot 13 _ _ _ rfl (by kernel_rfl))) ?_
              exact hC _ hS
            refine Reg.from_some 19 rfl rfl (fun a w hS hK K hC => ?_) ?_
            · refine Reg.step_off (Reg.wanted_undef (g := 13) rfl rfl rfl (hK.slot 13 _ _ _ rfl (by kernel_rfl))) ?_
              exact hC _ hS
            refine Reg.from_some 20 rfl rfl (fun a w hS hK K hC => ?_) ?_
            · refine Reg.step_off (Reg.wanted_undef (g := 13) rfl rfl rfl (hK.slot 13 _ _ _ rfl (by kernel_rfl))) ?_
              exact hC _ hS
            refine Reg.from_some 21 rfl rfl (fun a w hS hK K hC => ?_) ?_
            · refine Reg.step_off (Reg.wanted_undef (g := 13) rfl rfl rfl (hK.slot 13 _ _ _ rfl (by kernel_rfl))) ?_
              exact hC _ hS
            refine Reg.from_some 22 rfl rfl (fun a w hS hK K hC => ?_) ?_
            · refine Reg.step_off (Reg.wanted_undef (g := 13) rfl rfl rfl (hK.slot 13 _ _ _ rfl (by kernel_rfl))) ?_
              exact hC _ hS
            refine Reg.from_some 23 rfl rfl (fun a w hS hK K hC => ?_) ?_
            · refine Reg.step_off (Reg.wanted_undef (g := 13) rfl rfl rfl (hK.slot 13 _ _ _ rfl (by kernel_rfl))) ?_
              exact hC _ hS
            refine Reg.from_some 24 rfl rfl (fun a w hS hK K hC => ?_) ?_
            · refine Reg.step_off (wanted_off (g := 10) rfl rfl rfl (hK.slot 10 _ _ _ rfl (by kernel_rfl))) ?_
              exact hC _ hS
            refine Reg.from_some 25 rfl rfl (fun a w hS hK K hC => ?_) ?_
            · refine Reg.step_on (by rfl) ?_
              have e43 := hK.slot 10 _ _ _ rfl (by kernel_rfl)
              have e57 := hK.slot 24 _ _ _ rfl (by kernel_rfl)
              clear hK
              go_simp
              exact hC _ hS
            exact Reg.from_nil
          case r1okv => rfl
          case r1hlt => rfl
          case r1fin =>
            intro wz hS
            simp only [Reg.putV, List.foldl_cons, List.foldl_nil, Act.put, List.setIfInBounds_toArray, List.set_cons_zero, List.set_cons_succ]
            have HB3 := Aside0.mk (below_step HB2.out hS.2.2.2)
            have HX3 := Aside0.mk (keep_below HX2.out hS.2.2.2)
            clear hS
            go_wp2
            go_ret
            exact ⟨by rw [right_false hlt (by unfold slotOk; rw [← HS.out, HK.out]; simp)]; rfl, HB3.out⟩
        · have HK := Aside0.mk hK
          clear hK
          rcases hP : plOk s.f1.f0 s.f1.f1 s.f1.f2
          · have HP := Aside0.mk hP
            clear hP
            obtain ⟨m, hm⟩ : ∃ m, m = k - 1 := ⟨_, rfl⟩
            have hm1 : (m : Int) < (l.length : Int) := by omega
            have HM := Aside0.mk hm
            clear hm
            obtain ⟨pv, hpv⟩ : ∃ pv, pv = (l.getD (k - 1) z69).f0 := ⟨_, rfl⟩
            have HPV := Aside0.mk hpv
            clear hpv
            have cp : 0 < k → wr.cell? (ad.add (m * 4)) = some (.string pv) := fun h => by
              obtain ⟨ad', e1, p0, _⟩ := at_T69 (Kd.C_below HR.out HB.out) ((k : Int) - 1) (by omega) (by omega)
              cases e1
              rw [show ((k : Int) - 1).toNat = m from by rw [HM.out]; omega] at p0
              rw [p0, HPV.out, show rd_T69 l ((k : Int) - 1) = l.getD (k - 1) z69 from by unfold rd_T69; rw [show ((k : Int) - 1).toNat = k - 1 from by omega]]
            have HCP := Aside0.mk cp
            clear cp
            go_wp2
            generalize hW : wr.alloc (.cells #[.string s.f0, .int .i64 s.f1.f0, .int .i64 s.f1.f1, .int .i64 s.f1.f2] 69) = W0
            have hbW : Below wr.heap.size wr W0 := by rw [← hW]; exact below_alloc (Below.refl _ _) _
            have d0 : W0.cell? ⟨wr.heap.size, 0, none⟩ = some (.string s.f0) := by rw [← hW]; exact Joins.cell_of_block (new_blk _ _ _) 0
            have d1 : W0.cell? ⟨wr.heap.size, 1, none⟩ = some (.int .i64 s.f1.f0) := by rw [← hW]; exact Joins.cell_of_block (new_blk _ _ _) 1
            have d2 : W0.cell? ⟨wr.heap.size, 2, none⟩ = some (.int .i64 s.f1.f1) := by rw [← hW]; exact Joins.cell_of_block (new_blk _ _ _) 2
            have d3 : W0.cell? ⟨wr.heap.size, 3, none⟩ = some (.int .i64 s.f1.f2) := by rw [← hW]; exact Joins.cell_of_block (new_blk _ _ _) 3
            have x1 : W0.cell? ⟨w.heap.size, 1, none⟩ = some (.slice (some ad) l.length c) := cell_below (Joins.cell_of_block HX.out 1) hbW
            have hpv : 0 < k → W0.cell? (ad.add (m * 4)) = some (.string pv) := fun h => cell_below (HCP.out h) hbW
            have HB2 := Aside0.mk (show Below w.heap.size w W0 from below_step HB.out hbW)
            have HX2 := Aside0.mk (keep_below HX.out hbW)
            clear hW hbW
            refine Reg.det [(0, 33, ?r2v0), (1, 34, ?r2v1), (2, 35, ?r2v2), (3, 36, ?r2v3), (4, 37, ?r2v4), (5, 38, ?r2v5), (6, 39, ?r2v6), (7, 40, ?r2v7), (8, 41, ?r2v8), (9, 42, ?r2v9), (10, 43, ?r2v10), (11, 44, undef), (12, 45, undef), (13, 46, undef), (14, 47, undef), (15, 48, undef), (16, 49, undef), (17, 50, undef), (18, 51, undef), (19, 52, undef), (20, 53, undef), (21, 54, undef), (22, 55, undef), (23, 56, undef), (24, 57, undef), (25, 58, ?r2v25)] (fun w' => (w'.cell? ⟨wr.heap.size, 0, none⟩ = some (.string s.f0) ∧ w'.cell? ⟨wr.heap.size, 1, none⟩ = some (.int .i64 s.f1.f0) ∧ w'.cell? ⟨wr.heap.size, 2, none⟩ = some (.int .i64 s.f1.f1) ∧ w'.cell? ⟨wr.heap.size, 3, none⟩ = some (.int .i64 s.f1.f2)) ∧ w'.cell? ⟨w.heap.size, 1, none⟩ = some (.slice (some ad) l.length c) ∧ (0 < k → w'.cell? (ad.add (m * 4)) = some (.string pv)) ∧ Below W0.heap.size W0 w') (by rfl) rfl (by kernel_rfl) ?r2S ?r2steps ?r2okv ?r2hlt ?r2fin
            case r2S => exact ⟨⟨d0, d1, d2, d3⟩, x1, hpv, (Below.refl _ _).drew⟩
            case r2steps =>
              refine Reg.from_some 0 rfl rfl (fun a w hS hK K hC => ?_) ?_
              · refine Reg.step_on (by rfl) ?_
                have e4 := hK.off 4 _ rfl rfl
                clear hK
                go_simp
                exact hC _ hS
              refine Reg.from_some 1 rfl rfl (fun a w hS hK K hC => ?_) ?_
              · refine Reg.step_on (by rfl) ?_
                have e33 := hK.slot 0 _ _ _ rfl (by kernel_rfl)
                have hS2 := hS
                obtain ⟨⟨f0, f1, f2, f3⟩, f4, f5, f6⟩ := hS2
                (try have f7 := f5 hk1)
                clear hK
                go_simp
                exact hC _ hS
              refine Reg.from_some 2 rfl rfl (fun a w hS hK K hC => ?_) ?_
              · refine Reg.step_on (by rfl) ?_
                have e34 := hK.slot 1 _ _ _ rfl (by kernel_rfl)
                clear hK
                go_simp
                refine (image_goodKey.calls s.f0 true _ (by rw [key_f, HK.out])).mono ?_
                rintro e w' ⟨rfl, nd, rfl⟩
                exact hC (w.drewN nd) ⟨hS.1, hS.2.1, hS.2.2.1, pw_below_drewN hS.2.2.2 _⟩
              refine Reg.from_some 3 rfl rfl (fun a w hS hK K hC => ?_) ?_
              · refine Reg.step_on (by rfl) ?_
                have e35 := hK.slot 2 _ _ _ rfl (by kernel_rfl)
                clear hK
                go_simp
                exact hC _ hS
              refine Reg.from_some 4 rfl rfl (fun a w hS hK K hC => ?_) ?_
              · refine Reg.step_on (by rfl) ?_
                have e36 := hK.slot 3 _ _ _ rfl (by kernel_rfl)
                clear hK
                go_simp
                exact hC _ hS
              refine Reg.from_some 5 rfl rfl (fun a w hS hK K hC => ?_) ?_
              · refine Reg.step_on (wanted_on (g := 4) rfl rfl rfl (hK.slot 4 _ _ _ rfl (by kernel_rfl))) ?_
                have e4 := hK.off 4 _ rfl rfl
                clear hK
                go_simp
                exact hC _ hS
              refine Reg.from_some 6 rfl rfl (fun a w hS hK K hC => ?_) ?_
              · refine Reg.step_on (wanted_on (g := 4) rfl rfl rfl (hK.slot 4 _ _ _ rfl (by kernel_rfl))) ?_
                have e38 := hK.slot 5 _ _ _ rfl (by kernel_rfl)
                have hS2 := hS
                obtain ⟨⟨f0, f1, f2, f3⟩, f4, f5, f6⟩ := hS2
                (try have f7 := f5 hk1)
                clear hK
                go_simp
                exact hC _ hS
              refine Reg.from_some 7 rfl rfl (fun a w hS hK K hC => ?_) ?_
              · refine Reg.step_on (wanted_on (g := 4) rfl rfl rfl (hK.slot 4 _ _ _ rfl (by kernel_rfl))) ?_
                have e39 := hK.slot 6 _ _ _ rfl (by kernel_rfl)
                clear hK
                go_simp
                refine (image_goodPlace.calls s.f1.f0 s.f1.f1 s.f1.f2 false _ (by rw [place_f, HP.out])).mono ?_
                rintro e w' ⟨rfl, hb⟩
                exact hC w' ⟨⟨cell_below hS.1.1 hb, cell_below hS.1.2.1 hb, cell_below hS.1.2.2.1 hb, cell_below hS.1.2.2.2 hb⟩, cell_below hS.2.1 hb, fun h => cell_below (hS.2.2.1 h) hb, below_step hS.2.2.2 hb⟩
              refine Reg.from_some 8 rfl rfl (fun a w hS hK K hC => ?_) ?_
              · refine Reg.step_on (wanted_on (g := 4) rfl rfl rfl (hK.slot 4 _ _ _ rfl (by kernel_rfl))) ?_
                have e40 := hK.slot 7 _ _ _ rfl (by kernel_rfl)
                clear hK
                go_simp
                exact hC _ hS
              refine Reg.from_some 9 rfl rfl (fun a w hS hK K hC => ?_) ?_
              · refine Reg.step_on (by rfl) ?_
                have e37 := hK.slot 4 _ _ _ rfl (by kernel_rfl)
                have e41 := hK.slot 8 _ _ _ rfl (by kernel_rfl)
                clear hK
                go_simp
                exact hC _ hS
              refine Reg.from_some 10 rfl rfl (fun a w hS hK K hC => ?_) ?_
              · refine Reg.step_on (by rfl) ?_
                have e42 := hK.slot 9 _ _ _ rfl (by kernel_rfl)
                clear hK
                go_simp
                exact hC _ hS
              refine Reg.from_some 11 rfl rfl (fun a w hS hK K hC => ?_) ?_
              · refine Reg.step_off (wanted_off (g := 10) rfl rfl rfl (hK.slot 10 _ _ _ rfl (by kernel_rfl))) ?_
                exact hC _ hS
              refine Reg.from_some 12 rfl rfl (fun a w hS hK K hC => ?_) ?_
              · refine Reg.step_off (wanted_off (g := 10) rfl rfl rfl (hK.slot 10 _ _ _ rfl (by kernel_rfl))) ?_
                exact hC _ hS
              refine Reg.from_some 13 rfl rfl (fun a w hS hK K hC => ?_) ?_
              · refine Reg.step_off (wanted_off (g := 10) rfl rfl rfl (hK.slot 10 _ _ _ rfl (by kernel_rfl))) ?_
                exact hC _ hS
              refine Reg.from_some 14 rfl rfl (fun a w hS hK K hC => ?_) ?_
              · refine Reg.step_off (Reg.wanted_undef (g := 13) rfl rfl rfl (hK.slot 13 _ _ _ rfl (by kernel_rfl))) ?_
                exact hC _ hS
              refine Reg.from_some 15 rfl rfl (fun a w hS hK K hC => ?_) ?_
              · refine Reg.step_off (Reg.wanted_undef (g := 13) rfl rfl rfl (hK.slot 13 _ _ _ rfl (by kernel_rfl))) ?_
                exact hC _ hS
              refine Reg.from_some 16 rfl rfl (fun a w hS hK K hC => ?_) ?_
              · refine Reg.step_off (Reg.wanted_undef (g := 13) rfl rfl rfl (hK.slot 13 _ _ _ rfl (by kernel_rfl))) ?_
                exact hC _ hS
              refine Reg.from_some 17 rfl rfl (fun a w hS hK K hC => ?_) ?_
              · refine Reg.step_off (Reg.wanted_undef (g := 13) rfl rfl rfl (hK.slot 13 _ _ _ rfl (by kernel_rfl))) ?_
                exact hC _ hS
              refine Reg.from_some 18 rfl rfl (fun a w hS hK K hC => ?_) ?_
              · refine Reg.step_off (Reg.wanted_undef (g := 13) rfl rfl rfl (hK.slot 13 _ _ _ rfl (by kernel_rfl))) ?_
                exact hC _ hS
              refine Reg.from_some 19 rfl rfl (fun a w hS hK K hC => ?_) ?_
              · refine Reg.step_off (Reg.wanted_undef (g := 13) rfl rfl rfl (hK.slot 13 _ _ _ rfl (by kernel_rfl))) ?_
                exact hC _ hS
              refine Reg.from_some 20 rfl rfl (fun a w hS hK K hC => ?_) ?_
              · refine Reg.step_off (Reg.wanted_undef (g := 13) rfl rfl rfl (hK.slot 13 _ _ _ rfl (by kernel_rfl))) ?_
                exact hC _ hS
              refine Reg.from_some 21 rfl rfl (fun a w hS hK K hC => ?_) ?_
              · refine Reg.step_off (Reg.wanted_undef (g := 13) rfl rfl rfl (hK.slot 13 _ _ _ rfl (by kernel_rfl))) ?_
                exact hC _ hS
              refine Reg.from_some 22 rfl rfl (fun a w hS hK K hC => ?_) ?_
              · refine Reg.step_off (Reg.wanted_undef (g := 13) rfl rfl rfl (hK.slot 13 _ _ _ rfl (by kernel_rfl))) ?_
                exact hC _ hS
              refine Reg.from_some 23 rfl rfl (fun a w hS hK K hC => ?_) ?_
              · refine Reg.step_off (Reg.wanted_undef (g := 13) rfl rfl rfl (hK.slot 13 _ _ _ rfl (by kernel_rfl))) ?_
                exact hC _ hS
              refine Reg.from_some 24 rfl rfl (fun a w hS hK K hC => ?_) ?_
              · refine Reg.step_off (wanted_off (g := 10) rfl rfl rfl (hK.slot 10 _ _ _ rfl (by kernel_rfl))) ?_
                exact hC _ hS
              refine Reg.from_some 25 rfl rfl (fun a w hS hK K hC => ?_) ?_
              · refine Reg.step_on (by rfl) ?_
                have e43 := hK.slot 10 _ _ _ rfl (by kernel_rfl)
                have e57 := hK.slot 24 _ _ _ rfl (by kernel_rfl)
                clear hK
                go_simp
                exact hC _ hS
              exact Reg.from_nil
            case r2okv => rfl
            case r2hlt => rfl
            case r2fin =>
              intro wz hS
              simp only [Reg.putV, List.foldl_cons, List.foldl_nil, Act.put, List.setIfInBounds_toArray, List.set_cons_zero, List.set_cons_succ]
              have HB3 := Aside0.mk (below_step HB2.out hS.2.2.2)
              have HX3 := Aside0.mk (keep_below HX2.out hS.2.2.2)
              clear hS
              go_wp2
              go_ret
              exact ⟨by rw [right_false hlt (by unfold slotOk; rw [← HS.out, HK.out, HP.out]; simp)]; rfl, HB3.out⟩
          · have HP := Aside0.mk hP
            clear hP
            by_cases hk0 : k = 0
            · have hkn : decide (0 < k) = false := by simp; omega
              have HK0 := Aside0.mk hk0
              clear hk0
              obtain ⟨m, hm⟩ : ∃ m, m = k - 1 := ⟨_, rfl⟩
              have hm1 : (m : Int) < (l.length : Int) := by omega
              have HM := Aside0.mk hm
              clear hm
              obtain ⟨pv, hpv⟩ : ∃ pv, pv = (l.getD (k - 1) z69).f0 := ⟨_, rfl⟩
              have HPV := Aside0.mk hpv
              clear hpv
              have cp : 0 < k → wr.cell? (ad.add (m * 4)) = some (.string pv) := fun h => by
                obtain ⟨ad', e1, p0, _⟩ := at_T69 (Kd.C_below HR.out HB.out) ((k : Int) - 1) (by omega) (by omega)
                cases e1
                rw [show ((k : Int) - 1).toNat = m from by rw [HM.out]; omega] at p0
                rw [p0, HPV.out, show rd_T69 l ((k : Int) - 1) = l.getD (k - 1) z69 from by unfold rd_T69; rw [show ((k : Int) - 1).toNat = k - 1 from by omega]]
              have HCP := Aside0.mk cp
              clear cp
              go_wp2
              generalize hW : wr.alloc (.cells #[.string s.f0, .int .i64 s.f1.f0, .int .i64 s.f1.f1, .int .i64 s.f1.f2] 69) = W0
              have hbW : Below wr.heap.size wr W0 := by rw [← hW]; exact below_alloc (Below.refl _ _) _
              have d0 : W0.cell? ⟨wr.heap.size, 0, none⟩ = some (.string s.f0) := by rw [← hW]; exact Joins.cell_of_block (new_blk _ _ _) 0
              have d1 : W0.cell? ⟨wr.heap.size, 1, none⟩ = some (.int .i64 s.f1.f0) := by rw [← hW]; exact Joins.cell_of_block (new_blk _ _ _) 1
              have d2 : W0.cell? ⟨wr.heap.size, 2, none⟩ = some (.int .i64 s.f1.f1) := by rw [← hW]; exact Joins.cell_of_block (new_blk _ _ _) 2
              have d3 : W0.cell? ⟨wr.heap.size, 3, none⟩ = some (.int .i64 s.f1.f2) := by rw [← hW]; exact Joins.cell_of_block (new_blk _ _ _) 3
              have x1 : W0.cell? ⟨w.heap.size, 1, none⟩ = some (.slice (some ad) l.length c) := cell_below (Joins.cell_of_block HX.out 1) hbW
              have hpv : 0 < k → W0.cell? (ad.add (m * 4)) = some (.string pv) := fun h => cell_below (HCP.out h) hbW
              have HB2 := Aside0.mk (show Below w.heap.size w W0 from below_step HB.out hbW)
              have HX2 := Aside0.mk (keep_below HX.out hbW)
              clear hW hbW
              refine Reg.det [(0, 33, ?r3v0), (1, 34, ?r3v1), (2, 35, ?r3v2), (3, 36, ?r3v3), (4, 37, ?r3v4), (5, 38, ?r3v5), (6, 39, ?r3v6), (7, 40, ?r3v7), (8, 41, ?r3v8), (9, 42, ?r3v9), (10, 43, ?r3v10), (11, 44, ?r3v11), (12, 45, ?r3v12), (13, 46, ?r3v13), (14, 47, undef), (15, 48, undef), (16, 49, undef), (17, 50, undef), (18, 51, undef), (19, 52, undef), (20, 53, undef), (21, 54, undef), (22, 55, undef), (23, 56, undef), (24, 57, ?r3v24), (25, 58, ?r3v25)] (fun w' => (w'.cell? ⟨wr.heap.size, 0, none⟩ = some (.string s.f0) ∧ w'.cell? ⟨wr.heap.size, 1, none⟩ = some (.int .i64 s.f1.f0) ∧ w'.cell? ⟨wr.heap.size, 2, none⟩ = some (.int .i64 s.f1.f1) ∧ w'.cell? ⟨wr.heap.size, 3, none⟩ = some (.int .i64 s.f1.f2)) ∧ w'.cell? ⟨w.heap.size, 1, none⟩ = some (.slice (some ad) l.length c) ∧ (0 < k → w'.cell? (ad.add (m * 4)) = some (.string pv)) ∧ Below W0.heap.size W0 w') (by rfl) rfl (by kernel_rfl) ?r3S ?r3steps ?r3okv ?r3hlt ?r3fin
              case r3S => exact ⟨⟨d0, d1, d2, d3⟩, x1, hpv, (Below.refl _ _).drew⟩
              case r3steps =>
                refine Reg.from_some 0 rfl rfl (fun a w hS hK K hC => ?_) ?_
                · refine Reg.step_on (by rfl) ?_
                  have e4 := hK.off 4 _ rfl rfl
                  clear hK
                  go_simp
                  exact hC _ hS
                refine Reg.from_some 1 rfl rfl (fun a w hS hK K hC => ?_) ?_
                · refine Reg.step_on (by rfl) ?_
                  have e33 := hK.slot 0 _ _ _ rfl (by kernel_rfl)
                  have hS2 := hS
                  obtain ⟨⟨f0, f1, f2, f3⟩, f4, f5, f6⟩ := hS2
                  (try have f7 := f5 hk1)
                  clear hK
                  go_simp
                  exact hC _ hS
                refine Reg.from_some 2 rfl rfl (fun a w hS hK K hC => ?_) ?_
                · refine Reg.step_on (by rfl) ?_
                  have e34 := hK.slot 1 _ _ _ rfl (by kernel_rfl)
                  clear hK
                  go_simp
                  refine (image_goodKey.calls s.f0 true _ (by rw [key_f, HK.out])).mono ?_
                  rintro e w' ⟨rfl, nd, rfl⟩
                  exact hC (w.drewN nd) ⟨hS.1, hS.2.1, hS.2.2.1, pw_below_drewN hS.2.2.2 _⟩
                refine Reg.from_some 3 rfl rfl (fun a w hS hK K hC => ?_) ?_
                · refine Reg.step_on (by rfl) ?_
                  have e35 := hK.slot 2 _ _ _ rfl (by kernel_rfl)
                  clear hK
                  go_simp
                  exact hC _ hS
                refine Reg.from_some 4 rfl rfl (fun a w hS hK K hC => ?_) ?_
                · refine Reg.step_on (by rfl) ?_
                  have e36 := hK.slot 3 _ _ _ rfl (by kernel_rfl)
                  clear hK
                  go_simp
                  exact hC _ hS
                refine Reg.from_some 5 rfl rfl (fun a w hS hK K hC => ?_) ?_
                · refine Reg.step_on (wanted_on (g := 4) rfl rfl rfl (hK.slot 4 _ _ _ rfl (by kernel_rfl))) ?_
                  have e4 := hK.off 4 _ rfl rfl
                  clear hK
                  go_simp
                  exact hC _ hS
                refine Reg.from_some 6 rfl rfl (fun a w hS hK K hC => ?_) ?_
                · refine Reg.step_on (wanted_on (g := 4) rfl rfl rfl (hK.slot 4 _ _ _ rfl (by kernel_rfl))) ?_
                  have e38 := hK.slot 5 _ _ _ rfl (by kernel_rfl)
                  have hS2 := hS
                  obtain ⟨⟨f0, f1, f2, f3⟩, f4, f5, f6⟩ := hS2
                  (try have f7 := f5 hk1)
                  clear hK
                  go_simp
                  exact hC _ hS
                refine Reg.from_some 7 rfl rfl (fun a w hS hK K hC => ?_) ?_
                · refine Reg.step_on (wanted_on (g := 4) rfl rfl rfl (hK.slot 4 _ _ _ rfl (by kernel_rfl))) ?_
                  have e39 := hK.slot 6 _ _ _ rfl (by kernel_rfl)
                  clear hK
                  go_simp
                  refine (image_goodPlace.calls s.f1.f0 s.f1.f1 s.f1.f2 true _ (by rw [place_f, HP.out])).mono ?_
                  rintro e w' ⟨rfl, hb⟩
                  exact hC w' ⟨⟨cell_below hS.1.1 hb, cell_below hS.1.2.1 hb, cell_below hS.1.2.2.1 hb, cell_below hS.1.2.2.2 hb⟩, cell_below hS.2.1 hb, fun h => cell_below (hS.2.2.1 h) hb, below_step hS.2.2.2 hb⟩
                refine Reg.from_some 8 rfl rfl (fun a w hS hK K hC => ?_) ?_
                · refine Reg.step_on (wanted_on (g := 4) rfl rfl rfl (hK.slot 4 _ _ _ rfl (by kernel_rfl))) ?_
                  have e40 := hK.slot 7 _ _ _ rfl (by kernel_rfl)
                  clear hK
                  go_simp
                  exact hC _ hS
                refine Reg.from_some 9 rfl rfl (fun a w hS hK K hC => ?_) ?_
                · refine Reg.step_on (by rfl) ?_
                  have e37 := hK.slot 4 _ _ _ rfl (by kernel_rfl)
                  have e41 := hK.slot 8 _ _ _ rfl (by kernel_rfl)
                  clear hK
                  go_simp
                  exact hC _ hS
                refine Reg.from_some 10 rfl rfl (fun a w hS hK K hC => ?_) ?_
                · refine Reg.step_on (by rfl) ?_
                  have e42 := hK.slot 9 _ _ _ rfl (by kernel_rfl)
                  clear hK
                  go_simp
                  exact hC _ hS
                refine Reg.from_some 11 rfl rfl (fun a w hS hK K hC => ?_) ?_
                · refine Reg.step_on (wanted_on (g := 10) rfl rfl rfl (hK.slot 10 _ _ _ rfl (by kernel_rfl))) ?_
                  have e3 := hK.off 3 _ rfl rfl
                  clear hK
                  go_simp
                  exact hC _ hS
                refine Reg.from_some 12 rfl rfl (fun a w hS hK K hC => ?_) ?_
                · refine Reg.step_on (wanted_on (g := 10) rfl rfl rfl (hK.slot 10 _ _ _ rfl (by kernel_rfl))) ?_
                  have e44 := hK.slot 11 _ _ _ rfl (by kernel_rfl)
                  clear hK
                  go_simp
                  exact hC _ hS
                refine Reg.from_some 13 rfl rfl (fun a w hS hK K hC => ?_) ?_
                · refine Reg.step_on (wanted_on (g := 10) rfl rfl rfl (hK.slot 10 _ _ _ rfl (by kernel_rfl))) ?_
                  have e45 := hK.slot 12 _ _ _ rfl (by kernel_rfl)
                  clear hK
                  go_simp
                  exact hC _ hS
                refine Reg.from_some 14 rfl rfl (fun a w hS hK K hC => ?_) ?_
                · refine Reg.step_off (wanted_off (g := 13) rfl rfl rfl (hK.slot 13 _ _ _ rfl (by kernel_rfl))) ?_
                  exact hC _ hS
                refine Reg.from_some 15 rfl rfl (fun a w hS hK K hC => ?_) ?_
                · refine Reg.step_off (wanted_off (g := 13) rfl rfl rfl (hK.slot 13 _ _ _ rfl (by kernel_rfl))) ?_
                  exact hC _ hS
                refine Reg.from_some 16 rfl rfl (fun a w hS hK K hC => ?_) ?_
                · refine Reg.step_off (wanted_off (g := 13) rfl rfl rfl (hK.slot 13 _ _ _ rfl (by kernel_rfl))) ?_
                  exact hC _ hS
                refine Reg.from_some 17 rfl rfl (fun a w hS hK K hC => ?_) ?_
                · refine Reg.step_off (wanted_off (g := 13) rfl rfl rfl (hK.slot 13 _ _ _ rfl (by kernel_rfl))) ?_
                  exact hC _ hS
                refine Reg.from_some 18 rfl rfl (fun a w hS hK K hC => ?_) ?_
                · refine Reg.step_off (wanted_off (g := 13) rfl rfl rfl (hK.slot 13 _ _ _ rfl (by kernel_rfl))) ?_
                  exact hC _ hS
                refine Reg.from_some 19 rfl rfl (fun a w hS hK K hC => ?_) ?_
                · refine Reg.step_off (wanted_off (g := 13) rfl rfl rfl (hK.slot 13 _ _ _ rfl (by kernel_rfl))) ?_
                  exact hC _ hS
                refine Reg.from_some 20 rfl rfl (fun a w hS hK K hC => ?_) ?_
                · refine Reg.step_off (wanted_off (g := 13) rfl rfl rfl (hK.slot 13 _ _ _ rfl (by kernel_rfl))) ?_
                  exact hC _ hS
                refine Reg.from_some 21 rfl rfl (fun a w hS hK K hC => ?_) ?_
                · refine Reg.step_off (wanted_off (g := 13) rfl rfl rfl (hK.slot 13 _ _ _ rfl (by kernel_rfl))) ?_
                  exact hC _ hS
                refine Reg.from_some 22 rfl rfl (fun a w hS hK K hC => ?_) ?_
                · refine Reg.step_off (wanted_off (g := 13) rfl rfl rfl (hK.slot 13 _ _ _ rfl (by kernel_rfl))) ?_
                  exact hC _ hS
                refine Reg.from_some 23 rfl rfl (fun a w hS hK K hC => ?_) ?_
                · refine Reg.step_off (wanted_off (g := 13) rfl rfl rfl (hK.slot 13 _ _ _ rfl (by kernel_rfl))) ?_
                  exact hC _ hS
                refine Reg.from_some 24 rfl rfl (fun a w hS hK K hC => ?_) ?_
                · refine Reg.step_on (wanted_on (g := 10) rfl rfl rfl (hK.slot 10 _ _ _ rfl (by kernel_rfl))) ?_
                  have e46 := hK.slot 13 _ _ _ rfl (by kernel_rfl)
                  have e56 := hK.slot 23 _ _ _ rfl (by kernel_rfl)
                  clear hK
                  go_simp
                  exact hC _ hS
                refine Reg.from_some 25 rfl rfl (fun a w hS hK K hC => ?_) ?_
                · refine Reg.step_on (by rfl) ?_
                  have e43 := hK.slot 10 _ _ _ rfl (by kernel_rfl)
                  have e57 := hK.slot 24 _ _ _ rfl (by kernel_rfl)
                  clear hK
                  go_simp
                  exact hC _ hS
                exact Reg.from_nil
              case r3okv => rfl
              case r3hlt => rfl
              case r3fin =>
                intro wz hS
                simp only [Reg.putV, List.foldl_cons, List.foldl_nil, Act.put, List.setIfInBounds_toArray, List.set_cons_zero, List.set_cons_succ]
                have HB3 := Aside0.mk (below_step HB2.out hS.2.2.2)
                have HX3 := Aside0.mk (keep_below HX2.out hS.2.2.2)
                clear hS
                go_wp2
                go_roundw
                case rel => exact ⟨k + 1, by omega, by go_num, ⟨by rw [List.range_succ, List.all_append, HA.out]; simp only [List.all_cons, List.all_nil, Bool.and_true, Bool.true_and]; unfold slotOk; rw [← HS.out, HK.out, HP.out, HK0.out]; rfl⟩, HB3.out, HX3.out⟩
                case measure => simp [intOf]; omega
            · have hk1 : 0 < k := by omega
              have hk2 : 1 ≤ (k : Int) := by omega
              have hkp : decide (0 < k) = true := by simp; omega
              obtain ⟨m, hm⟩ : ∃ m, m = k - 1 := ⟨_, rfl⟩
              have hm1 : (m : Int) < (l.length : Int) := by omega
              have HM := Aside0.mk hm
              clear hm
              obtain ⟨pv, hpv⟩ : ∃ pv, pv = (l.getD (k - 1) z69).f0 := ⟨_, rfl⟩
              have HPV := Aside0.mk hpv
              clear hpv
              have cp : 0 < k → wr.cell? (ad.add (m * 4)) = some (.string pv) := fun h => by
                obtain ⟨ad', e1, p0, _⟩ := at_T69 (Kd.C_below HR.out HB.out) ((k : Int) - 1) (by omega) (by omega)
                cases e1
                rw [show ((k : Int) - 1).toNat = m from by rw [HM.out]; omega] at p0
                rw [p0, HPV.out, show rd_T69 l ((k : Int) - 1) = l.getD (k - 1) z69 from by unfold rd_T69; rw [show ((k : Int) - 1).toNat = k - 1 from by omega]]
              have HCP := Aside0.mk cp
              clear cp
              go_wp2
              generalize hW : wr.alloc (.cells #[.string s.f0, .int .i64 s.f1.f0, .int .i64 s.f1.f1, .int .i64 s.f1.f2] 69) = W0
              have hbW : Below wr.heap.size wr W0 := by rw [← hW]; exact below_alloc (Below.refl _ _) _
              have d0 : W0.cell? ⟨wr.heap.size, 0, none⟩ = some (.string s.f0) := by rw [← hW]; exact Joins.cell_of_block (new_blk _ _ _) 0
              have d1 : W0.cell? ⟨wr.heap.size, 1, none⟩ = some (.int .i64 s.f1.f0) := by rw [← hW]; exact Joins.cell_of_block (new_blk _ _ _) 1
              have d2 : W0.cell? ⟨wr.heap.size, 2, none⟩ = some (.int .i64 s.f1.f1) := by rw [← hW]; exact Joins.cell_of_block (new_blk _ _ _) 2
              have d3 : W0.cell? ⟨wr.heap.size, 3, none⟩ = some (.int .i64 s.f1.f2) := by rw [← hW]; exact Joins.cell_of_block (new_blk _ _ _) 3
              have x1 : W0.cell? ⟨w.heap.size, 1, none⟩ = some (.slice (some ad) l.length c) := cell_below (Joins.cell_of_block HX.out 1) hbW
              have hpv : 0 < k → W0.cell? (ad.add (m * 4)) = some (.string pv) := fun h => cell_below (HCP.out h) hbW
              have HB2 := Aside0.mk (show Below w.heap.size w W0 from below_step HB.out hbW)
              have HX2 := Aside0.mk (keep_below HX.out hbW)
              clear hW hbW
              have hw1 : IntKind.i64.wrap (m : Int) = (m : Int) := IntWalk.i64_in _ (by omega)
              have hw3 : (k : Int) - 1 = (m : Int) := by rw [HM.out]; omega
              have hpv1 := hpv hk1
              refine Reg.det [(0, 33, ?r4v0), (1, 34, ?r4v1), (2, 35, ?r4v2), (3, 36, ?r4v3), (4, 37, ?r4v4), (5, 38, ?r4v5), (6, 39, ?r4v6), (7, 40, ?r4v7), (8, 41, ?r4v8), (9, 42, ?r4v9), (10, 43, ?r4v10), (11, 44, ?r4v11), (12, 45, ?r4v12), (13, 46, ?r4v13), (14, 47, ?r4v14), (15, 48, ?r4v15), (16, 49, ?r4v16), (17, 50, ?r4v17), (18, 51, ?r4v18), (19, 52, ?r4v19), (20, 53, ?r4v20), (21, 54, ?r4v21), (22, 55, ?r4v22), (23, 56, ?r4v23), (24, 57, ?r4v24), (25, 58, ?r4v25)] (fun w' => (w'.cell? ⟨wr.heap.size, 0, none⟩ = some (.string s.f0) ∧ w'.cell? ⟨wr.heap.size, 1, none⟩ = some (.int .i64 s.f1.f0) ∧ w'.cell? ⟨wr.heap.size, 2, none⟩ = some (.int .i64 s.f1.f1) ∧ w'.cell? ⟨wr.heap.size, 3, none⟩ = some (.int .i64 s.f1.f2)) ∧ w'.cell? ⟨w.heap.size, 1, none⟩ = some (.slice (some ad) l.length c) ∧ (0 < k → w'.cell? (ad.add (m * 4)) = some (.string pv)) ∧ Below W0.heap.size W0 w') (by rfl) rfl (by kernel_rfl) ?r4S ?r4steps ?r4okv ?r4hlt ?r4fin
              case r4S => exact ⟨⟨d0, d1, d2, d3⟩, x1, hpv, (Below.refl _ _).drew⟩
              case r4steps =>
                refine Reg.from_some 0 rfl rfl (fun a w hS hK K hC => ?_) ?_
                · refine Reg.step_on (by rfl) ?_
                  have e4 := hK.off 4 _ rfl rfl
                  clear hK
                  go_simp
                  exact hC _ hS
                refine Reg.from_some 1 rfl rfl (fun a w hS hK K hC => ?_) ?_
                · refine Reg.step_on (by rfl) ?_
                  have e33 := hK.slot 0 _ _ _ rfl (by kernel_rfl)
                  have hS2 := hS
                  obtain ⟨⟨f0, f1, f2, f3⟩, f4, f5, f6⟩ := hS2
                  (try have f7 := f5 hk1)
                  clear hK
                  go_simp
                  exact hC _ hS
                refine Reg.from_some 2 rfl rfl (fun a w hS hK K hC => ?_) ?_
                · refine Reg.step_on (by rfl) ?_
                  have e34 := hK.slot 1 _ _ _ rfl (by kernel_rfl)
                  clear hK
                  go_simp
                  refine (image_goodKey.calls s.f0 true _ (by rw [key_f, HK.out])).mono ?_
                  rintro e w' ⟨rfl, nd, rfl⟩
                  exact hC (w.drewN nd) ⟨hS.1, hS.2.1, hS.2.2.1, pw_below_drewN hS.2.2.2 _⟩
                refine Reg.from_some 3 rfl rfl (fun a w hS hK K hC => ?_) ?_
                · refine Reg.step_on (by rfl) ?_
                  have e35 := hK.slot 2 _ _ _ rfl (by kernel_rfl)
                  clear hK
                  go_simp
                  exact hC _ hS
                refine Reg.from_some 4 rfl rfl (fun a w hS hK K hC => ?_) ?_
                · refine Reg.step_on (by rfl) ?_
                  have e36 := hK.slot 3 _ _ _ rfl (by kernel_rfl)
                  clear hK
                  go_simp
                  exact hC _ hS
                refine Reg.from_some 5 rfl rfl (fun a w hS hK K hC => ?_) ?_
                · refine Reg.step_on (wanted_on (g := 4) rfl rfl rfl (hK.slot 4 _ _ _ rfl (by kernel_rfl))) ?_
                  have e4 := hK.off 4 _ rfl rfl
                  clear hK
                  go_simp
                  exact hC _ hS
                refine Reg.from_some 6 rfl rfl (fun a w hS hK K hC => ?_) ?_
                · refine Reg.step_on (wanted_on (g := 4) rfl rfl rfl (hK.slot 4 _ _ _ rfl (by kernel_rfl))) ?_
                  have e38 := hK.slot 5 _ _ _ rfl (by kernel_rfl)
                  have hS2 := hS
                  obtain ⟨⟨f0, f1, f2, f3⟩, f4, f5, f6⟩ := hS2
                  (try have f7 := f5 hk1)
                  clear hK
                  go_simp
                  exact hC _ hS
                refine Reg.from_some 7 rfl rfl (fun a w hS hK K hC => ?_) ?_
                · refine Reg.step_on (wanted_on (g := 4) rfl rfl rfl (hK.slot 4 _ _ _ rfl (by kernel_rfl))) ?_
                  have e39 := hK.slot 6 _ _ _ rfl (by kernel_rfl)
                  clear hK
                  go_simp
                  refine (image_goodPlace.calls s.f1.f0 s.f1.f1 s.f1.f2 true _ (by rw [place_f, HP.out])).mono ?_
                  rintro e w' ⟨rfl, hb⟩
                  exact hC w' ⟨⟨cell_below hS.1.1 hb, cell_below hS.1.2.1 hb, cell_below hS.1.2.2.1 hb, cell_below hS.1.2.2.2 hb⟩, cell_below hS.2.1 hb, fun h => cell_below (hS.2.2.1 h) hb, below_step hS.2.2.2 hb⟩
                refine Reg.from_some 8 rfl rfl (fun a w hS hK K hC => ?_) ?_
                · refine Reg.step_on (wanted_on (g := 4) rfl rfl rfl (hK.slot 4 _ _ _ rfl (by kernel_rfl))) ?_
                  have e40 := hK.slot 7 _ _ _ rfl (by kernel_rfl)
                  clear hK
                  go_simp
                  exact hC _ hS
                refine Reg.from_some 9 rfl rfl (fun a w hS hK K hC => ?_) ?_
                · refine Reg.step_on (by rfl) ?_
                  have e37 := hK.slot 4 _ _ _ rfl (by kernel_rfl)
                  have e41 := hK.slot 8 _ _ _ rfl (by kernel_rfl)
                  clear hK
                  go_simp
                  exact hC _ hS
                refine Reg.from_some 10 rfl rfl (fun a w hS hK K hC => ?_) ?_
                · refine Reg.step_on (by rfl) ?_
                  have e42 := hK.slot 9 _ _ _ rfl (by kernel_rfl)
                  clear hK
                  go_simp
                  exact hC _ hS
                refine Reg.from_some 11 rfl rfl (fun a w hS hK K hC => ?_) ?_
                · refine Reg.step_on (wanted_on (g := 10) rfl rfl rfl (hK.slot 10 _ _ _ rfl (by kernel_rfl))) ?_
                  have e3 := hK.off 3 _ rfl rfl
                  clear hK
                  go_simp
                  exact hC _ hS
                refine Reg.from_some 12 rfl rfl (fun a w hS hK K hC => ?_) ?_
                · refine Reg.step_on (wanted_on (g := 10) rfl rfl rfl (hK.slot 10 _ _ _ rfl (by kernel_rfl))) ?_
                  have e44 := hK.slot 11 _ _ _ rfl (by kernel_rfl)
                  clear hK
                  go_simp
                  exact hC _ hS
                refine Reg.from_some 13 rfl rfl (fun a w hS hK K hC => ?_) ?_
                · refine Reg.step_on (wanted_on (g := 10) rfl rfl rfl (hK.slot 10 _ _ _ rfl (by kernel_rfl))) ?_
                  have e45 := hK.slot 12 _ _ _ rfl (by kernel_rfl)
                  clear hK
                  go_simp
                  exact hC _ hS
                refine Reg.from_some 14 rfl rfl (fun a w hS hK K hC => ?_) ?_
                · refine Reg.step_on (wanted_on (g := 13) rfl rfl rfl (hK.slot 13 _ _ _ rfl (by kernel_rfl))) ?_
                  have e1 := hK.off 1 _ rfl rfl
                  clear hK
                  go_simp
                  exact hC _ hS
                refine Reg.from_some 15 rfl rfl (fun a w hS hK K hC => ?_) ?_
                · refine Reg.step_on (wanted_on (g := 13) rfl rfl rfl (hK.slot 13 _ _ _ rfl (by kernel_rfl))) ?_
                  have e47 := hK.slot 14 _ _ _ rfl (by kernel_rfl)
                  have hS2 := hS
                  obtain ⟨⟨f0, f1, f2, f3⟩, f4, f5, f6⟩ := hS2
                  (try have f7 := f5 hk1)
                  clear hK
                  go_simp
                  exact hC _ hS
                refine Reg.from_some 16 rfl rfl (fun a w hS hK K hC => ?_) ?_
                · refine Reg.step_on (wanted_on (g := 13) rfl rfl rfl (hK.slot 13 _ _ _ rfl (by kernel_rfl))) ?_
                  have e3 := hK.off 3 _ rfl rfl
                  clear hK
                  go_simp
                  exact hC _ hS
                refine Reg.from_some 17 rfl rfl (fun a w hS hK K hC => ?_) ?_
                · refine Reg.step_on (wanted_on (g := 13) rfl rfl rfl (hK.slot 13 _ _ _ rfl (by kernel_rfl))) ?_
                  have e49 := hK.slot 16 _ _ _ rfl (by kernel_rfl)
                  clear hK
                  go_simp
                  exact hC _ hS
                refine Reg.from_some 18 rfl rfl (fun a w hS hK K hC => ?_) ?_
                · refine Reg.step_on (wanted_on (g := 13) rfl rfl rfl (hK.slot 13 _ _ _ rfl (by kernel_rfl))) ?_
                  have e48 := hK.slot 15 _ _ _ rfl (by kernel_rfl)
                  have e50 := hK.slot 17 _ _ _ rfl (by kernel_rfl)
                  clear hK
                  go_simp
                  exact hC _ hS
                refine Reg.from_some 19 rfl rfl (fun a w hS hK K hC => ?_) ?_
                · refine Reg.step_on (wanted_on (g := 13) rfl rfl rfl (hK.slot 13 _ _ _ rfl (by kernel_rfl))) ?_
                  have e51 := hK.slot 18 _ _ _ rfl (by kernel_rfl)
                  clear hK
                  go_simp
                  exact hC _ hS
                refine Reg.from_some 20 rfl rfl (fun a w hS hK K hC => ?_) ?_
                · refine Reg.step_on (wanted_on (g := 13) rfl rfl rfl (hK.slot 13 _ _ _ rfl (by kernel_rfl))) ?_
                  have e52 := hK.slot 19 _ _ _ rfl (by kernel_rfl)
                  have hS2 := hS
                  obtain ⟨⟨f0, f1, f2, f3⟩, f4, f5, f6⟩ := hS2
                  (try have f7 := f5 hk1)
                  clear hK
                  go_simp
                  exact hC _ hS
                refine Reg.from_some 21 rfl rfl (fun a w hS hK K hC => ?_) ?_
                · refine Reg.step_on (wanted_on (g := 13) rfl rfl rfl (hK.slot 13 _ _ _ rfl (by kernel_rfl))) ?_
                  have e4 := hK.off 4 _ rfl rfl
                  clear hK
                  go_simp
                  exact hC _ hS
                refine Reg.from_some 22 rfl rfl (fun a w hS hK K hC => ?_) ?_
                · refine Reg.step_on (wanted_on (g := 13) rfl rfl rfl (hK.slot 13 _ _ _ rfl (by kernel_rfl))) ?_
                  have e54 := hK.slot 21 _ _ _ rfl (by kernel_rfl)
                  have hS2 := hS
                  obtain ⟨⟨f0, f1, f2, f3⟩, f4, f5, f6⟩ := hS2
                  (try have f7 := f5 hk1)
                  clear hK
                  go_simp
                  exact hC _ hS
                refine Reg.from_some 23 rfl rfl (fun a w hS hK K hC => ?_) ?_
                · refine Reg.step_on (wanted_on (g := 13) rfl rfl rfl (hK.slot 13 _ _ _ rfl (by kernel_rfl))) ?_
                  have e53 := hK.slot 20 _ _ _ rfl (by kernel_rfl)
                  have e55 := hK.slot 22 _ _ _ rfl (by kernel_rfl)
                  clear hK
                  go_simp
                  exact hC _ hS
                refine Reg.from_some 24 rfl rfl (fun a w hS hK K hC => ?_) ?_
                · refine Reg.step_on (wanted_on (g := 10) rfl rfl rfl (hK.slot 10 _ _ _ rfl (by kernel_rfl))) ?_
                  have e46 := hK.slot 13 _ _ _ rfl (by kernel_rfl)
                  have e56 := hK.slot 23 _ _ _ rfl (by kernel_rfl)
                  clear hK
                  go_simp
                  exact hC _ hS
                refine Reg.from_some 25 rfl rfl (fun a w hS hK K hC => ?_) ?_
                · refine Reg.step_on (by rfl) ?_
                  have e43 := hK.slot 10 _ _ _ rfl (by kernel_rfl)
                  have e57 := hK.slot 24 _ _ _ rfl (by kernel_rfl)
                  clear hK
                  go_simp
                  exact hC _ hS
                exact Reg.from_nil
              case r4okv => rfl
              case r4hlt => rfl
              case r4fin =>
                intro wz hS
                simp only [Reg.putV, List.foldl_cons, List.foldl_nil, Act.put, List.setIfInBounds_toArray, List.set_cons_zero, List.set_cons_succ]
                have HB3 := Aside0.mk (below_step HB2.out hS.2.2.2)
                have HX3 := Aside0.mk (keep_below HX2.out hS.2.2.2)
                clear hS
                rcases hL : Op.bytesLess pv.toList s.f0.toList
                · have HL := Aside0.mk hL
                  go_wp2
                  go_ret
                  exact ⟨by rw [right_false hlt (by unfold slotOk; rw [← HS.out, ← HPV.out, HK.out, HP.out, HL.out]; simp; omega)]; rfl, HB3.out⟩
                · have HL := Aside0.mk hL
                  go_wp2
                  go_roundw
                  case rel => exact ⟨k + 1, by omega, by go_num, ⟨by rw [List.range_succ, List.all_append, HA.out]; simp only [List.all_cons, List.all_nil, Bool.and_true, Bool.true_and]; unfold slotOk; rw [← HS.out, ← HPV.out, HK.out, HP.out, HL.out]; simp⟩, HB3.out, HX3.out⟩
                  case measure => simp [intOf]; omega
      · have hkl : k = l.length := by omega
        subst hkl
        clear hlt
        go_wp2
        go_ret
        exact ⟨by unfold rightB; rw [HH.out, HA.out]; rfl, HB.out⟩
  · have hh0 : rightB lv l = false := by unfold rightB; rw [Bool.eq_false_iff.2 hh]; rfl
    have HH0 := Aside0.mk hh0
    have hn : lv < 0 ∨ (0 ≤ lv ∧ 15 < lv) ∨ (0 ≤ lv ∧ lv ≤ 15 ∧ l.length < 1) ∨ (0 ≤ lv ∧ lv ≤ 15 ∧ 1 ≤ l.length ∧ 8 < l.length) := by
      unfold headOk at hh
      simp only [decide_eq_true_eq] at hh
      omega
    clear hh hh0
    rcases hn with h1 | ⟨h1, h2⟩ | ⟨h1, h2, h3⟩ | ⟨h1, h2, h3, h4⟩
    · go_enter Try.func18, Try.ntmps18
      go_wp2
      go_ret
      exact ⟨by rw [HH0.out]; rfl, (Below.refl _ _).alloc (Nat.le_refl _) _⟩
    · go_enter Try.func18, Try.ntmps18
      go_wp2
      go_ret
      exact ⟨by rw [HH0.out]; rfl, (Below.refl _ _).alloc (Nat.le_refl _) _⟩
    · have h3' : (l.length : Int) < 1 := by omega
      go_enter Try.func18, Try.ntmps18
      go_wp2
      go_ret
      exact ⟨by rw [HH0.out]; rfl, (Below.refl _ _).alloc (Nat.le_refl _) _⟩
    · have h3' : (1 : Int) ≤ (l.length : Int) := by omega
      have h4' : (8 : Int) < (l.length : Int) := by omega
      go_enter Try.func18, Try.ntmps18
      go_wp2
      go_ret
      exact ⟨by rw [HH0.out]; rfl, (Below.refl _ _).alloc (Nat.le_refl _) _⟩
end Go.Proofs.Ytpllpagbdmikpaa.PAll

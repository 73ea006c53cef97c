/- What the law ScanOnce rests on, part 13: texts of the session and what the print wrote for it, one behind the other; only what the proof names is kept. -/
import Derived.Test.YtdlimghdimkadaaDoorQ11
import Derived.Test.YtdlimghdimkadaaDoorQ12
import Derived.Test.YtdlimghdimkadaaDoorQ4
import Derived.RangeFuncNested
import Derived.RangeFuncBound
import Derived.RangeFuncCalls
import Derived.RangeFuncLeaves
import Derived.Shelf.Abstract
import Derived.Shelf.RegionOpen
import Derived.WalkKit
import Derived.OwnWalkIn
import Derived.TacticsInMore
import Derived.LoopNIn
import Derived.LoopIn
namespace Go.Proofs.YtdlimghdimkadaaDoor.PAll
open Go.RowKit Go.Proofs.YtdlimghdimkadaaDoorW.PrintWords Go.Proofs.YtdlimghdimkadaaDoorW.PrintLast Go.Proofs.YtdlimghdimkadaaDoorW.PrintMore Go.Proofs.YtdlimghdimkadaaDoor.Plain
set_option linter.unusedSimpArgs false
set_option linter.unusedVariables false
attribute [local go_sem] max2_int min2_int max_two min_two max_three min_three max_four min_four
variable {w0 W : World} {gc : Nat} {a : AC}
abbrev Blk := S49
abbrev bC (x : Blk) : Array Value := #[.int .i64 x.f0, .int .i64 x.f1, .int .i64 x.f2, .int .i64 x.f3, .int .u64 x.f4, .bool x.f5]
def ABytes (a : AC) : Prop := ∀ i j, Bytes ((a.bk i).pg j).d
theorem bytes_rep (n : Nat) (x : Int) (hx : 0 ≤ x ∧ x < 256) : Bytes (List.replicate n x) := fun y hy => by
 rw [List.eq_of_mem_replicate hy]; exact hx
theorem readA_bytes (h : ABytes a) (n p : Int) : Bytes (readA a n p).1 := by
 unfold readA
 split; · exact fun _ h => nomatch h
 split; · exact fun _ h => nomatch h
 split; · exact fun _ h => nomatch h
 split; · exact fun _ h => nomatch h
 split
 ·intro x hx
  rcases List.mem_append.1 hx with hx | hx
  ·exact h _ _ x hx
  ·exact bytes_rep _ 255 (by omega) x hx
 ·exact bytes_rep _ 255 (by omega)
theorem pageA_bytes (h : ABytes a) (n p : Int) : Bytes (pageA a n p).1 := by
 unfold pageA
 split
 ·exact fun _ h => nomatch h
 ·exact readA_bytes h n p
theorem set6 {g t : Nat} {a b c d e f : Value} (h : W.heap[g]? = some (.cells #[a, b, c, d, e, f] t (0, 0))) (u v x y z s : Value) : ((((((W.setCell ⟨g, 0, none⟩ u).setCell ⟨g, 1, none⟩ v).setCell ⟨g, 2, none⟩ x).setCell ⟨g, 3, none⟩ y).setCell ⟨g, 4, none⟩ z).setCell ⟨g, 5, none⟩ s).heap[g]? = some (.cells #[u, v, x, y, z, s] t (0, 0)) :=
 blk_put (blk_put (blk_put (blk_put (blk_put (blk_put h 0 u (cs' := #[u, b, c, d, e, f]) rfl) 1 v (cs' := #[u, v, c, d, e, f]) rfl) 2 x (cs' := #[u, v, x, d, e, f]) rfl) 3 y (cs' := #[u, v, x, y, e, f]) rfl) 4 z (cs' := #[u, v, x, y, z, f]) rfl) 5 s rfl
theorem below_set6 {w1 W1 : World} {g : Nat} (h : Below w1.heap.size w1 W1) (hg : w1.heap.size ≤ g) (u v x y z s : Value) : Below w1.heap.size w1 ((((((W1.setCell ⟨g, 0, none⟩ u).setCell ⟨g, 1, none⟩ v).setCell ⟨g, 2, none⟩ x).setCell ⟨g, 3, none⟩ y).setCell ⟨g, 4, none⟩ z).setCell ⟨g, 5, none⟩ s) :=
 below_set (below_set (below_set (below_set (below_set (below_set h hg) hg) hg) hg) hg) hg
def bst (W : World) (gx gm : Nat) (ct ml ms mp un : Int) (uc : Bool) : Nat → World → Prop := fun k w' => Below W.heap.size W w' ∧ w'.heap[gx]? = some (.cells #[.int .i64 (if 1 ≤ k then 4 else 3), .int .i64 ct, .int .i64 (if 2 ≤ k then ml else 0), .int .i64 (if 4 ≤ k then un else 0), .int .u64 (if 3 ≤ k then ms else 0), .bool (if 5 ≤ k then uc else false)] 49 (0, 0)) ∧ w'.heap[gm]? = some (.cells #[.int .i64 ml, .int .u64 ms, .int .i64 mp] 115 (0, 0)) ∧ w'.heap[W.heap.size]? = some (.cells #[.int .i64 0, .int .i64 0, .int .i64 0, .int .i64 0, .int .u64 0, .bool false] 49 (0, 0))
def mapOK (a : AC) (n : Int) (m : (Int × Int × Int) × Bool) : Bool :=
 m.2 && (decide (m.1.1 < lebsG a.g.B a.g.P a.g.Z a.g.R) && (decide (m.1.2.2 ≤ (a.g.P : Int) - 2) && decide (m.1.2.2 ≤ ((usedA a n (a.g.P - 2) 0).1 : Int))))
def blockA (a : AC) (n : Int) : Blk × Bool :=
 if badA a n = true then (⟨1, 0, 0, 0, 0, false⟩, false)
 else if (pageA a n 0).2 = false then (⟨3, 0, 0, 0, 0, false⟩, false)
 else if (parseCountL (pageA a n 0).1).2 = false then (⟨3, (parseCountL (pageA a n 0).1).1, 0, 0, 0, false⟩, false)
 else if nextA a n = 1 then (⟨2, (parseCountL (pageA a n 0).1).1, 0, 0, 0, false⟩, true)
 else if (pageA a n 1).2 = false then (⟨3, (parseCountL (pageA a n 0).1).1, 0, 0, 0, false⟩, true)
 else if mapOK a n (parseMapL (pageA a n 1).1) = true then
  (⟨4, (parseCountL (pageA a n 0).1).1, (parseMapL (pageA a n 1).1).1.1, (usedA a n (a.g.P - 2) 0).1, (parseMapL (pageA a n 1).1).1.2.1, (usedA a n (a.g.P - 2) 0).2⟩, true)
 else (⟨3, (parseCountL (pageA a n 0).1).1, 0, 0, 0, false⟩, true)
set_option maxRecDepth 100000 in
set_option maxHeartbeats 16000000 in
theorem block_is (h : Chip w0 W gc a) (hby : ABytes a) (aE : Addr) (hgE : gNone W aE) (gk : Nat) (hk : W.heap[gk]? = some (.cells (lkC gc a.g) 92 (0, 0))) (n : Int) :
  Calls Tryd.prog 38 #[kp gk, .int .i64 n] W fun e w' => e = .returned (.tuple #[.agg (bC (blockA a n).1), .bool (blockA a n).2]) ∧ Below W.heap.size W w' := by
 have H := Aside0.mk h
 have HK := Aside0.mk hk
 have HGE := Aside0.mk hgE
 have HBY := Aside0.mk hby
 have hgok := h.gok
 obtain ⟨_, ⟨hP1, hP2⟩, _⟩ := hgok
 have c0 : ∀ w1, Below W.heap.size W w1 → w1.cell? ⟨gk, 0, none⟩ = some (cp gc) := fun w1 hb => Joins.cell_of_block (keep_below HK.out hb) 0
 have HC0 := Aside0.mk c0
 have HBAD := Aside0.mk (fun w1 (hb : Below W.heap.size W w1) => (H.out.grow hb).bad n)
 have HNX := Aside0.mk (fun w1 (hb : Below W.heap.size W w1) => (H.out.grow hb).next n)
 have HPG := Aside0.mk (fun w1 (hb : Below W.heap.size W w1) (p : Int) => page_is (H.out.grow hb) gk (keep_below HK.out hb) n p)
 have HUS := Aside0.mk (fun w1 (hb : Below W.heap.size W w1) => used_is (H.out.grow hb) gk (keep_below HK.out hb) n)
 have HPC := Aside0.mk (fun w1 (hb : Below W.heap.size W w1) A c (l : List Int) (hl : Bytes l) (hr : Kd.C kB w1 A l.length l) (hc : l.length ≤ c) => parseCount_is A c l aE w1 hl hr hc (cell_below HGE.out hb))
 have HPM := Aside0.mk (fun w1 (hb : Below W.heap.size W w1) A c (l : List Int) (hl : Bytes l) (hr : Kd.C kB w1 A l.length l) (hc : l.length ≤ c) => parseMap_is A c l aE w1 hl hr hc (cell_below HGE.out hb))
 have HBA := Aside0.mk (show blockA a n = _ by unfold blockA; exact rfl)
 have hu49 := Tryd.underlying49
 clear h hby hgE hk c0
 go_enter Tryd.func38, Tryd.ntmps38
 go_upto_region 1 with (fail)
 generalize hW : W.alloc (.cells #[.int .i64 0, .int .i64 0, .int .i64 0, .int .i64 0, .int .u64 0, .bool false] 49) = W1
 have HB1 := Aside0.mk (show Below W.heap.size W W1 by rw [← hW]; exact below_alloc (Below.refl _ _) _)
 have HR1 := Aside0.mk (show W1.heap[W.heap.size]? = some (.cells #[.int .i64 0, .int .i64 0, .int .i64 0, .int .i64 0, .int .u64 0, .bool false] 49 (0, 0)) by rw [← hW]; exact new_blk _ _ _)
 clear hW
 have y0 := HC0.out _ HB1.out
 have HCB := Aside0.mk (HBAD.out _ HB1.out)
 cases hbad : badA a n with
 | true =>
  have HE := Aside0.mk (HBA.out.trans (if_pos hbad))
  rw [hbad] at HCB
  clear hbad
  go_upto_region 2 with (first
   | (go_at_call 23; (with_reducible refine HCB.out.mono ?_); rintro e w2 ⟨rfl, hb2⟩; have HB2 := Aside0.mk (below_step HB1.out hb2); have HR2 := Aside0.mk (keep_below HR1.out hb2); clear hb2))
  have fr0 := blk_frozen HR2.out 0
  have fr1 := blk_frozen HR2.out 1
  have fr2 := blk_frozen HR2.out 2
  have fr3 := blk_frozen HR2.out 3
  have fr4 := blk_frozen HR2.out 4
  have fr5 := blk_frozen HR2.out 5
  have yr0 := Joins.cell_of_block HR2.out 0
  have yr1 := Joins.cell_of_block HR2.out 1
  have yr2 := Joins.cell_of_block HR2.out 2
  have yr3 := Joins.cell_of_block HR2.out 3
  have yr4 := Joins.cell_of_block HR2.out 4
  have yr5 := Joins.cell_of_block HR2.out 5
  go_wp2
  refine bodyPost_ret (results_ct rfl _ _ W.heap.size 49 #[.int .i64 1, .int .i64 0, .int .i64 0, .int .i64 0, .int .u64 0, .bool false] (0, 0) _ rfl (set6 HR2.out _ _ _ _ _ _) Tryd.underlying49 rfl (by kernel_rfl)) rfl ?_
  rw [HE.out]
  exact ⟨rfl, below_set6 HB2.out (Nat.le_refl _) _ _ _ _ _ _⟩
 | false =>
  have HBA2 := Aside0.mk (HBA.out.trans (if_neg (by rw [hbad]; decide)))
  rw [hbad] at HCB
  clear hbad HBA
  go_upto_region 3 with (first
   | (go_at_call 23; (with_reducible refine HCB.out.mono ?_); rintro e w2 ⟨rfl, hb2⟩; have HB2 := Aside0.mk (below_step HB1.out hb2); have HR2 := Aside0.mk (keep_below HR1.out hb2); clear hb2))
  go_upto_region 4 with (fail)
  generalize hW : w2.alloc (.cells #[.int .i64 3, .int .i64 0, .int .i64 0, .int .i64 0, .int .u64 0, .bool false] 49) = W3
  have hb3 : Below w2.heap.size w2 W3 := by rw [← hW]; exact below_alloc (Below.refl _ _) _
  have HX3 := Aside0.mk (show W3.heap[w2.heap.size]? = some (.cells #[.int .i64 3, .int .i64 0, .int .i64 0, .int .i64 0, .int .u64 0, .bool false] 49 (0, 0)) by rw [← hW]; exact new_blk _ _ _)
  obtain ⟨gx, hgx⟩ : ∃ gx, gx = w2.heap.size := ⟨_, rfl⟩
  have HGX := Aside0.mk (show W.heap.size ≤ gx ∧ gx ≠ W.heap.size by
   have h1 := below_size HB2.out
   have h2 := blk_lt HR2.out
   omega)
  rw [← hgx] at HX3 ⊢
  have HB3 := Aside0.mk (below_step HB2.out hb3)
  have HR3 := Aside0.mk (keep_below HR2.out hb3)
  clear hW hb3 hgx y0
  have HP0 := Aside0.mk (HPG.out _ HB3.out 0)
  have HL0 := Aside0.mk (pageA_bytes HBY.out n 0)
  generalize pageA a n 0 = p0 at HP0 HL0 HBA2
  obtain ⟨l0, i0⟩ := p0
  simp only at HP0 HL0 HBA2
  cases i0 with
  | false =>
   have HE := Aside0.mk (HBA2.out.trans (if_pos rfl))
   go_upto_region 6 with (first
    | (go_at_call 56; (with_reducible refine HP0.out.mono ?_); rintro e w4 ⟨v4, rfl, -, hb4⟩; have HB4 := Aside0.mk (below_step HB3.out hb4); have HR4 := Aside0.mk (keep_below HR3.out hb4); have HX4 := Aside0.mk (keep_below HX3.out hb4); clear hb4))
   have x0 := Joins.cell_of_block HX4.out 0
   have x1 := Joins.cell_of_block HX4.out 1
   have x2 := Joins.cell_of_block HX4.out 2
   have x3 := Joins.cell_of_block HX4.out 3
   have x4 := Joins.cell_of_block HX4.out 4
   have x5 := Joins.cell_of_block HX4.out 5
   have fr0 := blk_frozen HR4.out 0
   have fr1 := blk_frozen HR4.out 1
   have fr2 := blk_frozen HR4.out 2
   have fr3 := blk_frozen HR4.out 3
   have fr4 := blk_frozen HR4.out 4
   have fr5 := blk_frozen HR4.out 5
   have yr0 := Joins.cell_of_block HR4.out 0
   have yr1 := Joins.cell_of_block HR4.out 1
   have yr2 := Joins.cell_of_block HR4.out 2
   have yr3 := Joins.cell_of_block HR4.out 3
   have yr4 := Joins.cell_of_block HR4.out 4
   have yr5 := Joins.cell_of_block HR4.out 5
   go_wp2
   refine bodyPost_ret (results_ct rfl _ _ W.heap.size 49 #[.int .i64 3, .int .i64 0, .int .i64 0, .int .i64 0, .int .u64 0, .bool false] (0, 0) _ rfl (set6 HR4.out _ _ _ _ _ _) Tryd.underlying49 rfl (by kernel_rfl)) rfl ?_
   rw [HE.out]
   exact ⟨rfl, below_set6 HB4.out (Nat.le_refl _) _ _ _ _ _ _⟩
  | true =>
   have HBA3 := Aside0.mk (HBA2.out.trans (if_neg (by decide)))
   clear HBA2
   go_upto_region 7 with (first
    | (go_at_call 56; (with_reducible refine HP0.out.mono ?_); rintro e w4 ⟨v4, rfl, ho4, hb4⟩; have HO4 := Aside0.mk ho4; have HB4 := Aside0.mk (below_step HB3.out hb4); have HR4 := Aside0.mk (keep_below HR3.out hb4); have HX4 := Aside0.mk (keep_below HX3.out hb4); clear ho4 hb4))
   obtain ⟨A4, c4, e4⟩ := Kd.R_slice HO4.out
   rw [e4] at HO4
   subst e4
   have hrd4 := Kd.R_reads' HO4.out
   have HC4 := Aside0.mk (HPC.out _ HB4.out A4 c4 l0 HL0.out hrd4.2.2 hrd4.2.1)
   clear hrd4
   have x1 := Joins.cell_of_block HX4.out 1
   have f1 := blk_frozen HX4.out 1
   generalize parseCountL l0 = pc at HC4 HBA3
   obtain ⟨ct, ic⟩ := pc
   simp only at HC4 HBA3
   go_upto_region 8 with (first
    | (go_at_call 57; (with_reducible refine HC4.out.mono ?_); rintro e w5 ⟨rfl, hb5⟩; have HB5 := Aside0.mk (below_step HB4.out hb5); have HR5 := Aside0.mk (keep_below HR4.out hb5); have hx5 := keep_below HX4.out hb5; have HX5 := Aside0.mk hx5; have z1 := Joins.cell_of_block hx5 1; have f51 := blk_frozen hx5 1; clear hb5 hx5))
   generalize hW : w5.setCell ⟨gx, 1, none⟩ (.int .i64 ct) = W6
   have HB6 := Aside0.mk (show Below W.heap.size W W6 by rw [← hW]; exact below_set HB5.out HGX.out.1)
   have HR6 := Aside0.mk (show W6.heap[W.heap.size]? = some (.cells #[.int .i64 0, .int .i64 0, .int .i64 0, .int .i64 0, .int .u64 0, .bool false] 49 (0, 0)) by rw [← hW]; exact blk_far HR5.out HGX.out.2.symm _)
   have HX6 := Aside0.mk (show W6.heap[gx]? = some (.cells #[.int .i64 3, .int .i64 ct, .int .i64 0, .int .i64 0, .int .u64 0, .bool false] 49 (0, 0)) by rw [← hW]; exact blk_put HX5.out 1 _ rfl)
   clear hW x1 f1 z1 f51
   cases ic with
   | false =>
    have HE := Aside0.mk (HBA3.out.trans (if_pos rfl))
    have x0 := Joins.cell_of_block HX6.out 0
    have x1 := Joins.cell_of_block HX6.out 1
    have x2 := Joins.cell_of_block HX6.out 2
    have x3 := Joins.cell_of_block HX6.out 3
    have x4 := Joins.cell_of_block HX6.out 4
    have x5 := Joins.cell_of_block HX6.out 5
    have fr0 := blk_frozen HR6.out 0
    have fr1 := blk_frozen HR6.out 1
    have fr2 := blk_frozen HR6.out 2
    have fr3 := blk_frozen HR6.out 3
    have fr4 := blk_frozen HR6.out 4
    have fr5 := blk_frozen HR6.out 5
    have yr0 := Joins.cell_of_block HR6.out 0
    have yr1 := Joins.cell_of_block HR6.out 1
    have yr2 := Joins.cell_of_block HR6.out 2
    have yr3 := Joins.cell_of_block HR6.out 3
    have yr4 := Joins.cell_of_block HR6.out 4
    have yr5 := Joins.cell_of_block HR6.out 5
    go_wp2
    refine bodyPost_ret (results_ct rfl _ _ W.heap.size 49 #[.int .i64 3, .int .i64 ct, .int .i64 0, .int .i64 0, .int .u64 0, .bool false] (0, 0) _ rfl (set6 HR6.out _ _ _ _ _ _) Tryd.underlying49 rfl (by kernel_rfl)) rfl ?_
    rw [HE.out]
    exact ⟨rfl, below_set6 HB6.out (Nat.le_refl _) _ _ _ _ _ _⟩
   | true =>
    have HBA4 := Aside0.mk (HBA3.out.trans (if_neg (by decide)))
    clear HBA3
    have y6 := HC0.out _ HB6.out
    have HCN := Aside0.mk (HNX.out _ HB6.out)
    by_cases hn1 : nextA a n = 1
    ·have HE := Aside0.mk (HBA4.out.trans (if_pos hn1))
     rw [hn1] at HCN
     clear hn1
     go_upto_region 11 with (first
      | (go_at_call 24; (with_reducible refine HCN.out.mono ?_); rintro e w7 ⟨rfl, hb7⟩; have HB7 := Aside0.mk (below_step HB6.out hb7); have HR7 := Aside0.mk (keep_below HR6.out hb7); have HX7 := Aside0.mk (keep_below HX6.out hb7); clear hb7))
     have x0 := Joins.cell_of_block HX7.out 0
     have f0 := blk_frozen HX7.out 0
     go_upto_region 12 with (fail)
     generalize hW : w7.setCell ⟨gx, 0, none⟩ (.int .i64 2) = W8
     have HB8 := Aside0.mk (show Below W.heap.size W W8 by rw [← hW]; exact below_set HB7.out HGX.out.1)
     have HR8 := Aside0.mk (show W8.heap[W.heap.size]? = some (.cells #[.int .i64 0, .int .i64 0, .int .i64 0, .int .i64 0, .int .u64 0, .bool false] 49 (0, 0)) by rw [← hW]; exact blk_far HR7.out HGX.out.2.symm _)
     have HX8 := Aside0.mk (show W8.heap[gx]? = some (.cells #[.int .i64 2, .int .i64 ct, .int .i64 0, .int .i64 0, .int .u64 0, .bool false] 49 (0, 0)) by rw [← hW]; exact blk_put HX7.out 0 _ rfl)
     clear hW x0 f0
     have x0 := Joins.cell_of_block HX8.out 0
     have x1 := Joins.cell_of_block HX8.out 1
     have x2 := Joins.cell_of_block HX8.out 2
     have x3 := Joins.cell_of_block HX8.out 3
     have x4 := Joins.cell_of_block HX8.out 4
     have x5 := Joins.cell_of_block HX8.out 5
     have fr0 := blk_frozen HR8.out 0
     have fr1 := blk_frozen HR8.out 1
     have fr2 := blk_frozen HR8.out 2
     have fr3 := blk_frozen HR8.out 3
     have fr4 := blk_frozen HR8.out 4
     have fr5 := blk_frozen HR8.out 5
     have yr0 := Joins.cell_of_block HR8.out 0
     have yr1 := Joins.cell_of_block HR8.out 1
     have yr2 := Joins.cell_of_block HR8.out 2
     have yr3 := Joins.cell_of_block HR8.out 3
     have yr4 := Joins.cell_of_block HR8.out 4
     have yr5 := Joins.cell_of_block HR8.out 5
     go_wp2
     refine bodyPost_ret (results_ct rfl _ _ W.heap.size 49 #[.int .i64 2, .int .i64 ct, .int .i64 0, .int .i64 0, .int .u64 0, .bool false] (0, 0) _ rfl (set6 HR8.out _ _ _ _ _ _) Tryd.underlying49 rfl (by kernel_rfl)) rfl ?_
     rw [HE.out]
     exact ⟨rfl, below_set6 HB8.out (Nat.le_refl _) _ _ _ _ _ _⟩
    ·have HBA5 := Aside0.mk (HBA4.out.trans (if_neg hn1))
     have en1 : (nextA a n == (1 : Int)) = false := by simp only [beq_eq_false_iff_ne]; exact hn1
     clear hn1 HBA4
     go_upto_region 13 with (first
      | (go_at_call 24; (with_reducible refine HCN.out.mono ?_); rintro e w7 ⟨rfl, hb7⟩; have HB7 := Aside0.mk (below_step HB6.out hb7); have HR7 := Aside0.mk (keep_below HR6.out hb7); have HX7 := Aside0.mk (keep_below HX6.out hb7); clear hb7))
     have HP1 := Aside0.mk (HPG.out _ HB7.out 1)
     have HL1 := Aside0.mk (pageA_bytes HBY.out n 1)
     generalize pageA a n 1 = p1 at HP1 HL1 HBA5
     obtain ⟨l1, i1⟩ := p1
     simp only at HP1 HL1 HBA5
     cases i1 with
     | false =>
      have HE := Aside0.mk (HBA5.out.trans (if_pos rfl))
      go_upto_region 15 with (first
       | (go_at_call 56; (with_reducible refine HP1.out.mono ?_); rintro e w8 ⟨v8, rfl, -, hb8⟩; have HB8 := Aside0.mk (below_step HB7.out hb8); have HR8 := Aside0.mk (keep_below HR7.out hb8); have HX8 := Aside0.mk (keep_below HX7.out hb8); clear hb8))
      have x0 := Joins.cell_of_block HX8.out 0
      have x1 := Joins.cell_of_block HX8.out 1
      have x2 := Joins.cell_of_block HX8.out 2
      have x3 := Joins.cell_of_block HX8.out 3
      have x4 := Joins.cell_of_block HX8.out 4
      have x5 := Joins.cell_of_block HX8.out 5
      have fr0 := blk_frozen HR8.out 0
      have fr1 := blk_frozen HR8.out 1
      have fr2 := blk_frozen HR8.out 2
      have fr3 := blk_frozen HR8.out 3
      have fr4 := blk_frozen HR8.out 4
      have fr5 := blk_frozen HR8.out 5
      have yr0 := Joins.cell_of_block HR8.out 0
      have yr1 := Joins.cell_of_block HR8.out 1
      have yr2 := Joins.cell_of_block HR8.out 2
      have yr3 := Joins.cell_of_block HR8.out 3
      have yr4 := Joins.cell_of_block HR8.out 4
      have yr5 := Joins.cell_of_block HR8.out 5
      go_wp2
      refine bodyPost_ret (results_ct rfl _ _ W.heap.size 49 #[.int .i64 3, .int .i64 ct, .int .i64 0, .int .i64 0, .int .u64 0, .bool false] (0, 0) _ rfl (set6 HR8.out _ _ _ _ _ _) Tryd.underlying49 rfl (by kernel_rfl)) rfl ?_
      rw [HE.out]
      exact ⟨rfl, below_set6 HB8.out (Nat.le_refl _) _ _ _ _ _ _⟩
     | true =>
      have HBA6 := Aside0.mk (HBA5.out.trans (if_neg (by decide)))
      clear HBA5
      go_upto_region 16 with (first
       | (go_at_call 56; (with_reducible refine HP1.out.mono ?_); rintro e w8 ⟨v8, rfl, ho8, hb8⟩; have HO8 := Aside0.mk ho8; have HB8 := Aside0.mk (below_step HB7.out hb8); have HR8 := Aside0.mk (keep_below HR7.out hb8); have HX8 := Aside0.mk (keep_below HX7.out hb8); clear ho8 hb8))
      obtain ⟨A8, c8, e8⟩ := Kd.R_slice HO8.out
      rw [e8] at HO8
      subst e8
      have hrd8 := Kd.R_reads' HO8.out
      have HC8 := Aside0.mk (HPM.out _ HB8.out A8 c8 l1 HL1.out hrd8.2.2 hrd8.2.1)
      clear hrd8
      generalize parseMapL l1 = pm at HC8 HBA6
      obtain ⟨⟨ml, ms, mp⟩, im⟩ := pm
      simp only at HC8 HBA6
      go_upto_region 17 with (first
       | (go_at_call 58; (with_reducible refine HC8.out.mono ?_); rintro e w9 ⟨rfl, hb9⟩; have HB9 := Aside0.mk (below_step HB8.out hb9); have HR9 := Aside0.mk (keep_below HR8.out hb9); have HX9 := Aside0.mk (keep_below HX8.out hb9); clear hb9))
      generalize hW : (w9.alloc (.cells #[.int .i64 ml, .int .u64 ms, .int .i64 mp] 115)) = W10
      have hb10 : Below w9.heap.size w9 W10 := by rw [← hW]; exact below_alloc (Below.refl _ _) _
      have HM10 := Aside0.mk (show W10.heap[w9.heap.size]? = some (.cells #[.int .i64 ml, .int .u64 ms, .int .i64 mp] 115 (0, 0)) by rw [← hW]; exact new_blk _ _ _)
      obtain ⟨gm, hgm⟩ : ∃ gm, gm = w9.heap.size := ⟨_, rfl⟩
      have HGM := Aside0.mk (show gm ≠ gx ∧ gm ≠ W.heap.size by
       have h1 := blk_lt HX9.out
       have h2 := blk_lt HR9.out
       omega)
      rw [← hgm] at HM10 ⊢
      have HB10 := Aside0.mk (below_step HB9.out hb10)
      have HR10 := Aside0.mk (keep_below HR9.out hb10)
      have HX10 := Aside0.mk (keep_below HX9.out hb10)
      have HU10 := Aside0.mk (HUS.out _ HB10.out)
      clear hW hb10 hgm
      unfold mapOK at HBA6
      generalize usedA a n (a.g.P - 2) 0 = us at HU10 HBA6
      obtain ⟨un, uc⟩ := us
      simp only at HU10 HBA6
      have HLEB := Aside0.mk (fun w1 => lebs_is a.g.B a.g.P a.g.Z a.g.R w1)
      have hwP : IntKind.i64.wrap ((a.g.P : Int) - 2) = (a.g.P : Int) - 2 := by rw [i64_w]; unfold wrap64; omega
      go_upto_region 18 with (first
       | (go_at_call 59; (with_reducible refine HU10.out.mono ?_); rintro e w11 ⟨rfl, hb11⟩; have HB11 := Aside0.mk (below_step HB10.out hb11); have HR11 := Aside0.mk (keep_below HR10.out hb11); have HX11 := Aside0.mk (keep_below HX10.out hb11); have HM11 := Aside0.mk (keep_below HM10.out hb11); clear hb11))
      have HK11 := Aside0.mk (keep_below HK.out HB11.out)
      generalize lebsG a.g.B a.g.P a.g.Z a.g.R = lb at HLEB HBA6
      cases im with
      | false =>
       have HE := Aside0.mk (HBA6.out.trans (if_neg (by simp)))
       refine Reg.det [(0, 68, ?r1v0), (1, 69, ?r1v1), (2, 70, undef), (3, 71, undef), (4, 72, undef), (5, 73, undef), (6, 74, undef), (7, 75, undef), (8, 76, undef), (9, 77, undef), (10, 78, ?r1v10), (11, 79, ?r1v11), (12, 80, undef), (13, 81, undef), (14, 82, undef), (15, 83, undef), (16, 84, undef), (17, 85, undef), (18, 86, undef), (19, 87, undef), (20, 88, undef), (21, 89, ?r1v21), (22, 90, ?r1v22), (23, 91, undef), (24, 92, undef), (25, 93, undef), (26, 94, undef), (27, 95, ?r1v27)] (fun w' => Below w11.heap.size w11 w') (by rfl) rfl (by kernel_rfl) ?r1S ?r1steps ?r1okv ?r1hlt ?r1fin
       case r1S => exact below_drew (Below.refl _ _)
       case r1steps =>
        refine Reg.from_some 0 rfl rfl (fun a w hS hK K hC => ?_) ?_
        ·refine Reg.step_on (by rfl) ?_
         have e8 := hK.off 8 _ rfl rfl
         clear hK
         go_simp
         exact hC _ hS
        refine Reg.from_some 1 rfl rfl (fun a w hS hK K hC => ?_) ?_
        ·refine Reg.step_on (by rfl) ?_
         have e68 := hK.slot 0 _ _ _ rfl (by kernel_rfl)
         clear hK
         go_simp
         exact hC _ hS
        refine Reg.from_some 2 rfl rfl (fun a w hS hK K hC => ?_) ?_
        ·refine Reg.step_off (wanted_off (g := 1) rfl rfl rfl (hK.slot 1 _ _ _ rfl (by kernel_rfl))) ?_
         exact hC _ hS
        refine Reg.from_some 3 rfl rfl (fun a w hS hK K hC => ?_) ?_
        ·refine Reg.step_off (wanted_off (g := 1) rfl rfl rfl (hK.slot 1 _ _ _ rfl (by kernel_rfl))) ?_
         exact hC _ hS
        refine Reg.from_some 4 rfl rfl (fun a w hS hK K hC => ?_) ?_
        ·refine Reg.step_off (wanted_off (g := 1) rfl rfl rfl (hK.slot 1 _ _ _ rfl (by kernel_rfl))) ?_
         exact hC _ hS
        refine Reg.from_some 5 rfl rfl (fun a w hS hK K hC => ?_) ?_
        ·refine Reg.step_off (wanted_off (g := 1) rfl rfl rfl (hK.slot 1 _ _ _ rfl (by kernel_rfl))) ?_
         exact hC _ hS
        refine Reg.from_some 6 rfl rfl (fun a w hS hK K hC => ?_) ?_
        ·refine Reg.step_off (wanted_off (g := 1) rfl rfl rfl (hK.slot 1 _ _ _ rfl (by kernel_rfl))) ?_
         exact hC _ hS
        refine Reg.from_some 7 rfl rfl (fun a w hS hK K hC => ?_) ?_
        ·refine Reg.step_off (wanted_off (g := 1) rfl rfl rfl (hK.slot 1 _ _ _ rfl (by kernel_rfl))) ?_
         exact hC _ hS
        refine Reg.from_some 8 rfl rfl (fun a w hS hK K hC => ?_) ?_
        ·refine Reg.step_off (wanted_off (g := 1) rfl rfl rfl (hK.slot 1 _ _ _ rfl (by kernel_rfl))) ?_
         exact hC _ hS
        refine Reg.from_some 9 rfl rfl (fun a w hS hK K hC => ?_) ?_
        ·refine Reg.step_off (wanted_off (g := 1) rfl rfl rfl (hK.slot 1 _ _ _ rfl (by kernel_rfl))) ?_
         exact hC _ hS
        refine Reg.from_some 10 rfl rfl (fun a w hS hK K hC => ?_) ?_
        ·refine Reg.step_on (by rfl) ?_
         have e69 := hK.slot 1 _ _ _ rfl (by kernel_rfl)
         have e77 := hK.slot 9 _ _ _ rfl (by kernel_rfl)
         clear hK
         go_simp
         exact hC _ hS
        refine Reg.from_some 11 rfl rfl (fun a w hS hK K hC => ?_) ?_
        ·refine Reg.step_on (by rfl) ?_
         have e78 := hK.slot 10 _ _ _ rfl (by kernel_rfl)
         clear hK
         go_simp
         exact hC _ hS
        refine Reg.from_some 12 rfl rfl (fun a w hS hK K hC => ?_) ?_
        ·refine Reg.step_off (wanted_off (g := 11) rfl rfl rfl (hK.slot 11 _ _ _ rfl (by kernel_rfl))) ?_
         exact hC _ hS
        refine Reg.from_some 13 rfl rfl (fun a w hS hK K hC => ?_) ?_
        ·refine Reg.step_off (wanted_off (g := 11) rfl rfl rfl (hK.slot 11 _ _ _ rfl (by kernel_rfl))) ?_
         exact hC _ hS
        refine Reg.from_some 14 rfl rfl (fun a w hS hK K hC => ?_) ?_
        ·refine Reg.step_off (wanted_off (g := 11) rfl rfl rfl (hK.slot 11 _ _ _ rfl (by kernel_rfl))) ?_
         exact hC _ hS
        refine Reg.from_some 15 rfl rfl (fun a w hS hK K hC => ?_) ?_
        ·refine Reg.step_off (wanted_off (g := 11) rfl rfl rfl (hK.slot 11 _ _ _ rfl (by kernel_rfl))) ?_
         exact hC _ hS
        refine Reg.from_some 16 rfl rfl (fun a w hS hK K hC => ?_) ?_
        ·refine Reg.step_off (wanted_off (g := 11) rfl rfl rfl (hK.slot 11 _ _ _ rfl (by kernel_rfl))) ?_
         exact hC _ hS
        refine Reg.from_some 17 rfl rfl (fun a w hS hK K hC => ?_) ?_
        ·refine Reg.step_off (wanted_off (g := 11) rfl rfl rfl (hK.slot 11 _ _ _ rfl (by kernel_rfl))) ?_
         exact hC _ hS
        refine Reg.from_some 18 rfl rfl (fun a w hS hK K hC => ?_) ?_
        ·refine Reg.step_off (wanted_off (g := 11) rfl rfl rfl (hK.slot 11 _ _ _ rfl (by kernel_rfl))) ?_
         exact hC _ hS
        refine Reg.from_some 19 rfl rfl (fun a w hS hK K hC => ?_) ?_
        ·refine Reg.step_off (wanted_off (g := 11) rfl rfl rfl (hK.slot 11 _ _ _ rfl (by kernel_rfl))) ?_
         exact hC _ hS
        refine Reg.from_some 20 rfl rfl (fun a w hS hK K hC => ?_) ?_
        ·refine Reg.step_off (wanted_off (g := 11) rfl rfl rfl (hK.slot 11 _ _ _ rfl (by kernel_rfl))) ?_
         exact hC _ hS
        refine Reg.from_some 21 rfl rfl (fun a w hS hK K hC => ?_) ?_
        ·refine Reg.step_on (by rfl) ?_
         have e79 := hK.slot 11 _ _ _ rfl (by kernel_rfl)
         have e88 := hK.slot 20 _ _ _ rfl (by kernel_rfl)
         clear hK
         go_simp
         exact hC _ hS
        refine Reg.from_some 22 rfl rfl (fun a w hS hK K hC => ?_) ?_
        ·refine Reg.step_on (by rfl) ?_
         have e89 := hK.slot 21 _ _ _ rfl (by kernel_rfl)
         clear hK
         go_simp
         exact hC _ hS
        refine Reg.from_some 23 rfl rfl (fun a w hS hK K hC => ?_) ?_
        ·refine Reg.step_off (wanted_off (g := 22) rfl rfl rfl (hK.slot 22 _ _ _ rfl (by kernel_rfl))) ?_
         exact hC _ hS
        refine Reg.from_some 24 rfl rfl (fun a w hS hK K hC => ?_) ?_
        ·refine Reg.step_off (wanted_off (g := 22) rfl rfl rfl (hK.slot 22 _ _ _ rfl (by kernel_rfl))) ?_
         exact hC _ hS
        refine Reg.from_some 25 rfl rfl (fun a w hS hK K hC => ?_) ?_
        ·refine Reg.step_off (wanted_off (g := 22) rfl rfl rfl (hK.slot 22 _ _ _ rfl (by kernel_rfl))) ?_
         exact hC _ hS
        refine Reg.from_some 26 rfl rfl (fun a w hS hK K hC => ?_) ?_
        ·refine Reg.step_off (wanted_off (g := 22) rfl rfl rfl (hK.slot 22 _ _ _ rfl (by kernel_rfl))) ?_
         exact hC _ hS
        refine Reg.from_some 27 rfl rfl (fun a w hS hK K hC => ?_) ?_
        ·refine Reg.step_on (by rfl) ?_
         have e90 := hK.slot 22 _ _ _ rfl (by kernel_rfl)
         have e94 := hK.slot 26 _ _ _ rfl (by kernel_rfl)
         clear hK
         go_simp
         exact hC _ hS
        exact Reg.from_nil
       case r1okv => rfl
       case r1hlt => rfl
       case r1fin =>
        intro wz hS
        simp only [Reg.putV, List.foldl_cons, List.foldl_nil, Act.put, List.setIfInBounds_toArray, List.set_cons_zero, List.set_cons_succ]
        have HBz := Aside0.mk (below_step HB11.out hS)
        have HRz := Aside0.mk (keep_below HR11.out hS)
        have HXz := Aside0.mk (keep_below HX11.out hS)
        have HMz := Aside0.mk (keep_below HM11.out hS)
        clear hS
        have x0 := Joins.cell_of_block HXz.out 0
        have x1 := Joins.cell_of_block HXz.out 1
        have x2 := Joins.cell_of_block HXz.out 2
        have x3 := Joins.cell_of_block HXz.out 3
        have x4 := Joins.cell_of_block HXz.out 4
        have x5 := Joins.cell_of_block HXz.out 5
        have fr0 := blk_frozen HRz.out 0
        have fr1 := blk_frozen HRz.out 1
        have fr2 := blk_frozen HRz.out 2
        have fr3 := blk_frozen HRz.out 3
        have fr4 := blk_frozen HRz.out 4
        have fr5 := blk_frozen HRz.out 5
        have yr0 := Joins.cell_of_block HRz.out 0
        have yr1 := Joins.cell_of_block HRz.out 1
        have yr2 := Joins.cell_of_block HRz.out 2
        have yr3 := Joins.cell_of_block HRz.out 3
        have yr4 := Joins.cell_of_block HRz.out 4
        have yr5 := Joins.cell_of_block HRz.out 5
        go_wp2
        refine bodyPost_ret (results_ct rfl _ _ W.heap.size 49 #[.int .i64 3, .int .i64 ct, .int .i64 0, .int .i64 0, .int .u64 0, .bool false] (0, 0) _ rfl (set6 HRz.out _ _ _ _ _ _) Tryd.underlying49 rfl (by kernel_rfl)) rfl ?_
        rw [HE.out]
        exact ⟨rfl, below_set6 HBz.out (Nat.le_refl _) _ _ _ _ _ _⟩
      | true =>
       cases q1 : decide (ml < lb) with
       | false =>
        have HE := Aside0.mk (HBA6.out.trans (if_neg (by rw [q1]; simp)))
        refine Reg.det [(0, 68, ?r2v0), (1, 69, ?r2v1), (2, 70, ?r2v2), (3, 71, ?r2v3), (4, 72, ?r2v4), (5, 73, ?r2v5), (6, 74, ?r2v6), (7, 75, ?r2v7), (8, 76, ?r2v8), (9, 77, ?r2v9), (10, 78, ?r2v10), (11, 79, ?r2v11), (12, 80, undef), (13, 81, undef), (14, 82, undef), (15, 83, undef), (16, 84, undef), (17, 85, undef), (18, 86, undef), (19, 87, undef), (20, 88, undef), (21, 89, ?r2v21), (22, 90, ?r2v22), (23, 91, undef), (24, 92, undef), (25, 93, undef), (26, 94, undef), (27, 95, ?r2v27)] (fun w' => Below w11.heap.size w11 w') (by rfl) rfl (by kernel_rfl) ?r2S ?r2steps ?r2okv ?r2hlt ?r2fin
        case r2S => exact below_drew (Below.refl _ _)
        case r2steps =>
         refine Reg.from_some 0 rfl rfl (fun a w hS hK K hC => ?_) ?_
         ·refine Reg.step_on (by rfl) ?_
          have e8 := hK.off 8 _ rfl rfl
          clear hK
          go_simp
          exact hC _ hS
         refine Reg.from_some 1 rfl rfl (fun a w hS hK K hC => ?_) ?_
         ·refine Reg.step_on (by rfl) ?_
          have e68 := hK.slot 0 _ _ _ rfl (by kernel_rfl)
          clear hK
          go_simp
          exact hC _ hS
         refine Reg.from_some 2 rfl rfl (fun a w hS hK K hC => ?_) ?_
         ·refine Reg.step_on (wanted_on (g := 1) rfl rfl rfl (hK.slot 1 _ _ _ rfl (by kernel_rfl))) ?_
          have e10 := hK.off 10 _ rfl rfl
          clear hK
          go_simp
          exact hC _ hS
         refine Reg.from_some 3 rfl rfl (fun a w hS hK K hC => ?_) ?_
         ·refine Reg.step_on (wanted_on (g := 1) rfl rfl rfl (hK.slot 1 _ _ _ rfl (by kernel_rfl))) ?_
          have e70 := hK.slot 2 _ _ _ rfl (by kernel_rfl)
          have m0 := Joins.cell_of_block (keep_below HM11.out hS) 0
          have m2 := Joins.cell_of_block (keep_below HM11.out hS) 2
          have k1 := Joins.cell_of_block (keep_below HK11.out hS) 1
          have k2 := Joins.cell_of_block (keep_below HK11.out hS) 2
          have k3 := Joins.cell_of_block (keep_below HK11.out hS) 3
          have k4 := Joins.cell_of_block (keep_below HK11.out hS) 4
          clear hK
          go_simp
          exact hC _ hS
         refine Reg.from_some 4 rfl rfl (fun a w hS hK K hC => ?_) ?_
         ·refine Reg.step_on (wanted_on (g := 1) rfl rfl rfl (hK.slot 1 _ _ _ rfl (by kernel_rfl))) ?_
          have e0 := hK.off 0 _ rfl rfl
          clear hK
          go_simp
          exact hC _ hS
         refine Reg.from_some 5 rfl rfl (fun a w hS hK K hC => ?_) ?_
         ·refine Reg.step_on (wanted_on (g := 1) rfl rfl rfl (hK.slot 1 _ _ _ rfl (by kernel_rfl))) ?_
          have e72 := hK.slot 4 _ _ _ rfl (by kernel_rfl)
          clear hK
          go_simp
          exact hC _ hS
         refine Reg.from_some 6 rfl rfl (fun a w hS hK K hC => ?_) ?_
         ·refine Reg.step_on (wanted_on (g := 1) rfl rfl rfl (hK.slot 1 _ _ _ rfl (by kernel_rfl))) ?_
          have e73 := hK.slot 5 _ _ _ rfl (by kernel_rfl)
          clear hK
          go_simp
          exact hC _ hS
         refine Reg.from_some 7 rfl rfl (fun a w hS hK K hC => ?_) ?_
         ·refine Reg.step_on (wanted_on (g := 1) rfl rfl rfl (hK.slot 1 _ _ _ rfl (by kernel_rfl))) ?_
          have e74 := hK.slot 6 _ _ _ rfl (by kernel_rfl)
          have m0 := Joins.cell_of_block (keep_below HM11.out hS) 0
          have m2 := Joins.cell_of_block (keep_below HM11.out hS) 2
          have k1 := Joins.cell_of_block (keep_below HK11.out hS) 1
          have k2 := Joins.cell_of_block (keep_below HK11.out hS) 2
          have k3 := Joins.cell_of_block (keep_below HK11.out hS) 3
          have k4 := Joins.cell_of_block (keep_below HK11.out hS) 4
          clear hK
          go_simp
          exact hC _ hS
         refine Reg.from_some 8 rfl rfl (fun a w hS hK K hC => ?_) ?_
         ·refine Reg.step_on (wanted_on (g := 1) rfl rfl rfl (hK.slot 1 _ _ _ rfl (by kernel_rfl))) ?_
          have e75 := hK.slot 7 _ _ _ rfl (by kernel_rfl)
          clear hK
          go_simp
          go_at_call 25; (with_reducible refine (HLEB.out _).mono ?_)
          rintro e w' ⟨rfl, hb⟩
          exact hC w' (below_step hS hb)
         refine Reg.from_some 9 rfl rfl (fun a w hS hK K hC => ?_) ?_
         ·refine Reg.step_on (wanted_on (g := 1) rfl rfl rfl (hK.slot 1 _ _ _ rfl (by kernel_rfl))) ?_
          have e71 := hK.slot 3 _ _ _ rfl (by kernel_rfl)
          have e76 := hK.slot 8 _ _ _ rfl (by kernel_rfl)
          clear hK
          go_simp
          exact hC _ hS
         refine Reg.from_some 10 rfl rfl (fun a w hS hK K hC => ?_) ?_
         ·refine Reg.step_on (by rfl) ?_
          have e69 := hK.slot 1 _ _ _ rfl (by kernel_rfl)
          have e77 := hK.slot 9 _ _ _ rfl (by kernel_rfl)
          clear hK
          go_simp
          exact hC _ hS
         refine Reg.from_some 11 rfl rfl (fun a w hS hK K hC => ?_) ?_
         ·refine Reg.step_on (by rfl) ?_
          have e78 := hK.slot 10 _ _ _ rfl (by kernel_rfl)
          clear hK
          go_simp
          exact hC _ hS
         refine Reg.from_some 12 rfl rfl (fun a w hS hK K hC => ?_) ?_
         ·refine Reg.step_off (wanted_off (g := 11) rfl rfl rfl (hK.slot 11 _ _ _ rfl (by kernel_rfl))) ?_
          exact hC _ hS
         refine Reg.from_some 13 rfl rfl (fun a w hS hK K hC => ?_) ?_
         ·refine Reg.step_off (wanted_off (g := 11) rfl rfl rfl (hK.slot 11 _ _ _ rfl (by kernel_rfl))) ?_
          exact hC _ hS
         refine Reg.from_some 14 rfl rfl (fun a w hS hK K hC => ?_) ?_
         ·refine Reg.step_off (wanted_off (g := 11) rfl rfl rfl (hK.slot 11 _ _ _ rfl (by kernel_rfl))) ?_
          exact hC _ hS
         refine Reg.from_some 15 rfl rfl (fun a w hS hK K hC => ?_) ?_
         ·refine Reg.step_off (wanted_off (g := 11) rfl rfl rfl (hK.slot 11 _ _ _ rfl (by kernel_rfl))) ?_
          exact hC _ hS
         refine Reg.from_some 16 rfl rfl (fun a w hS hK K hC => ?_) ?_
         ·refine Reg.step_off (wanted_off (g := 11) rfl rfl rfl (hK.slot 11 _ _ _ rfl (by kernel_rfl))) ?_
          exact hC _ hS
         refine Reg.from_some 17 rfl rfl (fun a w hS hK K hC => ?_) ?_
         ·refine Reg.step_off (wanted_off (g := 11) rfl rfl rfl (hK.slot 11 _ _ _ rfl (by kernel_rfl))) ?_
          exact hC _ hS
         refine Reg.from_some 18 rfl rfl (fun a w hS hK K hC => ?_) ?_
         ·refine Reg.step_off (wanted_off (g := 11) rfl rfl rfl (hK.slot 11 _ _ _ rfl (by kernel_rfl))) ?_
          exact hC _ hS
         refine Reg.from_some 19 rfl rfl (fun a w hS hK K hC => ?_) ?_
         ·refine Reg.step_off (wanted_off (g := 11) rfl rfl rfl (hK.slot 11 _ _ _ rfl (by kernel_rfl))) ?_
          exact hC _ hS
         refine Reg.from_some 20 rfl rfl (fun a w hS hK K hC => ?_) ?_
         ·refine Reg.step_off (wanted_off (g := 11) rfl rfl rfl (hK.slot 11 _ _ _ rfl (by kernel_rfl))) ?_
          exact hC _ hS
         refine Reg.from_some 21 rfl rfl (fun a w hS hK K hC => ?_) ?_
         ·refine Reg.step_on (by rfl) ?_
          have e79 := hK.slot 11 _ _ _ rfl (by kernel_rfl)
          have e88 := hK.slot 20 _ _ _ rfl (by kernel_rfl)
          clear hK
          go_simp
          exact hC _ hS
         refine Reg.from_some 22 rfl rfl (fun a w hS hK K hC => ?_) ?_
         ·refine Reg.step_on (by rfl) ?_
          have e89 := hK.slot 21 _ _ _ rfl (by kernel_rfl)
          clear hK
          go_simp
          exact hC _ hS
         refine Reg.from_some 23 rfl rfl (fun a w hS hK K hC => ?_) ?_
         ·refine Reg.step_off (wanted_off (g := 22) rfl rfl rfl (hK.slot 22 _ _ _ rfl (by kernel_rfl))) ?_
          exact hC _ hS
         refine Reg.from_some 24 rfl rfl (fun a w hS hK K hC => ?_) ?_
         ·refine Reg.step_off (wanted_off (g := 22) rfl rfl rfl (hK.slot 22 _ _ _ rfl (by kernel_rfl))) ?_
          exact hC _ hS
         refine Reg.from_some 25 rfl rfl (fun a w hS hK K hC => ?_) ?_
         ·refine Reg.step_off (wanted_off (g := 22) rfl rfl rfl (hK.slot 22 _ _ _ rfl (by kernel_rfl))) ?_
          exact hC _ hS
         refine Reg.from_some 26 rfl rfl (fun a w hS hK K hC => ?_) ?_
         ·refine Reg.step_off (wanted_off (g := 22) rfl rfl rfl (hK.slot 22 _ _ _ rfl (by kernel_rfl))) ?_
          exact hC _ hS
         refine Reg.from_some 27 rfl rfl (fun a w hS hK K hC => ?_) ?_
         ·refine Reg.step_on (by rfl) ?_
          have e90 := hK.slot 22 _ _ _ rfl (by kernel_rfl)
          have e94 := hK.slot 26 _ _ _ rfl (by kernel_rfl)
          clear hK
          go_simp
          exact hC _ hS
         exact Reg.from_nil
        case r2okv => rfl
        case r2hlt => rfl
        case r2fin =>
         intro wz hS
         simp only [Reg.putV, List.foldl_cons, List.foldl_nil, Act.put, List.setIfInBounds_toArray, List.set_cons_zero, List.set_cons_succ]
         have HBz := Aside0.mk (below_step HB11.out hS)
         have HRz := Aside0.mk (keep_below HR11.out hS)
         have HXz := Aside0.mk (keep_below HX11.out hS)
         have HMz := Aside0.mk (keep_below HM11.out hS)
         clear hS
         have x0 := Joins.cell_of_block HXz.out 0
         have x1 := Joins.cell_of_block HXz.out 1
         have x2 := Joins.cell_of_block HXz.out 2
         have x3 := Joins.cell_of_block HXz.out 3
         have x4 := Joins.cell_of_block HXz.out 4
         have x5 := Joins.cell_of_block HXz.out 5
         have fr0 := blk_frozen HRz.out 0
         have fr1 := blk_frozen HRz.out 1
         have fr2 := blk_frozen HRz.out 2
         have fr3 := blk_frozen HRz.out 3
         have fr4 := blk_frozen HRz.out 4
         have fr5 := blk_frozen HRz.out 5
         have yr0 := Joins.cell_of_block HRz.out 0
         have yr1 := Joins.cell_of_block HRz.out 1
         have yr2 := Joins.cell_of_block HRz.out 2
         have yr3 := Joins.cell_of_block HRz.out 3
         have yr4 := Joins.cell_of_block HRz.out 4
         have yr5 := Joins.cell_of_block HRz.out 5
         go_wp2
         refine bodyPost_ret (results_ct rfl _ _ W.heap.size 49 #[.int .i64 3, .int .i64 ct, .int .i64 0, .int .i64 0, .int .u64 0, .bool false] (0, 0) _ rfl (set6 HRz.out _ _ _ _ _ _) Tryd.underlying49 rfl (by kernel_rfl)) rfl ?_
         rw [HE.out]
         exact ⟨rfl, below_set6 HBz.out (Nat.le_refl _) _ _ _ _ _ _⟩
       | true =>
        cases q2 : decide (mp ≤ (a.g.P : Int) - 2) with
        | false =>
         have HE := Aside0.mk (HBA6.out.trans (if_neg (by rw [q1, q2]; simp)))
         refine Reg.det [(0, 68, ?r3v0), (1, 69, ?r3v1), (2, 70, ?r3v2), (3, 71, ?r3v3), (4, 72, ?r3v4), (5, 73, ?r3v5), (6, 74, ?r3v6), (7, 75, ?r3v7), (8, 76, ?r3v8), (9, 77, ?r3v9), (10, 78, ?r3v10), (11, 79, ?r3v11), (12, 80, ?r3v12), (13, 81, ?r3v13), (14, 82, ?r3v14), (15, 83, ?r3v15), (16, 84, ?r3v16), (17, 85, ?r3v17), (18, 86, ?r3v18), (19, 87, ?r3v19), (20, 88, ?r3v20), (21, 89, ?r3v21), (22, 90, ?r3v22), (23, 91, undef), (24, 92, undef), (25, 93, undef), (26, 94, undef), (27, 95, ?r3v27)] (fun w' => Below w11.heap.size w11 w') (by rfl) rfl (by kernel_rfl) ?r3S ?r3steps ?r3okv ?r3hlt ?r3fin
         case r3S => exact below_drew (Below.refl _ _)
         case r3steps =>
          refine Reg.from_some 0 rfl rfl (fun a w hS hK K hC => ?_) ?_
          ·refine Reg.step_on (by rfl) ?_
           have e8 := hK.off 8 _ rfl rfl
           clear hK
           go_simp
           exact hC _ hS
          refine Reg.from_some 1 rfl rfl (fun a w hS hK K hC => ?_) ?_
          ·refine Reg.step_on (by rfl) ?_
           have e68 := hK.slot 0 _ _ _ rfl (by kernel_rfl)
           clear hK
           go_simp
           exact hC _ hS
          refine Reg.from_some 2 rfl rfl (fun a w hS hK K hC => ?_) ?_
          ·refine Reg.step_on (wanted_on (g := 1) rfl rfl rfl (hK.slot 1 _ _ _ rfl (by kernel_rfl))) ?_
           have e10 := hK.off 10 _ rfl rfl
           clear hK
           go_simp
           exact hC _ hS
          refine Reg.from_some 3 rfl rfl (fun a w hS hK K hC => ?_) ?_
          ·refine Reg.step_on (wanted_on (g := 1) rfl rfl rfl (hK.slot 1 _ _ _ rfl (by kernel_rfl))) ?_
           have e70 := hK.slot 2 _ _ _ rfl (by kernel_rfl)
           have m0 := Joins.cell_of_block (keep_below HM11.out hS) 0
           have m2 := Joins.cell_of_block (keep_below HM11.out hS) 2
           have k1 := Joins.cell_of_block (keep_below HK11.out hS) 1
           have k2 := Joins.cell_of_block (keep_below HK11.out hS) 2
           have k3 := Joins.cell_of_block (keep_below HK11.out hS) 3
           have k4 := Joins.cell_of_block (keep_below HK11.out hS) 4
           clear hK
           go_simp
           exact hC _ hS
          refine Reg.from_some 4 rfl rfl (fun a w hS hK K hC => ?_) ?_
          ·refine Reg.step_on (wanted_on (g := 1) rfl rfl rfl (hK.slot 1 _ _ _ rfl (by kernel_rfl))) ?_
           have e0 := hK.off 0 _ rfl rfl
           clear hK
           go_simp
           exact hC _ hS
          refine Reg.from_some 5 rfl rfl (fun a w hS hK K hC => ?_) ?_
          ·refine Reg.step_on (wanted_on (g := 1) rfl rfl rfl (hK.slot 1 _ _ _ rfl (by kernel_rfl))) ?_
           have e72 := hK.slot 4 _ _ _ rfl (by kernel_rfl)
           clear hK
           go_simp
           exact hC _ hS
          refine Reg.from_some 6 rfl rfl (fun a w hS hK K hC => ?_) ?_
          ·refine Reg.step_on (wanted_on (g := 1) rfl rfl rfl (hK.slot 1 _ _ _ rfl (by kernel_rfl))) ?_
           have e73 := hK.slot 5 _ _ _ rfl (by kernel_rfl)
           clear hK
           go_simp
           exact hC _ hS
          refine Reg.from_some 7 rfl rfl (fun a w hS hK K hC => ?_) ?_
          ·refine Reg.step_on (wanted_on (g := 1) rfl rfl rfl (hK.slot 1 _ _ _ rfl (by kernel_rfl))) ?_
           have e74 := hK.slot 6 _ _ _ rfl (by kernel_rfl)
           have m0 := Joins.cell_of_block (keep_below HM11.out hS) 0
           have m2 := Joins.cell_of_block (keep_below HM11.out hS) 2
           have k1 := Joins.cell_of_block (keep_below HK11.out hS) 1
           have k2 := Joins.cell_of_block (keep_below HK11.out hS) 2
           have k3 := Joins.cell_of_block (keep_below HK11.out hS) 3
           have k4 := Joins.cell_of_block (keep_below HK11.out hS) 4
           clear hK
           go_simp
           exact hC _ hS
          refine Reg.from_some 8 rfl rfl (fun a w hS hK K hC => ?_) ?_
          ·refine Reg.step_on (wanted_on (g := 1) rfl rfl rfl (hK.slot 1 _ _ _ rfl (by kernel_rfl))) ?_
           have e75 := hK.slot 7 _ _ _ rfl (by kernel_rfl)
           clear hK
           go_simp
           go_at_call 25; (with_reducible refine (HLEB.out _).mono ?_)
           rintro e w' ⟨rfl, hb⟩
           exact hC w' (below_step hS hb)
          refine Reg.from_some 9 rfl rfl (fun a w hS hK K hC => ?_) ?_
          ·refine Reg.step_on (wanted_on (g := 1) rfl rfl rfl (hK.slot 1 _ _ _ rfl (by kernel_rfl))) ?_
           have e71 := hK.slot 3 _ _ _ rfl (by kernel_rfl)
           have e76 := hK.slot 8 _ _ _ rfl (by kernel_rfl)
           clear hK
           go_simp
           exact hC _ hS
          refine Reg.from_some 10 rfl rfl (fun a w hS hK K hC => ?_) ?_
          ·refine Reg.step_on (by rfl) ?_
           have e69 := hK.slot 1 _ _ _ rfl (by kernel_rfl)
           have e77 := hK.slot 9 _ _ _ rfl (by kernel_rfl)
           clear hK
           go_simp
           exact hC _ hS
          refine Reg.from_some 11 rfl rfl (fun a w hS hK K hC => ?_) ?_
          ·refine Reg.step_on (by rfl) ?_
           have e78 := hK.slot 10 _ _ _ rfl (by kernel_rfl)
           clear hK
           go_simp
           exact hC _ hS
          refine Reg.from_some 12 rfl rfl (fun a w hS hK K hC => ?_) ?_
          ·refine Reg.step_on (wanted_on (g := 11) rfl rfl rfl (hK.slot 11 _ _ _ rfl (by kernel_rfl))) ?_
           have e10 := hK.off 10 _ rfl rfl
           clear hK
           go_simp
           exact hC _ hS
          refine Reg.from_some 13 rfl rfl (fun a w hS hK K hC => ?_) ?_
          ·refine Reg.step_on (wanted_on (g := 11) rfl rfl rfl (hK.slot 11 _ _ _ rfl (by kernel_rfl))) ?_
           have e80 := hK.slot 12 _ _ _ rfl (by kernel_rfl)
           have m0 := Joins.cell_of_block (keep_below HM11.out hS) 0
           have m2 := Joins.cell_of_block (keep_below HM11.out hS) 2
           have k1 := Joins.cell_of_block (keep_below HK11.out hS) 1
           have k2 := Joins.cell_of_block (keep_below HK11.out hS) 2
           have k3 := Joins.cell_of_block (keep_below HK11.out hS) 3
           have k4 := Joins.cell_of_block (keep_below HK11.out hS) 4
           clear hK
           go_simp
           exact hC _ hS
          refine Reg.from_some 14 rfl rfl (fun a w hS hK K hC => ?_) ?_
          ·refine Reg.step_on (wanted_on (g := 11) rfl rfl rfl (hK.slot 11 _ _ _ rfl (by kernel_rfl))) ?_
           have e0 := hK.off 0 _ rfl rfl
           clear hK
           go_simp
           exact hC _ hS
          refine Reg.from_some 15 rfl rfl (fun a w hS hK K hC => ?_) ?_
          ·refine Reg.step_on (wanted_on (g := 11) rfl rfl rfl (hK.slot 11 _ _ _ rfl (by kernel_rfl))) ?_
           have e82 := hK.slot 14 _ _ _ rfl (by kernel_rfl)
           clear hK
           go_simp
           exact hC _ hS
          refine Reg.from_some 16 rfl rfl (fun a w hS hK K hC => ?_) ?_
          ·refine Reg.step_on (wanted_on (g := 11) rfl rfl rfl (hK.slot 11 _ _ _ rfl (by kernel_rfl))) ?_
           have e83 := hK.slot 15 _ _ _ rfl (by kernel_rfl)
           clear hK
           go_simp
           exact hC _ hS
          refine Reg.from_some 17 rfl rfl (fun a w hS hK K hC => ?_) ?_
          ·refine Reg.step_on (wanted_on (g := 11) rfl rfl rfl (hK.slot 11 _ _ _ rfl (by kernel_rfl))) ?_
           have e84 := hK.slot 16 _ _ _ rfl (by kernel_rfl)
           clear hK
           go_simp
           exact hC _ hS
          refine Reg.from_some 18 rfl rfl (fun a w hS hK K hC => ?_) ?_
          ·refine Reg.step_on (wanted_on (g := 11) rfl rfl rfl (hK.slot 11 _ _ _ rfl (by kernel_rfl))) ?_
           have e85 := hK.slot 17 _ _ _ rfl (by kernel_rfl)
           have m0 := Joins.cell_of_block (keep_below HM11.out hS) 0
           have m2 := Joins.cell_of_block (keep_below HM11.out hS) 2
           have k1 := Joins.cell_of_block (keep_below HK11.out hS) 1
           have k2 := Joins.cell_of_block (keep_below HK11.out hS) 2
           have k3 := Joins.cell_of_block (keep_below HK11.out hS) 3
           have k4 := Joins.cell_of_block (keep_below HK11.out hS) 4
           clear hK
           go_simp
           exact hC _ hS
          refine Reg.from_some 19 rfl rfl (fun a w hS hK K hC => ?_) ?_
          ·refine Reg.step_on (wanted_on (g := 11) rfl rfl rfl (hK.slot 11 _ _ _ rfl (by kernel_rfl))) ?_
           have e86 := hK.slot 18 _ _ _ rfl (by kernel_rfl)
           clear hK
           go_simp
           exact hC _ hS
          refine Reg.from_some 20 rfl rfl (fun a w hS hK K hC => ?_) ?_
          ·refine Reg.step_on (wanted_on (g := 11) rfl rfl rfl (hK.slot 11 _ _ _ rfl (by kernel_rfl))) ?_
           have e81 := hK.slot 13 _ _ _ rfl (by kernel_rfl)
           have e87 := hK.slot 19 _ _ _ rfl (by kernel_rfl)
           clear hK
           go_simp
           exact hC _ hS
          refine Reg.from_some 21 rfl rfl (fun a w hS hK K hC => ?_) ?_
          ·refine Reg.step_on (by rfl) ?_
           have e79 := hK.slot 11 _ _ _ rfl (by kernel_rfl)
           have e88 := hK.slot 20 _ _ _ rfl (by kernel_rfl)
           clear hK
           go_simp
           exact hC _ hS
          refine Reg.from_some 22 rfl rfl (fun a w hS hK K hC => ?_) ?_
          ·refine Reg.step_on (by rfl) ?_
           have e89 := hK.slot 21 _ _ _ rfl (by kernel_rfl)
           clear hK
           go_simp
           exact hC _ hS
          refine Reg.from_some 23 rfl rfl (fun a w hS hK K hC => ?_) ?_
          ·refine Reg.step_off (wanted_off (g := 22) rfl rfl rfl (hK.slot 22 _ _ _ rfl (by kernel_rfl))) ?_
           exact hC _ hS
          refine Reg.from_some 24 rfl rfl (fun a w hS hK K hC => ?_) ?_
          ·refine Reg.step_off (wanted_off (g := 22) rfl rfl rfl (hK.slot 22 _ _ _ rfl (by kernel_rfl))) ?_
           exact hC _ hS
          refine Reg.from_some 25 rfl rfl (fun a w hS hK K hC => ?_) ?_
          ·refine Reg.step_off (wanted_off (g := 22) rfl rfl rfl (hK.slot 22 _ _ _ rfl (by kernel_rfl))) ?_
           exact hC _ hS
          refine Reg.from_some 26 rfl rfl (fun a w hS hK K hC => ?_) ?_
          ·refine Reg.step_off (wanted_off (g := 22) rfl rfl rfl (hK.slot 22 _ _ _ rfl (by kernel_rfl))) ?_
           exact hC _ hS
          refine Reg.from_some 27 rfl rfl (fun a w hS hK K hC => ?_) ?_
          ·refine Reg.step_on (by rfl) ?_
           have e90 := hK.slot 22 _ _ _ rfl (by kernel_rfl)
           have e94 := hK.slot 26 _ _ _ rfl (by kernel_rfl)
           clear hK
           go_simp
           exact hC _ hS
          exact Reg.from_nil
         case r3okv => rfl
         case r3hlt => rfl
         case r3fin =>
          intro wz hS
          simp only [Reg.putV, List.foldl_cons, List.foldl_nil, Act.put, List.setIfInBounds_toArray, List.set_cons_zero, List.set_cons_succ]
          have HBz := Aside0.mk (below_step HB11.out hS)
          have HRz := Aside0.mk (keep_below HR11.out hS)
          have HXz := Aside0.mk (keep_below HX11.out hS)
          have HMz := Aside0.mk (keep_below HM11.out hS)
          clear hS
          have x0 := Joins.cell_of_block HXz.out 0
          have x1 := Joins.cell_of_block HXz.out 1
          have x2 := Joins.cell_of_block HXz.out 2
          have x3 := Joins.cell_of_block HXz.out 3
          have x4 := Joins.cell_of_block HXz.out 4
          have x5 := Joins.cell_of_block HXz.out 5
          have fr0 := blk_frozen HRz.out 0
          have fr1 := blk_frozen HRz.out 1
          have fr2 := blk_frozen HRz.out 2
          have fr3 := blk_frozen HRz.out 3
          have fr4 := blk_frozen HRz.out 4
          have fr5 := blk_frozen HRz.out 5
          have yr0 := Joins.cell_of_block HRz.out 0
          have yr1 := Joins.cell_of_block HRz.out 1
          have yr2 := Joins.cell_of_block HRz.out 2
          have yr3 := Joins.cell_of_block HRz.out 3
          have yr4 := Joins.cell_of_block HRz.out 4
          have yr5 := Joins.cell_of_block HRz.out 5
          go_wp2
          refine bodyPost_ret (results_ct rfl _ _ W.heap.size 49 #[.int .i64 3, .int .i64 ct, .int .i64 0, .int .i64 0, .int .u64 0, .bool false] (0, 0) _ rfl (set6 HRz.out _ _ _ _ _ _) Tryd.underlying49 rfl (by kernel_rfl)) rfl ?_
          rw [HE.out]
          exact ⟨rfl, below_set6 HBz.out (Nat.le_refl _) _ _ _ _ _ _⟩
        | true =>
         cases q3 : decide (mp ≤ (un : Int)) with
         | false =>
          have HE := Aside0.mk (HBA6.out.trans (if_neg (by rw [q1, q2, q3]; simp)))
          refine Reg.det [(0, 68, ?r4v0), (1, 69, ?r4v1), (2, 70, ?r4v2), (3, 71, ?r4v3), (4, 72, ?r4v4), (5, 73, ?r4v5), (6, 74, ?r4v6), (7, 75, ?r4v7), (8, 76, ?r4v8), (9, 77, ?r4v9), (10, 78, ?r4v10), (11, 79, ?r4v11), (12, 80, ?r4v12), (13, 81, ?r4v13), (14, 82, ?r4v14), (15, 83, ?r4v15), (16, 84, ?r4v16), (17, 85, ?r4v17), (18, 86, ?r4v18), (19, 87, ?r4v19), (20, 88, ?r4v20), (21, 89, ?r4v21), (22, 90, ?r4v22), (23, 91, ?r4v23), (24, 92, ?r4v24), (25, 93, ?r4v25), (26, 94, ?r4v26), (27, 95, ?r4v27)] (fun w' => Below w11.heap.size w11 w') (by rfl) rfl (by kernel_rfl) ?r4S ?r4steps ?r4okv ?r4hlt ?r4fin
          case r4S => exact below_drew (Below.refl _ _)
          case r4steps =>
           refine Reg.from_some 0 rfl rfl (fun a w hS hK K hC => ?_) ?_
           ·refine Reg.step_on (by rfl) ?_
            have e8 := hK.off 8 _ rfl rfl
            clear hK
            go_simp
            exact hC _ hS
           refine Reg.from_some 1 rfl rfl (fun a w hS hK K hC => ?_) ?_
           ·refine Reg.step_on (by rfl) ?_
            have e68 := hK.slot 0 _ _ _ rfl (by kernel_rfl)
            clear hK
            go_simp
            exact hC _ hS
           refine Reg.from_some 2 rfl rfl (fun a w hS hK K hC => ?_) ?_
           ·refine Reg.step_on (wanted_on (g := 1) rfl rfl rfl (hK.slot 1 _ _ _ rfl (by kernel_rfl))) ?_
            have e10 := hK.off 10 _ rfl rfl
            clear hK
            go_simp
            exact hC _ hS
           refine Reg.from_some 3 rfl rfl (fun a w hS hK K hC => ?_) ?_
           ·refine Reg.step_on (wanted_on (g := 1) rfl rfl rfl (hK.slot 1 _ _ _ rfl (by kernel_rfl))) ?_
            have e70 := hK.slot 2 _ _ _ rfl (by kernel_rfl)
            have m0 := Joins.cell_of_block (keep_below HM11.out hS) 0
            have m2 := Joins.cell_of_block (keep_below HM11.out hS) 2
            have k1 := Joins.cell_of_block (keep_below HK11.out hS) 1
            have k2 := Joins.cell_of_block (keep_below HK11.out hS) 2
            have k3 := Joins.cell_of_block (keep_below HK11.out hS) 3
            have k4 := Joins.cell_of_block (keep_below HK11.out hS) 4
            clear hK
            go_simp
            exact hC _ hS
           refine Reg.from_some 4 rfl rfl (fun a w hS hK K hC => ?_) ?_
           ·refine Reg.step_on (wanted_on (g := 1) rfl rfl rfl (hK.slot 1 _ _ _ rfl (by kernel_rfl))) ?_
            have e0 := hK.off 0 _ rfl rfl
            clear hK
            go_simp
            exact hC _ hS
           refine Reg.from_some 5 rfl rfl (fun a w hS hK K hC => ?_) ?_
           ·refine Reg.step_on (wanted_on (g := 1) rfl rfl rfl (hK.slot 1 _ _ _ rfl (by kernel_rfl))) ?_
            have e72 := hK.slot 4 _ _ _ rfl (by kernel_rfl)
            clear hK
            go_simp
            exact hC _ hS
           refine Reg.from_some 6 rfl rfl (fun a w hS hK K hC => ?_) ?_
           ·refine Reg.step_on (wanted_on (g := 1) rfl rfl rfl (hK.slot 1 _ _ _ rfl (by kernel_rfl))) ?_
            have e73 := hK.slot 5 _ _ _ rfl (by kernel_rfl)
            clear hK
            go_simp
            exact hC _ hS
           refine Reg.from_some 7 rfl rfl (fun a w hS hK K hC => ?_) ?_
           ·refine Reg.step_on (wanted_on (g := 1) rfl rfl rfl (hK.slot 1 _ _ _ rfl (by kernel_rfl))) ?_
            have e74 := hK.slot 6 _ _ _ rfl (by kernel_rfl)
            have m0 := Joins.cell_of_block (keep_below HM11.out hS) 0
            have m2 := Joins.cell_of_block (keep_below HM11.out hS) 2
            have k1 := Joins.cell_of_block (keep_below HK11.out hS) 1
            have k2 := Joins.cell_of_block (keep_below HK11.out hS) 2
            have k3 := Joins.cell_of_block (keep_below HK11.out hS) 3
            have k4 := Joins.cell_of_block (keep_below HK11.out hS) 4
            clear hK
            go_simp
            exact hC _ hS
           refine Reg.from_some 8 rfl rfl (fun a w hS hK K hC => ?_) ?_
           ·refine Reg.step_on (wanted_on (g := 1) rfl rfl rfl (hK.slot 1 _ _ _ rfl (by kernel_rfl))) ?_
            have e75 := hK.slot 7 _ _ _ rfl (by kernel_rfl)
            clear hK
            go_simp
            go_at_call 25; (with_reducible refine (HLEB.out _).mono ?_)
            rintro e w' ⟨rfl, hb⟩
            exact hC w' (below_step hS hb)
           refine Reg.from_some 9 rfl rfl (fun a w hS hK K hC => ?_) ?_
           ·refine Reg.step_on (wanted_on (g := 1) rfl rfl rfl (hK.slot 1 _ _ _ rfl (by kernel_rfl))) ?_
            have e71 := hK.slot 3 _ _ _ rfl (by kernel_rfl)
            have e76 := hK.slot 8 _ _ _ rfl (by kernel_rfl)
            clear hK
            go_simp
            exact hC _ hS
           refine Reg.from_some 10 rfl rfl (fun a w hS hK K hC => ?_) ?_
           ·refine Reg.step_on (by rfl) ?_
            have e69 := hK.slot 1 _ _ _ rfl (by kernel_rfl)
            have e77 := hK.slot 9 _ _ _ rfl (by kernel_rfl)
            clear hK
            go_simp
            exact hC _ hS
           refine Reg.from_some 11 rfl rfl (fun a w hS hK K hC => ?_) ?_
           ·refine Reg.step_on (by rfl) ?_
            have e78 := hK.slot 10 _ _ _ rfl (by kernel_rfl)
            clear hK
            go_simp
            exact hC _ hS
           refine Reg.from_some 12 rfl rfl (fun a w hS hK K hC => ?_) ?_
           ·refine Reg.step_on (wanted_on (g := 11) rfl rfl rfl (hK.slot 11 _ _ _ rfl (by kernel_rfl))) ?_
            have e10 := hK.off 10 _ rfl rfl
            clear hK
            go_simp
            exact hC _ hS
           refine Reg.from_some 13 rfl rfl (fun a w hS hK K hC => ?_) ?_
           ·refine Reg.step_on (wanted_on (g := 11) rfl rfl rfl (hK.slot 11 _ _ _ rfl (by kernel_rfl))) ?_
            have e80 := hK.slot 12 _ _ _ rfl (by kernel_rfl)
            have m0 := Joins.cell_of_block (keep_below HM11.out hS) 0
            have m2 := Joins.cell_of_block (keep_below HM11.out hS) 2
            have k1 := Joins.cell_of_block (keep_below HK11.out hS) 1
            have k2 := Joins.cell_of_block (keep_below HK11.out hS) 2
            have k3 := Joins.cell_of_block (keep_below HK11.out hS) 3
            have k4 := Joins.cell_of_block (keep_below HK11.out hS) 4
            clear hK
            go_simp
            exact hC _ hS
           refine Reg.from_some 14 rfl rfl (fun a w hS hK K hC => ?_) ?_
           ·refine Reg.step_on (wanted_on (g := 11) rfl rfl rfl (hK.slot 11 _ _ _ rfl (by kernel_rfl))) ?_
            have e0 := hK.off 0 _ rfl rfl
            clear hK
            go_simp
            exact hC _ hS
           refine Reg.from_some 15 rfl rfl (fun a w hS hK K hC => ?_) ?_
           ·refine Reg.step_on (wanted_on (g := 11) rfl rfl rfl (hK.slot 11 _ _ _ rfl (by kernel_rfl))) ?_
            have e82 := hK.slot 14 _ _ _ rfl (by kernel_rfl)
            clear hK
            go_simp
            exact hC _ hS
           refine Reg.from_some 16 rfl rfl (fun a w hS hK K hC => ?_) ?_
           ·refine Reg.step_on (wanted_on (g := 11) rfl rfl rfl (hK.slot 11 _ _ _ rfl (by kernel_rfl))) ?_
            have e83 := hK.slot 15 _ _ _ rfl (by kernel_rfl)
            clear hK
            go_simp
            exact hC _ hS
           refine Reg.from_some 17 rfl rfl (fun a w hS hK K hC => ?_) ?_
           ·refine Reg.step_on (wanted_on (g := 11) rfl rfl rfl (hK.slot 11 _ _ _ rfl (by kernel_rfl))) ?_
            have e84 := hK.slot 16 _ _ _ rfl (by kernel_rfl)
            clear hK
            go_simp
            exact hC _ hS
           refine Reg.from_some 18 rfl rfl (fun a w hS hK K hC => ?_) ?_
           ·refine Reg.step_on (wanted_on (g := 11) rfl rfl rfl (hK.slot 11 _ _ _ rfl (by kernel_rfl))) ?_
            have e85 := hK.slot 17 _ _ _ rfl (by kernel_rfl)
            have m0 := Joins.cell_of_block (keep_below HM11.out hS) 0
            have m2 := Joins.cell_of_block (keep_below HM11.out hS) 2
            have k1 := Joins.cell_of_block (keep_below HK11.out hS) 1
            have k2 := Joins.cell_of_block (keep_below HK11.out hS) 2
            have k3 := Joins.cell_of_block (keep_below HK11.out hS) 3
            have k4 := Joins.cell_of_block (keep_below HK11.out hS) 4
            clear hK
            go_simp
            exact hC _ hS
           refine Reg.from_some 19 rfl rfl (fun a w hS hK K hC => ?_) ?_
           ·refine Reg.step_on (wanted_on (g := 11) rfl rfl rfl (hK.slot 11 _ _ _ rfl (by kernel_rfl))) ?_
            have e86 := hK.slot 18 _ _ _ rfl (by kernel_rfl)
            clear hK
            go_simp
            exact hC _ hS
           refine Reg.from_some 20 rfl rfl (fun a w hS hK K hC => ?_) ?_
           ·refine Reg.step_on (wanted_on (g := 11) rfl rfl rfl (hK.slot 11 _ _ _ rfl (by kernel_rfl))) ?_
            have e81 := hK.slot 13 _ _ _ rfl (by kernel_rfl)
            have e87 := hK.slot 19 _ _ _ rfl (by kernel_rfl)
            clear hK
            go_simp
            exact hC _ hS
           refine Reg.from_some 21 rfl rfl (fun a w hS hK K hC => ?_) ?_
           ·refine Reg.step_on (by rfl) ?_
            have e79 := hK.slot 11 _ _ _ rfl (by kernel_rfl)
            have e88 := hK.slot 20 _ _ _ rfl (by kernel_rfl)
            clear hK
            go_simp
            exact hC _ hS
           refine Reg.from_some 22 rfl rfl (fun a w hS hK K hC => ?_) ?_
           ·refine Reg.step_on (by rfl) ?_
            have e89 := hK.slot 21 _ _ _ rfl (by kernel_rfl)
            clear hK
            go_simp
            exact hC _ hS
           refine Reg.from_some 23 rfl rfl (fun a w hS hK K hC => ?_) ?_
           ·refine Reg.step_on (wanted_on (g := 22) rfl rfl rfl (hK.slot 22 _ _ _ rfl (by kernel_rfl))) ?_
            have e11 := hK.off 11 _ rfl rfl
            clear hK
            go_simp
            exact hC _ hS
           refine Reg.from_some 24 rfl rfl (fun a w hS hK K hC => ?_) ?_
           ·refine Reg.step_on (wanted_on (g := 22) rfl rfl rfl (hK.slot 22 _ _ _ rfl (by kernel_rfl))) ?_
            have e10 := hK.off 10 _ rfl rfl
            clear hK
            go_simp
            exact hC _ hS
           refine Reg.from_some 25 rfl rfl (fun a w hS hK K hC => ?_) ?_
           ·refine Reg.step_on (wanted_on (g := 22) rfl rfl rfl (hK.slot 22 _ _ _ rfl (by kernel_rfl))) ?_
            have e92 := hK.slot 24 _ _ _ rfl (by kernel_rfl)
            have m0 := Joins.cell_of_block (keep_below HM11.out hS) 0
            have m2 := Joins.cell_of_block (keep_below HM11.out hS) 2
            have k1 := Joins.cell_of_block (keep_below HK11.out hS) 1
            have k2 := Joins.cell_of_block (keep_below HK11.out hS) 2
            have k3 := Joins.cell_of_block (keep_below HK11.out hS) 3
            have k4 := Joins.cell_of_block (keep_below HK11.out hS) 4
            clear hK
            go_simp
            exact hC _ hS
           refine Reg.from_some 26 rfl rfl (fun a w hS hK K hC => ?_) ?_
           ·refine Reg.step_on (wanted_on (g := 22) rfl rfl rfl (hK.slot 22 _ _ _ rfl (by kernel_rfl))) ?_
            have e91 := hK.slot 23 _ _ _ rfl (by kernel_rfl)
            have e93 := hK.slot 25 _ _ _ rfl (by kernel_rfl)
            clear hK
            go_simp
            exact hC _ hS
           refine Reg.from_some 27 rfl rfl (fun a w hS hK K hC => ?_) ?_
           ·refine Reg.step_on (by rfl) ?_
            have e90 := hK.slot 22 _ _ _ rfl (by kernel_rfl)
            have e94 := hK.slot 26 _ _ _ rfl (by kernel_rfl)
            clear hK
            go_simp
            exact hC _ hS
           exact Reg.from_nil
          case r4okv => rfl
          case r4hlt => rfl
          case r4fin =>
           intro wz hS
           simp only [Reg.putV, List.foldl_cons, List.foldl_nil, Act.put, List.setIfInBounds_toArray, List.set_cons_zero, List.set_cons_succ]
           have HBz := Aside0.mk (below_step HB11.out hS)
           have HRz := Aside0.mk (keep_below HR11.out hS)
           have HXz := Aside0.mk (keep_below HX11.out hS)
           have HMz := Aside0.mk (keep_below HM11.out hS)
           clear hS
           have x0 := Joins.cell_of_block HXz.out 0
           have x1 := Joins.cell_of_block HXz.out 1
           have x2 := Joins.cell_of_block HXz.out 2
           have x3 := Joins.cell_of_block HXz.out 3
           have x4 := Joins.cell_of_block HXz.out 4
           have x5 := Joins.cell_of_block HXz.out 5
           have fr0 := blk_frozen HRz.out 0
           have fr1 := blk_frozen HRz.out 1
           have fr2 := blk_frozen HRz.out 2
           have fr3 := blk_frozen HRz.out 3
           have fr4 := blk_frozen HRz.out 4
           have fr5 := blk_frozen HRz.out 5
           have yr0 := Joins.cell_of_block HRz.out 0
           have yr1 := Joins.cell_of_block HRz.out 1
           have yr2 := Joins.cell_of_block HRz.out 2
           have yr3 := Joins.cell_of_block HRz.out 3
           have yr4 := Joins.cell_of_block HRz.out 4
           have yr5 := Joins.cell_of_block HRz.out 5
           go_wp2
           refine bodyPost_ret (results_ct rfl _ _ W.heap.size 49 #[.int .i64 3, .int .i64 ct, .int .i64 0, .int .i64 0, .int .u64 0, .bool false] (0, 0) _ rfl (set6 HRz.out _ _ _ _ _ _) Tryd.underlying49 rfl (by kernel_rfl)) rfl ?_
           rw [HE.out]
           exact ⟨rfl, below_set6 HBz.out (Nat.le_refl _) _ _ _ _ _ _⟩
         | true =>
          have HE := Aside0.mk (HBA6.out.trans (if_pos (by rw [q1, q2, q3]; rfl)))
          refine Reg.det [(0, 68, ?r5v0), (1, 69, ?r5v1), (2, 70, ?r5v2), (3, 71, ?r5v3), (4, 72, ?r5v4), (5, 73, ?r5v5), (6, 74, ?r5v6), (7, 75, ?r5v7), (8, 76, ?r5v8), (9, 77, ?r5v9), (10, 78, ?r5v10), (11, 79, ?r5v11), (12, 80, ?r5v12), (13, 81, ?r5v13), (14, 82, ?r5v14), (15, 83, ?r5v15), (16, 84, ?r5v16), (17, 85, ?r5v17), (18, 86, ?r5v18), (19, 87, ?r5v19), (20, 88, ?r5v20), (21, 89, ?r5v21), (22, 90, ?r5v22), (23, 91, ?r5v23), (24, 92, ?r5v24), (25, 93, ?r5v25), (26, 94, ?r5v26), (27, 95, ?r5v27)] (fun w' => Below w11.heap.size w11 w') (by rfl) rfl (by kernel_rfl) ?r5S ?r5steps ?r5okv ?r5hlt ?r5fin
          case r5S => exact below_drew (Below.refl _ _)
          case r5steps =>
           refine Reg.from_some 0 rfl rfl (fun a w hS hK K hC => ?_) ?_
           ·refine Reg.step_on (by rfl) ?_
            have e8 := hK.off 8 _ rfl rfl
            clear hK
            go_simp
            exact hC _ hS
           refine Reg.from_some 1 rfl rfl (fun a w hS hK K hC => ?_) ?_
           ·refine Reg.step_on (by rfl) ?_
            have e68 := hK.slot 0 _ _ _ rfl (by kernel_rfl)
            clear hK
            go_simp
            exact hC _ hS
           refine Reg.from_some 2 rfl rfl (fun a w hS hK K hC => ?_) ?_
           ·refine Reg.step_on (wanted_on (g := 1) rfl rfl rfl (hK.slot 1 _ _ _ rfl (by kernel_rfl))) ?_
            have e10 := hK.off 10 _ rfl rfl
            clear hK
            go_simp
            exact hC _ hS
           refine Reg.from_some 3 rfl rfl (fun a w hS hK K hC => ?_) ?_
           ·refine Reg.step_on (wanted_on (g := 1) rfl rfl rfl (hK.slot 1 _ _ _ rfl (by kernel_rfl))) ?_
            have e70 := hK.slot 2 _ _ _ rfl (by kernel_rfl)
            have m0 := Joins.cell_of_block (keep_below HM11.out hS) 0
            have m2 := Joins.cell_of_block (keep_below HM11.out hS) 2
            have k1 := Joins.cell_of_block (keep_below HK11.out hS) 1
            have k2 := Joins.cell_of_block (keep_below HK11.out hS) 2
            have k3 := Joins.cell_of_block (keep_below HK11.out hS) 3
            have k4 := Joins.cell_of_block (keep_below HK11.out hS) 4
            clear hK
            go_simp
            exact hC _ hS
           refine Reg.from_some 4 rfl rfl (fun a w hS hK K hC => ?_) ?_
           ·refine Reg.step_on (wanted_on (g := 1) rfl rfl rfl (hK.slot 1 _ _ _ rfl (by kernel_rfl))) ?_
            have e0 := hK.off 0 _ rfl rfl
            clear hK
            go_simp
            exact hC _ hS
           refine Reg.from_some 5 rfl rfl (fun a w hS hK K hC => ?_) ?_
           ·refine Reg.step_on (wanted_on (g := 1) rfl rfl rfl (hK.slot 1 _ _ _ rfl (by kernel_rfl))) ?_
            have e72 := hK.slot 4 _ _ _ rfl (by kernel_rfl)
            clear hK
            go_simp
            exact hC _ hS
           refine Reg.from_some 6 rfl rfl (fun a w hS hK K hC => ?_) ?_
           ·refine Reg.step_on (wanted_on (g := 1) rfl rfl rfl (hK.slot 1 _ _ _ rfl (by kernel_rfl))) ?_
            have e73 := hK.slot 5 _ _ _ rfl (by kernel_rfl)
            clear hK
            go_simp
            exact hC _ hS
           refine Reg.from_some 7 rfl rfl (fun a w hS hK K hC => ?_) ?_
           ·refine Reg.step_on (wanted_on (g := 1) rfl rfl rfl (hK.slot 1 _ _ _ rfl (by kernel_rfl))) ?_
            have e74 := hK.slot 6 _ _ _ rfl (by kernel_rfl)
            have m0 := Joins.cell_of_block (keep_below HM11.out hS) 0
            have m2 := Joins.cell_of_block (keep_below HM11.out hS) 2
            have k1 := Joins.cell_of_block (keep_below HK11.out hS) 1
            have k2 := Joins.cell_of_block (keep_below HK11.out hS) 2
            have k3 := Joins.cell_of_block (keep_below HK11.out hS) 3
            have k4 := Joins.cell_of_block (keep_below HK11.out hS) 4
            clear hK
            go_simp
            exact hC _ hS
           refine Reg.from_some 8 rfl rfl (fun a w hS hK K hC => ?_) ?_
           ·refine Reg.step_on (wanted_on (g := 1) rfl rfl rfl (hK.slot 1 _ _ _ rfl (by kernel_rfl))) ?_
            have e75 := hK.slot 7 _ _ _ rfl (by kernel_rfl)
            clear hK
            go_simp
            go_at_call 25; (with_reducible refine (HLEB.out _).mono ?_)
            rintro e w' ⟨rfl, hb⟩
            exact hC w' (below_step hS hb)
           refine Reg.from_some 9 rfl rfl (fun a w hS hK K hC => ?_) ?_
           ·refine Reg.step_on (wanted_on (g := 1) rfl rfl rfl (hK.slot 1 _ _ _ rfl (by kernel_rfl))) ?_
            have e71 := hK.slot 3 _ _ _ rfl (by kernel_rfl)
            have e76 := hK.slot 8 _ _ _ rfl (by kernel_rfl)
            clear hK
            go_simp
            exact hC _ hS
           refine Reg.from_some 10 rfl rfl (fun a w hS hK K hC => ?_) ?_
           ·refine Reg.step_on (by rfl) ?_
            have e69 := hK.slot 1 _ _ _ rfl (by kernel_rfl)
            have e77 := hK.slot 9 _ _ _ rfl (by kernel_rfl)
            clear hK
            go_simp
            exact hC _ hS
           refine Reg.from_some 11 rfl rfl (fun a w hS hK K hC => ?_) ?_
           ·refine Reg.step_on (by rfl) ?_
            have e78 := hK.slot 10 _ _ _ rfl (by kernel_rfl)
            clear hK
            go_simp
            exact hC _ hS
           refine Reg.from_some 12 rfl rfl (fun a w hS hK K hC => ?_) ?_
           ·refine Reg.step_on (wanted_on (g := 11) rfl rfl rfl (hK.slot 11 _ _ _ rfl (by kernel_rfl))) ?_
            have e10 := hK.off 10 _ rfl rfl
            clear hK
            go_simp
            exact hC _ hS
           refine Reg.from_some 13 rfl rfl (fun a w hS hK K hC => ?_) ?_
           ·refine Reg.step_on (wanted_on (g := 11) rfl rfl rfl (hK.slot 11 _ _ _ rfl (by kernel_rfl))) ?_
            have e80 := hK.slot 12 _ _ _ rfl (by kernel_rfl)
            have m0 := Joins.cell_of_block (keep_below HM11.out hS) 0
            have m2 := Joins.cell_of_block (keep_below HM11.out hS) 2
            have k1 := Joins.cell_of_block (keep_below HK11.out hS) 1
            have k2 := Joins.cell_of_block (keep_below HK11.out hS) 2
            have k3 := Joins.cell_of_block (keep_below HK11.out hS) 3
            have k4 := Joins.cell_of_block (keep_below HK11.out hS) 4
            clear hK
            go_simp
            exact hC _ hS
           refine Reg.from_some 14 rfl rfl (fun a w hS hK K hC => ?_) ?_
           ·refine Reg.step_on (wanted_on (g := 11) rfl rfl rfl (hK.slot 11 _ _ _ rfl (by kernel_rfl))) ?_
            have e0 := hK.off 0 _ rfl rfl
            clear hK
            go_simp
            exact hC _ hS
           refine Reg.from_some 15 rfl rfl (fun a w hS hK K hC => ?_) ?_
           ·refine Reg.step_on (wanted_on (g := 11) rfl rfl rfl (hK.slot 11 _ _ _ rfl (by kernel_rfl))) ?_
            have e82 := hK.slot 14 _ _ _ rfl (by kernel_rfl)
            clear hK
            go_simp
            exact hC _ hS
           refine Reg.from_some 16 rfl rfl (fun a w hS hK K hC => ?_) ?_
           ·refine Reg.step_on (wanted_on (g := 11) rfl rfl rfl (hK.slot 11 _ _ _ rfl (by kernel_rfl))) ?_
            have e83 := hK.slot 15 _ _ _ rfl (by kernel_rfl)
            clear hK
            go_simp
            exact hC _ hS
           refine Reg.from_some 17 rfl rfl (fun a w hS hK K hC => ?_) ?_
           ·refine Reg.step_on (wanted_on (g := 11) rfl rfl rfl (hK.slot 11 _ _ _ rfl (by kernel_rfl))) ?_
            have e84 := hK.slot 16 _ _ _ rfl (by kernel_rfl)
            clear hK
            go_simp
            exact hC _ hS
           refine Reg.from_some 18 rfl rfl (fun a w hS hK K hC => ?_) ?_
           ·refine Reg.step_on (wanted_on (g := 11) rfl rfl rfl (hK.slot 11 _ _ _ rfl (by kernel_rfl))) ?_
            have e85 := hK.slot 17 _ _ _ rfl (by kernel_rfl)
            have m0 := Joins.cell_of_block (keep_below HM11.out hS) 0
            have m2 := Joins.cell_of_block (keep_below HM11.out hS) 2
            have k1 := Joins.cell_of_block (keep_below HK11.out hS) 1
            have k2 := Joins.cell_of_block (keep_below HK11.out hS) 2
            have k3 := Joins.cell_of_block (keep_below HK11.out hS) 3
            have k4 := Joins.cell_of_block (keep_below HK11.out hS) 4
            clear hK
            go_simp
            exact hC _ hS
           refine Reg.from_some 19 rfl rfl (fun a w hS hK K hC => ?_) ?_
           ·refine Reg.step_on (wanted_on (g := 11) rfl rfl rfl (hK.slot 11 _ _ _ rfl (by kernel_rfl))) ?_
            have e86 := hK.slot 18 _ _ _ rfl (by kernel_rfl)
            clear hK
            go_simp
            exact hC _ hS
           refine Reg.from_some 20 rfl rfl (fun a w hS hK K hC => ?_) ?_
           ·refine Reg.step_on (wanted_on (g := 11) rfl rfl rfl (hK.slot 11 _ _ _ rfl (by kernel_rfl))) ?_
            have e81 := hK.slot 13 _ _ _ rfl (by kernel_rfl)
            have e87 := hK.slot 19 _ _ _ rfl (by kernel_rfl)
            clear hK
            go_simp
            exact hC _ hS
           refine Reg.from_some 21 rfl rfl (fun a w hS hK K hC => ?_) ?_
           ·refine Reg.step_on (by rfl) ?_
            have e79 := hK.slot 11 _ _ _ rfl (by kernel_rfl)
            have e88 := hK.slot 20 _ _ _ rfl (by kernel_rfl)
            clear hK
            go_simp
            exact hC _ hS
           refine Reg.from_some 22 rfl rfl (fun a w hS hK K hC => ?_) ?_
           ·refine Reg.step_on (by rfl) ?_
            have e89 := hK.slot 21 _ _ _ rfl (by kernel_rfl)
            clear hK
            go_simp
            exact hC _ hS
           refine Reg.from_some 23 rfl rfl (fun a w hS hK K hC => ?_) ?_
           ·refine Reg.step_on (wanted_on (g := 22) rfl rfl rfl (hK.slot 22 _ _ _ rfl (by kernel_rfl))) ?_
            have e11 := hK.off 11 _ rfl rfl
            clear hK
            go_simp
            exact hC _ hS
           refine Reg.from_some 24 rfl rfl (fun a w hS hK K hC => ?_) ?_
           ·refine Reg.step_on (wanted_on (g := 22) rfl rfl rfl (hK.slot 22 _ _ _ rfl (by kernel_rfl))) ?_
            have e10 := hK.off 10 _ rfl rfl
            clear hK
            go_simp
            exact hC _ hS
           refine Reg.from_some 25 rfl rfl (fun a w hS hK K hC => ?_) ?_
           ·refine Reg.step_on (wanted_on (g := 22) rfl rfl rfl (hK.slot 22 _ _ _ rfl (by kernel_rfl))) ?_
            have e92 := hK.slot 24 _ _ _ rfl (by kernel_rfl)
            have m0 := Joins.cell_of_block (keep_below HM11.out hS) 0
            have m2 := Joins.cell_of_block (keep_below HM11.out hS) 2
            have k1 := Joins.cell_of_block (keep_below HK11.out hS) 1
            have k2 := Joins.cell_of_block (keep_below HK11.out hS) 2
            have k3 := Joins.cell_of_block (keep_below HK11.out hS) 3
            have k4 := Joins.cell_of_block (keep_below HK11.out hS) 4
            clear hK
            go_simp
            exact hC _ hS
           refine Reg.from_some 26 rfl rfl (fun a w hS hK K hC => ?_) ?_
           ·refine Reg.step_on (wanted_on (g := 22) rfl rfl rfl (hK.slot 22 _ _ _ rfl (by kernel_rfl))) ?_
            have e91 := hK.slot 23 _ _ _ rfl (by kernel_rfl)
            have e93 := hK.slot 25 _ _ _ rfl (by kernel_rfl)
            clear hK
            go_simp
            exact hC _ hS
           refine Reg.from_some 27 rfl rfl (fun a w hS hK K hC => ?_) ?_
           ·refine Reg.step_on (by rfl) ?_
            have e90 := hK.slot 22 _ _ _ rfl (by kernel_rfl)
            have e94 := hK.slot 26 _ _ _ rfl (by kernel_rfl)
            clear hK
            go_simp
            exact hC _ hS
           exact Reg.from_nil
          case r5okv => rfl
          case r5hlt => rfl
          case r5fin =>
           intro wz hS
           simp only [Reg.putV, List.foldl_cons, List.foldl_nil, Act.put, List.setIfInBounds_toArray, List.set_cons_zero, List.set_cons_succ]
           have HBz := Aside0.mk (below_step HB11.out hS)
           have HRz := Aside0.mk (keep_below HR11.out hS)
           have HXz := Aside0.mk (keep_below HX11.out hS)
           have HMz := Aside0.mk (keep_below HM11.out hS)
           clear hS
           go_upto_region 19 with (fail)
           refine RelS.relS [(0, 96, .inl ?r6v0), (1, 97, .inl ?r6v1), (2, 98, .inl ?r6v2), (3, 99, .inl ?r6v3), (4, 100, .inl ?r6v4), (5, 101, .inl ?r6v5), (6, 102, .inl ?r6v6), (8, 103, .inl ?r6v8), (10, 104, .inl ?r6v10), (12, 105, .inl ?r6v12), (14, 106, .inl ?r6v14)] [7, 9, 11, 13, 15] (bst W gx gm ct ml ms mp un uc) (fun _ _ => True) (by rfl) rfl (by kernel_rfl) (by decide) (by decide) ?r6S (Rel.stable_inl (Rel.stable_inl (Rel.stable_inl (Rel.stable_inl (Rel.stable_inl (Rel.stable_inl (Rel.stable_inl (Rel.stable_inl (Rel.stable_inl (Rel.stable_inl (Rel.stable_inl Rel.stable_nil))))))))))) ?r6steps ?r6okv ?r6hlt ?r6fin
           case r6S => exact ⟨below_drew HBz.out, HXz.out, HMz.out, HRz.out⟩
           case r6steps =>
            refine RelS.fromS_some 0 rfl rfl (fun s a wq hlo hhi hS hK K hC => ?_) ?_
            ·refine Reg.step_on (by rfl) ?_
             clear hlo hhi
             have e10 := hK.off 10 _ rfl rfl
             clear hK
             go_simp
             exact hC _ hS trivial
            refine RelS.fromS_some 1 rfl rfl (fun s a wq hlo hhi hS hK K hC => ?_) ?_
            ·refine Reg.step_on (by rfl) ?_
             clear hlo hhi
             have e96 := hK.slot 0 _ _ _ rfl (by kernel_rfl)
             have m0 := Joins.cell_of_block hS.2.2.1 0
             clear hK
             go_simp
             exact hC _ hS trivial
            refine RelS.fromS_some 2 rfl rfl (fun s a wq hlo hhi hS hK K hC => ?_) ?_
            ·refine Reg.step_on (by rfl) ?_
             clear hlo hhi
             have e10 := hK.off 10 _ rfl rfl
             clear hK
             go_simp
             exact hC _ hS trivial
            refine RelS.fromS_some 3 rfl rfl (fun s a wq hlo hhi hS hK K hC => ?_) ?_
            ·refine Reg.step_on (by rfl) ?_
             clear hlo hhi
             have e98 := hK.slot 2 _ _ _ rfl (by kernel_rfl)
             have m0 := Joins.cell_of_block hS.2.2.1 1
             clear hK
             go_simp
             exact hC _ hS trivial
            refine RelS.fromS_some 4 rfl rfl (fun s a wq hlo hhi hS hK K hC => ?_) ?_
            ·refine Reg.step_on (by rfl) ?_
             clear hlo hhi
             have e11 := hK.off 11 _ rfl rfl
             clear hK
             go_simp
             exact hC _ hS trivial
            refine RelS.fromS_some 5 rfl rfl (fun s a wq hlo hhi hS hK K hC => ?_) ?_
            ·refine Reg.step_on (by rfl) ?_
             clear hlo hhi
             have e12 := hK.off 12 _ rfl rfl
             clear hK
             go_simp
             exact hC _ hS trivial
            refine RelS.fromS_some 6 rfl rfl (fun s a wq hlo hhi hS hK K hC => ?_) ?_
            ·refine Reg.step_on (by rfl) ?_
             clear hlo hhi
             have e6 := hK.off 6 _ rfl rfl
             clear hK
             go_simp
             exact hC _ hS trivial
            refine RelS.fromS_none rfl rfl (fun s a wq hlo hhi hS hK K hC => ?_) ?_
            ·refine Reg.step_on (by rfl) ?_
             obtain rfl : s = 0 := Nat.le_antisymm (Nat.le_trans hhi (Nat.le_of_eq (by kernel_rfl))) (Nat.le_trans (Nat.le_of_eq (by kernel_rfl)) hlo)
             clear hlo hhi
             have e102 := hK.slot 6 _ _ _ rfl (by kernel_rfl)
             obtain ⟨hb, hx, hm, hr⟩ := hS
             have HB9s := Aside0.mk hb
             have HX9s := Aside0.mk hx
             have HM9s := Aside0.mk hm
             have HR9s := Aside0.mk hr
             have x0 := Joins.cell_of_block hx 0
             have f0 := blk_frozen hx 0
             clear hK hb hx hm hr
             go_simp
             exact hC _ ⟨below_set HB9s.out HGX.out.1, blk_put HX9s.out 0 _ rfl, blk_far HM9s.out HGM.out.1 _, blk_far HR9s.out HGX.out.2.symm _⟩ trivial
            refine RelS.fromS_some 7 rfl rfl (fun s a wq hlo hhi hS hK K hC => ?_) ?_
            ·refine Reg.step_on (by rfl) ?_
             clear hlo hhi
             have e6 := hK.off 6 _ rfl rfl
             clear hK
             go_simp
             exact hC _ hS trivial
            refine RelS.fromS_none rfl rfl (fun s a wq hlo hhi hS hK K hC => ?_) ?_
            ·refine Reg.step_on (by rfl) ?_
             obtain rfl : s = 1 := Nat.le_antisymm (Nat.le_trans hhi (Nat.le_of_eq (by kernel_rfl))) (Nat.le_trans (Nat.le_of_eq (by kernel_rfl)) hlo)
             clear hlo hhi
             have e103 := hK.slot 7 _ _ _ rfl (by kernel_rfl)
             have e97 := hK.slot 1 _ _ _ rfl (by kernel_rfl)
             obtain ⟨hb, hx, hm, hr⟩ := hS
             have HB9s := Aside0.mk hb
             have HX9s := Aside0.mk hx
             have HM9s := Aside0.mk hm
             have HR9s := Aside0.mk hr
             have x0 := Joins.cell_of_block hx 2
             have f0 := blk_frozen hx 2
             clear hK hb hx hm hr
             go_simp
             exact hC _ ⟨below_set HB9s.out HGX.out.1, blk_put HX9s.out 2 _ rfl, blk_far HM9s.out HGM.out.1 _, blk_far HR9s.out HGX.out.2.symm _⟩ trivial
            refine RelS.fromS_some 8 rfl rfl (fun s a wq hlo hhi hS hK K hC => ?_) ?_
            ·refine Reg.step_on (by rfl) ?_
             clear hlo hhi
             have e6 := hK.off 6 _ rfl rfl
             clear hK
             go_simp
             exact hC _ hS trivial
            refine RelS.fromS_none rfl rfl (fun s a wq hlo hhi hS hK K hC => ?_) ?_
            ·refine Reg.step_on (by rfl) ?_
             obtain rfl : s = 2 := Nat.le_antisymm (Nat.le_trans hhi (Nat.le_of_eq (by kernel_rfl))) (Nat.le_trans (Nat.le_of_eq (by kernel_rfl)) hlo)
             clear hlo hhi
             have e104 := hK.slot 8 _ _ _ rfl (by kernel_rfl)
             have e99 := hK.slot 3 _ _ _ rfl (by kernel_rfl)
             obtain ⟨hb, hx, hm, hr⟩ := hS
             have HB9s := Aside0.mk hb
             have HX9s := Aside0.mk hx
             have HM9s := Aside0.mk hm
             have HR9s := Aside0.mk hr
             have x0 := Joins.cell_of_block hx 4
             have f0 := blk_frozen hx 4
             clear hK hb hx hm hr
             go_simp
             exact hC _ ⟨below_set HB9s.out HGX.out.1, blk_put HX9s.out 4 _ rfl, blk_far HM9s.out HGM.out.1 _, blk_far HR9s.out HGX.out.2.symm _⟩ trivial
            refine RelS.fromS_some 9 rfl rfl (fun s a wq hlo hhi hS hK K hC => ?_) ?_
            ·refine Reg.step_on (by rfl) ?_
             clear hlo hhi
             have e6 := hK.off 6 _ rfl rfl
             clear hK
             go_simp
             exact hC _ hS trivial
            refine RelS.fromS_none rfl rfl (fun s a wq hlo hhi hS hK K hC => ?_) ?_
            ·refine Reg.step_on (by rfl) ?_
             obtain rfl : s = 3 := Nat.le_antisymm (Nat.le_trans hhi (Nat.le_of_eq (by kernel_rfl))) (Nat.le_trans (Nat.le_of_eq (by kernel_rfl)) hlo)
             clear hlo hhi
             have e105 := hK.slot 9 _ _ _ rfl (by kernel_rfl)
             have e100 := hK.slot 4 _ _ _ rfl (by kernel_rfl)
             obtain ⟨hb, hx, hm, hr⟩ := hS
             have HB9s := Aside0.mk hb
             have HX9s := Aside0.mk hx
             have HM9s := Aside0.mk hm
             have HR9s := Aside0.mk hr
             have x0 := Joins.cell_of_block hx 3
             have f0 := blk_frozen hx 3
             clear hK hb hx hm hr
             go_simp
             exact hC _ ⟨below_set HB9s.out HGX.out.1, blk_put HX9s.out 3 _ rfl, blk_far HM9s.out HGM.out.1 _, blk_far HR9s.out HGX.out.2.symm _⟩ trivial
            refine RelS.fromS_some 10 rfl rfl (fun s a wq hlo hhi hS hK K hC => ?_) ?_
            ·refine Reg.step_on (by rfl) ?_
             clear hlo hhi
             have e6 := hK.off 6 _ rfl rfl
             clear hK
             go_simp
             exact hC _ hS trivial
            refine RelS.fromS_none rfl rfl (fun s a wq hlo hhi hS hK K hC => ?_) ?_
            ·refine Reg.step_on (by rfl) ?_
             obtain rfl : s = 4 := Nat.le_antisymm (Nat.le_trans hhi (Nat.le_of_eq (by kernel_rfl))) (Nat.le_trans (Nat.le_of_eq (by kernel_rfl)) hlo)
             clear hlo hhi
             have e106 := hK.slot 10 _ _ _ rfl (by kernel_rfl)
             have e101 := hK.slot 5 _ _ _ rfl (by kernel_rfl)
             obtain ⟨hb, hx, hm, hr⟩ := hS
             have HB9s := Aside0.mk hb
             have HX9s := Aside0.mk hx
             have HM9s := Aside0.mk hm
             have HR9s := Aside0.mk hr
             have x0 := Joins.cell_of_block hx 5
             have f0 := blk_frozen hx 5
             clear hK hb hx hm hr
             go_simp
             exact hC _ ⟨below_set HB9s.out HGX.out.1, blk_put HX9s.out 5 _ rfl, blk_far HM9s.out HGM.out.1 _, blk_far HR9s.out HGX.out.2.symm _⟩ trivial
            exact RelS.fromS_nil
           case r6okv => rfl
           case r6hlt => rfl
           case r6fin =>
            intro U wz hS hU
            clear hU
            simp only [Rel.inst, Nat.zero_add, Reg.putV, List.foldl_cons, List.foldl_nil, Act.put, List.setIfInBounds_toArray, List.set_cons_zero, List.set_cons_succ]
            obtain ⟨hbs, hxs, hms, hrs⟩ := hS
            have HBs := Aside0.mk hbs
            have HXs := Aside0.mk hxs
            have HRs := Aside0.mk hrs
            clear hbs hxs hms hrs
            have x0 := Joins.cell_of_block HXs.out 0
            have x1 := Joins.cell_of_block HXs.out 1
            have x2 := Joins.cell_of_block HXs.out 2
            have x3 := Joins.cell_of_block HXs.out 3
            have x4 := Joins.cell_of_block HXs.out 4
            have x5 := Joins.cell_of_block HXs.out 5
            have fr0 := blk_frozen HRs.out 0
            have fr1 := blk_frozen HRs.out 1
            have fr2 := blk_frozen HRs.out 2
            have fr3 := blk_frozen HRs.out 3
            have fr4 := blk_frozen HRs.out 4
            have fr5 := blk_frozen HRs.out 5
            have yr0 := Joins.cell_of_block HRs.out 0
            have yr1 := Joins.cell_of_block HRs.out 1
            have yr2 := Joins.cell_of_block HRs.out 2
            have yr3 := Joins.cell_of_block HRs.out 3
            have yr4 := Joins.cell_of_block HRs.out 4
            have yr5 := Joins.cell_of_block HRs.out 5
            go_wp2
            refine bodyPost_ret (results_ct rfl _ _ W.heap.size 49 #[.int .i64 4, .int .i64 ct, .int .i64 ml, .int .i64 un, .int .u64 ms, .bool uc] (0, 0) _ rfl (set6 HRs.out _ _ _ _ _ _) Tryd.underlying49 rfl (by kernel_rfl)) rfl ?_
            rw [HE.out]
            exact ⟨rfl, below_set6 HBs.out (Nat.le_refl _) _ _ _ _ _ _⟩
end Go.Proofs.YtdlimghdimkadaaDoor.PAll
namespace Go.Proofs.YtdlimghdimkadaaDoor.PAll
open Go Go.RowKit Go.Shelf Go.Proofs.YtdlimghdimkadaaDoorW.PrintWords
set_option linter.unusedSimpArgs false
set_option linter.unusedVariables false
attribute [local go_sem] Oper.semAt_some
def Entry (W : World) (A : Option Addr) (k : Nat) (x : Blk) : Prop := ∃ ad, A = some ad ∧ W.cell? (ad.add (k * 6)) = some (.int .i64 x.f0) ∧ W.cell? ⟨(ad.add (k * 6)).block, (ad.add (k * 6)).off + 1, none⟩ = some (.int .i64 x.f1) ∧ W.cell? ⟨(ad.add (k * 6)).block, (ad.add (k * 6)).off + 2, none⟩ = some (.int .i64 x.f2) ∧ W.cell? ⟨(ad.add (k * 6)).block, (ad.add (k * 6)).off + 3, none⟩ = some (.int .i64 x.f3) ∧ W.cell? ⟨(ad.add (k * 6)).block, (ad.add (k * 6)).off + 4, none⟩ = some (.int .u64 x.f4) ∧ W.cell? ⟨(ad.add (k * 6)).block, (ad.add (k * 6)).off + 5, none⟩ = some (.bool x.f5)
abbrev Ent (xs : List Blk) := { p : Nat × Blk // p.1 < xs.length ∧ xs[p.1]? = some p.2 }
def encE {xs : List Blk} (x : Ent xs) : Array Value := #[.int .i64 (x.1.1 : Int), .agg (bC x.1.2)]
def entAt (xs : List Blk) (k : Nat) (h : k < xs.length) : Ent xs := ⟨(k, xs[k]), h, List.getElem?_eq_getElem h⟩
def fil (xs : List Blk) (st : Int) : Nat → List (Ent xs)
 | 0 => []
 | k + 1 => if h : k < xs.length then (if xs[k].f0 = st then fil xs st k ++ [entAt xs k h] else fil xs st k) else fil xs st k
theorem fil_hit {xs : List Blk} {st : Int} {k : Nat} (h : k < xs.length) (hs : xs[k].f0 = st) : fil xs st (k + 1) = fil xs st k ++ [entAt xs k h] := by
 rw [fil, dif_pos h, if_pos hs]
theorem fil_miss {xs : List Blk} {st : Int} {k : Nat} (h : k < xs.length) (hs : ¬ xs[k].f0 = st) : fil xs st (k + 1) = fil xs st k := by
 rw [fil, dif_pos h, if_neg hs]
theorem fil_len (xs : List Blk) (st : Int) : ∀ k, (fil xs st k).length ≤ k
 | 0 => Nat.le_refl _
 | k + 1 => by
  have h := fil_len xs st k
  rw [fil]
  split
  ·split
   ·simp; omega
   ·omega
  ·omega
abbrev kBlk : Kd Blk := k49
theorem entry_of {W : World} {A : Option Addr} {xs : List Blk} (h : Kd.C kBlk W A xs.length xs) (k : Nat) (hk : k < xs.length) : Entry W A k xs[k] := by
 have h2 := at_T49 h (k : Int) (by omega) (by omega)
 have e : rd_T49 xs (k : Int) = xs[k] := by
  unfold rd_T49
  rw [Int.toNat_natCast, List.getD_eq_getElem?_getD, List.getElem?_eq_getElem hk]
  rfl
 rw [e, Int.toNat_natCast] at h2
 exact h2
set_option maxRecDepth 100000 in
set_option maxHeartbeats 4000000 in
theorem blocks1_in (F : Fence) (n : Nat) (h50 : F.fn 50) (hro : F.round = none) (hn : 1 ≤ n) (l Bs Bt : Nat) (st : Int) (A : Option Addr) (c : Nat) (xs : List Blk) (W : World)
  (J Jx : List (Ent xs) → World → Prop) (hJa : ∀ pre W o, J pre W → J pre (W.alloc o))
  (hE : ∀ k W', (h : k < xs.length) → J (fil xs st k) W' → Entry W' A k xs[k])
  (hY : ∀ pre x W1, J pre W1 → pre.length < xs.length → YieldAt F (n - 1) Tryd.prog l (encE x) W1 fun e W' =>
   (e = .returned (.bool true) ∧ J (pre ++ [x]) W') ∨ (e = .returned (.bool false) ∧ Jx (pre ++ [x]) W'))
  (hlen : xs.length ≤ 4611686018427387904)
  (hBs : W.cell? ⟨Bs, 0, none⟩ = some (.slice A xs.length c)) (hBt : ∀ pre W', J pre W' → W'.cell? ⟨Bt, 0, none⟩ = some (.int .i64 st)) (h0 : J [] W) :
  CallsIn F n Tryd.prog 50 #[.func (.yield l) #[] #[], .pointer (some ⟨Bs, 0, none⟩), .pointer (some ⟨Bt, 0, none⟩)] W fun e W' => (∃ v, e = .returned v) ∧
   ((∃ ys, ys = fil xs st xs.length ∧ J ys W') ∨ (∃ pre, (∃ k, ∃ h : k < xs.length, xs[k].f0 = st ∧ pre = fil xs st k ++ [entAt xs k h]) ∧ Jx pre W')) := by
 refine callsIn_of_wp Tryd.func50 rfl h50 ?_ hro
 simp only [Tryd.ntmps50, List.size_toArray, List.length_cons, List.length_nil, Nat.reduceAdd, Nat.reduceSub, Array.replicate_succ, Array.replicate_zero, List.push_toArray, List.append_toArray, List.nil_append, List.cons_append]
 have hu49 := Tryd.underlying49
 gi_wp2
 gi_loopw [8] (fun i wr => ∃ m : Nat, m ≤ xs.length ∧ i = .int .i64 (m : Int) ∧ J (fil xs st m) wr)
  (fun i _ => xs.length - (intOf i).toNat)
 case atStart => exact ⟨0, Nat.zero_le _, rfl, h0⟩
 case round =>
  obtain ⟨m, hm, rfl, hJs⟩ := hrel
  by_cases hlt : m < xs.length
  ·have d0 : decide ((m : Int) < (xs.length : Int)) = true := decide_eq_true (by omega)
   have hq : (m < xs.length) = True := eq_true hlt
   have hqi : ((m : Int) < (xs.length : Int)) = True := eq_true (by omega)
   obtain ⟨ad, rfl, c0, c1, c2, c3, c4, c5⟩ := hE m wr hlt hJs
   have zt : ∀ o, (wr.alloc o).cell? ⟨Bt, 0, none⟩ = some (.int .i64 st) := fun o => hBt _ _ (hJa _ _ o hJs)
   by_cases hs : xs[m].f0 = st
   ·have HF := Aside0.mk (fil_hit hlt hs)
    have e1 : (xs[m].f0 == st) = true := by simp only [beq_iff_eq]; exact hs
    obtain ⟨W2, hW2⟩ : ∃ W2, wr.alloc (.cells (bC xs[m]) 49) = W2 := ⟨_, rfl⟩
    have hJ2 : J (fil xs st m) W2 := by rw [← hW2]; exact hJa _ _ _ hJs
    obtain ⟨fn, tmps, assign, body, hy, hR⟩ := hY _ (entAt xs m hlt) W2 hJ2 (Nat.lt_of_le_of_lt (fil_len xs st m) hlt)
    dsimp only [encE, entAt] at hy
    rw [← hW2] at hy
    have HS := Aside0.mk hs
    have HW2 := Aside0.mk hW2
    clear hs hW2
    gi_wp2
    rw [HW2.out]
    refine hR.mono ?_
    rintro e W3 (⟨rfl, hJ3⟩ | ⟨rfl, hJx3⟩)
    ·gi_wp2
     go_roundw
     case rel => exact ⟨m + 1, by omega, by push_cast; rfl, by rw [HF.out]; exact hJ3⟩
     case measure => simp [intOf]; omega
    ·gi_wp2
     refine bodyPost_ret (results_none rfl _ _ _) rfl ?_
     exact ⟨⟨_, rfl⟩, .inr ⟨_, ⟨m, hlt, HS.out, rfl⟩, hJx3⟩⟩
   ·have HF := Aside0.mk (fil_miss hlt hs)
    have e1 : (xs[m].f0 == st) = false := by simp only [beq_eq_false_iff_ne]; exact hs
    clear hs
    gi_wp2
    refine ⟨(fun f hf => (nomatch hf)), ?_⟩
    gi_wp2
    go_roundw
    case rel => exact ⟨m + 1, by omega, by push_cast; rfl, by rw [HF.out]; exact hJa _ _ _ hJs⟩
    case measure => simp [intOf]; omega
  ·obtain rfl : m = xs.length := by omega
   have d0 : decide ((xs.length : Int) < (xs.length : Int)) = false := decide_eq_false (by omega)
   gi_wp2
   go_end0
   exact ⟨⟨_, rfl⟩, .inl ⟨_, rfl, hJs⟩⟩
set_option maxHeartbeats 1000000 in
theorem blocks_in (F : Fence) (n : Nat) (h27 : F.fn 27) (hro : F.round = none) (a : Option Addr) (len cap : Nat) (st : Int) (w : World) :
  CallsIn F n Tryd.prog 27 #[.slice a len cap, .int .i64 st] w fun e w' => e = .returned (.func (.func 50) #[] #[.pointer (some ⟨w.heap.size, 0, none⟩), .pointer (some ⟨w.heap.size + 1, 0, none⟩)]) ∧ w' = (w.alloc (.cells #[.slice a len cap] 23)).alloc (.cells #[.int .i64 st] 3) := by
 refine callsIn_of_wp Tryd.func27 rfl h27 ?_ hro
 simp only [Tryd.ntmps27, List.size_toArray, List.length_cons, List.length_nil, Nat.reduceAdd, Nat.reduceSub, Array.replicate_succ, Array.replicate_zero, List.push_toArray, List.append_toArray, List.nil_append, List.cons_append]
 gi_wp2
 go_ret
 exact ⟨by simp, rfl⟩
end Go.Proofs.YtdlimghdimkadaaDoor.PAll

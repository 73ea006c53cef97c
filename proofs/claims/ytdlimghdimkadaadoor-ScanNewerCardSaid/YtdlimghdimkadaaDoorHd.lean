/- The reader's take; ParseCount, ParseMapping. -/
import Derived.Test.YtdlimghdimkadaaDoorHc
namespace Go.Proofs.YtdlimghdimkadaaDoor.PAll
open Go.RowKit Go.Proofs.YtdlimghdimkadaaDoorW.PrintWords Go.Proofs.YtdlimghdimkadaaDoorW.PrintLast Go.Proofs.YtdlimghdimkadaaDoorW.PrintMore Go.Proofs.YtdlimghdimkadaaDoor.Plain
set_option linter.unusedVariables false
set_option linter.unusedSimpArgs false
attribute [local go_sem] max2_int min2_int max_two min_two max_three min_three max_four min_four
/-- Nothing but the block g is written. -/
def Only (g : Nat) (w w' : World) : Prop := ∀ (k : Nat) (cs : Array Value) (t : Nat) (fr : Nat × Nat), k ≠ g → w.heap[k]? = some (.cells cs t fr) → w'.heap[k]? = some (.cells cs t fr)
theorem Only.of_below {g : Nat} {w w' : World} (h : Below w.heap.size w w') : Only g w w' := fun k cs t fr _ hk => by rw [h.block k (blk_lt hk)]; exact hk
theorem Only.set {g : Nat} {w w' : World} (h : Only g w w') (k : Nat) (v : Value) : Only g w (w'.setCell ⟨g, k, none⟩ v) := fun x cs t fr hne hx => (Below.heap_setCell w' ⟨g, k, none⟩ v x hne).trans (h x cs t fr hne hx)
set_option maxRecDepth 100000 in
set_option maxHeartbeats 8000000 in
theorem take_is {w0 w : World} (hb : Below w0.heap.size w0 w) {g : Nat} (hge : w0.heap.size ≤ g) (B : Option Addr) (c : Nat) (l : List Int) (hx : w.heap[g]? = some (.cells #[.slice B l.length c] 141 (0, 0))) (hl : Bytes l) (hc : l.length ≤ c) (hC : Kd.C kB w B l.length l) (n : Nat) (hn : n ≤ l.length) (h8 : n ≤ 100) :
    Calls Tryd.prog 70 #[.pointer (some ⟨g, 0, none⟩), .int .i64 n] w fun e w' => e = .returned (.int .u64 (getL (l.take n))) ∧ Below w0.heap.size w0 w' ∧ Only g w w' ∧ ∃ (B' : Option Addr) (c' : Nat), w'.heap[g]? = some (.cells #[.slice B' (l.drop n).length c'] 141 (0, 0)) ∧ (l.drop n).length ≤ c' ∧ Kd.C kB w' B' (l.drop n).length (l.drop n) := by
  obtain ⟨hcut1, hc1, hC1⟩ := sl_to B c l (n : Int) (by omega) (by omega) hc
  obtain ⟨B2, c2, hcut2, hc2, hC2⟩ := sl_from B c l (n : Int) (by omega) (by omega) hc
  have hD := hC2 w hC
  have HGT := Aside0.mk (get_is B c (l.take (n : Int).toNat) w (hl.take _) (hC1 w hC) hc1)
  have y0 := Joins.cell_of_block hx 0
  have fo := blk_frozen hx 0
  have HX := Aside0.mk hx
  have HB := Aside0.mk hb
  have HGE := Aside0.mk hge
  have hm1 : decide ((n : Int) ≤ (l.length : Int)) = true := decide_eq_true (by omega)
  have hm2 : decide ((n : Int) < (l.length : Int)) = true ∨ n = l.length := by
    rcases Nat.lt_or_ge n l.length with h | h
    · exact .inl (decide_eq_true (by omega))
    · exact .inr (by omega)
  have hmin : min (n : Int) (l.length : Int) = (n : Int) := by omega
  have hu := Tryd.underlying39
  obtain ⟨t, ht⟩ : ∃ t, t = l.take (n : Int).toNat := ⟨_, rfl⟩
  obtain ⟨d, hd⟩ : ∃ d, d = l.drop (n : Int).toNat := ⟨_, rfl⟩
  rw [← ht] at hcut1 HGT
  rw [← hd] at hcut2 hc2 hD
  rw [Int.toNat_natCast] at ht hd
  rw [← ht, ← hd]
  have HD := Aside0.mk hD
  have HC2 := Aside0.mk hc2
  clear hx hb hge hn h8 hl hC hC1 hC2 hc1 hc2 hD ht hd hc hm2
  go_enter Tryd.func70, Tryd.ntmps70
  go_upto_region 3 with (first
    | (go_at_call 75; (with_reducible refine HGT.out.mono ?_); rintro e w1 ⟨rfl, hb1⟩; have HX1 := Aside0.mk (keep_below HX.out hb1); have HB1 := Aside0.mk hb1; clear hb1))
  clear y0 fo
  have y0 := Joins.cell_of_block HX1.out 0
  have fo := blk_frozen HX1.out 0
  go_wp2
  go_ret
  exact ⟨rfl, below_set (below_step HB.out HB1.out) HGE.out, (Only.of_below HB1.out).set 0 _, B2, c2, blk_set HX1.out 0 _, HC2.out, C_far (Kd.C_below HD.out HB1.out) HX1.out (fun k q h => by
    match k, h with
    | 0, h => simp at h
    | k + 1, h => simp at h) 0 _⟩
theorem getL_u64 {l : List Int} (hl : Bytes l) (k : Nat) (hk : k ≤ 4) (hn : l.length ≤ k) : 0 ≤ getL l ∧ getL l < 4294967296 := by
  have h := getL_bd hl
  refine ⟨h.1, Int.lt_of_lt_of_le h.2 ?_⟩
  have h3 : min l.length 8 ≤ 4 := by omega
  generalize min l.length 8 = m at h3 ⊢
  rcases (show m = 0 ∨ m = 1 ∨ m = 2 ∨ m = 3 ∨ m = 4 by omega) with rfl | rfl | rfl | rfl | rfl <;> decide
set_option maxRecDepth 100000 in
set_option maxHeartbeats 8000000 in
theorem parseCount_is (A : Option Addr) (c : Nat) (l : List Int) (a : Addr) (w : World) (hl : Bytes l) (hr : Kd.C kB w A l.length l) (hc : l.length ≤ c) (hg : gNone w a) :
    Calls Tryd.prog 57 #[.slice A l.length c] w fun e w' => e = .returned (.tuple #[.int .i64 (parseCountL l).1, .bool (parseCountL l).2]) ∧ Below w.heap.size w w' := by
  have HO := Aside0.mk (show Calls Tryd.prog 68 #[.slice A l.length c, .int .u8 69, .int .i64 5] w _ from open_is A c l a 69 5 w (by decide) hl hr hc hg)
  have HG := Aside0.mk hg
  cases ho : openL l 69 5 with
  | none =>
    have hP : parseCountL l = (0, false) := by unfold parseCountL; rw [ho]
    rw [hP]
    rw [ho] at HO
    clear hP ho hl hr hc hg
    go_enter Tryd.func57, Tryd.ntmps57
    go_upto_region 2 with (first
      | (go_at_call 68; (with_reducible refine HO.out.mono ?_); rintro e w1 ⟨v, rfl, ⟨x, rfl, hx⟩, hb1⟩; have HX := Aside0.mk hx; have HB1 := Aside0.mk hb1; clear hx hb1))
    have hg1 : gNone w1 a := cell_below HG.out HB1.out
    have HG1 := Aside0.mk hg1
    change w1.cell? ⟨0, 0, none⟩ = some (.iface 158 (.pointer (some a))) at hg1
    rcases HX.out with rfl | ⟨k, rfl⟩
    · clear HX
      go_wp2_with (first
        | (go_at_call 69; (with_reducible refine (is_none_same a _).mono ?_); rintro e w2 ⟨rfl, hb2⟩; have HB2 := Aside0.mk (below_step HB1.out hb2); clear hb2))
      go_ret2
      exact ⟨rfl, HB2.out⟩
    · clear HX
      have HI := Aside0.mk (is_none_kind k a w1 HG1.out)
      go_wp2_with (first
        | (go_at_call 69; (with_reducible refine HI.out.mono ?_); rintro e w2 ⟨rfl, hb2⟩; have HB2 := Aside0.mk (below_step HB1.out hb2); clear hb2))
      go_ret2
      exact ⟨rfl, HB2.out⟩
  | some p =>
    obtain ⟨hpb, hpl, hpk⟩ := open_bytes hl ho
    have hd4 : (p.drop 1).length = 4 := by rw [List.length_drop, hpl]
    have hP : parseCountL l = if 2147483647 < getL (p.drop 1) then (0, false) else (getL (p.drop 1), true) := by unfold parseCountL; rw [ho]
    rw [hP]
    rw [ho] at HO
    have hbd := getL_u64 (hpb.drop 1) 4 (by decide) (by omega)
    have htk : (p.drop 1).take 4 = p.drop 1 := List.take_of_length_le (by omega)
    have hwr : IntKind.i64.wrap (getL (p.drop 1)) = getL (p.drop 1) := by rw [i64_w]; exact wrap64_of (by omega) (by omega)
    have HT := Aside0.mk (fun (w0 w1 : World) (hb : Below w0.heap.size w0 w1) (g : Nat) (hge : w0.heap.size ≤ g) (B : Option Addr) (c : Nat) (hx : w1.heap[g]? = some (.cells #[.slice B (p.drop 1).length c] 141 (0, 0))) (hc : (p.drop 1).length ≤ c) (hC : Kd.C kB w1 B (p.drop 1).length (p.drop 1)) => show Calls Tryd.prog 70 #[.pointer (some ⟨g, 0, none⟩), .int .i64 4] w1 (fun e w' => e = .returned (.int .u64 (getL (p.drop 1))) ∧ Below w0.heap.size w0 w') from (take_is hb hge B c (p.drop 1) hx (hpb.drop 1) hc hC 4 (by omega) (by decide)).mono fun e w' h => ⟨by rw [← htk]; exact h.1, h.2.1⟩)
    generalize getL (p.drop 1) = x at hbd hwr HT ⊢
    clear hP ho hl hr hc hg htk hpl hpk
    by_cases hbig : 2147483647 < x
    · have d0 : decide (2147483647 < x) = true := decide_eq_true hbig
      rw [if_pos hbig]
      clear hbig hbd
      go_enter Tryd.func57, Tryd.ntmps57
      go_upto_region 2 with (first
        | (go_at_call 68; (with_reducible refine HO.out.mono ?_); rintro e w1 ⟨v, rfl, ⟨g, B, c2, rfl, hge, hx, hc2, hC2⟩, hb1⟩; have HB1 := Aside0.mk hb1; have HT1 := Aside0.mk (fun (w2 : World) (hb : Below w1.heap.size w1 w2) => HT.out w w2 (below_step hb1 hb) g hge B c2 (keep_below hx hb) hc2 (Kd.C_below hC2 hb)); clear hx hb1 hc2 hC2 hge))
      have hg1 : w1.cell? ⟨0, 0, none⟩ = some (.iface 158 (.pointer (some a))) := cell_below HG.out HB1.out
      go_wp2_with (first
        | (go_at_call 69; (with_reducible refine (is_none_nil a _).mono ?_); rintro e w2 ⟨rfl, hb2⟩; have HB2 := Aside0.mk hb2; have HT2 := Aside0.mk (HT1.out w2 hb2); clear hb2)
        | (go_at_call 70; (with_reducible refine HT2.out.mono ?_); rintro e w3 ⟨rfl, hb3⟩; have HB3 := Aside0.mk hb3; clear hb3))
      go_ret2
      exact ⟨rfl, HB3.out⟩
    · have d0 : decide (2147483647 < x) = false := decide_eq_false hbig
      rw [if_neg hbig]
      clear hbig hbd
      go_enter Tryd.func57, Tryd.ntmps57
      go_upto_region 2 with (first
        | (go_at_call 68; (with_reducible refine HO.out.mono ?_); rintro e w1 ⟨v, rfl, ⟨g, B, c2, rfl, hge, hx, hc2, hC2⟩, hb1⟩; have HB1 := Aside0.mk hb1; have HT1 := Aside0.mk (fun (w2 : World) (hb : Below w1.heap.size w1 w2) => HT.out w w2 (below_step hb1 hb) g hge B c2 (keep_below hx hb) hc2 (Kd.C_below hC2 hb)); clear hx hb1 hc2 hC2 hge))
      have hg1 : w1.cell? ⟨0, 0, none⟩ = some (.iface 158 (.pointer (some a))) := cell_below HG.out HB1.out
      go_wp2_with (first
        | (go_at_call 69; (with_reducible refine (is_none_nil a _).mono ?_); rintro e w2 ⟨rfl, hb2⟩; have HB2 := Aside0.mk hb2; have HT2 := Aside0.mk (HT1.out w2 hb2); clear hb2)
        | (go_at_call 70; (with_reducible refine HT2.out.mono ?_); rintro e w3 ⟨rfl, hb3⟩; have HB3 := Aside0.mk hb3; clear hb3))
      go_ret2
      exact ⟨rfl, HB3.out⟩
theorem set3 {W : World} {g t : Nat} {a b c : Value} (h : W.heap[g]? = some (.cells #[a, b, c] t (0, 0))) (x y z : Value) : (((W.setCell ⟨g, 0, none⟩ x).setCell ⟨g, 1, none⟩ y).setCell ⟨g, 2, none⟩ z).heap[g]? = some (.cells #[x, y, z] t (0, 0)) :=
  blk_set (blk_set (blk_set h 0 x) 1 y) 2 z
theorem keep_set {W : World} {g t g2 t2 : Nat} {cs cs2 : Array Value} (h : W.heap[g]? = some (.cells cs t (0, 0))) (hne : g ≠ g2) (k : Nat) (v : Value) : (W.setCell ⟨g2, k, none⟩ v).heap[g]? = some (.cells cs t (0, 0)) := blk_far h hne v
def mapCells (leb seq pages : Int) : Array Value := #[.int .i64 leb, .int .u64 seq, .int .i64 pages]
set_option maxRecDepth 100000 in
set_option maxHeartbeats 8000000 in
theorem parseMap_is (A : Option Addr) (c : Nat) (l : List Int) (a : Addr) (w : World) (hl : Bytes l) (hr : Kd.C kB w A l.length l) (hc : l.length ≤ c) (hg : gNone w a) :
    Calls Tryd.prog 58 #[.slice A l.length c] w fun e w' => e = .returned (.tuple #[.agg #[.int .i64 (parseMapL l).1.1, .int .u64 (parseMapL l).1.2.1, .int .i64 (parseMapL l).1.2.2], .bool (parseMapL l).2]) ∧ Below w.heap.size w w' := by
  have HO := Aside0.mk (fun (w' : World) (hb : Below w.heap.size w w') => show Calls Tryd.prog 68 #[.slice A l.length c, .int .u8 77, .int .i64 12] w' _ from open_is A c l a 77 12 w' (by decide) hl (Kd.C_below hr hb) hc (cell_below hg hb))
  have HG := Aside0.mk hg
  have hu30 := Tryd.underlying115
  cases ho : openL l 77 12 with
  | none =>
    have hP : parseMapL l = ((0, 0, 0), false) := by unfold parseMapL; rw [ho]
    rw [hP]
    rw [ho] at HO
    clear hP ho hl hr hc hg
    go_enter Tryd.func58, Tryd.ntmps58
    go_upto_region 1 with (fail)
    generalize hW : w.alloc (.cells #[.int .i64 0, .int .u64 0, .int .i64 0] 115) = wa
    have hba : Below w.heap.size w wa := by rw [← hW]; exact below_alloc (Below.refl _ _) _
    have hxa : wa.heap[w.heap.size]? = some (.cells #[.int .i64 0, .int .u64 0, .int .i64 0] 115 (0, 0)) := by rw [← hW]; exact new_blk _ _ _
    obtain ⟨gr, hgr⟩ : ∃ gr, gr = w.heap.size := ⟨_, rfl⟩
    rw [← hgr] at hxa ⊢
    have HGR := Aside0.mk (Nat.le_of_eq hgr.symm)
    have HXA := Aside0.mk hxa
    have HO1 := Aside0.mk (HO.out wa hba)
    have HBA := Aside0.mk hba
    clear hW hba hxa hgr
    go_upto_region 2 with (first
      | (go_at_call 68; (with_reducible refine HO1.out.mono ?_); rintro e w1 ⟨v, rfl, ⟨x, rfl, hx⟩, hb1⟩; have HX := Aside0.mk hx; have HB1 := Aside0.mk (below_step HBA.out hb1); have HXB := Aside0.mk (keep_below HXA.out hb1); clear hx hb1))
    have hg1 : gNone w1 a := cell_below HG.out HB1.out
    have HG1 := Aside0.mk hg1
    change w1.cell? ⟨0, 0, none⟩ = some (.iface 158 (.pointer (some a))) at hg1
    have HIS : Aside0 (∀ x, (x = .iface 158 (.pointer (some a)) ∨ ∃ k : Addr, x = .iface 137 (.pointer (some k))) → Calls Tryd.prog 69 #[x, .iface 158 (.pointer (some a))] w1 fun e w' => e = .returned (.bool true) ∧ Below w1.heap.size w1 w') := ⟨fun x hx => by
      rcases hx with rfl | ⟨k, rfl⟩
      · exact is_none_same a _
      · exact is_none_kind k a w1 HG1.out⟩
    have HI := Aside0.mk (HIS.out x HX.out)
    clear HIS HX
    go_upto_region 3 with (first
      | (go_at_call 69; (with_reducible refine HI.out.mono ?_); rintro e w2 ⟨rfl, hb2⟩; have HB2 := Aside0.mk (below_step HB1.out hb2); have HXC := Aside0.mk (keep_below HXB.out hb2); clear hb2))
    have y0 := Joins.cell_of_block HXC.out 0
    have y1 := Joins.cell_of_block HXC.out 1
    have y2 := Joins.cell_of_block HXC.out 2
    have f0 := blk_frozen HXC.out 0
    have f1 := blk_frozen HXC.out 1
    have f2 := blk_frozen HXC.out 2
    go_wp2
    refine bodyPost_ret (results_ct rfl _ _ gr 115 #[.int .i64 0, .int .u64 0, .int .i64 0] (0, 0) _ rfl (set3 HXC.out _ _ _) Tryd.underlying115 rfl (by kernel_rfl)) rfl ?_
    exact ⟨rfl, below_set (below_set (below_set HB2.out HGR.out) HGR.out) HGR.out⟩
  | some p =>
    obtain ⟨hpb, hpl, hpk⟩ := open_bytes hl ho
    obtain ⟨q, hq⟩ : ∃ q, q = p.drop 1 := ⟨_, rfl⟩
    have hql : q.length = 11 := by rw [hq, List.length_drop, hpl]
    have hqb : Bytes q := by rw [hq]; exact hpb.drop 1
    have e3 : p.drop 3 = q.drop 2 := by rw [hq, List.drop_drop]
    have e11 : p.drop 11 = (q.drop 2).drop 8 := by rw [hq, List.drop_drop, List.drop_drop]
    have hP : parseMapL l = if 256 ≤ getL (q.take 2) ∨ 64 < getL (((q.drop 2).drop 8).take 1) then ((0, 0, 0), false) else ((getL (q.take 2), getL ((q.drop 2).take 8), getL (((q.drop 2).drop 8).take 1)), true) := by
      unfold parseMapL
      rw [ho]
      show (if 256 ≤ getL ((p.drop 1).take 2) ∨ 64 < getL ((p.drop 11).take 1) then (((0 : Int), (0 : Int), (0 : Int)), false) else ((getL ((p.drop 1).take 2), getL ((p.drop 3).take 8), getL ((p.drop 11).take 1)), true)) = _
      rw [← hq, e3, e11]
    rw [hP]
    rw [ho] at HO
    have hb1 := getL_u64 (hqb.take 2) 2 (by decide) (by rw [List.length_take]; omega)
    have hb3 := getL_u64 (((hqb.drop 2).drop 8).take 1) 1 (by decide) (by rw [List.length_take]; omega)
    have hw1 : IntKind.i64.wrap (getL (q.take 2)) = getL (q.take 2) := by rw [i64_w]; exact wrap64_of (by omega) (by omega)
    have hw3 : IntKind.i64.wrap (getL (((q.drop 2).drop 8).take 1)) = getL (((q.drop 2).drop 8).take 1) := by rw [i64_w]; exact wrap64_of (by omega) (by omega)
    obtain ⟨leb, hleb⟩ : ∃ x, x = getL (q.take 2) := ⟨_, rfl⟩
    obtain ⟨seq, hseq⟩ : ∃ x, x = getL ((q.drop 2).take 8) := ⟨_, rfl⟩
    obtain ⟨pg, hpg⟩ : ∃ x, x = getL (((q.drop 2).drop 8).take 1) := ⟨_, rfl⟩
    rw [← hleb, ← hseq, ← hpg]
    rw [← hleb] at hw1 hb1
    rw [← hpg] at hw3 hb3
    obtain ⟨q2, hq2⟩ : ∃ x, x = q.drop 2 := ⟨_, rfl⟩
    rw [← hq2] at hseq hpg
    obtain ⟨q3, hq3⟩ : ∃ x, x = q2.drop 8 := ⟨_, rfl⟩
    rw [← hq3] at hpg
    have hq2l : q2.length = 9 := by rw [hq2, List.length_drop, hql]
    have hq3l : q3.length = 1 := by rw [hq3, List.length_drop, hq2l]
    have hq2b : Bytes q2 := by rw [hq2]; exact hqb.drop 2
    have hq3b : Bytes q3 := by rw [hq3]; exact hq2b.drop 8
    have HT1 := Aside0.mk (fun (w1 : World) (hb : Below w.heap.size w w1) (g : Nat) (hge : w.heap.size ≤ g) (B : Option Addr) (c : Nat) (hx : w1.heap[g]? = some (.cells #[.slice B q.length c] 141 (0, 0))) (hc : q.length ≤ c) (hC : Kd.C kB w1 B q.length q) => show Calls Tryd.prog 70 #[.pointer (some ⟨g, 0, none⟩), .int .i64 2] w1 (fun e w' => e = .returned (.int .u64 leb) ∧ Below w.heap.size w w' ∧ Only g w1 w' ∧ ∃ (B' : Option Addr) (c' : Nat), w'.heap[g]? = some (.cells #[.slice B' q2.length c'] 141 (0, 0)) ∧ q2.length ≤ c' ∧ Kd.C kB w' B' q2.length q2) from by
      rw [hleb, hq2]
      exact take_is hb hge B c q hx hqb hc hC 2 (by omega) (by decide))
    have HT2 := Aside0.mk (fun (w1 : World) (hb : Below w.heap.size w w1) (g : Nat) (hge : w.heap.size ≤ g) (B : Option Addr) (c : Nat) (hx : w1.heap[g]? = some (.cells #[.slice B q2.length c] 141 (0, 0))) (hc : q2.length ≤ c) (hC : Kd.C kB w1 B q2.length q2) => show Calls Tryd.prog 70 #[.pointer (some ⟨g, 0, none⟩), .int .i64 8] w1 (fun e w' => e = .returned (.int .u64 seq) ∧ Below w.heap.size w w' ∧ Only g w1 w' ∧ ∃ (B' : Option Addr) (c' : Nat), w'.heap[g]? = some (.cells #[.slice B' q3.length c'] 141 (0, 0)) ∧ q3.length ≤ c' ∧ Kd.C kB w' B' q3.length q3) from by
      rw [hseq, hq3]
      exact take_is hb hge B c q2 hx hq2b hc hC 8 (by omega) (by decide))
    have HT3 := Aside0.mk (fun (w1 : World) (hb : Below w.heap.size w w1) (g : Nat) (hge : w.heap.size ≤ g) (B : Option Addr) (c : Nat) (hx : w1.heap[g]? = some (.cells #[.slice B q3.length c] 141 (0, 0))) (hc : q3.length ≤ c) (hC : Kd.C kB w1 B q3.length q3) => show Calls Tryd.prog 70 #[.pointer (some ⟨g, 0, none⟩), .int .i64 1] w1 (fun e w' => e = .returned (.int .u64 pg) ∧ Below w.heap.size w w' ∧ Only g w1 w') from by
      rw [hpg]
      exact (take_is hb hge B c q3 hx hq3b hc hC 1 (by omega) (by decide)).mono fun e w' h => ⟨h.1, h.2.1, h.2.2.1⟩)
    have HOP : Aside0 (∀ (w' : World) (_ : Below w.heap.size w w'), Calls Tryd.prog 68 #[.slice A l.length c, .int .u8 77, .int .i64 12] w' fun e w2 => ∃ (g : Nat) (B : Option Addr) (c : Nat), e = .returned (.tuple #[.pointer (some ⟨g, 0, none⟩), .nilIface]) ∧ w'.heap.size ≤ g ∧ w2.heap[g]? = some (.cells #[.slice B q.length c] 141 (0, 0)) ∧ q.length ≤ c ∧ Kd.C kB w2 B q.length q ∧ Below w'.heap.size w' w2) := ⟨fun w' hb => (HO.out w' hb).mono fun e w2 ⟨v, he, ⟨g, B, c, hv, h1, h2, h3, h4⟩, hb2⟩ => ⟨g, B, c, by rw [he, hv], h1, by rw [hq]; exact h2, by rw [hq]; exact h3, by rw [hq]; exact h4, hb2⟩⟩
    clear hP ho hl hr hc hg HO hleb hseq hpg hq hq2 hq3 hql hqb hq2l hq3l hq2b hq3b e3 e11 hpb hpl hpk
    by_cases hbad : 256 ≤ leb ∨ 64 < pg
    · rw [if_pos hbad]
      go_enter Tryd.func58, Tryd.ntmps58
      go_upto_region 1 with (fail)
      generalize hW : w.alloc (.cells #[.int .i64 0, .int .u64 0, .int .i64 0] 115) = wa
      have hba : Below w.heap.size w wa := by rw [← hW]; exact below_alloc (Below.refl _ _) _
      have hxa : wa.heap[w.heap.size]? = some (.cells #[.int .i64 0, .int .u64 0, .int .i64 0] 115 (0, 0)) := by rw [← hW]; exact new_blk _ _ _
      obtain ⟨gr, hgr⟩ : ∃ gr, gr = w.heap.size := ⟨_, rfl⟩
      rw [← hgr] at hxa ⊢
      have HGR := Aside0.mk (Nat.le_of_eq hgr.symm)
      have HXA := Aside0.mk hxa
      have HO1 := Aside0.mk (HOP.out wa hba)
      have HBA := Aside0.mk hba
      clear hW hba hxa hgr
      go_upto_region 2 with (first
        | (go_at_call 68; (with_reducible refine HO1.out.mono ?_); rintro e w1 ⟨g, B, c2, rfl, hge, hx, hc2, hC2, hb1⟩; have HB1 := Aside0.mk (below_step HBA.out hb1); have HXB := Aside0.mk (keep_below HXA.out hb1); have HGE := Aside0.mk (Nat.le_trans (below_size HBA.out) hge); have HX1 := Aside0.mk hx; have HC1 := Aside0.mk hc2; have HD1 := Aside0.mk hC2; clear hx hb1 hc2 hC2 hge))
      have hg1 : w1.cell? ⟨0, 0, none⟩ = some (.iface 158 (.pointer (some a))) := cell_below HG.out HB1.out
      go_upto_region 4 with (first
        | (go_at_call 69; (with_reducible refine (is_none_nil a _).mono ?_); rintro e w2 ⟨rfl, hb2⟩; have HB2 := Aside0.mk (below_step HB1.out hb2); have HXC := Aside0.mk (keep_below HXB.out hb2); have HX2 := Aside0.mk (keep_below HX1.out hb2); have HD2 := Aside0.mk (Kd.C_below HD1.out hb2); clear hb2))
      clear hg1
      go_upto_region 5 with (fail)
      generalize hW : w2.alloc (.cells #[.int .i64 0, .int .u64 0, .int .i64 0] 115) = w3
      have hb3' : Below w2.heap.size w2 w3 := by rw [← hW]; exact below_alloc (Below.refl _ _) _
      have hxm : w3.heap[w2.heap.size]? = some (.cells #[.int .i64 0, .int .u64 0, .int .i64 0] 115 (0, 0)) := by rw [← hW]; exact new_blk _ _ _
      have hng : gr ≠ w2.heap.size := fun e => by
        have := blk_lt HXC.out
        omega
      have hng2 : g ≠ w2.heap.size := fun e => by
        have := blk_lt HX2.out
        omega
      obtain ⟨gm, hgm⟩ : ∃ gm, gm = w2.heap.size := ⟨_, rfl⟩
      rw [← hgm] at hxm hng hng2 ⊢
      have HGM := Aside0.mk (Nat.le_trans (below_size HB2.out) (Nat.le_of_eq hgm.symm))
      have HNG := Aside0.mk hng
      have HNG2 := Aside0.mk hng2
      have HXM := Aside0.mk hxm
      have HXR := Aside0.mk (keep_below HXC.out hb3')
      have HX3 := Aside0.mk (keep_below HX2.out hb3')
      have HB3 := Aside0.mk (below_step HB2.out hb3')
      have HD3 := Aside0.mk (Kd.C_below HD2.out hb3')
      have HTa := Aside0.mk (HT1.out w3 HB3.out g HGE.out B c2 HX3.out HC1.out HD3.out)
      have HNE : Aside0 (gr ≠ g) := ⟨fun e => by
        have h9 := HX3.out
        rw [← e] at h9
        rw [HXR.out] at h9
        simp only [Option.some.injEq, Obj.cells.injEq] at h9
        exact absurd h9.2.1 (by decide)⟩
      have k0 := Joins.cell_of_block HXM.out 0
      have j0 := blk_frozen HXM.out 0
      clear hW hb3' hxm hng hng2 hgm
      have HMa := Aside0.mk (fun (w4 : World) (ho : Only g w3 w4) => ho gm _ _ _ (fun e => HNG2.out e.symm) HXM.out)
      have HRa := Aside0.mk (fun (w4 : World) (ho : Only g w3 w4) => ho gr _ _ _ HNE.out HXR.out)
      clear k0 j0
      go_upto_region 6 with (first
        | (go_at_call 70; (with_reducible refine HTa.out.mono ?_); rintro e w4 ⟨rfl, hb4, ho4, B4, c4, hx4, hc4, hC4⟩; have HX4 := Aside0.mk hx4; have HC4 := Aside0.mk hc4; have HD4 := Aside0.mk hC4; have HB4 := Aside0.mk hb4; have HM4 := Aside0.mk (HMa.out w4 ho4); have HR4 := Aside0.mk (HRa.out w4 ho4); have k0 := Joins.cell_of_block HM4.out 0; have j0 := blk_frozen HM4.out 0; clear hx4 hc4 hC4 hb4 ho4))
      generalize hW : w4.setCell ⟨gm, 0, none⟩ (.int .i64 leb) = w5
      have HX5 : Aside0 (w5.heap[g]? = some (.cells #[.slice B4 q2.length c4] 141 (0, 0))) := ⟨by rw [← hW]; exact blk_far HX4.out (fun e => HNG2.out e) _⟩
      have HM5 : Aside0 (w5.heap[gm]? = some (.cells #[.int .i64 leb, .int .u64 0, .int .i64 0] 115 (0, 0))) := ⟨by rw [← hW]; exact blk_set HM4.out 0 _⟩
      have HR5 : Aside0 (w5.heap[gr]? = some (.cells #[.int .i64 0, .int .u64 0, .int .i64 0] 115 (0, 0))) := ⟨by rw [← hW]; exact blk_far HR4.out (fun e => HNG.out e) _⟩
      have HB5 : Aside0 (Below w.heap.size w w5) := ⟨by rw [← hW]; exact below_set HB4.out HGM.out⟩
      have HD5 : Aside0 (Kd.C kB w5 B4 q2.length q2) := ⟨by
        rw [← hW]
        exact C_far HD4.out HM4.out (fun k n h => by
          match k, h with
          | 0, h => simp at h
          | 1, h => simp at h
          | 2, h => simp at h
          | k + 3, h => simp at h) 0 _⟩
      clear hW k0 j0
      have HTb := Aside0.mk (HT2.out w5 HB5.out g HGE.out B4 c4 HX5.out HC4.out HD5.out)
      have HMb := Aside0.mk (fun (w6 : World) (ho : Only g w5 w6) => ho gm _ _ _ (fun e => HNG2.out e.symm) HM5.out)
      have HRb := Aside0.mk (fun (w6 : World) (ho : Only g w5 w6) => ho gr _ _ _ HNE.out HR5.out)
      go_upto_region 7 with (first
        | (go_at_call 70; (with_reducible refine HTb.out.mono ?_); rintro e w6 ⟨rfl, hb6, ho6, B6, c6, hx6, hc6, hC6⟩; have HX6 := Aside0.mk hx6; have HC6 := Aside0.mk hc6; have HD6 := Aside0.mk hC6; have HB6 := Aside0.mk hb6; have HM6 := Aside0.mk (HMb.out w6 ho6); have HR6 := Aside0.mk (HRb.out w6 ho6); have k1 := Joins.cell_of_block HM6.out 1; have j1 := blk_frozen HM6.out 1; clear hx6 hc6 hC6 hb6 ho6))
      generalize hW : w6.setCell ⟨gm, 1, none⟩ (.int .u64 seq) = w7
      have HX7 : Aside0 (w7.heap[g]? = some (.cells #[.slice B6 q3.length c6] 141 (0, 0))) := ⟨by rw [← hW]; exact blk_far HX6.out (fun e => HNG2.out e) _⟩
      have HM7 : Aside0 (w7.heap[gm]? = some (.cells #[.int .i64 leb, .int .u64 seq, .int .i64 0] 115 (0, 0))) := ⟨by rw [← hW]; exact blk_set HM6.out 1 _⟩
      have HR7 : Aside0 (w7.heap[gr]? = some (.cells #[.int .i64 0, .int .u64 0, .int .i64 0] 115 (0, 0))) := ⟨by rw [← hW]; exact blk_far HR6.out (fun e => HNG.out e) _⟩
      have HB7 : Aside0 (Below w.heap.size w w7) := ⟨by rw [← hW]; exact below_set HB6.out HGM.out⟩
      have HD7 : Aside0 (Kd.C kB w7 B6 q3.length q3) := ⟨by
        rw [← hW]
        exact C_far HD6.out HM6.out (fun k n h => by
          match k, h with
          | 0, h => simp at h
          | 1, h => simp at h
          | 2, h => simp at h
          | k + 3, h => simp at h) 1 _⟩
      clear hW k1 j1
      have HTc := Aside0.mk (HT3.out w7 HB7.out g HGE.out B6 c6 HX7.out HC6.out HD7.out)
      have HMc := Aside0.mk (fun (w8 : World) (ho : Only g w7 w8) => ho gm _ _ _ (fun e => HNG2.out e.symm) HM7.out)
      have HRc := Aside0.mk (fun (w8 : World) (ho : Only g w7 w8) => ho gr _ _ _ HNE.out HR7.out)
      go_upto_region 8 with (first
        | (go_at_call 70; (with_reducible refine HTc.out.mono ?_); rintro e w8 ⟨rfl, hb8, ho8⟩; have HB8 := Aside0.mk hb8; have HM8 := Aside0.mk (HMc.out w8 ho8); have HR8 := Aside0.mk (HRc.out w8 ho8); have k2 := Joins.cell_of_block HM8.out 2; have j2 := blk_frozen HM8.out 2; clear hb8 ho8))
      generalize hW : w8.setCell ⟨gm, 2, none⟩ (.int .i64 pg) = w9
      have HM9 : Aside0 (w9.heap[gm]? = some (.cells #[.int .i64 leb, .int .u64 seq, .int .i64 pg] 115 (0, 0))) := ⟨by rw [← hW]; exact blk_set HM8.out 2 _⟩
      have HR9 : Aside0 (w9.heap[gr]? = some (.cells #[.int .i64 0, .int .u64 0, .int .i64 0] 115 (0, 0))) := ⟨by rw [← hW]; exact blk_far HR8.out (fun e => HNG.out e) _⟩
      have HB9 : Aside0 (Below w.heap.size w w9) := ⟨by rw [← hW]; exact below_set HB8.out HGM.out⟩
      clear hW k2 j2
      have m0 := Joins.cell_of_block HM9.out 0
      have m1 := Joins.cell_of_block HM9.out 1
      have m2 := Joins.cell_of_block HM9.out 2
      have r0 := Joins.cell_of_block HR9.out 0
      have r1 := Joins.cell_of_block HR9.out 1
      have r2 := Joins.cell_of_block HR9.out 2
      have f0 := blk_frozen HR9.out 0
      have f1 := blk_frozen HR9.out 1
      have f2 := blk_frozen HR9.out 2
      by_cases h9 : 256 ≤ leb
      · have d0 : decide (256 ≤ leb) = true := decide_eq_true h9
        clear hbad h9 hb1 hb3
        go_wp2
        refine bodyPost_ret (results_ct rfl _ _ gr 115 #[.int .i64 0, .int .u64 0, .int .i64 0] (0, 0) _ rfl (set3 HR9.out _ _ _) Tryd.underlying115 rfl (by kernel_rfl)) rfl ?_
        exact ⟨rfl, below_set (below_set (below_set HB9.out HGR.out) HGR.out) HGR.out⟩
      · have d0 : decide (256 ≤ leb) = false := decide_eq_false h9
        have d1 : decide (64 < pg) = true := decide_eq_true (by omega)
        clear hbad h9 hb1 hb3
        go_wp2
        refine bodyPost_ret (results_ct rfl _ _ gr 115 #[.int .i64 0, .int .u64 0, .int .i64 0] (0, 0) _ rfl (set3 HR9.out _ _ _) Tryd.underlying115 rfl (by kernel_rfl)) rfl ?_
        exact ⟨rfl, below_set (below_set (below_set HB9.out HGR.out) HGR.out) HGR.out⟩
    · rw [if_neg hbad]
      go_enter Tryd.func58, Tryd.ntmps58
      go_upto_region 1 with (fail)
      generalize hW : w.alloc (.cells #[.int .i64 0, .int .u64 0, .int .i64 0] 115) = wa
      have hba : Below w.heap.size w wa := by rw [← hW]; exact below_alloc (Below.refl _ _) _
      have hxa : wa.heap[w.heap.size]? = some (.cells #[.int .i64 0, .int .u64 0, .int .i64 0] 115 (0, 0)) := by rw [← hW]; exact new_blk _ _ _
      obtain ⟨gr, hgr⟩ : ∃ gr, gr = w.heap.size := ⟨_, rfl⟩
      rw [← hgr] at hxa ⊢
      have HGR := Aside0.mk (Nat.le_of_eq hgr.symm)
      have HXA := Aside0.mk hxa
      have HO1 := Aside0.mk (HOP.out wa hba)
      have HBA := Aside0.mk hba
      clear hW hba hxa hgr
      go_upto_region 2 with (first
        | (go_at_call 68; (with_reducible refine HO1.out.mono ?_); rintro e w1 ⟨g, B, c2, rfl, hge, hx, hc2, hC2, hb1⟩; have HB1 := Aside0.mk (below_step HBA.out hb1); have HXB := Aside0.mk (keep_below HXA.out hb1); have HGE := Aside0.mk (Nat.le_trans (below_size HBA.out) hge); have HX1 := Aside0.mk hx; have HC1 := Aside0.mk hc2; have HD1 := Aside0.mk hC2; clear hx hb1 hc2 hC2 hge))
      have hg1 : w1.cell? ⟨0, 0, none⟩ = some (.iface 158 (.pointer (some a))) := cell_below HG.out HB1.out
      go_upto_region 4 with (first
        | (go_at_call 69; (with_reducible refine (is_none_nil a _).mono ?_); rintro e w2 ⟨rfl, hb2⟩; have HB2 := Aside0.mk (below_step HB1.out hb2); have HXC := Aside0.mk (keep_below HXB.out hb2); have HX2 := Aside0.mk (keep_below HX1.out hb2); have HD2 := Aside0.mk (Kd.C_below HD1.out hb2); clear hb2))
      clear hg1
      go_upto_region 5 with (fail)
      generalize hW : w2.alloc (.cells #[.int .i64 0, .int .u64 0, .int .i64 0] 115) = w3
      have hb3' : Below w2.heap.size w2 w3 := by rw [← hW]; exact below_alloc (Below.refl _ _) _
      have hxm : w3.heap[w2.heap.size]? = some (.cells #[.int .i64 0, .int .u64 0, .int .i64 0] 115 (0, 0)) := by rw [← hW]; exact new_blk _ _ _
      have hng : gr ≠ w2.heap.size := fun e => by
        have := blk_lt HXC.out
        omega
      have hng2 : g ≠ w2.heap.size := fun e => by
        have := blk_lt HX2.out
        omega
      obtain ⟨gm, hgm⟩ : ∃ gm, gm = w2.heap.size := ⟨_, rfl⟩
      rw [← hgm] at hxm hng hng2 ⊢
      have HGM := Aside0.mk (Nat.le_trans (below_size HB2.out) (Nat.le_of_eq hgm.symm))
      have HNG := Aside0.mk hng
      have HNG2 := Aside0.mk hng2
      have HXM := Aside0.mk hxm
      have HXR := Aside0.mk (keep_below HXC.out hb3')
      have HX3 := Aside0.mk (keep_below HX2.out hb3')
      have HB3 := Aside0.mk (below_step HB2.out hb3')
      have HD3 := Aside0.mk (Kd.C_below HD2.out hb3')
      have HTa := Aside0.mk (HT1.out w3 HB3.out g HGE.out B c2 HX3.out HC1.out HD3.out)
      have HNE : Aside0 (gr ≠ g) := ⟨fun e => by
        have h9 := HX3.out
        rw [← e] at h9
        rw [HXR.out] at h9
        simp only [Option.some.injEq, Obj.cells.injEq] at h9
        exact absurd h9.2.1 (by decide)⟩
      have k0 := Joins.cell_of_block HXM.out 0
      have j0 := blk_frozen HXM.out 0
      clear hW hb3' hxm hng hng2 hgm
      have HMa := Aside0.mk (fun (w4 : World) (ho : Only g w3 w4) => ho gm _ _ _ (fun e => HNG2.out e.symm) HXM.out)
      have HRa := Aside0.mk (fun (w4 : World) (ho : Only g w3 w4) => ho gr _ _ _ HNE.out HXR.out)
      clear k0 j0
      go_upto_region 6 with (first
        | (go_at_call 70; (with_reducible refine HTa.out.mono ?_); rintro e w4 ⟨rfl, hb4, ho4, B4, c4, hx4, hc4, hC4⟩; have HX4 := Aside0.mk hx4; have HC4 := Aside0.mk hc4; have HD4 := Aside0.mk hC4; have HB4 := Aside0.mk hb4; have HM4 := Aside0.mk (HMa.out w4 ho4); have HR4 := Aside0.mk (HRa.out w4 ho4); have k0 := Joins.cell_of_block HM4.out 0; have j0 := blk_frozen HM4.out 0; clear hx4 hc4 hC4 hb4 ho4))
      generalize hW : w4.setCell ⟨gm, 0, none⟩ (.int .i64 leb) = w5
      have HX5 : Aside0 (w5.heap[g]? = some (.cells #[.slice B4 q2.length c4] 141 (0, 0))) := ⟨by rw [← hW]; exact blk_far HX4.out (fun e => HNG2.out e) _⟩
      have HM5 : Aside0 (w5.heap[gm]? = some (.cells #[.int .i64 leb, .int .u64 0, .int .i64 0] 115 (0, 0))) := ⟨by rw [← hW]; exact blk_set HM4.out 0 _⟩
      have HR5 : Aside0 (w5.heap[gr]? = some (.cells #[.int .i64 0, .int .u64 0, .int .i64 0] 115 (0, 0))) := ⟨by rw [← hW]; exact blk_far HR4.out (fun e => HNG.out e) _⟩
      have HB5 : Aside0 (Below w.heap.size w w5) := ⟨by rw [← hW]; exact below_set HB4.out HGM.out⟩
      have HD5 : Aside0 (Kd.C kB w5 B4 q2.length q2) := ⟨by
        rw [← hW]
        exact C_far HD4.out HM4.out (fun k n h => by
          match k, h with
          | 0, h => simp at h
          | 1, h => simp at h
          | 2, h => simp at h
          | k + 3, h => simp at h) 0 _⟩
      clear hW k0 j0
      have HTb := Aside0.mk (HT2.out w5 HB5.out g HGE.out B4 c4 HX5.out HC4.out HD5.out)
      have HMb := Aside0.mk (fun (w6 : World) (ho : Only g w5 w6) => ho gm _ _ _ (fun e => HNG2.out e.symm) HM5.out)
      have HRb := Aside0.mk (fun (w6 : World) (ho : Only g w5 w6) => ho gr _ _ _ HNE.out HR5.out)
      go_upto_region 7 with (first
        | (go_at_call 70; (with_reducible refine HTb.out.mono ?_); rintro e w6 ⟨rfl, hb6, ho6, B6, c6, hx6, hc6, hC6⟩; have HX6 := Aside0.mk hx6; have HC6 := Aside0.mk hc6; have HD6 := Aside0.mk hC6; have HB6 := Aside0.mk hb6; have HM6 := Aside0.mk (HMb.out w6 ho6); have HR6 := Aside0.mk (HRb.out w6 ho6); have k1 := Joins.cell_of_block HM6.out 1; have j1 := blk_frozen HM6.out 1; clear hx6 hc6 hC6 hb6 ho6))
      generalize hW : w6.setCell ⟨gm, 1, none⟩ (.int .u64 seq) = w7
      have HX7 : Aside0 (w7.heap[g]? = some (.cells #[.slice B6 q3.length c6] 141 (0, 0))) := ⟨by rw [← hW]; exact blk_far HX6.out (fun e => HNG2.out e) _⟩
      have HM7 : Aside0 (w7.heap[gm]? = some (.cells #[.int .i64 leb, .int .u64 seq, .int .i64 0] 115 (0, 0))) := ⟨by rw [← hW]; exact blk_set HM6.out 1 _⟩
      have HR7 : Aside0 (w7.heap[gr]? = some (.cells #[.int .i64 0, .int .u64 0, .int .i64 0] 115 (0, 0))) := ⟨by rw [← hW]; exact blk_far HR6.out (fun e => HNG.out e) _⟩
      have HB7 : Aside0 (Below w.heap.size w w7) := ⟨by rw [← hW]; exact below_set HB6.out HGM.out⟩
      have HD7 : Aside0 (Kd.C kB w7 B6 q3.length q3) := ⟨by
        rw [← hW]
        exact C_far HD6.out HM6.out (fun k n h => by
          match k, h with
          | 0, h => simp at h
          | 1, h => simp at h
          | 2, h => simp at h
          | k + 3, h => simp at h) 1 _⟩
      clear hW k1 j1
      have HTc := Aside0.mk (HT3.out w7 HB7.out g HGE.out B6 c6 HX7.out HC6.out HD7.out)
      have HMc := Aside0.mk (fun (w8 : World) (ho : Only g w7 w8) => ho gm _ _ _ (fun e => HNG2.out e.symm) HM7.out)
      have HRc := Aside0.mk (fun (w8 : World) (ho : Only g w7 w8) => ho gr _ _ _ HNE.out HR7.out)
      go_upto_region 8 with (first
        | (go_at_call 70; (with_reducible refine HTc.out.mono ?_); rintro e w8 ⟨rfl, hb8, ho8⟩; have HB8 := Aside0.mk hb8; have HM8 := Aside0.mk (HMc.out w8 ho8); have HR8 := Aside0.mk (HRc.out w8 ho8); have k2 := Joins.cell_of_block HM8.out 2; have j2 := blk_frozen HM8.out 2; clear hb8 ho8))
      generalize hW : w8.setCell ⟨gm, 2, none⟩ (.int .i64 pg) = w9
      have HM9 : Aside0 (w9.heap[gm]? = some (.cells #[.int .i64 leb, .int .u64 seq, .int .i64 pg] 115 (0, 0))) := ⟨by rw [← hW]; exact blk_set HM8.out 2 _⟩
      have HR9 : Aside0 (w9.heap[gr]? = some (.cells #[.int .i64 0, .int .u64 0, .int .i64 0] 115 (0, 0))) := ⟨by rw [← hW]; exact blk_far HR8.out (fun e => HNG.out e) _⟩
      have HB9 : Aside0 (Below w.heap.size w w9) := ⟨by rw [← hW]; exact below_set HB8.out HGM.out⟩
      clear hW k2 j2
      have m0 := Joins.cell_of_block HM9.out 0
      have m1 := Joins.cell_of_block HM9.out 1
      have m2 := Joins.cell_of_block HM9.out 2
      have r0 := Joins.cell_of_block HR9.out 0
      have r1 := Joins.cell_of_block HR9.out 1
      have r2 := Joins.cell_of_block HR9.out 2
      have f0 := blk_frozen HR9.out 0
      have f1 := blk_frozen HR9.out 1
      have f2 := blk_frozen HR9.out 2
      have d0 : decide (256 ≤ leb) = false := decide_eq_false (by omega)
      have d1 : decide (64 < pg) = false := decide_eq_false (by omega)
      clear hbad hb1 hb3
      go_wp2
      refine bodyPost_ret (results_ct rfl _ _ gr 115 #[.int .i64 leb, .int .u64 seq, .int .i64 pg] (0, 0) _ rfl (set3 HR9.out _ _ _) Tryd.underlying115 rfl (by kernel_rfl)) rfl ?_
      exact ⟨rfl, below_set (below_set (below_set HB9.out HGR.out) HGR.out) HGR.out⟩
end Go.Proofs.YtdlimghdimkadaaDoor.PAll

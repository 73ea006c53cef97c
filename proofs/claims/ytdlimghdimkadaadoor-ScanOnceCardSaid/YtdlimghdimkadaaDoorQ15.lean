/- What the law ScanOnce rests on, part 15: texts of the session and what the print wrote for it, one behind the other; only what the proof names is kept. -/
import Derived.Test.YtdlimghdimkadaaDoorQ14
namespace Go.Proofs.YtdlimghdimkadaaDoor.PAll
open Go Go.RowKit Go.Shelf Go.Proofs.YtdlimghdimkadaaDoorW.PrintWords Go.Proofs.YtdlimghdimkadaaDoorW.PrintLast Go.Proofs.YtdlimghdimkadaaDoorW.PrintMore Go.Proofs.YtdlimghdimkadaaDoor.Plain
set_option linter.unusedSimpArgs false
set_option linter.unusedVariables false
attribute [local go_sem] Oper.semAt_some
attribute [local go_sem] max2_int min2_int max_two min_two max_three min_three max_four min_four
variable {w0 W : World} {gc : Nat} {a : AC}
theorem underBools : Tryd.prog.underlying 93 = some (.slice 4) := by kernel_rfl
theorem infoBool : (Tryd.prog.info? 4).map (fun i => (i.zero, i.size, i.bytes)) = some (some (.bool false), 1, 1) := by kernel_rfl
theorem blocks_any (A : Option Addr) (len cap : Nat) (st : Int) (w : World) : Calls Tryd.prog 27 #[.slice A len cap, .int .i64 st] w fun e w' => e = .returned (.func (.func 50) #[] #[.pointer (some ⟨w.heap.size, 0, none⟩), .pointer (some ⟨w.heap.size + 1, 0, none⟩)]) ∧ w' = (w.alloc (.cells #[.slice A len cap] 23)).alloc (.cells #[.int .i64 st] 3) :=
 (callsIn_wide (n := 3)).1 (blocks_in Fence.wide 3 trivial rfl A len cap st w)
theorem rows_grown {α : Type} {d : Kd α} {e base : Nat} {ok : Nat → Prop} {W w1 : World} {v vl : Value} {xs : List α} {b e' s' n' : Nat} {cs : List Value} (h : d.R e W base ok v xs) (hl : W.ownsRow b e' s' vl n' cs) (ht : ∀ q, q ∈ e :: d.E → q ≠ e') (hg : W.grownBy w1 vl.ownBlock) : d.R e w1 base ok v xs :=
 Kd.R_mono (Kd.R_grown (Kd.R_bound h) hg (fun k hk he => by
  obtain ⟨_, _, _, q, hq, cells, hc⟩ := hk
  obtain ⟨cells', hc'⟩ := own_typed hl k he.symm
  rw [hc] at hc'
  simp only [Option.some.injEq, Obj.cells.injEq] at hc'
  exact ht q hq hc'.2.1)) (fun k hk => hk.1)
theorem newE_snoc {xs : List Blk} (pre : List (Ent xs)) (x : Ent xs) : newE (pre ++ [x]) = newS (newE pre) x := by simp [newE, List.foldl_append]
theorem newE_lt {xs : List Blk} (pre : List (Ent xs)) : ∀ l k, newE pre l = some k → k < xs.length := by
 have key : ∀ (n : Nat) (ys : List (Ent xs)), ys.length = n → ∀ l k, newE ys l = some k → k < xs.length := by
  intro n
  induction n with
  | zero =>
   intro ys hy l k h
   obtain rfl := List.eq_nil_of_length_eq_zero hy
   cases h
  | succ n ih =>
   intro ys hy l k h
   obtain ⟨ys', x, rfl⟩ : ∃ ys' x, ys = ys' ++ [x] := ⟨ys.dropLast, ys.getLast (fun e => by rw [e] at hy; cases hy), (List.dropLast_concat_getLast _).symm⟩
   rw [newE_snoc] at h
   unfold newS at h
   have ih' := ih ys' (by simpa using hy)
   split at h
   ·split at h
    ·cases h; exact x.2.1
    ·rename_i k' hk'
     split at h
     ·cases h; exact x.2.1
     ·cases h; exact ih' _ _ hk'
   ·exact ih' _ _ h
 exact key _ pre rfl
def inv1 (W : World) (gm gk gl B cl : Nat) (xs : List Blk) (pre : List (Ent xs)) (W' : World) : Prop :=
 (∃ n D, W'.ownsMap Tryd.prog 3 (plainElem (H := Unit) Tryd.prog 3) gm n D ∧ (n = pre.length ∧ MapIs D (newE pre))) ∧ ((Boxed W' (gm + 1 + 1) 23 (.slice (some ⟨gl, 0, none⟩) B cl) ∧ Boxed W' (gm + 1 + 1 + 1) 3 (.int .i64 4)) ∧ (Boxed W' (gm + 1) 96 (.map (some gm)) ∧ Boxed W' (gk + 1) 23 (.slice (some ⟨gl, 0, none⟩) B cl))) ∧ (Rows W' gl xs ∧ Below W.heap.size W W')
theorem inv1_own {W : World} {gm gk gl B cl b : Nat} {xs : List Blk} (h1 : gm < b) (h2 : W.heap.size ≤ b) : OwnFrom b (inv1 W gm gk gl B cl xs) :=
 OwnFrom.and (ownFrom_map h1 _) (OwnFrom.and (OwnFrom.and (OwnFrom.and (Own.from (boxed_own _ _ _) _) (Own.from (boxed_own _ _ _) _)) (OwnFrom.and (Own.from (boxed_own _ _ _) _) (Own.from (boxed_own _ _ _) _))) (OwnFrom.and (Own.from (Rows.own gl (fun _ => xs)) _) (ownFrom_below (Nat.le_refl _) h2)))
theorem inv1_same {W : World} {gm gk gl B cl b : Nat} {xs : List Blk} {pre : List (Ent xs)} {x : Ent xs} {W8 wz : World} (h : inv1 W gm gk gl B cl xs pre W8) (hh : wz.heap = W8.heap) (hb : Below W8.heap.size W8 wz) (he : newE (pre ++ [x]) = newE pre) : KeepsFrom b W8 wz ∧ inv1 W gm gk gl B cl xs (pre ++ [x]) wz := by
 obtain ⟨⟨n, D, hm, hn, hD⟩, ⟨⟨bS, bT⟩, ⟨bN, bL⟩⟩, ⟨hR, hB⟩⟩ := h
 exact ⟨(keeps_heap hh).from _, ⟨n + 1, D, (ownsMap_heap hh hm).mono (Nat.le_succ n), by rw [hn]; simp, by rw [he]; exact hD⟩, ⟨⟨boxed_heap hh bS, boxed_heap hh bT⟩, ⟨boxed_heap hh bN, boxed_heap hh bL⟩⟩, ⟨rows_heap hh hR, below_step hB hb⟩⟩
theorem inv1_put {W : World} {gm gk gl B cl b n : Nat} {D : DataW Unit} {xs : List Blk} {pre : List (Ent xs)} {x : Ent xs} {W8 wz w1 : World} (h : inv1 W gm gk gl B cl xs pre W8) (hh : wz.heap = W8.heap) (hb : Below W8.heap.size W8 wz)
  (hm : w1.ownsMap Tryd.prog 3 (plainElem (H := Unit) Tryd.prog 3) gm (n + 1) (D.put (.int .i64 x.1.2.f2) (.lit (.int .i64 (x.1.1 : Int))))) (hg : wz.grownBy w1 (some gm)) (hn : n = pre.length) (hD : MapIs D (newE pre)) (hgb : gm < b) (hgk : gk + 1 < gm) (hgl : gl < gm) (hgW : W.heap.size ≤ gm)
  (he : newE (pre ++ [x]) = fun l => if l = x.1.2.f2 then some x.1.1 else newE pre l) : KeepsFrom b W8 w1 ∧ inv1 W gm gk gl B cl xs (pre ++ [x]) w1 := by
 obtain ⟨-, ⟨⟨bS, bT⟩, ⟨bN, bL⟩⟩, ⟨hR, hB⟩⟩ := h
 have ne : ∀ q, q ≠ gm → some q ≠ some gm := fun q hq e => hq (by injection e)
 refine ⟨((keeps_heap hh).from _).trans (KeepsFrom.of_grownBy hg (fun j e => by injection e with e; omega)), ⟨n + 1, _, hm, by rw [hn]; simp, by rw [he]; exact hD.put _ _⟩, ⟨⟨(boxed_heap hh bS).kept hg (ne _ (by omega)), (boxed_heap hh bT).kept hg (ne _ (by omega))⟩, ⟨(boxed_heap hh bN).kept hg (ne _ (by omega)), (boxed_heap hh bL).kept hg (ne _ (by omega))⟩⟩, ⟨(rows_heap hh hR).keep (hg.block gl (rows_heap hh hR).lt (ne _ (by omega))), (below_step hB hb).grown hg (below_size (below_step hB hb)) (fun k e => by injection e with e; omega)⟩⟩
def inv2 (W : World) (gm gk gl gb B cl D1 n : Nat) (D : DataW Unit) (nw : Int → Option Nat) (xs : List Blk) (pre : List (Ent xs)) (W' : World) : Prop :=
 (W'.ownsMap Tryd.prog 3 (plainElem (H := Unit) Tryd.prog 3) gm n D ∧ W'.heap[D1]? = some (.deferred (some []))) ∧ ((Boxed W' gb 23 (.slice (some ⟨gl, 0, none⟩) B cl) ∧ Boxed W' (gb + 1) 3 (.int .i64 4)) ∧ (Boxed W' (gm + 1) 96 (.map (some gm)) ∧ Boxed W' (gk + 1) 23 (.slice (some ⟨gl, 0, none⟩) B cl))) ∧ (Rows W' gl (curL nw pre) ∧ Below W.heap.size W W')
theorem inv2_own {W : World} {gm gk gl gb B cl D1 n b : Nat} {D : DataW Unit} {nw : Int → Option Nat} {xs : List Blk} (h1 : gm < b) (h3 : D1 < b) (h2 : W.heap.size ≤ b) : OwnFrom b (inv2 W gm gk gl gb B cl D1 n D nw xs) :=
 OwnFrom.and (OwnFrom.and (fun s X Y row hs hg hr => hs.kept hg (fun e => by have := (hr gm e.symm).1; omega)) (fun s X Y row hs hg hr => (hg.block D1 (Array.getElem?_eq_some_iff.1 hs).1 (fun e => by have := (hr D1 e.symm).1; omega)).trans hs)) (OwnFrom.and (OwnFrom.and (OwnFrom.and (Own.from (boxed_own _ _ _) _) (Own.from (boxed_own _ _ _) _)) (OwnFrom.and (Own.from (boxed_own _ _ _) _) (Own.from (boxed_own _ _ _) _))) (OwnFrom.and (Own.from (Rows.own gl (fun pre => curL nw pre)) _) (ownFrom_below (Nat.le_refl _) h2)))
abbrev put6 (W : World) (g o : Nat) (x : Blk) : World := (((((W.setCell ⟨g, o, none⟩ (.int .i64 x.f0)).setCell ⟨g, o + 1, none⟩ (.int .i64 x.f1)).setCell ⟨g, o + 2, none⟩ (.int .i64 x.f2)).setCell ⟨g, o + 3, none⟩ (.int .i64 x.f3)).setCell ⟨g, o + 4, none⟩ (.int .u64 x.f4)).setCell ⟨g, o + 5, none⟩ (.bool x.f5)
theorem put6_far (W : World) (g o : Nat) (x : Blk) {q : Nat} (h : q ≠ g) : (put6 W g o x).heap[q]? = W.heap[q]? := by
 unfold put6
 rw [Below.heap_setCell _ _ _ _ h, Below.heap_setCell _ _ _ _ h, Below.heap_setCell _ _ _ _ h, Below.heap_setCell _ _ _ _ h, Below.heap_setCell _ _ _ _ h, Below.heap_setCell _ _ _ _ h]
theorem put6_keeps (W : World) (g o : Nat) (x : Blk) : KeepsOthers W (put6 W g o x) :=
 ((((((KeepsOthers.setCell _ _ _).trans (KeepsOthers.setCell _ _ _)).trans (KeepsOthers.setCell _ _ _)).trans (KeepsOthers.setCell _ _ _)).trans (KeepsOthers.setCell _ _ _)).trans (KeepsOthers.setCell _ _ _))
theorem inv2_same {W : World} {gm gk gl gb B cl D1 n b : Nat} {D : DataW Unit} {nw : Int → Option Nat} {xs : List Blk} {pre : List (Ent xs)} {x : Ent xs} {W8 : World} (h : inv2 W gm gk gl gb B cl D1 n D nw xs pre W8) (hq : (nw x.1.2.f2).getD 0 = x.1.1) : KeepsFrom b W8 W8 ∧ inv2 W gm gk gl gb B cl D1 n D nw xs (pre ++ [x]) W8 := by
 refine ⟨KeepsFrom.refl _ _, h.1, h.2.1, ?_, h.2.2.2⟩
 rw [curL_snoc, curS, if_pos hq]
 exact h.2.2.1
theorem inv2_put {W : World} {gm gk gl gb B cl D1 n b : Nat} {D : DataW Unit} {nw : Int → Option Nat} {xs : List Blk} {pre : List (Ent xs)} {x : Ent xs} {W8 : World} (h : inv2 W gm gk gl gb B cl D1 n D nw xs pre W8) (hq : ¬ (nw x.1.2.f2).getD 0 = x.1.1) (h1 : gl < gm) (h2 : gm < D1) (h3 : D1 < gb) (h4 : gk + 1 ≠ gl) (h5 : W.heap.size ≤ gl) :
  KeepsFrom b W8 (put6 W8 gl (x.1.1 * 6) (spoil x.1.2)) ∧ inv2 W gm gk gl gb B cl D1 n D nw xs (pre ++ [x]) (put6 W8 gl (x.1.1 * 6) (spoil x.1.2)) := by
 obtain ⟨⟨hm, hd⟩, ⟨⟨bS, bT⟩, ⟨bN, bL⟩⟩, ⟨hR, hB⟩⟩ := h
 have hx : x.1.1 < (curL nw pre).length := by rw [curL_len]; exact x.2.1
 have bx : ∀ {q : Nat} {t : TypeId} {v : Value}, q ≠ gl → Boxed W8 q t v → Boxed (put6 W8 gl (x.1.1 * 6) (spoil x.1.2)) q t v := fun hq hb => (put6_far _ _ _ _ hq).trans hb
 refine ⟨(put6_keeps _ _ _ _).from _, ⟨?_, (put6_far _ _ _ _ (by omega)).trans hd⟩, ⟨⟨bx (by omega) bS, bx (by omega) bT⟩, ⟨bx (by omega) bN, bx h4 bL⟩⟩, ?_, below_set (below_set (below_set (below_set (below_set (below_set hB h5) h5) h5) h5) h5) h5⟩
 ·obtain ⟨es, clock, hb, h6⟩ := hm
  exact ⟨es, clock, (put6_far _ _ _ _ (by omega)).trans hb, h6⟩
 ·rw [curL_snoc, curS, if_neg hq]
  exact hR.put x.1.1 hx (spoil x.1.2)
set_option maxRecDepth 100000 in
set_option maxHeartbeats 64000000 in
theorem Scan_is (h : Chip w0 W gc a) (hby : ABytes a) (aE : Addr) (hgE : gNone W aE) (hon : a.off = false) :
  Calls Tryd.prog 19 #[cp gc] W fun e w' => ∃ (g c : Nat), e = .returned (.tuple #[.slice (some ⟨g, 0, none⟩) (scanA a).length c, .int .i64 0]) ∧ (scanA a).length ≤ c ∧ Rows w' g (scanA a) ∧ Below W.heap.size W w' := by
 have H := Aside0.mk h
 have HBY := Aside0.mk hby
 have HGE := Aside0.mk hgE
 have hgok := h.gok
 have HON := Aside0.mk (h.on)
 rw [hon] at HON
 have HG := Aside0.mk (fun (w1 : World) (hb : Below W.heap.size W w1) => (H.out.grow hb).geometry)
 have hu92 := Tryd.underlying92
 have hu37 := Tryd.underlying37
 have hu49 := Tryd.underlying49
 clear h hby hgE hon
 refine (callsIn_wide (n := 4)).1 (callsIn_of_wp_marks Tryd.func19 rfl trivial (wpIn_wide.2 ?_))
 simp only [Tryd.ntmps19, List.size_toArray, List.length_cons, List.length_nil, Nat.reduceAdd, Nat.reduceSub, Array.replicate_succ, Array.replicate_zero, List.push_toArray, List.append_toArray, List.nil_append, List.cons_append]
 go_upto_region 5 with (first
  | (go_at_call 36; (with_reducible refine HON.out.mono ?_); rintro e w1 ⟨rfl, hb1⟩; have HB1 := Aside0.mk hb1; clear hb1))
 go_upto_region 6 with (first
  | (go_at_call 37; (with_reducible refine (HG.out _ HB1.out).mono ?_); rintro e w2 ⟨rfl, hb2⟩; have HB2 := Aside0.mk (below_step HB1.out hb2); clear hb2))
 go_upto_region 9 with (fail)
 obtain ⟨gk, hgk⟩ : ∃ gk, gk = w2.heap.size := ⟨_, rfl⟩
 generalize hW : (w2.alloc (.cells #[cp gc, .int .i64 a.g.B, .int .i64 a.g.P, .int .i64 a.g.Z, .int .i64 a.g.R] 92)).alloc (.cells #[.slice none 0 0] 23) = W3
 have HB3 := Aside0.mk (show Below W.heap.size W W3 by rw [← hW]; exact below_alloc (below_alloc HB2.out _) _)
 have HK3 := Aside0.mk (show W3.heap[gk]? = some (.cells (lkC gc a.g) 92 (0, 0)) by rw [← hW, hgk]; exact blk_alloc (new_blk _ _ _) _)
 have HL3 := Aside0.mk (show W3.heap[gk + 1]? = some (.cells #[.slice none 0 0] 23 (0, 0)) by rw [← hW, hgk]; have := new_blk (w2.alloc (.cells #[cp gc, .int .i64 a.g.B, .int .i64 a.g.P, .int .i64 a.g.Z, .int .i64 a.g.R] 92)) #[.slice none 0 0] 23; rwa [World.size_alloc] at this)
 have HGK := Aside0.mk (show W.heap.size ≤ gk by rw [hgk]; exact below_size HB2.out)
 rw [← hgk]
 clear hW hgk
 have yB := Joins.cell_of_block HK3.out 1
 obtain ⟨⟨hB1, hB2⟩, -, -, -⟩ := hgok
 go_upto_region 17 with (fail)
 have HBLK := Aside0.mk (fun (w1 : World) (hb : Below W.heap.size W w1) (hk : w1.heap[gk]? = some (.cells (lkC gc a.g) 92 (0, 0))) (n : Int) => block_is (H.out.grow hb) HBY.out aE (cell_below HGE.out hb) gk hk n)
 go_loopw [6, 7, 8, 36] (fun v6 v7 v8 v36 wr => ∃ i : Nat, i ≤ a.g.B ∧ v36 = .int .i64 i ∧ v7 = .int .i64 (sumsA (looksA a i)).1 ∧ v8 = .int .i64 (sumsA (looksA a i)).2 ∧ Aside0 (Kd.R Kd.bool 4 wr W.heap.size (fun _ => True) v6 ((looksA a i).map (·.2))) ∧ Aside0 (∃ vl, wr.heap[gk + 1]? = some (.cells #[vl] 23 (0, 0)) ∧ Kd.R kBlk 49 wr W.heap.size (fun _ => True) vl ((looksA a i).map (·.1))) ∧ Aside0 (wr.heap[gk]? = some (.cells (lkC gc a.g) 92 (0, 0))) ∧ Aside0 (Below W.heap.size W wr)) (fun _ _ _ i _ => a.g.B - (intOf i).toNat)
 case atStart => exact ⟨0, Nat.zero_le _, rfl, rfl, rfl, ⟨Kd.R_nil _ _ _ _ _⟩, ⟨_, HL3.out, Kd.R_nil _ _ _ _ _⟩, HK3, HB3⟩
 case round =>
  obtain ⟨i, hi, rfl, rfl, rfl, HT, ⟨vl, hl1, hl2⟩, HKr, HBr⟩ := hrel
  have HL1 := Aside0.mk hl1
  have HL2 := Aside0.mk hl2
  clear hl1 hl2 HB3 HK3 HL3 yB
  by_cases hlt : i < a.g.B
  ·have d0 : decide ((i : Int) < (a.g.B : Int)) = true := decide_eq_true (by omega)
   have HS := Aside0.mk (show sumsA (looksA a (i + 1)) = stepS (sumsA (looksA a i)) (blockA a (i : Int)) by rw [looksA_succ]; simp [sumsA, List.foldl_append])
   have HC := Aside0.mk (HBLK.out _ HBr.out HKr.out (i : Int))
   have HLS := Aside0.mk (looksA_succ a i)
   generalize hbi : blockA a (i : Int) = bi at HS HC HLS
   clear hbi
   obtain ⟨b, is⟩ := bi
   generalize sumsA (looksA a i) = sm at HS ⊢
   go_upto_region 13 with (first
    | (go_at_call 38; (with_reducible refine HC.out.mono ?_); rintro e w4 ⟨rfl, hb4⟩; have HB4 := Aside0.mk (below_step HBr.out hb4); have HK4 := Aside0.mk (keep_below HKr.out hb4); have HT4 := Aside0.mk (Kd.R_below HT.out hb4); have HL4 := Aside0.mk (keep_below HL1.out hb4); have HV4 := Aside0.mk (Kd.R_below HL2.out hb4); clear hb4))
   have HL5 := Aside0.mk (blk_alloc HL4.out (.cells (bC b) 49))
   have HK5 := Aside0.mk (blk_alloc HK4.out (.cells (bC b) 49))
   have HX5 := Aside0.mk (new_blk w4 (bC b) 49)
   have HB5 := Aside0.mk (below_alloc HB4.out (.cells (bC b) 49))
   have HV5 := Aside0.mk (Kd.R_alloc HV4.out (.cells (bC b) 49))
   have HT5 := Aside0.mk (Kd.R_alloc HT4.out (.cells (bC b) 49))
   have HNE := Aside0.mk (show some w4.heap.size ≠ vl.ownBlock by
    obtain ⟨inner, ho4⟩ := Kd.R_own HV4.out
    intro e
    have := own_lt ho4 _ e.symm
    omega)
   have HLN : Aside0 (((looksA a i).map (·.1)).length = i ∧ ((looksA a i).map (·.2)).length = i) := ⟨by simp [looksA_len]⟩
   have HL' := Aside0.mk (show (looksA a (i + 1)).map (·.1) = (looksA a i).map (·.1) ++ [b] ∧ (looksA a (i + 1)).map (·.2) = (looksA a i).map (·.2) ++ [is] by rw [HLS.out]; simp)
   generalize (looksA a i).map (·.1) = L1 at HV5 HLN HL' HV4 HL2
   generalize (looksA a i).map (·.2) = T1 at HT5 HLN HL' HT4 HT
   generalize hW : w4.alloc (.cells (bC b) 49) = W5 at HL5 HK5 HX5 HB5 HV5 HT5 ⊢
   obtain ⟨gx, hgx⟩ : ∃ gx, gx = w4.heap.size := ⟨_, rfl⟩
   rw [← hgx] at HX5 HNE ⊢
   clear hW hgx
   have x0 := Joins.cell_of_block HX5.out 0
   have x1 := Joins.cell_of_block HX5.out 1
   have x2 := Joins.cell_of_block HX5.out 2
   have x3 := Joins.cell_of_block HX5.out 3
   have x4 := Joins.cell_of_block HX5.out 4
   have x5 := Joins.cell_of_block HX5.out 5
   have yl := Joins.cell_of_block HL5.out 0
   go_upto_region 14 with (first
    | ((with_reducible refine gate_builtin (b := .append) (xs := #[.tmp 45, .tmp 47]) rfl ?_); at_builtin; refine Kd.R_append kBlk (w0 := W) W.heap.size rfl (.tmp 45) (.tmp 47) 23 49 (.agg #[.int .i64 0, .int .i64 0, .int .i64 0, .int .i64 0, .int .u64 0, .bool false]) 48 rfl Tryd.underlying23 info49 rfl (by decide) (by omega) vl L1 b [.int .i64 b.f0, .int .i64 b.f1, .int .i64 b.f2, .int .i64 b.f3, .int .u64 b.f4, .bool b.f5] (fun _ => True) (fun _ => False) rfl (by first | (go_simp; done) | (go_simp; rfl)) ?aP (fun _ hk => hk.elim) ?aF ?aO ?aB ?aS ?aL ?_; (case aP => exact k49_mkM _ _ _ b); (case aF => exact (fun _ _ => trivial)); (case aO => exact HV5.out); (case aB => exact HB5.out); (case aS => exact below_size HB5.out); (case aL => rw [HLN.out.1]; omega); intro v7 w7 ho hb hg hat; obtain ⟨A7, c7, rfl⟩ : ∃ A c, v7 = .slice A (i + 1) c := (by obtain ⟨A7, c7, e7⟩ := Kd.R_slice ho; exact ⟨A7, c7, by rw [e7]; simp [HLN.out.1]⟩); have HV7 := Aside0.mk ho; have HB7 := Aside0.mk hb; have HT7 := Aside0.mk (by obtain ⟨inner, hown⟩ := Kd.R_own HV5.out; exact rows_grown HT5.out hown (by decide) hg); have HK7 := Aside0.mk (by obtain ⟨inner, hown⟩ := Kd.R_own HV5.out; exact blk_grown HK5.out hg (own_ne hown HK5.out (by decide))); have HL7 := Aside0.mk (by obtain ⟨inner, hown⟩ := Kd.R_own HV5.out; exact blk_grown HL5.out hg (own_ne hown HL5.out (by decide))); have HX7 := Aside0.mk (blk_grown HX5.out hg HNE.out); clear ho hb hg hat x0 x1 x2 x3 x4 x5 yl)
    | ((with_reducible refine gate_builtin (b := .append) (xs := #[.tmp 49, .tmp 51]) rfl ?_); at_builtin; refine Kd.R_append Kd.bool (w0 := W) W.heap.size rfl (.tmp 49) (.tmp 51) 93 4 (.bool false) 1 rfl underBools infoBool rfl (by decide) (by omega) u6 T1 is [.bool is] (fun _ => True) (fun _ => False) rfl (by first | (go_simp; done) | (go_simp; rfl)) ?aP (fun _ hk => hk.elim) ?aF ?aO ?aB ?aS ?aL ?_; (case aP => exact (rfl : [Value.bool is] = [Value.bool is])); (case aF => exact (fun _ _ => trivial)); (case aO => exact HT7.out); (case aB => exact HB7.out); (case aS => exact below_size HB7.out); (case aL => rw [HLN.out.2]; omega); intro v8 w8 ho hb hg hat; have HT8 := Aside0.mk ho; have HB8 := Aside0.mk hb; have HV8 := Aside0.mk (by obtain ⟨inner, hown⟩ := Kd.R_own HT7.out; exact rows_grown HV7.out hown (by decide) hg); have HK8 := Aside0.mk (by obtain ⟨inner, hown⟩ := Kd.R_own HT7.out; exact blk_grown HK7.out hg (own_ne hown HK7.out (by decide))); have hl8 : w8.heap[gk + 1]? = some (.cells #[vl] 23 (0, 0)) := (by obtain ⟨inner, hown⟩ := Kd.R_own HT7.out; exact blk_grown HL7.out hg (own_ne hown HL7.out (by decide))); have HX8 := Aside0.mk (by obtain ⟨inner, hown⟩ := Kd.R_own HT7.out; exact blk_grown HX7.out hg (own_ne hown HX7.out (by decide))); have HL8 := Aside0.mk hl8; have yb := Joins.cell_of_block hl8 0; have fb := blk_frozen hl8 0; clear ho hb hg hat hl8))
   generalize hW9 : w8.setCell ⟨gk + 1, 0, none⟩ (.slice A7 (i + 1) c7) = W9
   have HB9 := Aside0.mk (show Below W.heap.size W W9 by rw [← hW9]; exact below_set HB8.out (by have := HGK.out; omega))
   have HL9 := Aside0.mk (show W9.heap[gk + 1]? = some (.cells #[.slice A7 (i + 1) c7] 23 (0, 0)) by rw [← hW9]; exact blk_put HL8.out 0 _ rfl)
   have HK9 := Aside0.mk (show W9.heap[gk]? = some (.cells (lkC gc a.g) 92 (0, 0)) by rw [← hW9]; exact blk_far HK8.out (by simp) _)
   have HV9 := Aside0.mk (show Kd.R kBlk 49 W9 W.heap.size (fun _ => True) (.slice A7 (i + 1) c7) (L1 ++ [b]) by rw [← hW9]; exact Kd.R_set HV8.out HL8.out (by decide) _ _)
   have HT9 := Aside0.mk (show Kd.R Kd.bool 4 W9 W.heap.size (fun _ => True) v8 (T1 ++ [is]) by rw [← hW9]; exact Kd.R_set HT8.out HL8.out (by decide) _ _)
   have HX9 := Aside0.mk (show W9.heap[gx]? = some (.cells (bC b) 49 (0, 0)) by rw [← hW9]; exact blk_far HX8.out (ne_of_type HX8.out HL8.out (by decide)) _)
   clear hW9 yb fb
   cases is with
   | true =>
    have HS2 := Aside0.mk (show sumsA (looksA a (i + 1)) = (wrap64 (sm.1 + b.f1), wrap64 (sm.2 + 1)) from HS.out)
    have x1 := Joins.cell_of_block HX9.out 1
    go_wp2
    go_roundw
    case rel => exact ⟨i + 1, by omega, by push_cast; rfl, by rw [HS2.out], by rw [HS2.out], ⟨by rw [HL'.out.2]; exact HT9.out⟩, ⟨_, HL9.out, by rw [HL'.out.1]; exact HV9.out⟩, HK9, HB9⟩
    case measure => simp [intOf]; omega
   | false =>
    have HS2 := Aside0.mk (show sumsA (looksA a (i + 1)) = sm from HS.out)
    go_wp2
    go_roundw
    case rel => exact ⟨i + 1, by omega, by push_cast; rfl, by rw [HS2.out], by rw [HS2.out], ⟨by rw [HL'.out.2]; exact HT9.out⟩, ⟨_, HL9.out, by rw [HL'.out.1]; exact HV9.out⟩, HK9, HB9⟩
    case measure => simp [intOf]; omega
  ·obtain rfl : i = a.g.B := by omega
   have d0 : decide ((a.g.B : Int) < (a.g.B : Int)) = false := decide_eq_false (by omega)
   have HLN : Aside0 (((looksA a a.g.B).map (·.1)).length = a.g.B ∧ ((looksA a a.g.B).map (·.2)).length = a.g.B) := ⟨by simp [looksA_len]⟩
   obtain ⟨gl, cl, rfl, hgl, hcl, HRows⟩ := Rows.of_R HL2.out (by rw [HLN.out.1]; omega)
   obtain ⟨gt, ct, rfl, hgt, hglt, tcells, hgtc⟩ := Kd.R_form HT.out (by rw [HLN.out.2]; omega)
   have HGL := Aside0.mk hgl
   have HCL := Aside0.mk hcl
   have HRW := Aside0.mk HRows
   have HTC := Aside0.mk hgtc
   have yl := Joins.cell_of_block HL1.out 0
   clear hgl hcl HRows hgt hglt hgtc
   simp only [HLN.out.1, HLN.out.2] at yl HL1 HCL ⊢
   have HLL := Aside0.mk (looksA_len a a.g.B)
   have HTD := Aside0.mk (fun (j : Nat) (hj : j < (looksA a a.g.B).length) => (show tcells[j]? = some (.bool (looksA a a.g.B)[j].2) by
    have h1 := told_cell HT.out j (by rw [HLN.out.2]; rw [HLL.out] at hj; exact hj)
    rw [Joins.cell_of_block HTC.out] at h1
    simpa using h1))
   have HSC := Aside0.mk (show scanA a = lastL ((looksA a a.g.B).map (evenA (sumsA (looksA a a.g.B)))) from rfl)
   have HLW := Aside0.mk (looksA_leb HBY.out a.g.B)
   generalize sumsA (looksA a a.g.B) = sm at HSC ⊢
   generalize looksA a a.g.B = L at HLL HTD HSC HRW HLW
   clear HT HL2 HLN HBLK
   go_upto_region 18 with (fail)
   go_loopw [63] (fun v63 w' => ∃ j : Nat, j ≤ L.length ∧ v63 = .int .i64 j ∧ Aside0 (Rows w' gl (mixL sm L j)) ∧ Aside0 (w'.heap[gk + 1]? = some (.cells #[.slice (some ⟨gl, 0, none⟩) a.g.B cl] 23 (0, 0))) ∧ Aside0 (w'.heap[gt]? = some (.cells tcells 4 (0, 0))) ∧ Aside0 (Below W.heap.size W w')) (fun j _ => L.length - (intOf j).toNat)
   case atStart => exact ⟨0, Nat.zero_le _, rfl, ⟨by rw [mixL_zero]; exact HRW.out⟩, HL1, HTC, HBr⟩
   case round =>
    clear HL1 HTC HBr HRW yl
    obtain ⟨j, hj, rfl, HRW, HL1, HTC, HBr⟩ := hrel
    by_cases hlt : j < L.length
    ·have d1 : decide ((j : Int) < (a.g.B : Int)) = true := decide_eq_true (by rw [HLL.out] at hlt; omega)
     have hq : (j < a.g.B) = True := eq_true (by rw [HLL.out] at hlt; exact hlt)
     have hqi : ((j : Int) < (a.g.B : Int)) = True := eq_true (by rw [HLL.out] at hlt; omega)
     have HMS := Aside0.mk (mixL_step sm L j hlt)
     have HME := Aside0.mk (mixL_same sm L j hlt)
     have HMQ := Aside0.mk (mixL_get sm L j hlt)
     have HTV := Aside0.mk (HTD.out j hlt)
     obtain ⟨hml, hmg⟩ := List.getElem?_eq_some_iff.1 (mixL_get sm L j hlt)
     have hcs := HRW.out.cell j hml
     rw [hmg] at hcs
     obtain ⟨z0, z1, z2, z3, z4, z5⟩ := hcs
     have HCN := Aside0.mk (fun v : Int => (show Rows (wr.setCell ⟨gl, j * 6 + 1, none⟩ (.int .i64 v)) gl ((mixL sm L j).set j { L[j].1 with f1 := v }) by
      have := HRW.out.count j hml v
      rw [hmg] at this
      exact this))
     have HJ := Aside0.mk hlt
     clear hmg hml
     generalize L[j] = x at HMS HME HMQ HTV HCN z0 z1 z2 z3 z4 z5
     clear hj hlt
     obtain ⟨b, is⟩ := x
     simp only at HMS HME HMQ HTV HCN z0 z1 z2 z3 z4 z5
     have yt := (Joins.cell_of_block HTC.out j).trans HTV.out
     go_upto_region 20 with (fail)
     have HX5 := Aside0.mk (new_blk wr (bC b) 49)
     have HL5 := Aside0.mk (blk_alloc HL1.out (.cells (bC b) 49))
     have HT5 := Aside0.mk (blk_alloc HTC.out (.cells (bC b) 49))
     have HB5 := Aside0.mk (below_alloc HBr.out (.cells (bC b) 49))
     have hrk : ∀ (o : Obj), (wr.alloc o).heap[gl]? = wr.heap[gl]? := fun o => by
      have h1 := HRW.out.lt
      exact Below.heap_alloc wr o gl h1
     have HR5 := Aside0.mk (HRW.out.keep (hrk (.cells (bC b) 49)))
     have HCN5 := Aside0.mk (fun (W' : World) (hW' : W'.heap[gl]? = wr.heap[gl]?) (v : Int) => (show Rows (W'.setCell ⟨gl, j * 6 + 1, none⟩ (.int .i64 v)) gl ((mixL sm L j).set j { b with f1 := v }) by
      have h1 := HCN.out v
      obtain ⟨cells, h2, h3⟩ := HRW.out
      obtain ⟨cells', h4, h5⟩ := h1
      have h6 := blk_put h2 (j * 6 + 1) (.int .i64 v) rfl
      rw [h6] at h4
      simp only [Option.some.injEq, Obj.cells.injEq] at h4
      exact ⟨_, (blk_put (hW'.trans h2) (j * 6 + 1) (.int .i64 v) rfl).trans (by rw [h4.1]), h5⟩))
     have HRK := Aside0.mk (hrk (.cells (bC b) 49))
     clear hrk z0 z1 z2 z3 z4 z5 yt
     generalize hW : wr.alloc (.cells (bC b) 49) = W5 at HX5 HL5 HT5 HB5 HR5 HRK ⊢
     have x0 := Joins.cell_of_block HX5.out 0
     have yt := (Joins.cell_of_block HT5.out j).trans HTV.out
     have hjB : j < 256 := by
      have := HJ.out
      have := HLL.out
      omega
     clear hW
     by_cases hb0 : b.f0 = 1
     ·have e0 : (b.f0 == 1) = true := by simp only [beq_iff_eq]; exact hb0
      have e0n : (b.f0 != 1) = false := by rw [bne, e0]; rfl
      have HE := Aside0.mk (HME.out (by unfold evenA; rw [if_neg (fun h => h.1 hb0)]))
      clear hb0
      go_wp2
      go_roundw
      case rel => exact ⟨j + 1, HJ.out, by push_cast; rfl, ⟨by rw [HE.out]; exact HR5.out⟩, HL5, HT5, HB5⟩
      case measure => simp [intOf]; have := HJ.out; omega
     ·have e0 : (b.f0 == 1) = false := by simp only [beq_eq_false_iff_ne]; exact hb0
      have e0n : (b.f0 != 1) = true := by rw [bne, e0]; rfl
      cases is with
      | true =>
       have HE := Aside0.mk (HME.out (by unfold evenA; rw [if_neg (fun h => by cases h.2.1)]))
       clear hb0
       go_wp2
       go_roundw
       case rel => exact ⟨j + 1, HJ.out, by push_cast; rfl, ⟨by rw [HE.out]; exact HR5.out⟩, HL5, HT5, HB5⟩
       case measure => simp [intOf]; have := HJ.out; omega
      | false =>
       by_cases hm0 : 0 < sm.2
       ·have e2 : decide (0 < sm.2) = true := decide_eq_true hm0
        have HE := Aside0.mk (HMS.out.trans (by unfold evenA; rw [if_pos ⟨hb0, rfl, hm0⟩]))
        clear hb0
        go_upto_region 21 with (fail)
        have yl5 := Joins.cell_of_block HL5.out 0
        have hf5 := HR5.out.frozen (j * 6 + 1)
        obtain ⟨hml, hmg⟩ := List.getElem?_eq_some_iff.1 (show (mixL sm L j)[j]? = some _ from HMQ.out)
        have z1 := (HR5.out.cell j hml).2.1
        rw [hmg] at z1
        have hne : (sm.2 == 0) = false := by simp only [beq_eq_false_iff_ne]; omega
        have hne2 : ¬ sm.2 = 0 := by omega
        clear hmg hml
        go_region
        generalize hW9 : (W5.setCell ⟨gl, j * 6 + 1, none⟩ (.int .i64 (wrap64 (sm.1.tdiv sm.2)))).drew = W9
        have HR9 := Aside0.mk (show Rows W9 gl (mixL sm L (j + 1)) by
         rw [← hW9, HE.out]
         exact (HCN5.out W5 HRK.out _).keep rfl)
        have hne9 : ∀ {q : Nat} {cs : Array Value} {t : TypeId}, W5.heap[q]? = some (.cells cs t (0, 0)) → t ≠ 49 → q ≠ gl := fun hq ht e => by
         obtain ⟨cells, h1, -⟩ := HR5.out
         rw [e, h1] at hq
         simp only [Option.some.injEq, Obj.cells.injEq] at hq
         exact ht hq.2.1.symm
        have HL9 := Aside0.mk (show W9.heap[gk + 1]? = some (.cells #[.slice (some ⟨gl, 0, none⟩) a.g.B cl] 23 (0, 0)) by
         rw [← hW9]
         exact blk_far HL5.out (hne9 HL5.out (by decide)) _)
        have HT9 := Aside0.mk (show W9.heap[gt]? = some (.cells tcells 4 (0, 0)) by
         rw [← hW9]
         exact blk_far HT5.out (hne9 HT5.out (by decide)) _)
        have HB9 := Aside0.mk (show Below W.heap.size W W9 by
         rw [← hW9]
         exact below_drew (below_set HB5.out HGL.out))
        clear hW9 hne9 yl5 hf5 z1 hne hne2
        go_wp2
        go_roundw
        case rel => exact ⟨j + 1, HJ.out, by push_cast; rfl, HR9, HL9, HT9, HB9⟩
        case measure => simp [intOf]; have := HJ.out; omega
       ·have e2 : decide (0 < sm.2) = false := decide_eq_false hm0
        have HE := Aside0.mk (HME.out (by unfold evenA; rw [if_neg (fun h => hm0 h.2.2)]))
        clear hb0 hm0
        go_wp2
        go_roundw
        case rel => exact ⟨j + 1, HJ.out, by push_cast; rfl, ⟨by rw [HE.out]; exact HR5.out⟩, HL5, HT5, HB5⟩
        case measure => simp [intOf]; have := HJ.out; omega
    ·obtain rfl : j = a.g.B := by have := HLL.out; omega
     have d1 : decide ((a.g.B : Int) < (a.g.B : Int)) = false := decide_eq_false (by omega)
     have HSC2 := Aside0.mk (show scanA a = lastL (mixL sm L a.g.B) by rw [← HLL.out, mixL_all]; exact HSC.out)
     have HXL := Aside0.mk (show (mixL sm L a.g.B).length = a.g.B by rw [mixL_len _ _ _ (by rw [HLL.out]; exact Nat.le_refl _), HLL.out])
     have HLEB := Aside0.mk (mixL_leb (s := sm) HLW.out a.g.B)
     generalize mixL sm L a.g.B = xs at HSC2 HXL HRW HLEB
     have hmm := @run_makeMap Tryd.prog
     clear hj hlt
     go_upto_region 24 with (fail)
     obtain ⟨gm, hgm⟩ : ∃ gm, gm = wr.heap.size := ⟨_, rfl⟩
     generalize hW : (wr.alloc (.map #[] 0)).alloc (.cells #[.map (some wr.heap.size)] 96) = W6
     have HM6 := Aside0.mk (show W6.ownsMap Tryd.prog 3 (plainElem (H := Unit) Tryd.prog 3) gm 0 (.map []) by rw [← hW, hgm]; exact (World.ownsMap_made wr _ _ _).alloc _)
     have HN6 := Aside0.mk (show W6.heap[gm + 1]? = some (.cells #[.map (some gm)] 96 (0, 0)) by
      have := new_blk (wr.alloc (.map #[] 0)) #[.map (some wr.heap.size)] 96
      rw [World.size_alloc] at this
      rw [← hW, hgm]
      exact this)
     have HL6 := Aside0.mk (show W6.heap[gk + 1]? = some (.cells #[.slice (some ⟨gl, 0, none⟩) a.g.B cl] 23 (0, 0)) by rw [← hW]; exact blk_alloc (blk_alloc HL1.out _) _)
     have HR6 := Aside0.mk (show Rows W6 gl xs by
      have hl := HRW.out.lt
      refine HRW.out.keep ?_
      rw [← hW, Below.heap_alloc _ _ _ (by simp; omega), Below.heap_alloc _ _ _ hl])
     have HB6 := Aside0.mk (show Below W.heap.size W W6 by rw [← hW]; exact below_alloc (below_alloc HBr.out _) _)
     have hsz6 : W6.heap.size = gm + 1 + 1 := by rw [← hW, hgm]; simp
     have HGN := Aside0.mk (show gk + 1 ≠ gl by
      obtain ⟨cells, h1, -⟩ := HR6.out
      intro e
      have h2 := HL6.out
      rw [e, h1] at h2
      simp only [Option.some.injEq, Obj.cells.injEq] at h2
      exact absurd h2.2.1 (by decide))
     have HGM := Aside0.mk (show W.heap.size ≤ gm ∧ gk + 1 < gm ∧ gl < gm by
      have h1 := below_size HBr.out
      have h2 := blk_lt HL1.out
      have h3 := HRW.out.lt
      omega)
     rw [← hgm]
     clear hW hgm hmm
     have yl6 := Joins.cell_of_block HL6.out 0
     go_upto_region 25 with (first
      | (go_at_call 27; (with_reducible refine (blocks_any _ _ _ _ _).mono ?_); rintro e w7 ⟨rfl, rfl⟩))
     have HSC3 := HSC2
     have bS := (Boxed.new W6 23 (.slice (some ⟨gl, 0, none⟩) a.g.B cl)).alloc (.cells #[.int .i64 4] 3)
     have bT := Boxed.new (W6.alloc (.cells #[.slice (some ⟨gl, 0, none⟩) a.g.B cl] 23)) 3 (.int .i64 4)
     simp only [World.size_alloc, hsz6] at bS bT
     generalize hW : (W6.alloc (.cells #[.slice (some ⟨gl, 0, none⟩) a.g.B cl] 23)).alloc (.cells #[.int .i64 4] 3) = W7 at bS bT ⊢
     have HM7 := Aside0.mk (show W7.ownsMap Tryd.prog 3 (plainElem (H := Unit) Tryd.prog 3) gm 0 (.map []) by rw [← hW]; exact (HM6.out.alloc _).alloc _)
     have HN7 := Aside0.mk (show Boxed W7 (gm + 1) 96 (.map (some gm)) by rw [← hW]; exact blk_alloc (blk_alloc HN6.out _) _)
     have HL7 := Aside0.mk (show Boxed W7 (gk + 1) 23 (.slice (some ⟨gl, 0, none⟩) a.g.B cl) by rw [← hW]; exact blk_alloc (blk_alloc HL6.out _) _)
     have HR7 := Aside0.mk (show Rows W7 gl xs by
      have hl := HR6.out.lt
      refine HR6.out.keep ?_
      rw [← hW, Below.heap_alloc _ _ _ (by simp; omega), Below.heap_alloc _ _ _ hl])
     have HB7 := Aside0.mk (show Below W.heap.size W W7 by rw [← hW]; exact below_alloc (below_alloc HB6.out _) _)
     have hsz7 : W7.heap.size = gm + 1 + 1 + 1 + 1 := by rw [← hW]; simp [hsz6]
     clear hW HM6 HN6 HL6 HR6 HB6 hsz6 yl6
     refine wpIn_wide.1 (range_blocks (F := Fence.wide) (n := 4) rfl (by omega) trivial (gm + 1 + 1) (gm + 1 + 1 + 1) 4 (some ⟨gl, 0, none⟩) cl xs rfl rfl (by rw [HXL.out]; omega)
      (inv1 W gm gk gl a.g.B cl xs)
      (fun pre W' => False)
      (inv1_own (by omega) (by have := HGM.out; omega))
      (ownFrom_pure _ _)
      (fun pre W' h => by rw [HXL.out]; exact h.2.1.1.1.cell) (fun pre W' h => h.2.1.1.2.cell) (fun k W' h hi => hi.2.2.1.entry k h)
      ⟨⟨0, _, HM7.out, rfl, MapIs.empty⟩, ⟨⟨bS, bT⟩, ⟨HN7.out, HL7.out⟩⟩, ⟨HR7.out, HB7.out⟩⟩
      (fun x a' W' => ∃ Bx, gm + 4 ≤ Bx ∧ W'.heap[Bx]? = some (.cells (bC x.1.2) 49 (0, 0)) ∧ a' = { tmps := #[cp gc, undef, .slice none 0 0, .int .i64 0, .pointer (some ⟨gk, 0, none⟩), .pointer (some ⟨gk + 1, 0, none⟩), .slice (some ⟨gt, 0, none⟩) a.g.B ct, .int .i64 sm.1, .int .i64 sm.2, u9, u10, u11, u12, u13, .pointer (some ⟨gm + 1, 0, none⟩), .int .i64 (x.1.1 : Int), .pointer (some ⟨Bx, 0, none⟩), undef, undef, undef, undef, cp gc, .bool false, cp gc, .bool true, .bool false, cp gc, cp gc, gV a.g.B a.g.P a.g.Z a.g.R, .agg #[cp gc, .int .i64 a.g.B, .int .i64 a.g.P, .int .i64 a.g.Z, .int .i64 a.g.R], .pointer (some ⟨gk, 0, none⟩), .pointer (some ⟨gk, 0, none⟩), .pointer (some ⟨gk, 0, none⟩), .pointer (some ⟨gk, 1, none⟩), .pointer (some ⟨gk, 1, none⟩), .int .i64 a.g.B, .int .i64 a.g.B, .bool false, u38, u39, u40, u41, u42, u43, u44, u45, u46, u47, u48, u49, u50, u51, u52, u53, u54, u55, u56, u57, u58, u59, u60, .slice (some ⟨gl, 0, none⟩) a.g.B cl, .int .i64 a.g.B, .int .i64 a.g.B, .bool false, u65, u66, u67, u68, u69, u70, u71, u72, u73, u74, u75, u76, u77, u78, u79, u80, u81, u82, u83, u84, u85, u86, u87, u88, u89, .map (some gm), .slice (some ⟨gl, 0, none⟩) a.g.B cl, .func (.func 50) #[] #[.pointer (some ⟨gm + 1 + 1, 0, none⟩), .pointer (some ⟨gm + 1 + 1 + 1, 0, none⟩)], .int .i64 (x.1.1 : Int), .agg (bC x.1.2), undef, undef, undef, undef, undef, undef, undef, undef, undef, undef, undef, undef, undef, undef, undef, undef, undef, undef, undef, undef, undef, undef, undef, undef, undef, undef, undef, undef, undef, undef, undef, undef, undef, undef, undef, undef, undef, undef, undef, undef], defers := [] })
      (fun x a' _ X Y row hs hg hrow => by obtain ⟨Bx, h1, h2, h3⟩ := hs; exact ⟨Bx, h1, box6_own (β := Unit) Bx 49 (bC x.1.2) () X Y row h2 hg (fun r e => (hrow r e).2), h3⟩)
      ?assign ?body ?done ?stop)
     case stop => rintro k hk W' hs h hK; exact h.elim
     case assign =>
      rintro l pre x W8 K ⟨⟨n, D, hm, hn, hD⟩, ⟨⟨bS1, bT1⟩, ⟨bN1, bL1⟩⟩, ⟨hR1, hB1⟩⟩ hK
      have hs1 : gm + 1 + 1 + 1 < W8.heap.size := (Array.getElem?_eq_some_iff.1 (show W8.heap[gm + 1 + 1 + 1]? = _ from bT1)).1
      have HI := Aside0.mk hK
      have HM1 := Aside0.mk hm
      have HR1 := Aside0.mk hR1
      clear hK hm hR1
      simp only [encE]
      gi_wp2
      exact HI.out _ _ ((KeepsOthers.alloc _ _).from _) ⟨⟨n, D, HM1.out.alloc _, hn, hD⟩, ⟨⟨bS1.alloc _, bT1.alloc _⟩, ⟨bN1.alloc _, bL1.alloc _⟩⟩, ⟨HR1.out.keep (Below.heap_alloc _ _ _ HR1.out.lt), below_alloc hB1 _⟩⟩ ⟨W8.heap.size, by omega, World.alloc_heap_new W8 _, rfl⟩
     case body =>
      rintro l pre x a' W8 hinv ⟨Bx, hBx, bX, rfl⟩ hlt
      have HINV := Aside0.mk hinv
      obtain ⟨⟨n, D, hm, hn, hD⟩, ⟨⟨bS1, bT1⟩, ⟨bN1, bL1⟩⟩, ⟨hR1, hB1⟩⟩ := hinv
      have HM1 := Aside0.mk hm
      have HR1 := Aside0.mk hR1
      have HD1 := Aside0.mk hD
      have HB1 := Aside0.mk hB1
      have HBX := Aside0.mk bX
      have HBN := Aside0.mk bN1
      have HBL := Aside0.mk bL1
      have HBS := Aside0.mk bS1
      have HBT := Aside0.mk bT1
      have HXI := Aside0.mk x.2.1
      have cX2 := Joins.cell_of_block bX 2
      have cX : W8.cell? ⟨Bx, 4, none⟩ = some (.int .u64 x.1.2.f4) := Joins.cell_of_block bX 4
      have cN := bN1.cell
      have cS := bL1.cell
      have hlb : 0 ≤ x.1.2.f2 ∧ x.1.2.f2 < 256 := HLEB.out _ (List.mem_of_getElem? x.2.2)
      have HWF := Aside0.mk (wf_leb hlb)
      have hn2 : n < 256 := by have := HXL.out; omega
      have HNE := Aside0.mk (show newE (pre ++ [x]) = newS (newE pre) x by simp [newE, List.foldl_append])
      have HHAS := Aside0.mk (hD.2 x.1.2.f2).1
      have HAT := Aside0.mk (hD.2 x.1.2.f2).2
      have HN := Aside0.mk hn
      have HWI := Aside0.mk (show (Lit.int .i64 (x.1.1 : Int)).wf = true from WalkArith.wf_i64 (by have := x.2.1; have := HXL.out; omega))
      have HKL : Aside0 (∀ l k, newE pre l = some k → k < xs.length) := ⟨newE_lt pre⟩
      clear hm hR1 hD hB1 bX bN1 bL1 bS1 bT1
      cases hf : newE pre x.1.2.f2 with
      | none =>
       rw [hf] at HHAS
       have HNE2 := Aside0.mk (show newE (pre ++ [x]) = fun l => if l = x.1.2.f2 then some x.1.1 else newE pre l by
        rw [HNE.out]; funext l; unfold newS
        by_cases h : l = x.1.2.f2
        ·rw [if_pos h, if_pos h, h, hf]
        ·rw [if_neg h, if_neg h])
       clear hf HAT HNE
       gi_wp2_with (first | (gi_at_lookup; refine wpListIn_lookup_own_ok_int _ rfl _ _ 96 rfl 3 3 .i64 lawInt (by kernel_rfl) Tryd.underlying3 (zeroInt _) gm n D rfl HM1.out _ _ rfl (Maps.keyOf_int_mk Tryd.underlying3 HWF.out) ?_; intro c hat hwc; rw [HHAS.out]; clear hat hwc))
       refine Reg.detIn [(0, 102, ?r1v0), (1, 103, ?r1v1), (2, 104, ?r1v2), (3, 105, undef), (4, 106, undef), (5, 107, undef), (6, 108, undef), (7, 109, undef), (8, 110, undef), (9, 111, undef), (10, 112, undef), (11, 113, ?r1v11)] (fun w' => w'.heap = W8.heap ∧ Below W8.heap.size W8 w') (by rfl) rfl (by rfl) (by rintro ⟨_, _, h⟩; exact h) (by kernel_rfl) ?r1S ?r1steps ?r1okv ?r1hlt ?r1fin
       case r1S => exact ⟨rfl, below_drew (Below.refl _ _)⟩
       case r1steps =>
        refine Reg.from_some 0 rfl rfl (fun a w hS hK K hC => ?_) ?_
        ·refine Reg.step_on (by rfl) ?_
         have e18 := hK.off 18 _ rfl rfl
         clear hK
         go_simp
         exact hC _ hS
        refine Reg.from_some 1 rfl rfl (fun a w hS hK K hC => ?_) ?_
        ·refine Reg.step_on (by rfl) ?_
         have e102 := hK.slot 0 _ _ _ rfl (by kernel_rfl)
         clear hK
         go_simp
         exact hC _ hS
        refine Reg.from_some 2 rfl rfl (fun a w hS hK K hC => ?_) ?_
        ·refine Reg.step_on (by rfl) ?_
         have e103 := hK.slot 1 _ _ _ rfl (by kernel_rfl)
         clear hK
         go_simp
         exact hC _ hS
        refine Reg.from_some 3 rfl rfl (fun a w hS hK K hC => ?_) ?_
        ·refine Reg.step_off (wanted_off (g := 2) rfl rfl rfl (hK.slot 2 _ _ _ rfl (by kernel_rfl))) ?_
         exact hC _ hS
        refine Reg.from_some 4 rfl rfl (fun a w hS hK K hC => ?_) ?_
        ·refine Reg.step_off (wanted_off (g := 2) rfl rfl rfl (hK.slot 2 _ _ _ rfl (by kernel_rfl))) ?_
         exact hC _ hS
        refine Reg.from_some 5 rfl rfl (fun a w hS hK K hC => ?_) ?_
        ·refine Reg.step_off (wanted_off (g := 2) rfl rfl rfl (hK.slot 2 _ _ _ rfl (by kernel_rfl))) ?_
         exact hC _ hS
        refine Reg.from_some 6 rfl rfl (fun a w hS hK K hC => ?_) ?_
        ·refine Reg.step_off (wanted_off (g := 2) rfl rfl rfl (hK.slot 2 _ _ _ rfl (by kernel_rfl))) ?_
         exact hC _ hS
        refine Reg.from_some 7 rfl rfl (fun a w hS hK K hC => ?_) ?_
        ·refine Reg.step_off (wanted_off (g := 2) rfl rfl rfl (hK.slot 2 _ _ _ rfl (by kernel_rfl))) ?_
         exact hC _ hS
        refine Reg.from_some 8 rfl rfl (fun a w hS hK K hC => ?_) ?_
        ·refine Reg.step_off (wanted_off (g := 2) rfl rfl rfl (hK.slot 2 _ _ _ rfl (by kernel_rfl))) ?_
         exact hC _ hS
        refine Reg.from_some 9 rfl rfl (fun a w hS hK K hC => ?_) ?_
        ·refine Reg.step_off (wanted_off (g := 2) rfl rfl rfl (hK.slot 2 _ _ _ rfl (by kernel_rfl))) ?_
         exact hC _ hS
        refine Reg.from_some 10 rfl rfl (fun a w hS hK K hC => ?_) ?_
        ·refine Reg.step_off (wanted_off (g := 2) rfl rfl rfl (hK.slot 2 _ _ _ rfl (by kernel_rfl))) ?_
         exact hC _ hS
        refine Reg.from_some 11 rfl rfl (fun a w hS hK K hC => ?_) ?_
        ·refine Reg.step_on (by rfl) ?_
         have e104 := hK.slot 2 _ _ _ rfl (by kernel_rfl)
         have e112 := hK.slot 10 _ _ _ rfl (by kernel_rfl)
         clear hK
         go_simp
         exact hC _ hS
        exact Reg.from_nil
       case r1okv => rfl
       case r1hlt => rfl
       case r1fin =>
        intro wz hS
        simp only [Reg.putV, List.foldl_cons, List.foldl_nil, Act.put, List.setIfInBounds_toArray, List.set_cons_zero, List.set_cons_succ]
        have HS1 := Aside0.mk hS.1
        have HS2 := Aside0.mk hS.2
        have zN := (cell_heap hS.1 _).trans cN
        have zX := (cell_heap hS.1 _).trans cX2
        have HMz := Aside0.mk (ownsMap_heap hS.1 HM1.out)
        clear hS
        gi_wp2_with (first | (gi_at_mapUpdate; refine wpListIn_mapUpdate_own _ rfl _ _ _ 96 rfl 3 3 lawInt (by kernel_rfl) (plainElem (H := Unit) Tryd.prog 3) gm n D rfl HMz.out (by unfold maxLen; omega) _ _ _ rfl rfl (Maps.keyOf_int_mk Tryd.underlying3 HWF.out) _ [] (plainElem_int Tryd.underlying3 HWI.out) ?_; intro w1 hown1 hgrow1; have HO1 := Aside0.mk hown1; have HG1 := Aside0.mk hgrow1; clear hown1 hgrow1))
        exact inv1_put HINV.out HS1.out HS2.out HO1.out HG1.out HN.out HD1.out (by omega) HGM.out.2.1 HGM.out.2.2 HGM.out.1 HNE2.out
      | some k =>
       rw [hf] at HHAS
       have HCK := Aside0.mk (HAT.out k hf)
       have hk : k < xs.length := HKL.out _ _ hf
       obtain ⟨-, -, -, -, cK, -⟩ := HR1.out.cell k hk
       have hqk : (k < a.g.B) = True := eq_true (by have := HXL.out; omega)
       have hqki : ((k : Int) < (a.g.B : Int)) = True := eq_true (by have := HXL.out; omega)
       have HXK := Aside0.mk (getD_of (xs := xs) hk)
       have HNS := Aside0.mk (show newE (pre ++ [x]) = fun l => if l = x.1.2.f2 then (if xs[k].f4 < x.1.2.f4 then some x.1.1 else some k) else newE pre l by
        rw [HNE.out]; funext l; unfold newS
        by_cases h : l = x.1.2.f2
        ·rw [if_pos h, if_pos h, h, hf, ← HXK.out]
        ·rw [if_neg h, if_neg h])
       have HSM := Aside0.mk (show (fun l => if l = x.1.2.f2 then some k else newE pre l) = newE pre by
        funext l
        by_cases h : l = x.1.2.f2
        ·rw [if_pos h, h, hf]
        ·rw [if_neg h])
       generalize xs[k].f4 = fk at cK HNS
       clear hf HAT HNE HXK
       by_cases hnw : fk < x.1.2.f4
       ·have d2 : decide (fk < x.1.2.f4) = true := decide_eq_true hnw
        have HNE2 := Aside0.mk (show newE (pre ++ [x]) = fun l => if l = x.1.2.f2 then some x.1.1 else newE pre l by rw [HNS.out]; simp only [if_pos hnw])
        clear hnw HNS
        gi_wp2_with (first | (gi_at_lookup; refine wpListIn_lookup_own_ok_int _ rfl _ _ 96 rfl 3 3 .i64 lawInt (by kernel_rfl) Tryd.underlying3 (zeroInt _) gm n D rfl HM1.out _ _ rfl (Maps.keyOf_int_mk Tryd.underlying3 HWF.out) ?_; intro c hat hwc; obtain rfl : c = (k : Int) := (by have := hat.symm.trans HCK.out; simpa using this); rw [HHAS.out]; clear hat hwc))
        refine Reg.detIn [(0, 102, ?r2v0), (1, 103, ?r2v1), (2, 104, ?r2v2), (3, 105, ?r2v3), (4, 106, ?r2v4), (5, 107, ?r2v5), (6, 108, ?r2v6), (7, 109, ?r2v7), (8, 110, ?r2v8), (9, 111, ?r2v9), (10, 112, ?r2v10), (11, 113, ?r2v11)] (fun w' => w'.heap = W8.heap ∧ Below W8.heap.size W8 w') (by rfl) rfl (by rfl) (by rintro ⟨_, _, h⟩; exact h) (by kernel_rfl) ?r2S ?r2steps ?r2okv ?r2hlt ?r2fin
        case r2S => exact ⟨rfl, below_drew (Below.refl _ _)⟩
        case r2steps =>
         refine Reg.from_some 0 rfl rfl (fun a w hS hK K hC => ?_) ?_
         ·refine Reg.step_on (by rfl) ?_
          have e18 := hK.off 18 _ rfl rfl
          clear hK
          go_simp
          exact hC _ hS
         refine Reg.from_some 1 rfl rfl (fun a w hS hK K hC => ?_) ?_
         ·refine Reg.step_on (by rfl) ?_
          have e102 := hK.slot 0 _ _ _ rfl (by kernel_rfl)
          clear hK
          go_simp
          exact hC _ hS
         refine Reg.from_some 2 rfl rfl (fun a w hS hK K hC => ?_) ?_
         ·refine Reg.step_on (by rfl) ?_
          have e103 := hK.slot 1 _ _ _ rfl (by kernel_rfl)
          clear hK
          go_simp
          exact hC _ hS
         refine Reg.from_some 3 rfl rfl (fun a w hS hK K hC => ?_) ?_
         ·refine Reg.step_on (wanted_on (g := 2) rfl rfl rfl (hK.slot 2 _ _ _ rfl (by kernel_rfl))) ?_
          have e16 := hK.off 16 _ rfl rfl
          clear hK
          go_simp
          exact hC _ hS
         refine Reg.from_some 4 rfl rfl (fun a w hS hK K hC => ?_) ?_
         ·refine Reg.step_on (wanted_on (g := 2) rfl rfl rfl (hK.slot 2 _ _ _ rfl (by kernel_rfl))) ?_
          have e105 := hK.slot 3 _ _ _ rfl (by kernel_rfl)
          have zs := (cell_heap hS.1 _).trans cS
          have zx := (cell_heap hS.1 _).trans cX
          have zk := (cell_heap hS.1 _).trans cK
          clear hK
          go_simp
          exact hC _ hS
         refine Reg.from_some 5 rfl rfl (fun a w hS hK K hC => ?_) ?_
         ·refine Reg.step_on (wanted_on (g := 2) rfl rfl rfl (hK.slot 2 _ _ _ rfl (by kernel_rfl))) ?_
          have e5 := hK.off 5 _ rfl rfl
          have zs := (cell_heap hS.1 _).trans cS
          have zx := (cell_heap hS.1 _).trans cX
          have zk := (cell_heap hS.1 _).trans cK
          clear hK
          go_simp
          exact hC _ hS
         refine Reg.from_some 6 rfl rfl (fun a w hS hK K hC => ?_) ?_
         ·refine Reg.step_on (wanted_on (g := 2) rfl rfl rfl (hK.slot 2 _ _ _ rfl (by kernel_rfl))) ?_
          have e17 := hK.off 17 _ rfl rfl
          clear hK
          go_simp
          exact hC _ hS
         refine Reg.from_some 7 rfl rfl (fun a w hS hK K hC => ?_) ?_
         ·refine Reg.step_on (wanted_on (g := 2) rfl rfl rfl (hK.slot 2 _ _ _ rfl (by kernel_rfl))) ?_
          have e107 := hK.slot 5 _ _ _ rfl (by kernel_rfl)
          have e108 := hK.slot 6 _ _ _ rfl (by kernel_rfl)
          clear hK
          go_simp
          exact hC _ hS
         refine Reg.from_some 8 rfl rfl (fun a w hS hK K hC => ?_) ?_
         ·refine Reg.step_on (wanted_on (g := 2) rfl rfl rfl (hK.slot 2 _ _ _ rfl (by kernel_rfl))) ?_
          have e109 := hK.slot 7 _ _ _ rfl (by kernel_rfl)
          clear hK
          go_simp
          exact hC _ hS
         refine Reg.from_some 9 rfl rfl (fun a w hS hK K hC => ?_) ?_
         ·refine Reg.step_on (wanted_on (g := 2) rfl rfl rfl (hK.slot 2 _ _ _ rfl (by kernel_rfl))) ?_
          have e110 := hK.slot 8 _ _ _ rfl (by kernel_rfl)
          have zs := (cell_heap hS.1 _).trans cS
          have zx := (cell_heap hS.1 _).trans cX
          have zk := (cell_heap hS.1 _).trans cK
          clear hK
          go_simp
          exact hC _ hS
         refine Reg.from_some 10 rfl rfl (fun a w hS hK K hC => ?_) ?_
         ·refine Reg.step_on (wanted_on (g := 2) rfl rfl rfl (hK.slot 2 _ _ _ rfl (by kernel_rfl))) ?_
          have e106 := hK.slot 4 _ _ _ rfl (by kernel_rfl)
          have e111 := hK.slot 9 _ _ _ rfl (by kernel_rfl)
          clear hK
          go_simp
          exact hC _ hS
         refine Reg.from_some 11 rfl rfl (fun a w hS hK K hC => ?_) ?_
         ·refine Reg.step_on (by rfl) ?_
          have e104 := hK.slot 2 _ _ _ rfl (by kernel_rfl)
          have e112 := hK.slot 10 _ _ _ rfl (by kernel_rfl)
          clear hK
          go_simp
          exact hC _ hS
         exact Reg.from_nil
        case r2okv => rfl
        case r2hlt => rfl
        case r2fin =>
         intro wz hS
         simp only [Reg.putV, List.foldl_cons, List.foldl_nil, Act.put, List.setIfInBounds_toArray, List.set_cons_zero, List.set_cons_succ]
         have HS1 := Aside0.mk hS.1
         have HS2 := Aside0.mk hS.2
         have zN := (cell_heap hS.1 _).trans cN
         have zX := (cell_heap hS.1 _).trans cX2
         have HMz := Aside0.mk (ownsMap_heap hS.1 HM1.out)
         clear hS
         gi_wp2_with (first | (gi_at_mapUpdate; refine wpListIn_mapUpdate_own _ rfl _ _ _ 96 rfl 3 3 lawInt (by kernel_rfl) (plainElem (H := Unit) Tryd.prog 3) gm n D rfl HMz.out (by unfold maxLen; omega) _ _ _ rfl rfl (Maps.keyOf_int_mk Tryd.underlying3 HWF.out) _ [] (plainElem_int Tryd.underlying3 HWI.out) ?_; intro w1 hown1 hgrow1; have HO1 := Aside0.mk hown1; have HG1 := Aside0.mk hgrow1; clear hown1 hgrow1))
         exact inv1_put HINV.out HS1.out HS2.out HO1.out HG1.out HN.out HD1.out (by omega) HGM.out.2.1 HGM.out.2.2 HGM.out.1 HNE2.out
       ·have d2 : decide (fk < x.1.2.f4) = false := decide_eq_false hnw
        have HNE2 := Aside0.mk (show newE (pre ++ [x]) = newE pre by rw [HNS.out]; simp only [if_neg hnw]; exact HSM.out)
        clear hnw HNS
        gi_wp2_with (first | (gi_at_lookup; refine wpListIn_lookup_own_ok_int _ rfl _ _ 96 rfl 3 3 .i64 lawInt (by kernel_rfl) Tryd.underlying3 (zeroInt _) gm n D rfl HM1.out _ _ rfl (Maps.keyOf_int_mk Tryd.underlying3 HWF.out) ?_; intro c hat hwc; obtain rfl : c = (k : Int) := (by have := hat.symm.trans HCK.out; simpa using this); rw [HHAS.out]; clear hat hwc))
        refine Reg.detIn [(0, 102, ?r3v0), (1, 103, ?r3v1), (2, 104, ?r3v2), (3, 105, ?r3v3), (4, 106, ?r3v4), (5, 107, ?r3v5), (6, 108, ?r3v6), (7, 109, ?r3v7), (8, 110, ?r3v8), (9, 111, ?r3v9), (10, 112, ?r3v10), (11, 113, ?r3v11)] (fun w' => w'.heap = W8.heap ∧ Below W8.heap.size W8 w') (by rfl) rfl (by rfl) (by rintro ⟨_, _, h⟩; exact h) (by kernel_rfl) ?r3S ?r3steps ?r3okv ?r3hlt ?r3fin
        case r3S => exact ⟨rfl, below_drew (Below.refl _ _)⟩
        case r3steps =>
         refine Reg.from_some 0 rfl rfl (fun a w hS hK K hC => ?_) ?_
         ·refine Reg.step_on (by rfl) ?_
          have e18 := hK.off 18 _ rfl rfl
          clear hK
          go_simp
          exact hC _ hS
         refine Reg.from_some 1 rfl rfl (fun a w hS hK K hC => ?_) ?_
         ·refine Reg.step_on (by rfl) ?_
          have e102 := hK.slot 0 _ _ _ rfl (by kernel_rfl)
          clear hK
          go_simp
          exact hC _ hS
         refine Reg.from_some 2 rfl rfl (fun a w hS hK K hC => ?_) ?_
         ·refine Reg.step_on (by rfl) ?_
          have e103 := hK.slot 1 _ _ _ rfl (by kernel_rfl)
          clear hK
          go_simp
          exact hC _ hS
         refine Reg.from_some 3 rfl rfl (fun a w hS hK K hC => ?_) ?_
         ·refine Reg.step_on (wanted_on (g := 2) rfl rfl rfl (hK.slot 2 _ _ _ rfl (by kernel_rfl))) ?_
          have e16 := hK.off 16 _ rfl rfl
          clear hK
          go_simp
          exact hC _ hS
         refine Reg.from_some 4 rfl rfl (fun a w hS hK K hC => ?_) ?_
         ·refine Reg.step_on (wanted_on (g := 2) rfl rfl rfl (hK.slot 2 _ _ _ rfl (by kernel_rfl))) ?_
          have e105 := hK.slot 3 _ _ _ rfl (by kernel_rfl)
          have zs := (cell_heap hS.1 _).trans cS
          have zx := (cell_heap hS.1 _).trans cX
          have zk := (cell_heap hS.1 _).trans cK
          clear hK
          go_simp
          exact hC _ hS
         refine Reg.from_some 5 rfl rfl (fun a w hS hK K hC => ?_) ?_
         ·refine Reg.step_on (wanted_on (g := 2) rfl rfl rfl (hK.slot 2 _ _ _ rfl (by kernel_rfl))) ?_
          have e5 := hK.off 5 _ rfl rfl
          have zs := (cell_heap hS.1 _).trans cS
          have zx := (cell_heap hS.1 _).trans cX
          have zk := (cell_heap hS.1 _).trans cK
          clear hK
          go_simp
          exact hC _ hS
         refine Reg.from_some 6 rfl rfl (fun a w hS hK K hC => ?_) ?_
         ·refine Reg.step_on (wanted_on (g := 2) rfl rfl rfl (hK.slot 2 _ _ _ rfl (by kernel_rfl))) ?_
          have e17 := hK.off 17 _ rfl rfl
          clear hK
          go_simp
          exact hC _ hS
         refine Reg.from_some 7 rfl rfl (fun a w hS hK K hC => ?_) ?_
         ·refine Reg.step_on (wanted_on (g := 2) rfl rfl rfl (hK.slot 2 _ _ _ rfl (by kernel_rfl))) ?_
          have e107 := hK.slot 5 _ _ _ rfl (by kernel_rfl)
          have e108 := hK.slot 6 _ _ _ rfl (by kernel_rfl)
          clear hK
          go_simp
          exact hC _ hS
         refine Reg.from_some 8 rfl rfl (fun a w hS hK K hC => ?_) ?_
         ·refine Reg.step_on (wanted_on (g := 2) rfl rfl rfl (hK.slot 2 _ _ _ rfl (by kernel_rfl))) ?_
          have e109 := hK.slot 7 _ _ _ rfl (by kernel_rfl)
          clear hK
          go_simp
          exact hC _ hS
         refine Reg.from_some 9 rfl rfl (fun a w hS hK K hC => ?_) ?_
         ·refine Reg.step_on (wanted_on (g := 2) rfl rfl rfl (hK.slot 2 _ _ _ rfl (by kernel_rfl))) ?_
          have e110 := hK.slot 8 _ _ _ rfl (by kernel_rfl)
          have zs := (cell_heap hS.1 _).trans cS
          have zx := (cell_heap hS.1 _).trans cX
          have zk := (cell_heap hS.1 _).trans cK
          clear hK
          go_simp
          exact hC _ hS
         refine Reg.from_some 10 rfl rfl (fun a w hS hK K hC => ?_) ?_
         ·refine Reg.step_on (wanted_on (g := 2) rfl rfl rfl (hK.slot 2 _ _ _ rfl (by kernel_rfl))) ?_
          have e106 := hK.slot 4 _ _ _ rfl (by kernel_rfl)
          have e111 := hK.slot 9 _ _ _ rfl (by kernel_rfl)
          clear hK
          go_simp
          exact hC _ hS
         refine Reg.from_some 11 rfl rfl (fun a w hS hK K hC => ?_) ?_
         ·refine Reg.step_on (by rfl) ?_
          have e104 := hK.slot 2 _ _ _ rfl (by kernel_rfl)
          have e112 := hK.slot 10 _ _ _ rfl (by kernel_rfl)
          clear hK
          go_simp
          exact hC _ hS
         exact Reg.from_nil
        case r3okv => rfl
        case r3hlt => rfl
        case r3fin =>
         intro wz hS
         simp only [Reg.putV, List.foldl_cons, List.foldl_nil, Act.put, List.setIfInBounds_toArray, List.set_cons_zero, List.set_cons_succ]
         have HS1 := Aside0.mk hS.1
         have HS2 := Aside0.mk hS.2
         clear hS
         gi_wp2
         exact inv1_same HINV.out HS1.out HS2.out HNE2.out
     case done =>
      rintro W8 ⟨⟨n, D, hm, hn, hD⟩, ⟨⟨bS1, bT1⟩, ⟨bN1, bL1⟩⟩, ⟨hR1, hB1⟩⟩ hK
      rw [newE_fil xs xs.length (Nat.le_refl _)] at hD
      obtain ⟨nw, hnw⟩ : ∃ nw, nw = newAt xs xs.length := ⟨_, rfl⟩
      rw [← hnw] at hD
      have HNW := Aside0.mk hnw
      clear hnw
      have HM8 := Aside0.mk hm
      have HD8 := Aside0.mk hD
      have HN8 := Aside0.mk bN1
      have HL8 := Aside0.mk bL1
      have HR8 := Aside0.mk hR1
      have HB8 := Aside0.mk hB1
      have HK8 := Aside0.mk hK
      have HSZ8 := Aside0.mk (show gm + 1 + 1 + 1 + 1 < W8.heap.size by
       have := (Array.getElem?_eq_some_iff.1 hK).1
       omega)
      have yl8 := bL1.cell
      clear hm hn hD bS1 bT1 bN1 bL1 hR1 hB1 hK
      go_upto_region 31 with (first
       | (go_at_call 27; (with_reducible refine (blocks_any _ _ _ _ _).mono ?_); rintro e w9 ⟨rfl, rfl⟩))
      obtain ⟨gb, hgb⟩ : ∃ gb, gb = W8.heap.size := ⟨_, rfl⟩
      have bS := (Boxed.new W8 23 (.slice (some ⟨gl, 0, none⟩) a.g.B cl)).alloc (.cells #[.int .i64 4] 3)
      have bT := Boxed.new (W8.alloc (.cells #[.slice (some ⟨gl, 0, none⟩) a.g.B cl] 23)) 3 (.int .i64 4)
      simp only [World.size_alloc, ← hgb] at bS bT
      generalize hW : (W8.alloc (.cells #[.slice (some ⟨gl, 0, none⟩) a.g.B cl] 23)).alloc (.cells #[.int .i64 4] 3) = W9 at bS bT ⊢
      have HM9 := Aside0.mk (show W9.ownsMap Tryd.prog 3 (plainElem (H := Unit) Tryd.prog 3) gm n D by rw [← hW]; exact (HM8.out.alloc _).alloc _)
      have HN9 := Aside0.mk (show Boxed W9 (gm + 1) 96 (.map (some gm)) by rw [← hW]; exact (HN8.out.alloc _).alloc _)
      have HL9 := Aside0.mk (show Boxed W9 (gk + 1) 23 (.slice (some ⟨gl, 0, none⟩) a.g.B cl) by rw [← hW]; exact (HL8.out.alloc _).alloc _)
      have HR9 := Aside0.mk (show Rows W9 gl xs by
       have hl := HR8.out.lt
       refine HR8.out.keep ?_
       rw [← hW, Below.heap_alloc _ _ _ (by simp; omega), Below.heap_alloc _ _ _ hl])
      have HK9 := Aside0.mk (show W9.heap[W7.heap.size]? = some (.deferred (some [])) by
       have hl := (Array.getElem?_eq_some_iff.1 HK8.out).1
       rw [← hW, Below.heap_alloc _ _ _ (by simp; omega), Below.heap_alloc _ _ _ hl]
       exact HK8.out)
      have HB9 := Aside0.mk (show Below W.heap.size W W9 by rw [← hW]; exact below_alloc (below_alloc HB8.out _) _)
      have hsz9 : W9.heap.size = gb + 1 + 1 := by rw [← hW, hgb]; simp
      have HGB := Aside0.mk (show gm + 1 + 1 + 1 + 1 < gb by rw [hgb]; exact HSZ8.out)
      rw [← hgb]
      clear hW hgb yl8 HM8 HN8 HL8 HR8 HK8 HB8 HSZ8
      refine wpIn_wide.1 (range_blocks (F := Fence.wide) (n := 4) rfl (by omega) trivial gb (gb + 1) 4 (some ⟨gl, 0, none⟩) cl xs rfl rfl (by rw [HXL.out]; omega)
       (inv2 W gm gk gl gb a.g.B cl W7.heap.size n D nw xs)
       (fun pre W' => False)
       (inv2_own (by have := HGB.out; omega) (by have := HGB.out; omega) (by have := HGM.out; have := HGB.out; omega))
       (ownFrom_pure _ _)
       (fun pre W' h => by rw [HXL.out]; exact h.2.1.1.1.cell) (fun pre W' h => h.2.1.1.2.cell) (fun k W' h hi => by
        obtain ⟨hl, he⟩ := List.getElem?_eq_some_iff.1 (curL_ahead nw xs k h)
        have := hi.2.2.1.entry k hl
        rw [he] at this
        exact this)
       ⟨⟨HM9.out, HK9.out⟩, ⟨⟨bS, bT⟩, ⟨HN9.out, HL9.out⟩⟩, ⟨HR9.out, HB9.out⟩⟩
       (fun x a' W' => ∃ Bx, gb + 2 ≤ Bx ∧ W'.heap[Bx]? = some (.cells (bC x.1.2) 49 (0, 0)) ∧ a' = { tmps := #[cp gc, undef, .slice none 0 0, .int .i64 0, .pointer (some ⟨gk, 0, none⟩), .pointer (some ⟨gk + 1, 0, none⟩), .slice (some ⟨gt, 0, none⟩) a.g.B ct, .int .i64 sm.1, .int .i64 sm.2, u9, u10, u11, u12, u13, .pointer (some ⟨gm + 1, 0, none⟩), undef, undef, undef, undef, .int .i64 (x.1.1 : Int), .pointer (some ⟨Bx, 0, none⟩), cp gc, .bool false, cp gc, .bool true, .bool false, cp gc, cp gc, gV a.g.B a.g.P a.g.Z a.g.R, .agg #[cp gc, .int .i64 a.g.B, .int .i64 a.g.P, .int .i64 a.g.Z, .int .i64 a.g.R], .pointer (some ⟨gk, 0, none⟩), .pointer (some ⟨gk, 0, none⟩), .pointer (some ⟨gk, 0, none⟩), .pointer (some ⟨gk, 1, none⟩), .pointer (some ⟨gk, 1, none⟩), .int .i64 a.g.B, .int .i64 a.g.B, .bool false, u38, u39, u40, u41, u42, u43, u44, u45, u46, u47, u48, u49, u50, u51, u52, u53, u54, u55, u56, u57, u58, u59, u60, .slice (some ⟨gl, 0, none⟩) a.g.B cl, .int .i64 a.g.B, .int .i64 a.g.B, .bool false, u65, u66, u67, u68, u69, u70, u71, u72, u73, u74, u75, u76, u77, u78, u79, u80, u81, u82, u83, u84, u85, u86, u87, u88, u89, .map (some gm), .slice (some ⟨gl, 0, none⟩) a.g.B cl, .func (.func 50) #[] #[.pointer (some ⟨gm + 1 + 1, 0, none⟩), .pointer (some ⟨gm + 1 + 1 + 1, 0, none⟩)], undef, undef, undef, undef, undef, undef, undef, undef, undef, undef, undef, undef, undef, undef, undef, undef, undef, undef, undef, undef, undef, undef, undef, undef, undef, .slice (some ⟨gl, 0, none⟩) a.g.B cl, .func (.func 50) #[] #[.pointer (some ⟨gb, 0, none⟩), .pointer (some ⟨gb + 1, 0, none⟩)], .int .i64 (x.1.1 : Int), .agg (bC x.1.2), undef, undef, undef, undef, undef, undef, undef, undef, undef, undef, undef, undef, undef], defers := [] })
       (fun x a' _ X Y row hs hg hrow => by obtain ⟨Bx, h1, h2, h3⟩ := hs; exact ⟨Bx, h1, box6_own (β := Unit) Bx 49 (bC x.1.2) () X Y row h2 hg (fun r e => (hrow r e).2), h3⟩)
       ?assign ?body ?done ?stop)
      case stop => rintro k hk W' hs h hK; exact h.elim
      case assign =>
       rintro l pre x W8 K hinv hK
       have HINV := Aside0.mk hinv
       have hs1 : gb + 1 < W8.heap.size := (Array.getElem?_eq_some_iff.1 (show W8.heap[gb + 1]? = _ from hinv.2.1.1.2)).1
       have HI := Aside0.mk hK
       clear hK hinv
       simp only [encE]
       gi_wp2
       obtain ⟨⟨hm, hd⟩, ⟨⟨bS1, bT1⟩, ⟨bN1, bL1⟩⟩, ⟨hR1, hB1⟩⟩ := HINV.out
       exact HI.out _ _ ((KeepsOthers.alloc _ _).from _) ⟨⟨hm.alloc _, (Below.heap_alloc _ _ _ (Array.getElem?_eq_some_iff.1 hd).1).trans hd⟩, ⟨⟨bS1.alloc _, bT1.alloc _⟩, ⟨bN1.alloc _, bL1.alloc _⟩⟩, ⟨hR1.keep (Below.heap_alloc _ _ _ hR1.lt), below_alloc hB1 _⟩⟩ ⟨W8.heap.size, by omega, World.alloc_heap_new W8 _, rfl⟩
      case body =>
       rintro l pre x a' W8 hinv ⟨Bx, hBx, bX, rfl⟩ hlt
       have HINV := Aside0.mk hinv
       have HM1 := Aside0.mk hinv.1.1
       have cX2 := Joins.cell_of_block bX 2
       have cX1 := Joins.cell_of_block bX 1
       have cN := hinv.2.1.2.1.cell
       have cS := hinv.2.1.2.2.cell
       have hlb : 0 ≤ x.1.2.f2 ∧ x.1.2.f2 < 256 := HLEB.out _ (List.mem_of_getElem? x.2.2)
       have HWF := Aside0.mk (wf_leb hlb)
       have HGD := Aside0.mk (HD8.out.getD x.1.2.f2)
       have hx : x.1.1 < (curL nw pre).length := by rw [curL_len]; exact x.2.1
       obtain ⟨z0, z1, z2, z3, z4, z5⟩ := hinv.2.2.1.cell x.1.1 hx
       have fz := hinv.2.2.1.frozen
       have fr0 := fz (x.1.1 * 6)
       have fr1 := fz (x.1.1 * 6 + 1)
       have fr2 := fz (x.1.1 * 6 + 2)
       have fr3 := fz (x.1.1 * 6 + 3)
       have fr4 := fz (x.1.1 * 6 + 4)
       have fr5 := fz (x.1.1 * 6 + 5)
       have hqk : (x.1.1 < a.g.B) = True := eq_true (by have := HXL.out; have := x.2.1; omega)
       have hqki : ((x.1.1 : Int) < (a.g.B : Int)) = True := eq_true (by have := HXL.out; have := x.2.1; omega)
       generalize (curL nw pre)[x.1.1] = y at z0 z1 z2 z3 z4 z5
       clear hinv bX fz hx hlb
       by_cases hq : (nw x.1.2.f2).getD 0 = x.1.1
       ·have HQ := Aside0.mk hq
        have en : (((((nw x.1.2.f2).getD 0 : Nat) : Int)) != (x.1.1 : Int)) = false := by rw [hq]; simp
        have HEN := Aside0.mk en
        clear en hq
        gi_wp2_with (first | (gi_at_lookup; refine wpListIn_lookup_own_int _ rfl _ _ 96 rfl 3 3 .i64 lawInt (by kernel_rfl) Tryd.underlying3 (zeroInt _) gm n D rfl HM1.out _ _ rfl (Maps.keyOf_int_mk Tryd.underlying3 HWF.out) ?_; intro c hat hwc; obtain rfl : c = (((nw x.1.2.f2).getD 0 : Nat) : Int) := (by have := hat.symm.trans HGD.out; simpa using this); have en := HEN.out; clear hat hwc))
        exact inv2_same HINV.out HQ.out
       ·have HQ := Aside0.mk hq
        have en : (((((nw x.1.2.f2).getD 0 : Nat) : Int)) != (x.1.1 : Int)) = true := by simp only [bne_iff_ne]; omega
        have HEN := Aside0.mk en
        clear en hq
        gi_wp2_with (first | (gi_at_lookup; refine wpListIn_lookup_own_int _ rfl _ _ 96 rfl 3 3 .i64 lawInt (by kernel_rfl) Tryd.underlying3 (zeroInt _) gm n D rfl HM1.out _ _ rfl (Maps.keyOf_int_mk Tryd.underlying3 HWF.out) ?_; intro c hat hwc; obtain rfl : c = (((nw x.1.2.f2).getD 0 : Nat) : Int) := (by have := hat.symm.trans HGD.out; simpa using this); have en := HEN.out; clear hat hwc))
        exact inv2_put HINV.out HQ.out HGM.out.2.2 (by omega) (by have := HGB.out; omega) HGN.out HGL.out
      case done =>
       rintro W10 ⟨⟨hm, hd⟩, ⟨⟨bS1, bT1⟩, ⟨bN1, bL1⟩⟩, ⟨hR1, hB1⟩⟩ hK2
       have HD10 := Aside0.mk hd
       have HR10 := Aside0.mk hR1
       have HB10 := Aside0.mk hB1
       have HK10 := Aside0.mk hK2
       have yl := bL1.cell
       clear hm hd bS1 bT1 bN1 bL1 hR1 hB1 hK2
       go_wp2
       have hne : W9.heap.size ≠ gm + 1 + 1 + 1 + 1 := by have := HGB.out; omega
       have hd2 : (W10.putObj W9.heap.size (.deferred none)).heap[gm + 1 + 1 + 1 + 1]? = some (.deferred (some [])) := by
        rw [World.putObj_heap_other hne.symm, ← hsz7]
        exact HD10.out
       have hB1 := HB10.out.trans (belowK_b (w := W) (n₀ := W.heap.size) (Nat.le_refl _) _ W9.heap.size _ (.deferred none) (by have := HGB.out; have := HGM.out; omega) HK10.out rfl rfl)
       have hB2 := hB1.trans (belowK_b (w := W) (n₀ := W.heap.size) (Nat.le_refl _) _ (gm + 1 + 1 + 1 + 1) _ (.deferred none) (by have := HGB.out; have := HGM.out; omega) hd2 rfl rfl)
       refine ⟨by simp, .inl ⟨_, _, rfl, run_takeDeferred HK10.out, ?_⟩⟩
       refine ⟨by simp, .inl ⟨_, _, rfl, run_takeDeferred hd2, ?_⟩⟩
       refine ⟨.tuple #[.slice (some ⟨gl, 0, none⟩) a.g.B cl, .int .i64 0], ?_, gl, cl, ?_, ?_, ?_, hB2⟩
       ·simp [results, Tryd.f19, go_sem]
       ·rw [scanA_len]
       ·rw [scanA_len]; exact HCL.out
       ·have e : scanA a = curL nw (fil xs 4 xs.length) := by rw [HSC2.out, HNW.out]; rfl
        rw [e]
        have h1 := HGM.out
        have h2 := HGB.out
        refine HR10.out.keep ?_
        rw [World.putObj_heap_other (by omega), World.putObj_heap_other (by omega)]
end Go.Proofs.YtdlimghdimkadaaDoor.PAll
namespace Go.Proofs.YtdlimghdimkadaaDoor.PAll
open Go Go.RowKit Go.Proofs.YtdlimghdimkadaaDoorW.PrintWords Go.Proofs.YtdlimghdimkadaaDoor.Plain
set_option linter.unusedSimpArgs false
set_option linter.unusedVariables false
theorem used_spec (a : AC) (b : Int) : ∀ k n, n ≤ (usedA a b k n).1 ∧ (usedA a b k n).1 ≤ n + k ∧ ∀ q : Nat, n ≤ q → q < (usedA a b k n).1 → (pageA a b ((q : Int) + 2)).2 = true
 | 0, n => ⟨Nat.le_refl _, Nat.le_refl _, fun q h1 h2 => absurd h2 (Nat.not_lt.2 h1)⟩
 | k + 1, n => by
  unfold usedA
  by_cases h : (pageA a b ((n : Int) + 2)).2 = true
  ·rw [if_pos h]
   obtain ⟨h1, h2, h3⟩ := used_spec a b k (n + 1)
   refine ⟨by omega, by omega, fun q hq1 hq2 => ?_⟩
   by_cases hq : q = n
   ·subst hq; exact h
   ·exact h3 q (by omega) hq2
  ·rw [if_neg h]
   exact ⟨Nat.le_refl _, by show n ≤ n + (k + 1); omega, fun q h1 h2 => absurd h2 (Nat.not_lt.2 h1)⟩
theorem page_read {a : AC} {b n : Int} (h : (pageA a b n).2 = true) : (readA a b n).2 = 0 := by
 unfold pageA at h
 split at h
 ·cases h
 ·simpa using h
def OnceB (a : AC) (i : Nat) (b : Blk) : Prop := 1 ≤ b.f0 ∧ b.f0 ≤ 4 ∧ (b.f0 == 1) = badA a i ∧ (b.f0 = 2 → nextA a i = 1) ∧ (b.f0 ≠ 4 → b.f2 = 0 ∧ b.f3 = 0 ∧ b.f4 = 0 ∧ b.f5 = false) ∧ (b.f0 = 4 → b.f2 < lebsG a.g.B a.g.P a.g.Z a.g.R ∧ 0 ≤ b.f3 ∧ b.f3 ≤ (a.g.P : Int) - 2 ∧ ∀ p : Nat, (p : Int) < b.f3 + 2 → (readA a i p).2 = 0)
theorem once_block (a : AC) (hP : 2 ≤ a.g.P) (i : Nat) : OnceB a i (blockA a (i : Int)).1 := by
 unfold blockA
 by_cases h0 : badA a i = true
 ·rw [if_pos h0]
  refine ⟨by decide, by decide, by rw [h0]; rfl, fun h => absurd h (by decide), fun _ => ⟨rfl, rfl, rfl, rfl⟩, fun h => absurd h (by decide)⟩
 rw [if_neg h0]
 have hb : badA a i = false := by simpa using h0
 have sp : ∀ (x : Int), OnceB a i ⟨3, x, 0, 0, 0, false⟩ := fun x => ⟨by show (1 : Int) ≤ 3; decide, by show (3 : Int) ≤ 4; decide, by rw [hb]; rfl, fun h => absurd (show (3 : Int) = 2 from h) (by decide), fun _ => ⟨rfl, rfl, rfl, rfl⟩, fun h => absurd (show (3 : Int) = 4 from h) (by decide)⟩
 split
 ·exact sp _
 rename_i h1
 split
 ·exact sp _
 split
 ·rename_i h3
  exact ⟨by show (1 : Int) ≤ 2; decide, by show (2 : Int) ≤ 4; decide, by rw [hb]; rfl, fun _ => h3, fun _ => ⟨rfl, rfl, rfl, rfl⟩, fun h => absurd (show (2 : Int) = 4 from h) (by decide)⟩
 split
 ·exact sp _
 rename_i h4
 split
 ·rename_i h5
  unfold mapOK at h5
  simp only [Bool.and_eq_true, decide_eq_true_eq] at h5
  obtain ⟨u1, u2, u3⟩ := used_spec a i (a.g.P - 2) 0
  refine ⟨by show (1 : Int) ≤ 4; decide, by show (4 : Int) ≤ 4; decide, by rw [hb]; rfl, fun h => absurd (show (4 : Int) = 2 from h) (by decide), fun h => absurd rfl h, fun _ => ⟨h5.2.1, by show (0 : Int) ≤ ((usedA a i (a.g.P - 2) 0).1 : Int); omega, by show ((usedA a i (a.g.P - 2) 0).1 : Int) ≤ _; omega, fun p hp => ?_⟩⟩
  change (p : Int) < ((usedA a i (a.g.P - 2) 0).1 : Int) + 2 at hp
  by_cases p0 : p = 0
  ·subst p0
   exact page_read (by simpa using h1)
  by_cases p1 : p = 1
  ·subst p1
   exact page_read (by simpa using h4)
  ·have := u3 (p - 2) (by omega) (by omega)
   rw [show ((p - 2 : Nat) : Int) + 2 = (p : Int) by omega] at this
   exact page_read this
 ·exact sp _
theorem once_even (a : AC) (hP : 2 ≤ a.g.P) (i : Nat) (s : Int × Int) : OnceB a i (evenA s (blockA a (i : Int))) := by
 have h := once_block a hP i
 unfold evenA
 split
 ·exact h
 ·exact h
theorem even_get (a : AC) (i : Nat) (hi : i < a.g.B) : (evenL (looksA a a.g.B))[i]'(by rw [evenL_len, looksA_len]; exact hi) = evenA (sumsA (looksA a a.g.B)) (blockA a (i : Int)) := by
 have h : (evenL (looksA a a.g.B))[i]? = some (evenA (sumsA (looksA a a.g.B)) (blockA a (i : Int))) := by
  unfold evenL
  rw [List.getElem?_map, looksA_get a _ _ hi]
  rfl
 exact (List.getElem?_eq_some_iff.1 h).2
theorem even_leb {a : AC} (h : ABytes a) (i : Nat) (s : Int × Int) : 0 ≤ (evenA s (blockA a (i : Int))).f2 := by
 have := (blockA_leb h (i : Int)).1
 unfold evenA
 split <;> exact this
theorem once_scan (a : AC) (hP : 2 ≤ a.g.P) (hby : ABytes a) (i : Nat) (hi : i < a.g.B) (hl : i < (scanA a).length) : OnceB a i (scanA a)[i] ∧ ((scanA a)[i].f0 = 4 → findL (scanA a)[i].f2 (scanA a) 0 = (i : Int) ∧ 0 ≤ (scanA a)[i].f2) := by
 have hlen : (evenL (looksA a a.g.B)).length = a.g.B := by rw [evenL_len, looksA_len]
 have get : ∀ k (hk : k < (scanA a).length), (scanA a)[k] = if (evenA (sumsA (looksA a a.g.B)) (blockA a (k : Int))).f0 = 4 ∧ ¬ (newAt (evenL (looksA a a.g.B)) a.g.B (evenA (sumsA (looksA a a.g.B)) (blockA a (k : Int))).f2).getD 0 = k then spoil (evenA (sumsA (looksA a a.g.B)) (blockA a (k : Int))) else evenA (sumsA (looksA a a.g.B)) (blockA a (k : Int)) := by
  intro k hk
  have hkB : k < a.g.B := by rw [scanA_len] at hk; exact hk
  have h1 := lastL_get (evenL (looksA a a.g.B)) k (by rw [hlen]; exact hkB)
  rw [even_get a k hkB, hlen] at h1
  exact (List.getElem?_eq_some_iff.1 h1).2
 have h0 := once_even a hP i (sumsA (looksA a a.g.B))
 have hx : (scanA a)[i] = evenA (sumsA (looksA a a.g.B)) (blockA a (i : Int)) ∨ (scanA a)[i] = spoil (evenA (sumsA (looksA a a.g.B)) (blockA a (i : Int))) ∧ (evenA (sumsA (looksA a a.g.B)) (blockA a (i : Int))).f0 = 4 := by
  rw [get i hl]
  split
  ·rename_i h; exact .inr ⟨rfl, h.1⟩
  ·exact .inl rfl
 refine ⟨?_, fun h4 => ?_⟩
 ·rcases hx with hx | ⟨hx, hm⟩
  ·rw [hx]; exact h0
  ·rw [hx]
   have hbad : badA a i = false := by rw [← h0.2.2.1, hm]; rfl
   exact ⟨by show (1 : Int) ≤ 3; decide, by show (3 : Int) ≤ 4; decide, by rw [hbad]; rfl, fun h => absurd (show (3 : Int) = 2 from h) (by decide), fun _ => ⟨rfl, rfl, rfl, rfl⟩, fun h => absurd (show (3 : Int) = 4 from h) (by decide)⟩
 ·have hmap : ∀ k (hk : k < (scanA a).length), (scanA a)[k].f0 = 4 → (newAt (evenL (looksA a a.g.B)) a.g.B (scanA a)[k].f2).getD 0 = k := by
   intro k hk hf
   rw [get k hk] at hf ⊢
   split at hf
   ·exact absurd (show (3 : Int) = 4 from hf) (by decide)
   ·rename_i hn
    rw [if_neg hn]
    by_cases hk2 : (newAt (evenL (looksA a a.g.B)) a.g.B (evenA (sumsA (looksA a a.g.B)) (blockA a (k : Int))).f2).getD 0 = k
    ·exact hk2
    ·exact absurd ⟨hf, hk2⟩ hn
  refine ⟨?_, ?_⟩
  ·have := findL_hit (scanA a)[i].f2 (scanA a) 0 i hl h4 rfl (fun k hk hki hm => by
    have e1 := hmap k hk hm.1
    have e2 := hmap i hl h4
    rw [hm.2, e2] at e1
    omega)
   rw [Nat.zero_add] at this
   exact this
  ·rcases hx with hx | ⟨hx, -⟩
   ·rw [hx]; exact even_leb hby i _
   ·rw [hx] at h4
    exact absurd (show (3 : Int) = 4 from h4) (by decide)
end Go.Proofs.YtdlimghdimkadaaDoor.PAll
namespace Go.Proofs.YtdlimghdimkadaaDoor.PAll
open Go Go.RowKit Go.Shelf Go.Proofs.YtdlimghdimkadaaDoorW.PrintWords Go.Proofs.YtdlimghdimkadaaDoorW.PrintLast Go.Proofs.YtdlimghdimkadaaDoorW.PrintMore Go.Proofs.YtdlimghdimkadaaDoor.Plain
set_option linter.unusedSimpArgs false
set_option linter.unusedVariables false
def smallG : Geo := ⟨16, 16, 128, 2⟩
theorem R_keeps {W w' : World} (h : Keeps W w') {base : Nat} {ok : Nat → Prop} {v : Value} {l : List Int} (hr : Kd.R kB 5 W base ok v l) : Kd.R kB 5 w' base ok v l :=
 Kd.R_mono (Kd.R_move (Kd.R_bound hr) (fun k hk => by
  obtain ⟨_, _, _, q, hq, cells, hc⟩ := hk
  have hq2 : q = 5 := by simpa [Kd.int, Kd.scalar] using hq
  subst hq2
  rw [hc]
  exact h k _ _ _ (by decide) (by decide) (by decide) hc)) (fun _ hk => hk.1)
theorem C_keeps {W w' : World} (h : Keeps W w') {base : Nat} {ok : Nat → Prop} {A : Option Addr} {c : Nat} {l : List Int} (hr : Kd.R kB 5 W base ok (.slice A l.length c) l) : Kd.C kB w' A l.length l := (Kd.R_reads' (R_keeps h hr)).2.2
theorem progA_ok {a : AC} {n p : Nat} {l : List Int} (h1 : a.off = false) (h2 : n < a.g.B) (h3 : p < a.g.P) (h4 : l.length ≤ a.g.Z) (h5 : (a.bk n).bad = false) (h6 : (a.bk n).nx = (p : Int)) (h7 : a.pl = []) : progA a (n : Int) (p : Int) l = (0, a.tick.put n p 1 l) := by
 unfold progA
 rw [if_neg (by rw [h1]; decide), if_neg (by omega), if_neg (by omega), Int.toNat_natCast, if_neg (by rw [h5, h6]; simp), Int.toNat_natCast]
 have : a.hit = none := by unfold AC.hit; rw [h7]; rfl
 rw [this]
theorem blockA_blank {a : AC} {n : Int} (h1 : badA a n = false) (h2 : nextA a n = 0) : blockA a n = (⟨3, 0, 0, 0, 0, false⟩, false) := by
 unfold blockA
 rw [if_neg (by rw [h1]; decide), if_pos]
 unfold pageA
 rw [if_pos (by omega)]
section
variable (xa xm : List Int)
def chipL : AC := ((((newA smallG []).tick.put 1 0 1 xa).tick.put 4 0 1 xa).tick.put 4 1 1 xm).tick.put 4 2 1 [120]
def chipE : AC := ⟨smallG, [], 0, false, 4, 0, fun x => if x = 4 then ⟨false, 0, 3, fun j => if j = 2 then ⟨1, [120]⟩ else if j = 1 then ⟨1, xm⟩ else if j = 0 then ⟨1, xa⟩ else ⟨0, []⟩⟩ else if x = 1 then ⟨false, 0, 1, fun j => if j = 0 then ⟨1, xa⟩ else ⟨0, []⟩⟩ else ⟨false, 0, 0, fun _ => ⟨0, []⟩⟩⟩
variable {xa xm}
theorem wrap_nat (p : Nat) (h : p < 1000000) : wrap64 ((p : Int) + 1) = (p : Int) + 1 := by unfold wrap64; omega
theorem chipL_eq : chipL xa xm = chipE xa xm := by
 have w0 : wrap64 (((0 : Nat) : Int) + 1) = 1 := wrap_nat 0 (by decide)
 have w1 : wrap64 (((1 : Nat) : Int) + 1) = 2 := wrap_nat 1 (by decide)
 have w2 : wrap64 (((2 : Nat) : Int) + 1) = 3 := wrap_nat 2 (by decide)
 have v0 : wrap64 ((0 : Int) + 1) = 1 := w0
 have v1 : wrap64 ((1 : Int) + 1) = 2 := w1
 have v2 : wrap64 ((2 : Int) + 1) = 3 := w2
 have v3 : wrap64 ((3 : Int) + 1) = 4 := wrap_nat 3 (by decide)
 simp only [chipL, AC.put, AC.setBk, AC.tick, newA, ABk.setPg, chipE, w0, w1, w2, v0, v1, v2, v3, AC.mk.injEq, true_and]
 funext x
 by_cases h4 : x = 4
 ·subst h4; simp
 ·by_cases h1 : x = 1
  ·subst h1; simp
  ·simp [h1, h4]
theorem chipL_run (ha : xa.length = 128) (hm : xm.length = 128) : (progA (progA (progA (progA (newA smallG []) 1 0 xa).2 4 0 xa).2 4 1 xm).2 4 2 [120]).2 = chipL xa xm := by
 have e1 := progA_ok (a := newA smallG []) (n := 1) (p := 0) (l := xa) rfl (of_decide_eq_true rfl) (of_decide_eq_true rfl) (by rw [ha]; exact (of_decide_eq_true rfl)) rfl (by rfl) rfl
 have e2 := progA_ok (a := (newA smallG []).tick.put 1 0 1 xa) (n := 4) (p := 0) (l := xa) rfl (of_decide_eq_true rfl) (of_decide_eq_true rfl) (by rw [ha]; exact (of_decide_eq_true rfl)) rfl (by rfl) rfl
 have e3 := progA_ok (a := ((newA smallG []).tick.put 1 0 1 xa).tick.put 4 0 1 xa) (n := 4) (p := 1) (l := xm) rfl (of_decide_eq_true rfl) (of_decide_eq_true rfl) (by rw [hm]; exact (of_decide_eq_true rfl)) rfl (show wrap64 (((0 : Nat) : Int) + 1) = 1 from wrap_nat 0 (by decide)) rfl
 have e4 := progA_ok (a := (((newA smallG []).tick.put 1 0 1 xa).tick.put 4 0 1 xa).tick.put 4 1 1 xm) (n := 4) (p := 2) (l := [120]) rfl (of_decide_eq_true rfl) (of_decide_eq_true rfl) (of_decide_eq_true rfl) rfl (show wrap64 (((1 : Nat) : Int) + 1) = 2 from wrap_nat 1 (by decide)) rfl
 show (progA (progA (progA (progA (newA smallG []) ((1 : Nat) : Int) ((0 : Nat) : Int) xa).2 ((4 : Nat) : Int) ((0 : Nat) : Int) xa).2 ((4 : Nat) : Int) ((1 : Nat) : Int) xm).2 ((4 : Nat) : Int) ((2 : Nat) : Int) [120]).2 = _
 rw [e1]
 show (progA (progA (progA ((newA smallG []).tick.put 1 0 1 xa) ((4 : Nat) : Int) ((0 : Nat) : Int) xa).2 ((4 : Nat) : Int) ((1 : Nat) : Int) xm).2 ((4 : Nat) : Int) ((2 : Nat) : Int) [120]).2 = _
 rw [e2]
 show (progA (progA (((newA smallG []).tick.put 1 0 1 xa).tick.put 4 0 1 xa) ((4 : Nat) : Int) ((1 : Nat) : Int) xm).2 ((4 : Nat) : Int) ((2 : Nat) : Int) [120]).2 = _
 rw [e3]
 show (progA ((((newA smallG []).tick.put 1 0 1 xa).tick.put 4 0 1 xa).tick.put 4 1 1 xm) ((4 : Nat) : Int) ((2 : Nat) : Int) [120]).2 = _
 rw [e4]
 rfl
theorem pageA_put {a : AC} {n p : Nat} {l : List Int} (h1 : a.off = false) (h2 : n < a.g.B) (h3 : p < a.g.P) (h4 : (p : Int) < (a.bk n).nx) (h5 : (a.bk n).pg p = ⟨1, l⟩) (h6 : l.length = a.g.Z) : pageA a (n : Int) (p : Int) = (l, true) := by
 have e : nextA a (n : Int) = (a.bk n).nx := by unfold nextA; rw [if_neg (by omega), Int.toNat_natCast]
 unfold pageA
 rw [e, if_neg (by omega)]
 unfold readA
 rw [if_neg (by rw [h1]; decide), if_neg (by omega), if_neg (by omega), Int.toNat_natCast, Int.toNat_natCast, h5, if_neg (of_decide_eq_true rfl), if_pos rfl, h6]
 simp
theorem lebs_small : lebsG 16 16 128 2 = 12 := by
 unfold lebsG
 have h : rightG 16 16 128 2 = true := by kernel_rfl
 rw [if_pos h]
 unfold wrap64
 decide
theorem look_free (ha : xa.length = 128) (hp : parseCountL xa = (5, true)) : blockA (chipE xa xm) 1 = (⟨2, 5, 0, 0, 0, false⟩, true) := by
 have e1 : pageA (chipE xa xm) ((1 : Nat) : Int) ((0 : Nat) : Int) = (xa, true) := pageA_put rfl (of_decide_eq_true rfl) (of_decide_eq_true rfl) (of_decide_eq_true rfl) rfl ha
 have e1' : pageA (chipE xa xm) 1 0 = (xa, true) := e1
 unfold blockA
 rw [e1', if_neg (of_decide_eq_true rfl), if_neg (of_decide_eq_true rfl), hp, if_neg (of_decide_eq_true rfl), if_pos (of_decide_eq_true rfl)]
theorem look_map (ha : xa.length = 128) (hm : xm.length = 128) (hp : parseCountL xa = (5, true)) (hq : parseMapL xm = ((2, 7, 0), true)) : blockA (chipE xa xm) 4 = (⟨4, 5, 2, 1, 7, false⟩, true) := by
 have e1 : pageA (chipE xa xm) 4 0 = (xa, true) := pageA_put (n := 4) (p := 0) rfl (of_decide_eq_true rfl) (of_decide_eq_true rfl) (of_decide_eq_true rfl) rfl ha
 have e2 : pageA (chipE xa xm) 4 1 = (xm, true) := pageA_put (n := 4) (p := 1) rfl (of_decide_eq_true rfl) (of_decide_eq_true rfl) (of_decide_eq_true rfl) rfl hm
 have e3 : usedA (chipE xa xm) 4 14 0 = (1, false) := by rfl
 unfold blockA
 rw [e1, if_neg (of_decide_eq_true rfl), if_neg (of_decide_eq_true rfl), hp, if_neg (of_decide_eq_true rfl), if_neg (of_decide_eq_true rfl), e2, if_neg (of_decide_eq_true rfl), hq]
 have e4 : (chipE xa xm).g.P - 2 = 14 := rfl
 have e5 : mapOK (chipE xa xm) 4 ((2, 7, 0), true) = true := by
  unfold mapOK
  rw [e4, e3]
  have e6 : lebsG (chipE xa xm).g.B (chipE xa xm).g.P (chipE xa xm).g.Z (chipE xa xm).g.R = 12 := lebs_small
  rw [e6]
  rfl
 rw [if_pos e5, e4, e3]
 rfl
def looksL : List (Blk × Bool) := [(⟨3, 0, 0, 0, 0, false⟩, false), (⟨2, 5, 0, 0, 0, false⟩, true), (⟨3, 0, 0, 0, 0, false⟩, false), (⟨3, 0, 0, 0, 0, false⟩, false), (⟨4, 5, 2, 1, 7, false⟩, true)] ++ List.replicate 11 (⟨3, 0, 0, 0, 0, false⟩, false)
theorem looks_is (ha : xa.length = 128) (hm : xm.length = 128) (hp : parseCountL xa = (5, true)) (hq : parseMapL xm = ((2, 7, 0), true)) : looksA (chipE xa xm) 16 = looksL := by
 have hb : ∀ n : Nat, n < 16 → n ≠ 1 → n ≠ 4 → blockA (chipE xa xm) (n : Int) = (⟨3, 0, 0, 0, 0, false⟩, false) := fun n hn h1 h4 => by
  have hbk : (chipE xa xm).bk n = ⟨false, 0, 0, fun _ => ⟨0, []⟩⟩ := by
   simp only [chipE, if_neg h1, if_neg h4]
  refine blockA_blank ?_ ?_
  ·unfold badA; rw [if_neg (by show ¬ ((n : Int) < 0 ∨ ((16 : Nat) : Int) ≤ n); omega), Int.toNat_natCast, hbk]
  ·unfold nextA; rw [if_neg (by show ¬ ((n : Int) < 0 ∨ ((16 : Nat) : Int) ≤ n); omega), Int.toNat_natCast, hbk]
 unfold looksA
 have e : List.range 16 = [0, 1, 2, 3, 4, 5, 6, 7, 8, 9, 10, 11, 12, 13, 14, 15] := rfl
 rw [e]
 simp only [List.map_cons, List.map_nil]
 rw [hb 0 (by omega) (by omega) (by omega), hb 2 (by omega) (by omega) (by omega), hb 3 (by omega) (by omega) (by omega), hb 5 (by omega) (by omega) (by omega), hb 6 (by omega) (by omega) (by omega), hb 7 (by omega) (by omega) (by omega), hb 8 (by omega) (by omega) (by omega), hb 9 (by omega) (by omega) (by omega), hb 10 (by omega) (by omega) (by omega), hb 11 (by omega) (by omega) (by omega), hb 12 (by omega) (by omega) (by omega), hb 13 (by omega) (by omega) (by omega), hb 14 (by omega) (by omega) (by omega), hb 15 (by omega) (by omega) (by omega)]
 have f1 : blockA (chipE xa xm) ((1 : Nat) : Int) = _ := look_free ha hp
 have f4 : blockA (chipE xa xm) ((4 : Nat) : Int) = _ := look_map ha hm hp hq
 rw [f1, f4]
 rfl
def aliveL : List Blk := [⟨3, 5, 0, 0, 0, false⟩, ⟨2, 5, 0, 0, 0, false⟩, ⟨3, 5, 0, 0, 0, false⟩, ⟨3, 5, 0, 0, 0, false⟩, ⟨4, 5, 2, 1, 7, false⟩] ++ List.replicate 11 ⟨3, 5, 0, 0, 0, false⟩
theorem scan_alive (ha : xa.length = 128) (hm : xm.length = 128) (hp : parseCountL xa = (5, true)) (hq : parseMapL xm = ((2, 7, 0), true)) : scanA (chipL xa xm) = aliveL := by
 rw [chipL_eq]
 have e : scanA (chipE xa xm) = lastL (evenL (looksA (chipE xa xm) 16)) := rfl
 rw [e, looks_is ha hm hp hq]
 have a1 : wrap64 5 = 5 := by unfold wrap64; decide
 have a2 : wrap64 10 = 10 := by unfold wrap64; decide
 have a3 : wrap64 1 = 1 := by unfold wrap64; decide
 have a4 : wrap64 2 = 2 := by unfold wrap64; decide
 have hs : sumsA looksL = (10, 2) := by
  simp [sumsA, looksL, stepS, List.replicate, a1, a2, a3, a4]
 have he : evenL looksL = aliveL := by
  unfold evenL
  rw [hs]
  have a5 : wrap64 (Int.tdiv 10 2) = 5 := a1
  simp [looksL, evenA, aliveL, List.replicate, a5, a1]
 rw [he]
 rfl
end
end Go.Proofs.YtdlimghdimkadaaDoor.PAll
namespace Go.Proofs.YtdlimghdimkadaaDoor.PAll
open Go Go.RowKit Go.Shelf Go.Proofs.YtdlimghdimkadaaDoorW.PrintWords Go.Proofs.YtdlimghdimkadaaDoorW.PrintLast Go.Proofs.YtdlimghdimkadaaDoorW.PrintMore Go.Proofs.YtdlimghdimkadaaDoor.Plain
set_option linter.unusedSimpArgs false
set_option linter.unusedVariables false
theorem wrapN (i : Nat) (h : i < 4611686018427387904) : wrap64 ((i : Int) + 1) = ((i + 1 : Nat) : Int) := by unfold wrap64; push_cast; omega
theorem rdB {xs : List Blk} {i : Nat} (h : i < xs.length) : rd_T49 xs (i : Int) = xs[i] := by
 unfold rd_T49
 rw [Int.toNat_natCast, List.getD_eq_getElem?_getD, List.getElem?_eq_getElem h]
 rfl
def goodN : List Blk → Nat
 | [] => 0
 | b :: r => (if b.f0 = 1 then 0 else 1) + goodN r
theorem good_l0 (xs : List Blk) (hl : xs.length < 4611686018427387904) : ∀ (m i a : Nat), i + m = xs.length → a ≤ i → scan_Good.l0 (m + 1) (a : Int) xs (xs.length : Int) (i : Int) = some ((a + goodN (xs.drop i) : Nat) : Int)
 | 0, i, a, h, ha => by
  unfold scan_Good.l0
  rw [if_neg (by omega), List.drop_eq_nil_of_le (by omega)]
  rfl
 | m + 1, i, a, h, ha => by
  have hi : i < xs.length := by omega
  unfold scan_Good.l0
  rw [if_pos (by omega), if_pos (by omega), if_pos (by omega), rdB hi, wrapN i (by omega), wrapN a (by omega), List.drop_eq_getElem_cons hi]
  unfold goodN
  by_cases h1 : xs[i].f0 = 1
  ·rw [if_pos h1, if_pos h1, good_l0 xs hl m (i + 1) a (by omega) (by omega), Nat.zero_add]
  ·rw [if_neg h1, if_neg h1, good_l0 xs hl m (i + 1) (a + 1) (by omega) (by omega), Nat.add_assoc]
theorem good_is (A : Option Addr) (c : Nat) (xs : List Blk) (w : World) (hr : Kd.C kBlk w A xs.length xs) (hc : xs.length ≤ c) (hl : xs.length < 4611686018427387904) : Calls Tryd.prog 11 #[.slice A xs.length c] w fun e w' => e = .returned (.int .i64 (goodN xs : Int)) ∧ Below w.heap.size w w' := by
 refine scan_Good.calls (xs.length + 1) A c xs _ w hr hc ?_
 have := good_l0 xs hl xs.length 0 0 (by omega) (by omega)
 rw [Nat.zero_add, List.drop_zero] at this
 exact this
theorem find_is (A : Option Addr) (c : Nat) (xs : List Blk) (leb : Int) (w : World) (hr : Kd.C kBlk w A xs.length xs) (hl : xs.length < 4611686018427387904) : Calls Tryd.prog 7 #[.slice A xs.length c, .int .i64 leb] w fun e w' => e = .returned (.int .i64 (findL leb xs 0)) ∧ Below w.heap.size w w' :=
 (callsIn_wide (n := 4)).1 (Find_in Fence.wide 4 trivial trivial trivial rfl (by omega) A c xs leb w hr (by omega))
theorem least_is (A : Option Addr) (c : Nat) (xs : List Blk) (w : World) (hr : Kd.C kBlk w A xs.length xs) (hl : xs.length < 4611686018427387904) : Calls Tryd.prog 9 #[.slice A xs.length c] w fun e w' => e = .returned (.int .i64 (leastL xs)) ∧ Below w.heap.size w w' :=
 (callsIn_wide (n := 4)).1 (Least_in Fence.wide 4 trivial trivial trivial rfl (by omega) A c xs w hr (by omega))
end Go.Proofs.YtdlimghdimkadaaDoor.PAll
namespace Go.Proofs.YtdlimghdimkadaaDoor.PAll
open Go Go.RowKit Go.Shelf Go.Proofs.YtdlimghdimkadaaDoorW.PrintWords Go.Proofs.YtdlimghdimkadaaDoorW.PrintLast Go.Proofs.YtdlimghdimkadaaDoorW.PrintMore Go.Proofs.YtdlimghdimkadaaDoor.Plain
set_option linter.unusedSimpArgs false
set_option linter.unusedVariables false
attribute [local go_sem] max2_int min2_int max_two min_two max_three min_three max_four min_four
theorem countL_ok {n page : Int} (hn : 0 ≤ n ∧ n ≤ 2147483647) (hp : 64 ≤ page ∧ page ≤ 512) : countL n page = (imageL (countP n) page, 0) := by
 unfold countL
 rw [if_neg (by omega)]
theorem mapL_ok {leb seq pages page : Int} (h1 : 0 ≤ leb ∧ leb < 256) (h3 : 0 ≤ pages ∧ pages ≤ 64) (hp : 64 ≤ page ∧ page ≤ 512) : mapL leb seq pages page = (imageL (mapP leb seq pages) page, 0) := by
 unfold mapL
 rw [if_neg (by omega)]
theorem rcount128 (n : Int) (hn : 0 ≤ n ∧ n ≤ 2147483647) : ∃ xa : List Int, xa.length = 128 ∧ Bytes xa ∧ parseCountL xa = (n, true) ∧ ∀ w, Calls Tryd.prog 16 #[.int .i64 n, .int .i64 128] w fun e w' => ∃ v : Value, e = .returned (.tuple #[v, .int .i64 0]) ∧ Kd.R kB 5 w' w.heap.size (fun _ => True) v xa ∧ Below w.heap.size w w' := by
 refine ⟨imageL (countP n) 128, by rw [image_length]; rfl, image_bytes (countP_bytes n) 128, parse_count hn (by decide), fun w => ?_⟩
 have h := rcount_is n 128 w
 rw [countL_ok hn (by decide)] at h
 exact h
theorem rmap128 (leb seq pages : Int) (h1 : 0 ≤ leb ∧ leb < 256) (h2 : 0 ≤ seq ∧ seq < 18446744073709551616) (h3 : 0 ≤ pages ∧ pages ≤ 64) : ∃ xm : List Int, xm.length = 128 ∧ Bytes xm ∧ parseMapL xm = ((leb, seq, pages), true) ∧ ∀ w, Calls Tryd.prog 17 #[.agg #[.int .i64 leb, .int .u64 seq, .int .i64 pages], .int .i64 128] w fun e w' => ∃ v : Value, e = .returned (.tuple #[v, .int .i64 0]) ∧ Kd.R kB 5 w' w.heap.size (fun _ => True) v xm ∧ Below w.heap.size w w' := by
 refine ⟨imageL (mapP leb seq pages) 128, by rw [image_length]; rfl, image_bytes (mapP_bytes leb seq pages (by omega)) 128, parse_map h1 h2 h3 (by decide), fun w => ?_⟩
 have h := rmapping_is leb seq pages 128 h2.1 w
 rw [mapL_ok h1 h3 (by decide)] at h
 exact h
theorem new_small (w : World) : Calls Tryd.prog 14 #[.agg #[.int .i64 16, .int .i64 16, .int .i64 128, .int .i64 2], .slice none 0 0] w fun e w' => ∃ gc : Nat, e = .returned (.tuple #[cp gc, .int .i64 0]) ∧ Chip w w' gc (newA smallG []) :=
 chip_new smallG none 0 [] w ⟨rfl, by decide, fun h => by cases h⟩ (Nat.le_refl _) (by kernel_rfl) (by rfl)
theorem small_is (w : World) : Calls Tryd.prog 15 #[] w fun e w' => e = .returned (.agg #[.int .i64 16, .int .i64 16, .int .i64 128, .int .i64 2]) ∧ Below w.heap.size w w' := pumicelaw03_Small.calls 16 16 128 2 w rfl
theorem chipE_bytes {xa xm : List Int} (ha : Bytes xa) (hm : Bytes xm) : ABytes (chipE xa xm) := by
 have h1 : Bytes [120] := fun x hx => by simp at hx; subst hx; decide
 have h0 : Bytes [] := fun x hx => by cases hx
 intro i j
 by_cases h4 : i = 4
 ·subst h4
  by_cases j2 : j = 2
  ·subst j2; exact h1
  by_cases j1 : j = 1
  ·subst j1; exact hm
  by_cases j0 : j = 0
  ·subst j0; exact ha
  simp only [chipE, if_pos, if_neg j2, if_neg j1, if_neg j0]; exact h0
 by_cases hi1 : i = 1
 ·subst hi1
  by_cases j0 : j = 0
  ·subst j0; exact ha
  simp only [chipE, if_neg h4, if_pos, if_neg j0]; exact h0
 simp only [chipE, if_neg h4, if_neg hi1]; exact h0
set_option maxRecDepth 100000 in
set_option maxHeartbeats 16000000 in
theorem salive_is (aE : Addr) (w : World) (hg : gNone w aE) : Calls Tryd.prog 13 #[] w fun e w' => e = .returned (.bool true) ∧ Below w.heap.size w w' := by
 obtain ⟨xa, la, ba, pa, HCa⟩ := rcount128 5 (by decide)
 obtain ⟨xm, lm, bm, pm, HMa⟩ := rmap128 2 7 0 (by decide) (by decide) (by decide)
 have HC := Aside0.mk HCa
 have HM := Aside0.mk HMa
 have HSM := Aside0.mk small_is
 have HNW := Aside0.mk new_small
 have HRUN := Aside0.mk ((chipL_run la lm).trans chipL_eq)
 have HBY := Aside0.mk (chipE_bytes ba bm)
 have HSC := Aside0.mk (show scanA (chipE xa xm) = aliveL by rw [← chipL_eq]; exact scan_alive la lm pa pm)
 have HG := Aside0.mk hg
 have hcv := fun (w : World) (x : Int) => Lib.run_convert_bytes_const (P := Tryd.prog) w 39 5 #[.int .u8 x] 1 1 Tryd.underlying39 Tryd.underlying5
 clear la ba pa HCa lm bm pm HMa hg
 go_enter Tryd.func13, Tryd.ntmps13
 go_upto_region 4 with (first
  | (go_at_call 15; (with_reducible refine (HSM.out _).mono ?_); rintro e w1 ⟨rfl, hb1⟩; have HB1 := Aside0.mk hb1; clear hb1)
  | (go_at_call 14; (with_reducible refine (HNW.out _).mono ?_); rintro e w2 ⟨gc, rfl, hc2⟩; have HC2 := Aside0.mk (hc2.lower HB1.out); clear hc2))
 go_upto_region 6 with (first
  | (go_at_call 16; (with_reducible refine (HC.out _).mono ?_); rintro e w3 ⟨v3, rfl, hr3, hb3⟩; obtain ⟨A3, c3, rfl⟩ := Kd.R_slice hr3; have HC3 := Aside0.mk (HC2.out.grow hb3); have HA3 := Aside0.mk hr3; clear hr3 hb3)
  | (go_at_call 17; (with_reducible refine (HM.out _).mono ?_); rintro e w4 ⟨v4, rfl, hr4, hb4⟩; obtain ⟨A4, c4, rfl⟩ := Kd.R_slice hr4; have HC4 := Aside0.mk (HC3.out.grow hb4); have HA4 := Aside0.mk (Kd.R_below HA3.out hb4); have HM4 := Aside0.mk hr4; clear hr4 hb4))
 have HP5 := Aside0.mk (HC4.out.program 1 0 A3 c3 xa (fun w' _ hk => C_keeps hk HA4.out) (Kd.R_reads' HA4.out).2.1)
 go_upto_region 7 with (first
  | (go_at_call 18; (with_reducible refine HP5.out.mono ?_); rintro e w5 ⟨rfl, hc5, hk5⟩; have HC5 := Aside0.mk hc5; have HA5 := Aside0.mk (R_keeps hk5 HA4.out); have HM5 := Aside0.mk (R_keeps hk5 HM4.out); clear hc5 hk5))
 have HP6 := Aside0.mk (HC5.out.program 4 0 A3 c3 xa (fun w' _ hk => C_keeps hk HA5.out) (Kd.R_reads' HA5.out).2.1)
 go_upto_region 8 with (first
  | (go_at_call 18; (with_reducible refine HP6.out.mono ?_); rintro e w6 ⟨rfl, hc6, hk6⟩; have HC6 := Aside0.mk hc6; have HM6 := Aside0.mk (R_keeps hk6 HM5.out); clear hc6 hk6))
 have HP7 := Aside0.mk (HC6.out.program 4 1 A4 c4 xm (fun w' _ hk => C_keeps hk HM6.out) (Kd.R_reads' HM6.out).2.1)
 go_upto_region 9 with (first
  | (go_at_call 18; (with_reducible refine HP7.out.mono ?_); rintro e w7 ⟨rfl, hc7, hk7⟩; have HC7 := Aside0.mk hc7; clear hc7 hk7))
 have HX7 := Aside0.mk (World.alloc_heap_new w7 (.cells #[.int .u8 120] 5 (1, 2)))
 have HC8 := Aside0.mk (HC7.out.grow (below_alloc (Below.refl _ _) (.cells #[.int .u8 120] 5 (1, 2))))
 have HP8 := Aside0.mk (show Calls Tryd.prog 18 #[cp gc, .int .i64 4, .int .i64 2, .slice (some ⟨w7.heap.size, 0, none⟩) 1 1] (w7.alloc (.cells #[.int .u8 120] 5 (1, 2))) _ from HC8.out.program 4 2 (some ⟨w7.heap.size, 0, none⟩) 1 [120] (fun w' _ hk => by
  refine ⟨rfl, by decide, fun _ => ⟨_, rfl, fun j p hj => ?_⟩⟩
  have hx := hk _ _ _ _ (by decide) (by decide) (by decide) HX7.out
  match j, hj with
  | 0, hj =>
   cases hj
   refine ⟨[.int .u8 120], rfl, rfl, fun i u hi => ?_⟩
   match i, hi with
   | 0, hi => cases hi; simp [World.cell?, hx, Addr.add]
   | i + 1, hi => simp at hi
  | j + 1, hj => simp at hj) (by decide))
 go_upto_region 10 with (first
  | (go_at_call 18; (with_reducible refine HP8.out.mono ?_); rintro e w8 ⟨rfl, hc8, hk8⟩; have HC9 := Aside0.mk (show Chip w w8 gc (chipE xa xm) from (by rw [← HRUN.out]; exact hc8)); clear hc8 hk8))
 have HGE := Aside0.mk (cell_below HG.out HC9.out.below)
 have HSCAN := Aside0.mk (show Calls Tryd.prog 19 #[cp gc] w8 (fun e w' => ∃ (g c : Nat), e = .returned (.tuple #[.slice (some ⟨g, 0, none⟩) 16 c, .int .i64 0]) ∧ 16 ≤ c ∧ Rows w' g aliveL ∧ Below w8.heap.size w8 w') from by
  have h := Scan_is HC9.out HBY.out aE HGE.out rfl
  rw [HSC.out] at h
  exact h)
 go_wp2_with (first
  | (go_at_call 19; (with_reducible refine HSCAN.out.mono ?_); rintro e w9 ⟨gl, cl, rfl, hcl, hR, hb9⟩; have HB9 := Aside0.mk (below_step HC9.out.below hb9); have HR9 := Aside0.mk hR; have HCL := Aside0.mk hcl; have z0 : w9.cell? ⟨gl, 0, none⟩ = some (.int .i64 3) := (hR.cell 0 (by decide)).1; have z1 : w9.cell? ⟨gl, 1, none⟩ = some (.int .i64 5) := (hR.cell 0 (by decide)).2.1; have z6 : w9.cell? ⟨gl, 6, none⟩ = some (.int .i64 2) := (hR.cell 1 (by decide)).1; have z24 : w9.cell? ⟨gl, 24, none⟩ = some (.int .i64 4) := (hR.cell 4 (by decide)).1; have z26 : w9.cell? ⟨gl, 26, none⟩ = some (.int .i64 2) := (hR.cell 4 (by decide)).2.2.1; have z27 : w9.cell? ⟨gl, 27, none⟩ = some (.int .i64 1) := (hR.cell 4 (by decide)).2.2.2.1; have HFI := Aside0.mk (show Calls Tryd.prog 7 #[.slice (some ⟨gl, 0, none⟩) 16 cl, .int .i64 2] w9 (fun e w' => e = .returned (.int .i64 4) ∧ Below w9.heap.size w9 w') from find_is (some ⟨gl, 0, none⟩) cl aliveL 2 w9 (hR.reads (by decide)) (by decide)); clear hR hcl hb9)
  | (go_at_call 7; (with_reducible refine HFI.out.mono ?_); rintro e w10 ⟨rfl, hb10⟩; have HB10 := Aside0.mk (below_step HB9.out hb10); have HR10 := Aside0.mk (HR9.out.keep (hb10.block gl HR9.out.lt)); have HLE := Aside0.mk (show Calls Tryd.prog 9 #[.slice (some ⟨gl, 0, none⟩) 16 cl] w10 (fun e w' => e = .returned (.int .i64 1) ∧ Below w10.heap.size w10 w') from least_is (some ⟨gl, 0, none⟩) cl aliveL w10 (HR10.out.reads (by decide)) (by decide)); clear hb10 z0 z1 z6 z24 z26 z27)
  | (go_at_call 9; (with_reducible refine HLE.out.mono ?_); rintro e w11 ⟨rfl, hb11⟩; have HB11 := Aside0.mk (below_step HB10.out hb11); have HR11 := Aside0.mk (HR10.out.keep (hb11.block gl HR10.out.lt)); have HGO := Aside0.mk (show Calls Tryd.prog 11 #[.slice (some ⟨gl, 0, none⟩) 16 cl] w11 (fun e w' => e = .returned (.int .i64 16) ∧ Below w11.heap.size w11 w') from good_is (some ⟨gl, 0, none⟩) cl aliveL w11 (HR11.out.reads (by decide)) HCL.out (by decide)); clear hb11)
  | (go_at_call 11; (with_reducible refine HGO.out.mono ?_); rintro e w12 ⟨rfl, hb12⟩; have HB12 := Aside0.mk (below_step HB11.out hb12); clear hb12))
 go_ret
 exact ⟨rfl, HB12.out⟩
end Go.Proofs.YtdlimghdimkadaaDoor.PAll

/- ScanNewer: two copies of one logical block, plain; the walk. -/
import Derived.Test.YtdlimghdimkadaaDoorLm
namespace Go.Proofs.YtdlimghdimkadaaDoor.PAll
open Go Go.RowKit Go.Shelf Go.Proofs.YtdlimghdimkadaaDoorW.PrintWords Go.Proofs.YtdlimghdimkadaaDoorW.PrintLast Go.Proofs.YtdlimghdimkadaaDoorW.PrintMore Go.Proofs.YtdlimghdimkadaaDoor.Plain
set_option linter.unusedSimpArgs false
set_option linter.unusedVariables false
attribute [local go_sem] max2_int min2_int max_two min_two max_three min_three max_four min_four
section
variable (xa xm xn : List Int)
/-- Two mapped blocks; the second has i pages more. -/
def chipN (i : Nat) : AC := ⟨smallG, [], 0, false, 4 + i, 0, fun x => if x = 9 then ⟨false, 0, 2 + i, fun j => if j = 0 then ⟨1, xa⟩ else if j = 1 then ⟨1, xn⟩ else if j < 2 + i then ⟨1, xa⟩ else ⟨0, []⟩⟩ else if x = 2 then ⟨false, 0, 2, fun j => if j = 0 then ⟨1, xa⟩ else if j = 1 then ⟨1, xm⟩ else ⟨0, []⟩⟩ else ⟨false, 0, 0, fun _ => ⟨0, []⟩⟩⟩
variable {xa xm xn}
theorem chipN_start (ha : xa.length = 128) (hm : xm.length = 128) (hn : xn.length = 128) : (progA (progA (progA (progA (newA smallG []) 2 0 xa).2 2 1 xm).2 9 0 xa).2 9 1 xn).2 = chipN xa xm xn 0 := by
  have w0 : wrap64 (((0 : Nat) : Int) + 1) = 1 := wrap_nat 0 (by decide)
  have w1 : wrap64 (((1 : Nat) : Int) + 1) = 2 := wrap_nat 1 (by decide)
  have e1 := progA_ok (a := newA smallG []) (n := 2) (p := 0) (l := xa) rfl (of_decide_eq_true rfl) (of_decide_eq_true rfl) (by rw [ha]; exact (of_decide_eq_true rfl)) rfl rfl rfl
  have e2 := progA_ok (a := (newA smallG []).tick.put 2 0 1 xa) (n := 2) (p := 1) (l := xm) rfl (of_decide_eq_true rfl) (of_decide_eq_true rfl) (by rw [hm]; exact (of_decide_eq_true rfl)) rfl (show wrap64 (((0 : Nat) : Int) + 1) = 1 from w0) rfl
  have e3 := progA_ok (a := ((newA smallG []).tick.put 2 0 1 xa).tick.put 2 1 1 xm) (n := 9) (p := 0) (l := xa) rfl (of_decide_eq_true rfl) (of_decide_eq_true rfl) (by rw [ha]; exact (of_decide_eq_true rfl)) rfl rfl rfl
  have e4 := progA_ok (a := (((newA smallG []).tick.put 2 0 1 xa).tick.put 2 1 1 xm).tick.put 9 0 1 xa) (n := 9) (p := 1) (l := xn) rfl (of_decide_eq_true rfl) (of_decide_eq_true rfl) (by rw [hn]; exact (of_decide_eq_true rfl)) rfl (show wrap64 (((0 : Nat) : Int) + 1) = 1 from w0) rfl
  show (progA (progA (progA (progA (newA smallG []) ((2 : Nat) : Int) ((0 : Nat) : Int) xa).2 ((2 : Nat) : Int) ((1 : Nat) : Int) xm).2 ((9 : Nat) : Int) ((0 : Nat) : Int) xa).2 ((9 : Nat) : Int) ((1 : Nat) : Int) xn).2 = _
  rw [e1]
  show (progA (progA (progA ((newA smallG []).tick.put 2 0 1 xa) ((2 : Nat) : Int) ((1 : Nat) : Int) xm).2 ((9 : Nat) : Int) ((0 : Nat) : Int) xa).2 ((9 : Nat) : Int) ((1 : Nat) : Int) xn).2 = _
  rw [e2]
  show (progA (progA (((newA smallG []).tick.put 2 0 1 xa).tick.put 2 1 1 xm) ((9 : Nat) : Int) ((0 : Nat) : Int) xa).2 ((9 : Nat) : Int) ((1 : Nat) : Int) xn).2 = _
  rw [e3]
  show (progA ((((newA smallG []).tick.put 2 0 1 xa).tick.put 2 1 1 xm).tick.put 9 0 1 xa) ((9 : Nat) : Int) ((1 : Nat) : Int) xn).2 = _
  rw [e4]
  have v0 : wrap64 ((0 : Int) + 1) = 1 := w0
  have v1 : wrap64 ((1 : Int) + 1) = 2 := w1
  have v2 : wrap64 ((2 : Int) + 1) = 3 := wrap_nat 2 (by decide)
  have v3 : wrap64 ((3 : Int) + 1) = 4 := wrap_nat 3 (by decide)
  simp only [AC.put, AC.setBk, AC.tick, newA, ABk.setPg, chipN, w0, w1, v0, v1, v2, v3, AC.mk.injEq, true_and]
  refine ⟨by simp, ?_⟩
  funext x
  by_cases h9 : x = 9
  · subst h9
    simp
    funext j
    by_cases h1 : j = 1
    · subst h1; simp
    · by_cases h0 : j = 0
      · subst h0; simp
      · simp [h0, h1]; omega
  · by_cases h2 : x = 2
    · subst h2
      simp
      funext j
      by_cases h1 : j = 1
      · subst h1; simp
      · by_cases h0 : j = 0
        · subst h0; simp
        · simp [h0, h1]
    · simp [h9, h2]
theorem chipN_step (ha : xa.length = 128) (i : Nat) (hi : i < 14) : progA (chipN xa xm xn i) 9 (2 + i : Int) xa = (0, chipN xa xm xn (i + 1)) := by
  have e := progA_ok (a := chipN xa xm xn i) (n := 9) (p := 2 + i) (l := xa) rfl (of_decide_eq_true rfl) (show 2 + i < 16 by omega) (by rw [ha]; exact (of_decide_eq_true rfl)) rfl (show (2 + i : Int) = ((2 + i : Nat) : Int) by push_cast; rfl) rfl
  have e0 : ((2 + i : Nat) : Int) = (2 + i : Int) := by push_cast; rfl
  rw [e0] at e
  refine e.trans ?_
  have w1 : wrap64 ((4 + i : Int) + 1) = 4 + ((i + 1 : Nat) : Int) := by unfold wrap64; push_cast; omega
  have w2 : wrap64 (((2 + i : Nat) : Int) + 1) = 2 + ((i + 1 : Nat) : Int) := by unfold wrap64; push_cast; omega
  simp only [AC.put, AC.setBk, AC.tick, ABk.setPg, chipN, w1, w2, Prod.mk.injEq, true_and, AC.mk.injEq]
  funext x
  by_cases h9 : x = 9
  · subst h9
    simp
    funext j
    by_cases h0 : j = 0
    · subst h0; simp
    by_cases h1 : j = 1
    · subst h1; simp; omega
    by_cases hj : j = 2 + i
    · subst hj; simp; intro h; omega
    · simp only [h0, h1, hj, if_false]
      by_cases hlt : j < 2 + i
      · rw [if_pos hlt, if_pos (by omega)]
      · rw [if_neg hlt, if_neg (by omega)]
  · simp only [h9, if_false]
theorem usedN (ha : xa.length = 128) (t : Nat) (ht : t ≤ 14) : ∀ (k n : Nat), n + k = 14 → n ≤ t → usedA (chipN xa xm xn t) 9 k n = (t, false)
  | 0, n, h1, h2 => by
    obtain rfl : n = t := by omega
    rfl
  | k + 1, n, h1, h2 => by
    unfold usedA
    by_cases h : n < t
    · have e := pageA_put (a := chipN xa xm xn t) (n := 9) (p := n + 2) (l := xa) rfl (of_decide_eq_true rfl) (show n + 2 < 16 by omega) (show ((n + 2 : Nat) : Int) < 2 + (t : Int) by push_cast; omega) (by
        show (if n + 2 = 0 then (⟨1, xa⟩ : APg) else if n + 2 = 1 then ⟨1, xn⟩ else if n + 2 < 2 + t then ⟨1, xa⟩ else ⟨0, []⟩) = _
        rw [if_neg (by omega), if_neg (by omega), if_pos (by omega)]) ha
      have e0 : ((n + 2 : Nat) : Int) = (n : Int) + 2 := by push_cast; rfl
      rw [e0] at e
      have e9 : (9 : Int) = ((9 : Nat) : Int) := rfl
      rw [e9, e, if_pos rfl]
      exact usedN ha t ht k (n + 1) (by omega) (by omega)
    · obtain rfl : n = t := by omega
      have hx : nextA (chipN xa xm xn n) 9 = 2 + (n : Int) := rfl
      have hp : pageA (chipN xa xm xn n) 9 ((n : Int) + 2) = ([], false) := by
        unfold pageA
        rw [hx, if_pos (by omega)]
      rw [hp, if_neg (by decide)]
      have hr : (readA (chipN xa xm xn n) 9 ((n : Int) + 2)).2 = 0 := by
        unfold readA
        rw [if_neg (of_decide_eq_true rfl), if_neg (of_decide_eq_true rfl), if_neg (by show ¬ ((n : Int) + 2 < 0 ∨ ((16 : Nat) : Int) ≤ (n : Int) + 2); omega)]
        have e2 : ((n : Int) + 2).toNat = n + 2 := by omega
        rw [e2]
        have e3 : ((chipN xa xm xn n).bk (9 : Int).toNat).pg (n + 2) = ⟨0, []⟩ := by
          show (if n + 2 = 0 then (⟨1, xa⟩ : APg) else if n + 2 = 1 then ⟨1, xn⟩ else if n + 2 < 2 + n then ⟨1, xa⟩ else ⟨0, []⟩) = _
          rw [if_neg (by omega), if_neg (by omega), if_neg (by omega)]
        rw [e3, if_neg (of_decide_eq_true rfl), if_neg (of_decide_eq_true rfl)]
      rw [hr]
      rfl
def sB : Blk := ⟨3, 3, 0, 0, 0, false⟩
def zB : Blk × Bool := (⟨3, 0, 0, 0, 0, false⟩, false)
def twoL (b c : Blk) : List Blk := [sB, sB, b, sB, sB, sB, sB, sB, sB, c, sB, sB, sB, sB, sB, sB]
def twoP (b c : Blk) : List (Blk × Bool) := [zB, zB, (b, true), zB, zB, zB, zB, zB, zB, (c, true), zB, zB, zB, zB, zB, zB]
theorem even_two (b c : Blk) (hb : b.f1 = 3) (hc : c.f1 = 3) : evenL (twoP b c) = twoL b c := by
  have a1 : wrap64 3 = 3 := by unfold wrap64; decide
  have a2 : wrap64 6 = 6 := by unfold wrap64; decide
  have a3 : wrap64 1 = 1 := by unfold wrap64; decide
  have a4 : wrap64 2 = 2 := by unfold wrap64; decide
  have hs : sumsA (twoP b c) = (6, 2) := by
    simp [sumsA, twoP, zB, stepS, hb, hc, a1, a2, a3, a4]
  unfold evenL
  rw [hs]
  have a5 : wrap64 (Int.tdiv 6 2) = 3 := a1
  simp [twoP, zB, evenA, twoL, sB, a5, a1]
def oldB (s : Int) : Blk := ⟨4, 3, 5, 0, s, false⟩
def newB (t : Nat) (s : Int) : Blk := ⟨4, 3, 5, t, s, false⟩
theorem last_new (o f : Int) (t : Nat) (h : o < f) : lastL (twoL (oldB o) (newB t f)) = twoL sB (newB t f) := by
  have hn : newAt (twoL (oldB o) (newB t f)) 16 5 = if o < f then some 9 else some 2 := rfl
  rw [if_pos h] at hn
  show curL (newAt (twoL (oldB o) (newB t f)) 16) (fil (twoL (oldB o) (newB t f)) 4 16) = _
  generalize newAt (twoL (oldB o) (newB t f)) 16 = nw at hn
  show curS nw (curS nw (twoL (oldB o) (newB t f)) (entAt (twoL (oldB o) (newB t f)) 2 (by show 2 < 16; decide))) (entAt (twoL (oldB o) (newB t f)) 9 (by show 9 < 16; decide)) = _
  unfold curS
  have e2 : nw (entAt (twoL (oldB o) (newB t f)) 2 (by show 2 < 16; decide)).1.2.f2 = some 9 := hn
  have e9 : nw (entAt (twoL (oldB o) (newB t f)) 9 (by show 9 < 16; decide)).1.2.f2 = some 9 := hn
  rw [e2, e9]
  rfl
theorem last_old (o f : Int) (t : Nat) (h : ¬ o < f) : lastL (twoL (oldB o) (newB t f)) = twoL (oldB o) sB := by
  have hn : newAt (twoL (oldB o) (newB t f)) 16 5 = if o < f then some 9 else some 2 := rfl
  rw [if_neg h] at hn
  show curL (newAt (twoL (oldB o) (newB t f)) 16) (fil (twoL (oldB o) (newB t f)) 4 16) = _
  generalize newAt (twoL (oldB o) (newB t f)) 16 = nw at hn
  show curS nw (curS nw (twoL (oldB o) (newB t f)) (entAt (twoL (oldB o) (newB t f)) 2 (by show 2 < 16; decide))) (entAt (twoL (oldB o) (newB t f)) 9 (by show 9 < 16; decide)) = _
  unfold curS
  have e2 : nw (entAt (twoL (oldB o) (newB t f)) 2 (by show 2 < 16; decide)).1.2.f2 = some 2 := hn
  have e9 : nw (entAt (twoL (oldB o) (newB t f)) 9 (by show 9 < 16; decide)).1.2.f2 = some 2 := hn
  rw [e2, e9]
  rfl
theorem last_one (o : Int) : lastL (twoL (oldB o) sB) = twoL (oldB o) sB := by rfl
theorem look_old (o f p : Int) (t : Nat) (ha : xa.length = 128) (hm : xm.length = 128) (hp : parseCountL xa = (3, true)) (hq : parseMapL xm = ((5, o, 0), true)) : blockA (chipN xa xm xn t) 2 = (oldB o, true) := by
  have e1 : pageA (chipN xa xm xn t) 2 0 = (xa, true) := pageA_put (n := 2) (p := 0) rfl (of_decide_eq_true rfl) (of_decide_eq_true rfl) (of_decide_eq_true rfl) rfl ha
  have e2 : pageA (chipN xa xm xn t) 2 1 = (xm, true) := pageA_put (n := 2) (p := 1) rfl (of_decide_eq_true rfl) (of_decide_eq_true rfl) (of_decide_eq_true rfl) rfl hm
  have e3 : usedA (chipN xa xm xn t) 2 14 0 = (0, false) := by rfl
  unfold blockA
  rw [e1, if_neg (of_decide_eq_true rfl), if_neg (of_decide_eq_true rfl), hp, if_neg (of_decide_eq_true rfl), if_neg (of_decide_eq_true rfl), e2, if_neg (of_decide_eq_true rfl), hq]
  have e4 : (chipN xa xm xn t).g.P - 2 = 14 := rfl
  have e5 : mapOK (chipN xa xm xn t) 2 ((5, o, 0), true) = true := by
    unfold mapOK
    rw [e4, e3]
    have e6 : lebsG (chipN xa xm xn t).g.B (chipN xa xm xn t).g.P (chipN xa xm xn t).g.Z (chipN xa xm xn t).g.R = 12 := lebs_small
    rw [e6]
    rfl
  rw [if_pos e5, e4, e3]
  rfl
theorem look_new (f p : Int) (t : Nat) (ht : t ≤ 14) (hp0 : 0 ≤ p ∧ p ≤ 14) (ha : xa.length = 128) (hn : xn.length = 128) (hp : parseCountL xa = (3, true)) (hq : parseMapL xn = ((5, f, p), true)) : blockA (chipN xa xm xn t) 9 = (if p ≤ (t : Int) then newB t f else sB, true) := by
  have hx : nextA (chipN xa xm xn t) 9 = 2 + (t : Int) := rfl
  have e1 : pageA (chipN xa xm xn t) 9 0 = (xa, true) := pageA_put (n := 9) (p := 0) rfl (of_decide_eq_true rfl) (of_decide_eq_true rfl) (show (0 : Int) < 2 + (t : Int) by omega) rfl ha
  have e2 : pageA (chipN xa xm xn t) 9 1 = (xn, true) := pageA_put (n := 9) (p := 1) rfl (of_decide_eq_true rfl) (of_decide_eq_true rfl) (show (1 : Int) < 2 + (t : Int) by omega) rfl hn
  have e3 := usedN (xm := xm) (xn := xn) ha t ht 14 0 rfl (Nat.zero_le _)
  unfold blockA
  rw [e1, if_neg (of_decide_eq_true rfl), if_neg (of_decide_eq_true rfl), hp, if_neg (of_decide_eq_true rfl), hx, if_neg (by omega), e2, if_neg (of_decide_eq_true rfl), hq]
  have e4 : (chipN xa xm xn t).g.P - 2 = 14 := rfl
  have e5 : mapOK (chipN xa xm xn t) 9 ((5, f, p), true) = decide (p ≤ (t : Int)) := by
    unfold mapOK
    rw [e4, e3]
    have e6 : lebsG (chipN xa xm xn t).g.B (chipN xa xm xn t).g.P (chipN xa xm xn t).g.Z (chipN xa xm xn t).g.R = 12 := lebs_small
    rw [e6]
    have e7 : decide (p ≤ (((chipN xa xm xn t).g.P : Nat) : Int) - 2) = true := decide_eq_true (show p ≤ ((16 : Nat) : Int) - 2 by omega)
    simp only [e7, Bool.true_and]
    rfl
  rw [e5, e4, e3]
  by_cases h : p ≤ (t : Int)
  · rw [if_pos (decide_eq_true h), if_pos h]; rfl
  · rw [if_neg (by simpa using h), if_neg h]; rfl
theorem looks_two (o f p : Int) (t : Nat) (ht : t ≤ 14) (hp0 : 0 ≤ p ∧ p ≤ 14) (ha : xa.length = 128) (hm : xm.length = 128) (hn : xn.length = 128) (hp : parseCountL xa = (3, true)) (hq : parseMapL xm = ((5, o, 0), true)) (hr : parseMapL xn = ((5, f, p), true)) :
    looksA (chipN xa xm xn t) 16 = twoP (oldB o) (if p ≤ (t : Int) then newB t f else sB) := by
  have hb : ∀ n : Nat, n < 16 → n ≠ 2 → n ≠ 9 → blockA (chipN xa xm xn t) (n : Int) = zB := fun n hn h2 h9 => by
    have hbk : (chipN xa xm xn t).bk n = ⟨false, 0, 0, fun _ => ⟨0, []⟩⟩ := by simp only [chipN, if_neg h9, if_neg h2]
    refine blockA_blank ?_ ?_
    · unfold badA; rw [if_neg (by show ¬ ((n : Int) < 0 ∨ ((16 : Nat) : Int) ≤ n); omega), Int.toNat_natCast, hbk]
    · unfold nextA; rw [if_neg (by show ¬ ((n : Int) < 0 ∨ ((16 : Nat) : Int) ≤ n); omega), Int.toNat_natCast, hbk]
  unfold looksA
  have e : List.range 16 = [0, 1, 2, 3, 4, 5, 6, 7, 8, 9, 10, 11, 12, 13, 14, 15] := rfl
  rw [e]
  simp only [List.map_cons, List.map_nil]
  rw [hb 0 (by omega) (by omega) (by omega), hb 1 (by omega) (by omega) (by omega), hb 3 (by omega) (by omega) (by omega), hb 4 (by omega) (by omega) (by omega), hb 5 (by omega) (by omega) (by omega), hb 6 (by omega) (by omega) (by omega), hb 7 (by omega) (by omega) (by omega), hb 8 (by omega) (by omega) (by omega), hb 10 (by omega) (by omega) (by omega), hb 11 (by omega) (by omega) (by omega), hb 12 (by omega) (by omega) (by omega), hb 13 (by omega) (by omega) (by omega), hb 14 (by omega) (by omega) (by omega), hb 15 (by omega) (by omega) (by omega)]
  have f2 : blockA (chipN xa xm xn t) ((2 : Nat) : Int) = _ := look_old o f p t ha hm hp hq
  have f9 : blockA (chipN xa xm xn t) ((9 : Nat) : Int) = _ := look_new f p t ht hp0 ha hn hp hr
  rw [f2, f9]
  rfl
/-- What Scan answers then. -/
theorem scan_two (o f p : Int) (t : Nat) (ht : t ≤ 14) (hp0 : 0 ≤ p ∧ p ≤ 14) (ha : xa.length = 128) (hm : xm.length = 128) (hn : xn.length = 128) (hp : parseCountL xa = (3, true)) (hq : parseMapL xm = ((5, o, 0), true)) (hr : parseMapL xn = ((5, f, p), true)) :
    scanA (chipN xa xm xn t) = if p ≤ (t : Int) ∧ o < f then twoL sB (newB t f) else twoL (oldB o) sB := by
  have e : scanA (chipN xa xm xn t) = lastL (evenL (looksA (chipN xa xm xn t) 16)) := rfl
  rw [e, looks_two o f p t ht hp0 ha hm hn hp hq hr, even_two _ _ rfl (by split <;> rfl)]
  by_cases h : p ≤ (t : Int)
  · rw [if_pos h]
    by_cases h2 : o < f
    · rw [if_pos ⟨h, h2⟩, last_new o f t h2]
    · rw [if_neg (fun h3 => h2 h3.2), last_old o f t h2]
  · rw [if_neg h, if_neg (fun h3 => h h3.1), last_one]
theorem chipN_bytes (ha : Bytes xa) (hm : Bytes xm) (hn : Bytes xn) (t : Nat) : ABytes (chipN xa xm xn t) := by
  have h0 : Bytes [] := fun x hx => by cases hx
  intro i j
  by_cases h9 : i = 9
  · subst h9
    show Bytes (if j = 0 then (⟨1, xa⟩ : APg) else if j = 1 then ⟨1, xn⟩ else if j < 2 + t then ⟨1, xa⟩ else ⟨0, []⟩).d
    split; · exact ha
    split; · exact hn
    split; · exact ha
    exact h0
  by_cases h2 : i = 2
  · subst h2
    show Bytes (if j = 0 then (⟨1, xa⟩ : APg) else if j = 1 then ⟨1, xm⟩ else ⟨0, []⟩).d
    split; · exact ha
    split; · exact hm
    exact h0
  simp only [chipN, if_neg h9, if_neg h2]; exact h0
end
set_option maxRecDepth 100000 in
set_option maxHeartbeats 32000000 in
theorem newer_law (o f p t : Int) (ho : 0 ≤ o ∧ o < 18446744073709551616) (hf : 0 ≤ f ∧ f < 18446744073709551616) (aE : Addr) (w : World) (hg : gNone w aE) :
    Calls Tryd.prog 4 #[.int .u64 o, .int .u64 f, .int .i64 p, .int .i64 t] w fun e w' => e = .returned (.bool true) ∧ Below w.heap.size w w' := by
  have HG := Aside0.mk hg
  have HAL := Aside0.mk (salive_is aE w hg)
  clear hg
  by_cases c1 : p < 0
  · have d1 : decide (p < 0) = true := decide_eq_true c1
    clear c1
    go_enter Tryd.func4, Tryd.ntmps4
    go_wp2_with (first | (go_at_call 13; (with_reducible refine HAL.out.mono ?_); rintro e w1 ⟨rfl, hb1⟩; have HB1 := Aside0.mk hb1; clear hb1))
    go_ret
    exact ⟨rfl, HB1.out⟩
  have d1 : decide (p < 0) = false := decide_eq_false c1
  by_cases c2 : 14 < p
  · have d2 : decide (14 < p) = true := decide_eq_true c2
    clear c1 c2
    go_enter Tryd.func4, Tryd.ntmps4
    go_wp2_with (first | (go_at_call 13; (with_reducible refine HAL.out.mono ?_); rintro e w1 ⟨rfl, hb1⟩; have HB1 := Aside0.mk hb1; clear hb1))
    go_ret
    exact ⟨rfl, HB1.out⟩
  have d2 : decide (14 < p) = false := decide_eq_false c2
  by_cases c3 : t < 0
  · have d3 : decide (t < 0) = true := decide_eq_true c3
    clear c1 c2 c3
    go_enter Tryd.func4, Tryd.ntmps4
    go_wp2_with (first | (go_at_call 13; (with_reducible refine HAL.out.mono ?_); rintro e w1 ⟨rfl, hb1⟩; have HB1 := Aside0.mk hb1; clear hb1))
    go_ret
    exact ⟨rfl, HB1.out⟩
  have d3 : decide (t < 0) = false := decide_eq_false c3
  by_cases c4 : 14 < t
  · have d4 : decide (14 < t) = true := decide_eq_true c4
    clear c1 c2 c3 c4
    go_enter Tryd.func4, Tryd.ntmps4
    go_wp2_with (first | (go_at_call 13; (with_reducible refine HAL.out.mono ?_); rintro e w1 ⟨rfl, hb1⟩; have HB1 := Aside0.mk hb1; clear hb1))
    go_ret
    exact ⟨rfl, HB1.out⟩
  have d4 : decide (14 < t) = false := decide_eq_false c4
  by_cases c5 : o = f
  · have d5 : (o == f) = true := by simp only [beq_iff_eq]; exact c5
    clear c1 c2 c3 c4 c5
    go_enter Tryd.func4, Tryd.ntmps4
    go_wp2_with (first | (go_at_call 13; (with_reducible refine HAL.out.mono ?_); rintro e w1 ⟨rfl, hb1⟩; have HB1 := Aside0.mk hb1; clear hb1))
    go_ret
    exact ⟨rfl, HB1.out⟩
  have d5 : (o == f) = false := by simp only [beq_eq_false_iff_ne]; exact c5
  obtain ⟨T, rfl⟩ : ∃ T : Nat, t = (T : Int) := ⟨t.toNat, by omega⟩
  have HT := Aside0.mk (show T ≤ 14 by omega)
  have HP := Aside0.mk (show 0 ≤ p ∧ p ≤ 14 by omega)
  obtain ⟨xa, la, ba, pa, HCa⟩ := rcount128 3 (by decide)
  obtain ⟨xm, lm, bm, pm, HMa⟩ := rmap128 5 o 0 (by decide) ho (by decide)
  obtain ⟨xn, ln, bn, pn, HNa⟩ := rmap128 5 f p (by decide) hf (by omega)
  have HC := Aside0.mk HCa
  have HM := Aside0.mk HMa
  have HN := Aside0.mk HNa
  have HSM := Aside0.mk small_is
  have HNW := Aside0.mk new_small
  have HRUN := Aside0.mk (chipN_start la lm ln)
  have HSTEP := Aside0.mk (fun i hi => chipN_step (xm := xm) (xn := xn) la i hi)
  have HBY := Aside0.mk (chipN_bytes ba bm bn T)
  have HSC := Aside0.mk (scan_two o f p T HT.out HP.out la lm ln pa pm pn)
  have hcv := fun (w : World) (x : Int) => Lib.run_convert_bytes_const (P := Tryd.prog) w 39 5 #[.int .u8 x] 1 1 Tryd.underlying39 Tryd.underlying5
  have hu44 := Tryd.underlying44
  have HOF := Aside0.mk c5
  clear la ba pa HCa lm bm pm HMa ln bn pn HNa c1 c2 c3 c4 c5 ho hf
  go_enter Tryd.func4, Tryd.ntmps4
  go_upto_region 6 with (first
    | (go_at_call 15; (with_reducible refine (HSM.out _).mono ?_); rintro e w1 ⟨rfl, hb1⟩; have HB1 := Aside0.mk hb1; clear hb1)
    | (go_at_call 14; (with_reducible refine (HNW.out _).mono ?_); rintro e w2 ⟨gc, rfl, hc2⟩; have HC2 := Aside0.mk (hc2.lower HB1.out); clear hc2))
  go_upto_region 8 with (first
    | (go_at_call 16; (with_reducible refine (HC.out _).mono ?_); rintro e w3 ⟨v3, rfl, hr3, hb3⟩; obtain ⟨A3, c3, rfl⟩ := Kd.R_slice hr3; have HC3 := Aside0.mk (HC2.out.grow hb3); have HA3 := Aside0.mk hr3; clear hr3 hb3)
    | (go_at_call 17; (with_reducible refine (HM.out _).mono ?_); rintro e w4 ⟨v4, rfl, hr4, hb4⟩; obtain ⟨A4, c4, rfl⟩ := Kd.R_slice hr4; have HC4 := Aside0.mk (HC3.out.grow hb4); have HA4 := Aside0.mk (Kd.R_below HA3.out hb4); have HM4 := Aside0.mk hr4; clear hr4 hb4))
  go_upto_region 9 with (first
    | (go_at_call 17; (with_reducible refine (HN.out _).mono ?_); rintro e w5 ⟨v5, rfl, hr5, hb5⟩; obtain ⟨A5, c5, rfl⟩ := Kd.R_slice hr5; have HC5 := Aside0.mk (HC4.out.grow hb5); have HA5 := Aside0.mk (Kd.R_below HA4.out hb5); have HM5 := Aside0.mk (Kd.R_below HM4.out hb5); have HN5 := Aside0.mk hr5; clear hr5 hb5))
  have HP6 := Aside0.mk (HC5.out.program 2 0 A3 c3 xa (fun w' _ hk => C_keeps hk HA5.out) (Kd.R_reads' HA5.out).2.1)
  go_upto_region 10 with (first
    | (go_at_call 18; (with_reducible refine HP6.out.mono ?_); rintro e w6 ⟨rfl, hc6, hk6⟩; have HC6 := Aside0.mk hc6; have HA6 := Aside0.mk (R_keeps hk6 HA5.out); have HM6 := Aside0.mk (R_keeps hk6 HM5.out); have HN6 := Aside0.mk (R_keeps hk6 HN5.out); clear hc6 hk6))
  have HP7 := Aside0.mk (HC6.out.program 2 1 A4 c4 xm (fun w' _ hk => C_keeps hk HM6.out) (Kd.R_reads' HM6.out).2.1)
  go_upto_region 11 with (first
    | (go_at_call 18; (with_reducible refine HP7.out.mono ?_); rintro e w7 ⟨rfl, hc7, hk7⟩; have HC7 := Aside0.mk hc7; have HA7 := Aside0.mk (R_keeps hk7 HA6.out); have HN7 := Aside0.mk (R_keeps hk7 HN6.out); clear hc7 hk7))
  have HP8 := Aside0.mk (HC7.out.program 9 0 A3 c3 xa (fun w' _ hk => C_keeps hk HA7.out) (Kd.R_reads' HA7.out).2.1)
  go_upto_region 12 with (first
    | (go_at_call 18; (with_reducible refine HP8.out.mono ?_); rintro e w8 ⟨rfl, hc8, hk8⟩; have HC8 := Aside0.mk hc8; have HA8 := Aside0.mk (R_keeps hk8 HA7.out); have HN8 := Aside0.mk (R_keeps hk8 HN7.out); clear hc8 hk8))
  have HP9 := Aside0.mk (HC8.out.program 9 1 A5 c5 xn (fun w' _ hk => C_keeps hk HN8.out) (Kd.R_reads' HN8.out).2.1)
  go_upto_region 14 with (first
    | (go_at_call 18; (with_reducible refine HP9.out.mono ?_); rintro e w9 ⟨rfl, hc9, hk9⟩; have HC9 := Aside0.mk (show Chip w w9 gc (chipN xa xm xn 0) from (by rw [← HRUN.out]; exact hc9)); have HA9 := Aside0.mk (R_keeps hk9 HA8.out); clear hc9 hk9))
  go_loopw [17] (fun v17 wr => ∃ i : Nat, i ≤ T ∧ v17 = .int .i64 i ∧ Aside0 (Chip w wr gc (chipN xa xm xn i)) ∧ Aside0 (Kd.R kB 5 wr w2.heap.size (fun _ => True) (.slice A3 xa.length c3) xa)) (fun i _ => T - (intOf i).toNat)
  case atStart => exact ⟨0, Nat.zero_le _, rfl, HC9, HA9⟩
  case round =>
    obtain ⟨i, hi, rfl, HCr, HAr⟩ := hrel
    have hi14 : i ≤ 14 := Nat.le_trans hi HT.out
    by_cases hlt : i < T
    · have d0 : decide ((i : Int) < (T : Int)) = true := decide_eq_true (by omega)
      have HPi := Aside0.mk (show Calls Tryd.prog 18 #[cp gc, .int .i64 9, .int .i64 (2 + (i : Int)), .slice A3 xa.length c3] wr (fun e w' => e = .returned (.int .i64 0) ∧ Chip w w' gc (chipN xa xm xn (i + 1)) ∧ Keeps wr w') from by
        have h := HCr.out.program 9 (2 + (i : Int)) A3 c3 xa (fun w' _ hk => C_keeps hk HAr.out) (Kd.R_reads' HAr.out).2.1
        rw [HSTEP.out i (by have := HT.out; omega)] at h
        exact h)
      go_wp2_with (first
        | (go_at_call 18; (with_reducible refine HPi.out.mono ?_); rintro e w10 ⟨rfl, hc10, hk10⟩; have HC10 := Aside0.mk hc10; have HA10 := Aside0.mk (R_keeps hk10 HAr.out); clear hc10 hk10))
      go_roundw
      case rel => exact ⟨i + 1, hlt, by push_cast; rfl, HC10, HA10⟩
      case measure => simp [intOf]; omega
    · obtain rfl : i = T := by omega
      have d0 : decide ((i : Int) < (i : Int)) = false := decide_eq_false (by omega)
      by_cases hp : p ≤ (i : Int)
      · have d6 : decide (p ≤ (i : Int)) = true := decide_eq_true hp
        have HPI := Aside0.mk hp
        clear hp
        by_cases hof : o < f
        · have d7 : decide (o < f) = true := decide_eq_true hof
          have HO := Aside0.mk hof
          clear hof
          have HSCAN := Aside0.mk (show Calls Tryd.prog 19 #[cp gc] wr (fun e w' => ∃ (g c : Nat), e = .returned (.tuple #[.slice (some ⟨g, 0, none⟩) 16 c, .int .i64 0]) ∧ 16 ≤ c ∧ Rows w' g (twoL sB (newB i f)) ∧ Below wr.heap.size wr w') from by
            have h := Scan_is HCr.out HBY.out aE (cell_below HG.out HCr.out.below) rfl
            rw [HSC.out, if_pos ⟨HPI.out, HO.out⟩] at h
            exact h)
          go_wp2_with (first
            | (go_at_call 19; (with_reducible refine HSCAN.out.mono ?_); rintro e w10 ⟨gl, cl, rfl, hcl, hR, hb10⟩; have HB10 := Aside0.mk (below_step HCr.out.below hb10); have HR10 := Aside0.mk hR; have HFI := Aside0.mk (show Calls Tryd.prog 7 #[.slice (some ⟨gl, 0, none⟩) 16 cl, .int .i64 5] w10 (fun e w' => e = .returned (.int .i64 9) ∧ Below w10.heap.size w10 w') from find_is (some ⟨gl, 0, none⟩) cl (twoL sB (newB i f)) 5 w10 (hR.reads (by show 16 ≤ 9223372036854775807; decide)) (by show 16 < 4611686018427387904; decide)); clear hR hcl hb10)
            | (go_at_call 7; (with_reducible refine HFI.out.mono ?_); rintro e w11 ⟨rfl, hb11⟩; have HB11 := Aside0.mk (below_step HB10.out hb11); have HAL11 := Aside0.mk (salive_is aE w11 (cell_below HG.out HB11.out)); have z0 : w11.cell? ⟨gl, 12, none⟩ = some (.int .i64 3) := ((HR10.out.keep (hb11.block gl HR10.out.lt)).cell 2 (by show 2 < 16; decide)).1; clear hb11)
            | (go_at_call 13; (with_reducible refine HAL11.out.mono ?_); rintro e w12 ⟨rfl, hb12⟩; have HB12 := Aside0.mk (below_step HB11.out hb12); clear hb12))
          go_ret
          exact ⟨rfl, HB12.out⟩
        · have d7 : decide (o < f) = false := decide_eq_false hof
          have HO := Aside0.mk hof
          clear hof
          have HSCAN := Aside0.mk (show Calls Tryd.prog 19 #[cp gc] wr (fun e w' => ∃ (g c : Nat), e = .returned (.tuple #[.slice (some ⟨g, 0, none⟩) 16 c, .int .i64 0]) ∧ 16 ≤ c ∧ Rows w' g (twoL (oldB o) sB) ∧ Below wr.heap.size wr w') from by
            have h := Scan_is HCr.out HBY.out aE (cell_below HG.out HCr.out.below) rfl
            rw [HSC.out, if_neg (fun h => HO.out h.2)] at h
            exact h)
          go_wp2_with (first
            | (go_at_call 19; (with_reducible refine HSCAN.out.mono ?_); rintro e w10 ⟨gl, cl, rfl, hcl, hR, hb10⟩; have HB10 := Aside0.mk (below_step HCr.out.below hb10); have HR10 := Aside0.mk hR; have HFI := Aside0.mk (show Calls Tryd.prog 7 #[.slice (some ⟨gl, 0, none⟩) 16 cl, .int .i64 5] w10 (fun e w' => e = .returned (.int .i64 2) ∧ Below w10.heap.size w10 w') from find_is (some ⟨gl, 0, none⟩) cl (twoL (oldB o) sB) 5 w10 (hR.reads (by show 16 ≤ 9223372036854775807; decide)) (by show 16 < 4611686018427387904; decide)); clear hR hcl hb10)
            | (go_at_call 7; (with_reducible refine HFI.out.mono ?_); rintro e w11 ⟨rfl, hb11⟩; have HB11 := Aside0.mk (below_step HB10.out hb11); have HAL11 := Aside0.mk (salive_is aE w11 (cell_below HG.out HB11.out)); have z0 : w11.cell? ⟨gl, 54, none⟩ = some (.int .i64 3) := ((HR10.out.keep (hb11.block gl HR10.out.lt)).cell 9 (by show 9 < 16; decide)).1; clear hb11)
            | (go_at_call 13; (with_reducible refine HAL11.out.mono ?_); rintro e w12 ⟨rfl, hb12⟩; have HB12 := Aside0.mk (below_step HB11.out hb12); clear hb12))
          go_ret
          exact ⟨rfl, HB12.out⟩
      · have d6 : decide (p ≤ (i : Int)) = false := decide_eq_false hp
        have HPI := Aside0.mk hp
        clear hp
        have HSCAN := Aside0.mk (show Calls Tryd.prog 19 #[cp gc] wr (fun e w' => ∃ (g c : Nat), e = .returned (.tuple #[.slice (some ⟨g, 0, none⟩) 16 c, .int .i64 0]) ∧ 16 ≤ c ∧ Rows w' g (twoL (oldB o) sB) ∧ Below wr.heap.size wr w') from by
          have h := Scan_is HCr.out HBY.out aE (cell_below HG.out HCr.out.below) rfl
          rw [HSC.out, if_neg (fun h => HPI.out h.1)] at h
          exact h)
        go_wp2_with (first
          | (go_at_call 19; (with_reducible refine HSCAN.out.mono ?_); rintro e w10 ⟨gl, cl, rfl, hcl, hR, hb10⟩; have HB10 := Aside0.mk (below_step HCr.out.below hb10); have HR10 := Aside0.mk hR; have HFI := Aside0.mk (show Calls Tryd.prog 7 #[.slice (some ⟨gl, 0, none⟩) 16 cl, .int .i64 5] w10 (fun e w' => e = .returned (.int .i64 2) ∧ Below w10.heap.size w10 w') from find_is (some ⟨gl, 0, none⟩) cl (twoL (oldB o) sB) 5 w10 (hR.reads (by show 16 ≤ 9223372036854775807; decide)) (by show 16 < 4611686018427387904; decide)); clear hR hcl hb10)
          | (go_at_call 7; (with_reducible refine HFI.out.mono ?_); rintro e w11 ⟨rfl, hb11⟩; have HB11 := Aside0.mk (below_step HB10.out hb11); have HAL11 := Aside0.mk (salive_is aE w11 (cell_below HG.out HB11.out)); have z0 : w11.cell? ⟨gl, 54, none⟩ = some (.int .i64 3) := ((HR10.out.keep (hb11.block gl HR10.out.lt)).cell 9 (by show 9 < 16; decide)).1; clear hb11)
          | (go_at_call 13; (with_reducible refine HAL11.out.mono ?_); rintro e w12 ⟨rfl, hb12⟩; have HB12 := Aside0.mk (below_step HB11.out hb12); clear hb12))
        go_ret
        exact ⟨rfl, HB12.out⟩
end Go.Proofs.YtdlimghdimkadaaDoor.PAll

/- A small chip with a free block and a mapped one, plain: what Scan, Find, Least and Good answer. -/
import Derived.Test.YtdlimghdimkadaaDoorLi
namespace Go.Proofs.YtdlimghdimkadaaDoor.PAll
open Go Go.RowKit Go.Shelf Go.Proofs.YtdlimghdimkadaaDoorW.PrintWords Go.Proofs.YtdlimghdimkadaaDoorW.PrintLast Go.Proofs.YtdlimghdimkadaaDoorW.PrintMore Go.Proofs.YtdlimghdimkadaaDoor.Plain
set_option linter.unusedSimpArgs false
set_option linter.unusedVariables false
def smallG : Geo := ⟨16, 16, 128, 2⟩
theorem R_keeps {W w' : World} (h : Keeps W w') {base : Nat} {ok : Nat → Prop} {v : Value} {l : List Int} (hr : Kd.R kB 5 W base ok v l) : Kd.R kB 5 w' base ok v l :=
  Kd.R_mono (Kd.R_move (Kd.R_bound hr) (fun k hk => by
    obtain ⟨_, _, _, q, hq, cells, hc⟩ := hk
    have hq2 : q = 5 := by simpa [Kd.int, Kd.scalar] using hq
    subst hq2
    rw [hc]
    exact h k _ _ _ (by decide) (by decide) (by decide) (by decide) hc)) (fun _ hk => hk.1)
theorem C_keeps {W w' : World} (h : Keeps W w') {base : Nat} {ok : Nat → Prop} {A : Option Addr} {c : Nat} {l : List Int} (hr : Kd.R kB 5 W base ok (.slice A l.length c) l) : Kd.C kB w' A l.length l := (Kd.R_reads' (R_keeps h hr)).2.2
theorem progA_ok {a : AC} {n p : Nat} {l : List Int} (h1 : a.off = false) (h2 : n < a.g.B) (h3 : p < a.g.P) (h4 : l.length ≤ a.g.Z) (h5 : (a.bk n).bad = false) (h6 : (a.bk n).nx = (p : Int)) (h7 : a.pl = []) : progA a (n : Int) (p : Int) l = (0, a.tick.put n p 1 l) := by
  unfold progA
  rw [if_neg (by rw [h1]; decide), if_neg (by omega), if_neg (by omega), Int.toNat_natCast, if_neg (by rw [h5, h6]; simp), Int.toNat_natCast]
  have : a.hit = none := by unfold AC.hit; rw [h7]; rfl
  rw [this]
theorem blockA_blank {a : AC} {n : Int} (h1 : badA a n = false) (h2 : nextA a n = 0) : blockA a n = (⟨3, 0, 0, 0, 0, false⟩, false) := by
  unfold blockA
  rw [if_neg (by rw [h1]; decide), if_pos]
  unfold pageA
  rw [if_pos (by omega)]
section
variable (xa xm : List Int)
def chipL : AC := ((((newA smallG []).tick.put 1 0 1 xa).tick.put 4 0 1 xa).tick.put 4 1 1 xm).tick.put 4 2 1 [120]
/-- The same, written out. -/
def chipE : AC := ⟨smallG, [], 0, false, 4, 0, fun x => if x = 4 then ⟨false, 0, 3, fun j => if j = 2 then ⟨1, [120]⟩ else if j = 1 then ⟨1, xm⟩ else if j = 0 then ⟨1, xa⟩ else ⟨0, []⟩⟩ else if x = 1 then ⟨false, 0, 1, fun j => if j = 0 then ⟨1, xa⟩ else ⟨0, []⟩⟩ else ⟨false, 0, 0, fun _ => ⟨0, []⟩⟩⟩
variable {xa xm}
theorem wrap_nat (p : Nat) (h : p < 1000000) : wrap64 ((p : Int) + 1) = (p : Int) + 1 := by unfold wrap64; omega
theorem chipL_eq : chipL xa xm = chipE xa xm := by
  have w0 : wrap64 (((0 : Nat) : Int) + 1) = 1 := wrap_nat 0 (by decide)
  have w1 : wrap64 (((1 : Nat) : Int) + 1) = 2 := wrap_nat 1 (by decide)
  have w2 : wrap64 (((2 : Nat) : Int) + 1) = 3 := wrap_nat 2 (by decide)
  have v0 : wrap64 ((0 : Int) + 1) = 1 := w0
  have v1 : wrap64 ((1 : Int) + 1) = 2 := w1
  have v2 : wrap64 ((2 : Int) + 1) = 3 := w2
  have v3 : wrap64 ((3 : Int) + 1) = 4 := wrap_nat 3 (by decide)
  simp only [chipL, AC.put, AC.setBk, AC.tick, newA, ABk.setPg, chipE, w0, w1, w2, v0, v1, v2, v3, AC.mk.injEq, true_and]
  funext x
  by_cases h4 : x = 4
  · subst h4; simp
  · by_cases h1 : x = 1
    · subst h1; simp
    · simp [h1, h4]
theorem chipL_run (ha : xa.length = 128) (hm : xm.length = 128) : (progA (progA (progA (progA (newA smallG []) 1 0 xa).2 4 0 xa).2 4 1 xm).2 4 2 [120]).2 = chipL xa xm := by
  have e1 := progA_ok (a := newA smallG []) (n := 1) (p := 0) (l := xa) rfl (of_decide_eq_true rfl) (of_decide_eq_true rfl) (by rw [ha]; exact (of_decide_eq_true rfl)) rfl (by rfl) rfl
  have e2 := progA_ok (a := (newA smallG []).tick.put 1 0 1 xa) (n := 4) (p := 0) (l := xa) rfl (of_decide_eq_true rfl) (of_decide_eq_true rfl) (by rw [ha]; exact (of_decide_eq_true rfl)) rfl (by rfl) rfl
  have e3 := progA_ok (a := ((newA smallG []).tick.put 1 0 1 xa).tick.put 4 0 1 xa) (n := 4) (p := 1) (l := xm) rfl (of_decide_eq_true rfl) (of_decide_eq_true rfl) (by rw [hm]; exact (of_decide_eq_true rfl)) rfl (show wrap64 (((0 : Nat) : Int) + 1) = 1 from wrap_nat 0 (by decide)) rfl
  have e4 := progA_ok (a := (((newA smallG []).tick.put 1 0 1 xa).tick.put 4 0 1 xa).tick.put 4 1 1 xm) (n := 4) (p := 2) (l := [120]) rfl (of_decide_eq_true rfl) (of_decide_eq_true rfl) (of_decide_eq_true rfl) rfl (show wrap64 (((1 : Nat) : Int) + 1) = 2 from wrap_nat 1 (by decide)) rfl
  show (progA (progA (progA (progA (newA smallG []) ((1 : Nat) : Int) ((0 : Nat) : Int) xa).2 ((4 : Nat) : Int) ((0 : Nat) : Int) xa).2 ((4 : Nat) : Int) ((1 : Nat) : Int) xm).2 ((4 : Nat) : Int) ((2 : Nat) : Int) [120]).2 = _
  rw [e1]
  show (progA (progA (progA ((newA smallG []).tick.put 1 0 1 xa) ((4 : Nat) : Int) ((0 : Nat) : Int) xa).2 ((4 : Nat) : Int) ((1 : Nat) : Int) xm).2 ((4 : Nat) : Int) ((2 : Nat) : Int) [120]).2 = _
  rw [e2]
  show (progA (progA (((newA smallG []).tick.put 1 0 1 xa).tick.put 4 0 1 xa) ((4 : Nat) : Int) ((1 : Nat) : Int) xm).2 ((4 : Nat) : Int) ((2 : Nat) : Int) [120]).2 = _
  rw [e3]
  show (progA ((((newA smallG []).tick.put 1 0 1 xa).tick.put 4 0 1 xa).tick.put 4 1 1 xm) ((4 : Nat) : Int) ((2 : Nat) : Int) [120]).2 = _
  rw [e4]
  rfl
theorem pageA_put {a : AC} {n p : Nat} {l : List Int} (h1 : a.off = false) (h2 : n < a.g.B) (h3 : p < a.g.P) (h4 : (p : Int) < (a.bk n).nx) (h5 : (a.bk n).pg p = ⟨1, l⟩) (h6 : l.length = a.g.Z) : pageA a (n : Int) (p : Int) = (l, true) := by
  have e : nextA a (n : Int) = (a.bk n).nx := by unfold nextA; rw [if_neg (by omega), Int.toNat_natCast]
  unfold pageA
  rw [e, if_neg (by omega)]
  unfold readA
  rw [if_neg (by rw [h1]; decide), if_neg (by omega), if_neg (by omega), Int.toNat_natCast, Int.toNat_natCast, h5, if_neg (of_decide_eq_true rfl), if_pos rfl, h6]
  simp
theorem lebs_small : lebsG 16 16 128 2 = 12 := by
  unfold lebsG
  have h : rightG 16 16 128 2 = true := by kernel_rfl
  rw [if_pos h]
  unfold wrap64
  decide
theorem look_free (ha : xa.length = 128) (hp : parseCountL xa = (5, true)) : blockA (chipE xa xm) 1 = (⟨2, 5, 0, 0, 0, false⟩, true) := by
  have e1 : pageA (chipE xa xm) ((1 : Nat) : Int) ((0 : Nat) : Int) = (xa, true) := pageA_put rfl (of_decide_eq_true rfl) (of_decide_eq_true rfl) (of_decide_eq_true rfl) rfl ha
  have e1' : pageA (chipE xa xm) 1 0 = (xa, true) := e1
  unfold blockA
  rw [e1', if_neg (of_decide_eq_true rfl), if_neg (of_decide_eq_true rfl), hp, if_neg (of_decide_eq_true rfl), if_pos (of_decide_eq_true rfl)]
theorem look_map (ha : xa.length = 128) (hm : xm.length = 128) (hp : parseCountL xa = (5, true)) (hq : parseMapL xm = ((2, 7, 0), true)) : blockA (chipE xa xm) 4 = (⟨4, 5, 2, 1, 7, false⟩, true) := by
  have e1 : pageA (chipE xa xm) 4 0 = (xa, true) := pageA_put (n := 4) (p := 0) rfl (of_decide_eq_true rfl) (of_decide_eq_true rfl) (of_decide_eq_true rfl) rfl ha
  have e2 : pageA (chipE xa xm) 4 1 = (xm, true) := pageA_put (n := 4) (p := 1) rfl (of_decide_eq_true rfl) (of_decide_eq_true rfl) (of_decide_eq_true rfl) rfl hm
  have e3 : usedA (chipE xa xm) 4 14 0 = (1, false) := by rfl
  unfold blockA
  rw [e1, if_neg (of_decide_eq_true rfl), if_neg (of_decide_eq_true rfl), hp, if_neg (of_decide_eq_true rfl), if_neg (of_decide_eq_true rfl), e2, if_neg (of_decide_eq_true rfl), hq]
  have e4 : (chipE xa xm).g.P - 2 = 14 := rfl
  have e5 : mapOK (chipE xa xm) 4 ((2, 7, 0), true) = true := by
    unfold mapOK
    rw [e4, e3]
    have e6 : lebsG (chipE xa xm).g.B (chipE xa xm).g.P (chipE xa xm).g.Z (chipE xa xm).g.R = 12 := lebs_small
    rw [e6]
    rfl
  rw [if_pos e5, e4, e3]
  rfl
def looksL : List (Blk × Bool) := [(⟨3, 0, 0, 0, 0, false⟩, false), (⟨2, 5, 0, 0, 0, false⟩, true), (⟨3, 0, 0, 0, 0, false⟩, false), (⟨3, 0, 0, 0, 0, false⟩, false), (⟨4, 5, 2, 1, 7, false⟩, true)] ++ List.replicate 11 (⟨3, 0, 0, 0, 0, false⟩, false)
theorem looks_is (ha : xa.length = 128) (hm : xm.length = 128) (hp : parseCountL xa = (5, true)) (hq : parseMapL xm = ((2, 7, 0), true)) : looksA (chipE xa xm) 16 = looksL := by
  have hb : ∀ n : Nat, n < 16 → n ≠ 1 → n ≠ 4 → blockA (chipE xa xm) (n : Int) = (⟨3, 0, 0, 0, 0, false⟩, false) := fun n hn h1 h4 => by
    have hbk : (chipE xa xm).bk n = ⟨false, 0, 0, fun _ => ⟨0, []⟩⟩ := by
      simp only [chipE, if_neg h1, if_neg h4]
    refine blockA_blank ?_ ?_
    · unfold badA; rw [if_neg (by show ¬ ((n : Int) < 0 ∨ ((16 : Nat) : Int) ≤ n); omega), Int.toNat_natCast, hbk]
    · unfold nextA; rw [if_neg (by show ¬ ((n : Int) < 0 ∨ ((16 : Nat) : Int) ≤ n); omega), Int.toNat_natCast, hbk]
  unfold looksA
  have e : List.range 16 = [0, 1, 2, 3, 4, 5, 6, 7, 8, 9, 10, 11, 12, 13, 14, 15] := rfl
  rw [e]
  simp only [List.map_cons, List.map_nil]
  rw [hb 0 (by omega) (by omega) (by omega), hb 2 (by omega) (by omega) (by omega), hb 3 (by omega) (by omega) (by omega), hb 5 (by omega) (by omega) (by omega), hb 6 (by omega) (by omega) (by omega), hb 7 (by omega) (by omega) (by omega), hb 8 (by omega) (by omega) (by omega), hb 9 (by omega) (by omega) (by omega), hb 10 (by omega) (by omega) (by omega), hb 11 (by omega) (by omega) (by omega), hb 12 (by omega) (by omega) (by omega), hb 13 (by omega) (by omega) (by omega), hb 14 (by omega) (by omega) (by omega), hb 15 (by omega) (by omega) (by omega)]
  have f1 : blockA (chipE xa xm) ((1 : Nat) : Int) = _ := look_free ha hp
  have f4 : blockA (chipE xa xm) ((4 : Nat) : Int) = _ := look_map ha hm hp hq
  rw [f1, f4]
  rfl
def aliveL : List Blk := [⟨3, 5, 0, 0, 0, false⟩, ⟨2, 5, 0, 0, 0, false⟩, ⟨3, 5, 0, 0, 0, false⟩, ⟨3, 5, 0, 0, 0, false⟩, ⟨4, 5, 2, 1, 7, false⟩] ++ List.replicate 11 ⟨3, 5, 0, 0, 0, false⟩
theorem scan_alive (ha : xa.length = 128) (hm : xm.length = 128) (hp : parseCountL xa = (5, true)) (hq : parseMapL xm = ((2, 7, 0), true)) : scanA (chipL xa xm) = aliveL := by
  rw [chipL_eq]
  have e : scanA (chipE xa xm) = lastL (evenL (looksA (chipE xa xm) 16)) := rfl
  rw [e, looks_is ha hm hp hq]
  have a1 : wrap64 5 = 5 := by unfold wrap64; decide
  have a2 : wrap64 10 = 10 := by unfold wrap64; decide
  have a3 : wrap64 1 = 1 := by unfold wrap64; decide
  have a4 : wrap64 2 = 2 := by unfold wrap64; decide
  have hs : sumsA looksL = (10, 2) := by
    simp [sumsA, looksL, stepS, List.replicate, a1, a2, a3, a4]
  have he : evenL looksL = aliveL := by
    unfold evenL
    rw [hs]
    have a5 : wrap64 (Int.tdiv 10 2) = 5 := a1
    simp [looksL, evenA, aliveL, List.replicate, a5, a1]
  rw [he]
  rfl
theorem find_alive : findL 2 aliveL 0 = 4 := by rfl
theorem least_alive : leastL aliveL = 1 := by rfl
end
end Go.Proofs.YtdlimghdimkadaaDoor.PAll

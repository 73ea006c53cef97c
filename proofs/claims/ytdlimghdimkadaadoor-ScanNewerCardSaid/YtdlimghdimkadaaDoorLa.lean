/- scan: Lebs, the looker's page and used. -/
import Derived.Test.YtdlimghdimkadaaDoorCk
namespace Go.Proofs.YtdlimghdimkadaaDoor.PAll
open Go.RowKit Go.Proofs.YtdlimghdimkadaaDoorW.PrintWords Go.Proofs.YtdlimghdimkadaaDoorW.PrintLast Go.Proofs.YtdlimghdimkadaaDoorW.PrintMore
set_option linter.unusedSimpArgs false
set_option linter.unusedVariables false
attribute [local go_sem] max2_int min2_int max_two min_two max_three min_three max_four min_four
variable {w0 W : World} {gc : Nat} {a : AC}
def lebsG (B P Z R : Int) : Int := if rightG B P Z R = true then wrap64 (wrap64 (B - R) - 2) else 0
set_option maxRecDepth 100000 in
theorem lebs_is (B P Z R : Int) (W : World) : Calls Tryd.prog 25 #[gV B P Z R] W fun e w' => e = .returned (.int .i64 (lebsG B P Z R)) ∧ Below W.heap.size W w' := by
  have hu28 := Tryd.underlying37
  cases hg : rightG B P Z R with
  | false =>
    have HRG := Aside0.mk (fun W => right_is B P Z R W)
    rw [hg] at HRG
    have HE := Aside0.mk (show lebsG B P Z R = 0 by unfold lebsG; rw [hg]; rfl)
    clear hg
    go_enter Tryd.func25, Tryd.ntmps25
    go_upto_region 1 with (fail)
    generalize hW : W.alloc (.cells #[.int .i64 B, .int .i64 P, .int .i64 Z, .int .i64 R] 37) = W1
    have hb : Below W.heap.size W W1 := by rw [← hW]; exact below_alloc (Below.refl _ _) _
    have hg : W1.heap[W.heap.size]? = some (.cells #[.int .i64 B, .int .i64 P, .int .i64 Z, .int .i64 R] 37 (0, 0)) := by rw [← hW]; exact new_blk _ _ _
    have HB := Aside0.mk hb
    have a0 := Joins.cell_of_block hg 0
    have a1 := Joins.cell_of_block hg 1
    have a2 := Joins.cell_of_block hg 2
    have a3 := Joins.cell_of_block hg 3
    clear hW hb hg
    go_wp2_with (first
      | (go_at_call 28; (with_reducible refine (HRG.out _).mono ?_); rintro e w2 ⟨rfl, hb2⟩; have HB2 := Aside0.mk hb2; clear hb2))
    go_ret
    rw [HE.out]
    exact ⟨rfl, below_step HB.out HB2.out⟩
  | true =>
    have HRG := Aside0.mk (fun W => right_is B P Z R W)
    rw [hg] at HRG
    have HE := Aside0.mk (show lebsG B P Z R = wrap64 (wrap64 (B - R) - 2) by unfold lebsG; rw [hg]; rfl)
    clear hg
    go_enter Tryd.func25, Tryd.ntmps25
    go_upto_region 1 with (fail)
    generalize hW : W.alloc (.cells #[.int .i64 B, .int .i64 P, .int .i64 Z, .int .i64 R] 37) = W1
    have hb : Below W.heap.size W W1 := by rw [← hW]; exact below_alloc (Below.refl _ _) _
    have hg : W1.heap[W.heap.size]? = some (.cells #[.int .i64 B, .int .i64 P, .int .i64 Z, .int .i64 R] 37 (0, 0)) := by rw [← hW]; exact new_blk _ _ _
    have HB := Aside0.mk hb
    have HG := Aside0.mk hg
    have a0 := Joins.cell_of_block hg 0
    have a1 := Joins.cell_of_block hg 1
    have a2 := Joins.cell_of_block hg 2
    have a3 := Joins.cell_of_block hg 3
    clear hW hb hg
    go_wp2_with (first
      | (go_at_call 28; (with_reducible refine (HRG.out _).mono ?_); rintro e w2 ⟨rfl, hb2⟩; have HB2 := Aside0.mk hb2; have b0 := Joins.cell_of_block (keep_below HG.out hb2) 0; have b3 := Joins.cell_of_block (keep_below HG.out hb2) 3; clear hb2))
    go_ret
    rw [HE.out]
    exact ⟨rfl, below_step HB.out HB2.out⟩
def pageA (a : AC) (b n : Int) : List Int × Bool := if nextA a b ≤ n then ([], false) else ((readA a b n).1, (readA a b n).2 == 0)
abbrev lkC (gc : Nat) (g : Geo) : Array Value := #[cp gc, .int .i64 g.B, .int .i64 g.P, .int .i64 g.Z, .int .i64 g.R]
abbrev kp (gk : Nat) : Value := .pointer (some ⟨gk, 0, none⟩)
set_option maxRecDepth 100000 in
theorem page_is (h : Chip w0 W gc a) (gk : Nat) (hk : W.heap[gk]? = some (.cells (lkC gc a.g) 92 (0, 0))) (b n : Int) :
    Calls Tryd.prog 56 #[kp gk, .int .i64 b, .int .i64 n] W fun e w' => ∃ v : Value, e = .returned (.tuple #[v, .bool (pageA a b n).2]) ∧ Kd.R kB 5 w' W.heap.size (fun _ => True) v (pageA a b n).1 ∧ Below W.heap.size W w' := by
  have H := Aside0.mk h
  have HK := Aside0.mk hk
  have c0 := Joins.cell_of_block hk 0
  have HN := Aside0.mk (h.next b)
  clear h hk
  by_cases hn : nextA a b ≤ n
  · have d0 : decide (nextA a b ≤ n) = true := decide_eq_true hn
    rw [show pageA a b n = ([], false) from if_pos hn]
    clear hn
    go_enter Tryd.func56, Tryd.ntmps56
    go_wp2_with (first
      | (go_at_call 24; (with_reducible refine HN.out.mono ?_); rintro e w1 ⟨rfl, hb1⟩; have HB1 := Aside0.mk hb1; clear hb1))
    go_ret2
    exact ⟨_, rfl, Kd.R_nil _ _ _ _ _, HB1.out⟩
  · have d0 : decide (nextA a b ≤ n) = false := decide_eq_false hn
    rw [show pageA a b n = ((readA a b n).1, (readA a b n).2 == 0) from if_neg hn]
    clear hn
    have HR := Aside0.mk (fun (w1 : World) (hb : Below W.heap.size W w1) => (H.out.grow hb).read b n)
    generalize readA a b n = r at HR ⊢
    go_enter Tryd.func56, Tryd.ntmps56
    go_wp2_with (first
      | (go_at_call 24; (with_reducible refine HN.out.mono ?_); rintro e w1 ⟨rfl, hb1⟩; have HB1 := Aside0.mk hb1; have c1 := Joins.cell_of_block (keep_below HK.out hb1) 0; clear hb1)
      | (go_at_call 26; (with_reducible refine (HR.out _ HB1.out).mono ?_); rintro e w2 ⟨v, rfl, ho, hb2⟩; have HO := Aside0.mk (Kd.R_lower ho (below_size HB1.out)); have HB2 := Aside0.mk (below_step HB1.out hb2); clear ho hb2))
    go_ret2
    exact ⟨v, rfl, HO.out, HB2.out⟩
/-- The pages behind the second that can be read, from n on; is the one behind these unreadable? -/
def usedA (a : AC) (b : Int) : Nat → Nat → Nat × Bool
  | 0, n => (n, false)
  | k + 1, n => if (pageA a b ((n : Int) + 2)).2 = true then usedA a b k (n + 1) else (n, (readA a b ((n : Int) + 2)).2 == 5)
set_option maxRecDepth 100000 in
set_option maxHeartbeats 4000000 in
theorem used_is (h : Chip w0 W gc a) (gk : Nat) (hk : W.heap[gk]? = some (.cells (lkC gc a.g) 92 (0, 0))) (b : Int) :
    Calls Tryd.prog 59 #[kp gk, .int .i64 b] W fun e w' => e = .returned (.tuple #[.int .i64 (usedA a b (a.g.P - 2) 0).1, .bool (usedA a b (a.g.P - 2) 0).2]) ∧ Below W.heap.size W w' := by
  have hgok := h.gok
  have H := Aside0.mk h
  have HK := Aside0.mk hk
  have HPG := Aside0.mk (fun (w1 : World) (hb : Below W.heap.size W w1) (n : Int) => page_is (H.out.grow hb) gk (keep_below HK.out hb) b n)
  have HRD := Aside0.mk (fun (w1 : World) (hb : Below W.heap.size W w1) (n : Int) => (H.out.grow hb).read b n)
  obtain ⟨_, ⟨hP1, hP2⟩, _⟩ := hgok
  have hwP : wrap64 ((a.g.P : Int) - 2) = ((a.g.P - 2 : Nat) : Int) := by unfold wrap64; omega
  have HW := Aside0.mk hwP
  obtain ⟨P2, hP⟩ : ∃ P2, a.g.P - 2 = P2 := ⟨_, rfl⟩
  have hPP : P2 ≤ 62 := by omega
  rw [hP] at HW ⊢
  have c2 : ∀ w1, Below W.heap.size W w1 → w1.cell? ⟨gk, 2, none⟩ = some (.int .i64 a.g.P) := fun w1 hb => Joins.cell_of_block (keep_below HK.out hb) 2
  have HC2 := Aside0.mk c2
  have c0 : ∀ w1, Below W.heap.size W w1 → w1.cell? ⟨gk, 0, none⟩ = some (cp gc) := fun w1 hb => Joins.cell_of_block (keep_below HK.out hb) 0
  have HC0 := Aside0.mk c0
  clear h hk hwP c2 c0
  go_enter Tryd.func59, Tryd.ntmps59
  go_upto_region 2 with (fail)
  go_loopw [6] (fun v6 wr => ∃ i : Nat, i ≤ P2 ∧ v6 = .int .i64 i ∧ Aside0 (usedA a b P2 0 = usedA a b (P2 - i) i) ∧ Aside0 (Below W.heap.size W wr)) (fun i _ => P2 - (intOf i).toNat)
  case atStart => exact ⟨0, Nat.zero_le _, rfl, ⟨rfl⟩, ⟨Below.refl _ _⟩⟩
  case round =>
    obtain ⟨i, hi, rfl, HM, HBr⟩ := hrel
    have z2 := HC2.out _ HBr.out
    have z0 := HC0.out _ HBr.out
    have hwp := HW.out
    by_cases hlt : i < P2
    · have d0 : decide ((i : Int) < (P2 : Int)) = true := decide_eq_true (by omega)
      have hwi : wrap64 ((i : Int) + 2) = (i : Int) + 2 := by unfold wrap64; omega
      have HM2 := Aside0.mk (show usedA a b P2 0 = if (pageA a b ((i : Int) + 2)).2 = true then usedA a b (P2 - (i + 1)) (i + 1) else (i, (readA a b ((i : Int) + 2)).2 == 5) by
        rw [HM.out, show P2 - i = (P2 - (i + 1)) + 1 by omega]; rfl)
      have HP := Aside0.mk (HPG.out _ HBr.out ((i : Int) + 2))
      have HR := Aside0.mk (fun w1 hb => HRD.out w1 hb ((i : Int) + 2))
      cases hp : (pageA a b ((i : Int) + 2)).2 with
      | true =>
        have HM3 := Aside0.mk (HM2.out.trans (if_pos hp))
        rw [hp] at HP
        clear hp
        go_wp2_with (first
          | (go_at_call 56; (with_reducible refine HP.out.mono ?_); rintro e w1 ⟨v, rfl, -, hb1⟩; have HB1 := Aside0.mk (below_step HBr.out hb1); clear hb1))
        go_roundw
        case rel => exact ⟨i + 1, by omega, by push_cast; rfl, HM3, HB1⟩
        case measure => simp [intOf]; omega
      | false =>
        have HM3 := Aside0.mk (HM2.out.trans (if_neg (by rw [hp]; decide)))
        rw [hp] at HP
        clear hp
        generalize readA a b ((i : Int) + 2) = r at HR HM3
        go_wp2_with (first
          | (go_at_call 56; (with_reducible refine HP.out.mono ?_); rintro e w1 ⟨v, rfl, -, hb1⟩; have HB1 := Aside0.mk (below_step HBr.out hb1); have y0 := HC0.out _ HB1.out; clear hb1)
          | (go_at_call 26; (with_reducible refine (HR.out _ HB1.out).mono ?_); rintro e w2 ⟨v2, rfl, -, hb2⟩; have HB2 := Aside0.mk (below_step HB1.out hb2); clear hb2))
        go_ret2
        rw [HM3.out]
        exact ⟨rfl, HB2.out⟩
    · obtain rfl : i = P2 := by omega
      have d0 : decide ((i : Int) < (i : Int)) = false := decide_eq_false (by omega)
      have hm := HM.out
      rw [Nat.sub_self] at hm
      have HM3 := Aside0.mk hm
      clear hm
      go_wp2
      go_ret2
      rw [HM3.out]
      exact ⟨rfl, HBr.out⟩
end Go.Proofs.YtdlimghdimkadaaDoor.PAll

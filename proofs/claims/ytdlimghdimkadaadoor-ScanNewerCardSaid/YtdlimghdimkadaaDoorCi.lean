import Derived.Test.YtdlimghdimkadaaDoorCh
import Derived.Deep.LoopGhost
namespace Go.Proofs.YtdlimghdimkadaaDoor.PAll
open Go.RowKit Go.Proofs.YtdlimghdimkadaaDoorW.PrintWords Go.Proofs.YtdlimghdimkadaaDoorW.PrintLast Go.Proofs.YtdlimghdimkadaaDoorW.PrintMore
set_option linter.unusedSimpArgs false
set_option linter.unusedVariables false
attribute [local go_sem] max2_int min2_int max_two min_two max_three min_three max_four min_four
/-! ### rightPlan, of any plan -/
theorem any_hit {l : List F3} {t : Int} {i : Nat} {f : F3} (hg : l[i]? = some f) (hf : (f.f0 == t) = true) : l.any (fun f => f.f0 == t) = true :=
  List.any_eq_true.2 ⟨f, List.mem_of_getElem? hg, hf⟩
theorem any_next {l : List F3} {t : Int} {i : Nat} {f : F3} (h : (l.take i).any (fun f => f.f0 == t) = false) (hg : l[i]? = some f) (hf : (f.f0 == t) = false) : (l.take (i + 1)).any (fun f => f.f0 == t) = false := by
  obtain ⟨hlt, rfl⟩ := List.getElem?_eq_some_iff.1 hg
  rw [List.take_add_one, List.getElem?_eq_getElem hlt, List.any_append, h]
  simpa using hf
set_option maxRecDepth 100000 in
theorem clos_at (g : Nat) (t a b : Int) (f : F3) (w : World) (h : w.heap[g]? = some (.cells #[.int .i64 t, .int .i64 a, .int .i64 b] 71 (0, 0))) :
    Calls Tryd.prog 53 #[.agg #[.int .i64 f.f0, .int .i64 f.f1, .int .i64 f.f2], .pointer (some ⟨g, 0, none⟩)] w fun e w' => e = .returned (.bool (f.f0 == t)) ∧ Below w.heap.size w w' := by
  have HX := Aside0.mk h
  have hu44 := Tryd.underlying71
  clear h
  go_enter Tryd.func53, Tryd.ntmps53
  go_upto_region 1 with (fail)
  generalize hW : w.alloc (.cells #[.int .i64 f.f0, .int .i64 f.f1, .int .i64 f.f2] 71) = W1
  have hb : Below w.heap.size w W1 := by rw [← hW]; exact below_alloc (Below.refl _ _) _
  have hx : W1.heap[w.heap.size]? = some (.cells #[.int .i64 f.f0, .int .i64 f.f1, .int .i64 f.f2] 71 (0, 0)) := by rw [← hW]; exact new_blk _ _ _
  have x0 := Joins.cell_of_block hx 0
  have y0 := Joins.cell_of_block (keep_below HX.out hb) 0
  have HB := Aside0.mk hb
  clear hW hx hb
  go_wp2
  go_ret
  exact ⟨rfl, HB.out⟩
set_option maxRecDepth 100000 in
set_option maxHeartbeats 4000000 in
theorem indexFunc_any (g : Nat) (t a b : Int) (A : Option Addr) (c : Nat) (l : List F3) (w : World) (hg : w.heap[g]? = some (.cells #[.int .i64 t, .int .i64 a, .int .i64 b] 71 (0, 0))) (hr : Kd.C kF w A l.length l) (hn : l.length ≤ 4611686018427387904) :
    Calls Tryd.prog 66 #[.slice A l.length c, .func (.func 53) #[] #[.pointer (some ⟨g, 0, none⟩)]] w fun e w' => ∃ r : Int, e = .returned (.int .i64 r) ∧ decide (0 ≤ r) = l.any (fun f => f.f0 == t) ∧ Below w.heap.size w w' := by
  have HG := Aside0.mk hg
  have HR := Aside0.mk hr
  have HF := Aside0.mk (fun (W : World) (f : F3) (hb : Below w.heap.size w W) => clos_at g t a b f W (keep_below HG.out hb))
  clear hg hr
  go_enter Tryd.func66, Tryd.ntmps66
  go_upto_region 2 with (fail)
  go_loopw [8] (fun v8 wr => ∃ i : Nat, i ≤ l.length ∧ v8 = .int .i64 i ∧ Aside0 ((l.take i).any (fun f => f.f0 == t) = false) ∧ Aside0 (Below w.heap.size w wr)) (fun i _ => l.length - (intOf i).toNat)
  case atStart => exact ⟨0, Nat.zero_le _, rfl, ⟨rfl⟩, ⟨Below.refl _ _⟩⟩
  case round =>
    obtain ⟨i, hi, rfl, HM, HBr⟩ := hrel
    by_cases hlt : i < l.length
    · have d0 : decide ((i : Int) < (l.length : Int)) = true := decide_eq_true (by omega)
      have hq : (i < l.length) = True := eq_true hlt
      have hqi : ((i : Int) < (l.length : Int)) = True := eq_true (by omega)
      obtain ⟨ad, rfl, y0, y1, y2⟩ := at_F (Kd.C_below HR.out HBr.out) (i : Int) (by omega) (by omega)
      rw [Int.toNat_natCast] at y0 y1 y2
      have hget : l[i]? = some (rd_F l (i : Int)) := by
        unfold rd_F
        rw [Int.toNat_natCast, List.getD_eq_getElem?_getD, List.getElem?_eq_getElem hlt]
        rfl
      generalize rd_F l (i : Int) = f at y0 y1 y2 hget
      have HGT := Aside0.mk hget
      have hu44 := Tryd.underlying71
      clear hget
      cases he : f.f0 == t with
      | true =>
        have HE := Aside0.mk (any_hit HGT.out he)
        have HF2 := Aside0.mk (fun W hb => show Calls Tryd.prog 53 #[.agg #[.int .i64 f.f0, .int .i64 f.f1, .int .i64 f.f2], .pointer (some ⟨g, 0, none⟩)] W fun e w' => e = .returned (.bool true) ∧ Below W.heap.size W w' by rw [← he]; exact HF.out W f hb)
        clear he
        go_wp2_with (first
          | (go_at_call 53; (with_reducible refine (HF2.out _ HBr.out).mono ?_); rintro e w3 ⟨rfl, hb3⟩; have HB3 := Aside0.mk hb3; clear hb3))
        go_ret
        exact ⟨_, rfl, by rw [HE.out]; exact decide_eq_true (by omega), below_step HBr.out HB3.out⟩
      | false =>
        have HM2 := Aside0.mk (any_next HM.out HGT.out he)
        have HF2 := Aside0.mk (fun W hb => show Calls Tryd.prog 53 #[.agg #[.int .i64 f.f0, .int .i64 f.f1, .int .i64 f.f2], .pointer (some ⟨g, 0, none⟩)] W fun e w' => e = .returned (.bool false) ∧ Below W.heap.size W w' by rw [← he]; exact HF.out W f hb)
        clear he
        go_wp2_with (first
          | (go_at_call 53; (with_reducible refine (HF2.out _ HBr.out).mono ?_); rintro e w3 ⟨rfl, hb3⟩; have HB3 := Aside0.mk (below_step HBr.out hb3); clear hb3))
        go_roundw
        case rel => exact ⟨i + 1, by omega, by push_cast; rfl, HM2, HB3⟩
        case measure => simp [intOf]; omega
    · obtain rfl : i = l.length := by omega
      have d0 : decide ((l.length : Int) < (l.length : Int)) = false := decide_eq_false (by omega)
      go_wp2
      go_ret
      have hm := HM.out
      rw [List.take_length] at hm
      exact ⟨_, rfl, by rw [hm]; rfl, HBr.out⟩
set_option maxRecDepth 100000 in
theorem containsFunc_any (g : Nat) (t a b : Int) (A : Option Addr) (c : Nat) (l : List F3) (w : World) (hg : w.heap[g]? = some (.cells #[.int .i64 t, .int .i64 a, .int .i64 b] 71 (0, 0))) (hr : Kd.C kF w A l.length l) (hn : l.length ≤ 4611686018427387904) :
    Calls Tryd.prog 52 #[.slice A l.length c, .func (.func 53) #[] #[.pointer (some ⟨g, 0, none⟩)]] w fun e w' => e = .returned (.bool (l.any (fun f => f.f0 == t))) ∧ Below w.heap.size w w' := by
  have HI := Aside0.mk (indexFunc_any g t a b A c l w hg hr hn)
  clear hg hr hn
  go_enter Tryd.func52, Tryd.ntmps52
  go_wp2_with (first
    | (go_at_call 66; (with_reducible refine HI.out.mono ?_); rintro e w1 ⟨r, rfl, hr, hb1⟩; have HR1 := Aside0.mk hr; have HB1 := Aside0.mk hb1; clear hr hb1))
  go_ret
  rw [← HR1.out]
  exact ⟨rfl, HB1.out⟩
/-- May a fault be? -/
def tornF (f : F3) : Bool := (f.f1 == 1 && decide (0 ≤ f.f2) && decide (f.f2 ≤ 2)) || (f.f1 == 2 && f.f2 == 0)
def planGo : List F3 → List F3 → Bool
  | _, [] => true
  | seen, f :: r => !decide (f.f0 < 1) && tornF f && !(seen.any (fun o => o.f0 == f.f0)) && planGo (seen ++ [f]) r
def planOK (l : List F3) : Bool := !decide (256 < l.length) && planGo [] l
theorem planGo_at {l : List F3} {i : Nat} {f : F3} (h : l[i]? = some f) : planGo (l.take i) (l.drop i) = (!decide (f.f0 < 1) && tornF f && !((l.take i).any (fun o => o.f0 == f.f0)) && planGo (l.take (i + 1)) (l.drop (i + 1))) := by
  obtain ⟨hlt, rfl⟩ := List.getElem?_eq_some_iff.1 h
  rw [← List.getElem_cons_drop (h := hlt), planGo, List.take_add_one, List.getElem?_eq_getElem hlt]
  rfl
set_option maxRecDepth 100000 in
theorem rightPlan_long (A : Option Addr) (n c : Nat) (hn : 256 < n) (W : World) : Calls Tryd.prog 29 #[.slice A n c] W fun e w' => e = .returned (.bool false) ∧ Below W.heap.size W w' := by
  have d0 : decide (256 < n) = true := decide_eq_true hn
  have d1 : decide ((256 : Int) < (n : Int)) = true := decide_eq_true (by omega)
  go_enter Tryd.func29, Tryd.ntmps29
  go_wp2
  go_ret
  exact ⟨rfl, Below.refl _ _⟩
set_option maxRecDepth 100000 in
set_option maxHeartbeats 16000000 in
theorem rightPlan_go (A : Option Addr) (c : Nat) (l : List F3) (W : World) (hr : Kd.C kF W A l.length l) (hc : l.length ≤ c) (hn : ¬ 256 < l.length) : Calls Tryd.prog 29 #[.slice A l.length c] W fun e w' => e = .returned (.bool (planGo [] l)) ∧ Below W.heap.size W w' := by
  have d0 : decide (256 < l.length) = false := decide_eq_false hn
  have d1 : decide ((256 : Int) < (l.length : Int)) = false := decide_eq_false (by omega)
  have HR := Aside0.mk hr
  have HC := Aside0.mk hc
  have hu44 := Tryd.underlying71
  clear hr hc
  go_enter Tryd.func29, Tryd.ntmps29
  go_upto_region 4 with (fail)
  go_loopw [11] (fun v11 wr => ∃ i : Nat, i ≤ l.length ∧ v11 = .int .i64 i ∧ Aside0 (planGo [] l = planGo (l.take i) (l.drop i)) ∧ Aside0 (Below W.heap.size W wr)) (fun i _ => l.length - (intOf i).toNat)
  case atStart => exact ⟨0, Nat.zero_le _, rfl, ⟨rfl⟩, ⟨Below.refl _ _⟩⟩
  case round =>
    obtain ⟨i, hi, rfl, HM, HBr⟩ := hrel
    by_cases hlt : i < l.length
    · have dq : decide ((i : Int) < (l.length : Int)) = true := decide_eq_true (by omega)
      have hq : (i < l.length) = True := eq_true hlt
      have hqi : ((i : Int) < (l.length : Int)) = True := eq_true (by omega)
      obtain ⟨ad, rfl, y0, y1, y2⟩ := at_F (Kd.C_below HR.out HBr.out) (i : Int) (by omega) (by omega)
      rw [Int.toNat_natCast] at y0 y1 y2
      have hget : l[i]? = some (rd_F l (i : Int)) := by
        unfold rd_F
        rw [Int.toNat_natCast, List.getD_eq_getElem?_getD, List.getElem?_eq_getElem hlt]
        rfl
      generalize rd_F l (i : Int) = f at y0 y1 y2 hget
      have HPG := Aside0.mk (HM.out.trans (planGo_at hget))
      clear hget
      go_upto_region 6 with (fail)
      generalize hW : wr.alloc (.cells #[.int .i64 f.f0, .int .i64 f.f1, .int .i64 f.f2] 71) = W1
      have hb1 : Below wr.heap.size wr W1 := by rw [← hW]; exact below_alloc (Below.refl _ _) _
      have hx1 : W1.heap[wr.heap.size]? = some (.cells #[.int .i64 f.f0, .int .i64 f.f1, .int .i64 f.f2] 71 (0, 0)) := by rw [← hW]; exact new_blk _ _ _
      have z0 := Joins.cell_of_block hx1 0
      have z1 := Joins.cell_of_block hx1 1
      have z2 := Joins.cell_of_block hx1 2
      have HB1 := Aside0.mk (below_step HBr.out hb1)
      have hlc : i ≤ c := by have := HC.out; omega
      have dlc : decide (c < i) = false := decide_eq_false (by omega)
      have HCF := Aside0.mk (show Calls Tryd.prog 52 #[.slice (some ad) i c, .func (.func 53) #[] #[.pointer (some ⟨wr.heap.size, 0, none⟩)]] W1 _ by
        have hcf := containsFunc_any wr.heap.size f.f0 f.f1 f.f2 (some ad) c (l.take i) W1 hx1 (Kd.C_take (Kd.C_below HR.out HB1.out) (Nat.le_of_lt hlt)) (by rw [List.length_take]; omega)
        rw [show (l.take i).length = i by rw [List.length_take]; omega] at hcf
        exact hcf)
      clear hW hb1 hx1 y0 y1 y2
      cases q1 : f.f1 == 1 with
      | true =>
        have q4 : (f.f1 == 2) = false := by
          simp only [beq_eq_false_iff_ne]
          have := beq_iff_eq.1 q1
          omega
        cases q2 : decide (0 ≤ f.f2) with
        | true =>
          cases q3 : decide (f.f2 ≤ 2) with
          | true =>
            have HT := Aside0.mk (show tornF f = true by unfold tornF; rw [q1, q2, q3]; rfl)
            cases h0 : decide (f.f0 < 1) with
            | true =>
              go_wp2
              go_ret
              rw [HPG.out, h0]
              exact ⟨rfl, HB1.out⟩
            | false =>
              cases ha : (l.take i).any (fun o => o.f0 == f.f0) with
              | true =>
                have HA := Aside0.mk ha
                have HCG := HCF.out
                rw [ha] at HCG
                have HCG2 := Aside0.mk HCG
                clear ha HCG
                go_wp2_with (first
                  | (go_at_call 52; (with_reducible refine HCG2.out.mono ?_); rintro e w3 ⟨rfl, hb3⟩; have HB3 := Aside0.mk (below_step HB1.out hb3); clear hb3))
                go_ret
                rw [HPG.out, h0, HT.out, HA.out]
                exact ⟨rfl, HB3.out⟩
              | false =>
                have HA := Aside0.mk ha
                have HCG := HCF.out
                rw [ha] at HCG
                have HCG2 := Aside0.mk HCG
                have HM2 := Aside0.mk (show planGo [] l = planGo (l.take (i + 1)) (l.drop (i + 1)) by rw [HPG.out, h0, HT.out, ha]; rfl)
                clear ha HCG
                go_wp2_with (first
                  | (go_at_call 52; (with_reducible refine HCG2.out.mono ?_); rintro e w3 ⟨rfl, hb3⟩; have HB3 := Aside0.mk (below_step HB1.out hb3); clear hb3))
                go_roundw
                case rel => exact ⟨i + 1, by omega, by push_cast; rfl, HM2, HB3⟩
                case measure => simp [intOf]; omega
          | false =>
            have HT := Aside0.mk (show tornF f = false by unfold tornF; rw [q1, q2, q3, q4]; rfl)
            cases h0 : decide (f.f0 < 1) with
            | true =>
              go_wp2
              go_ret
              rw [HPG.out, h0]
              exact ⟨rfl, HB1.out⟩
            | false =>
              go_wp2
              go_ret
              rw [HPG.out, h0, HT.out]
              exact ⟨rfl, HB1.out⟩
        | false =>
          have HT := Aside0.mk (show tornF f = false by unfold tornF; rw [q1, q2, q4]; rfl)
          cases h0 : decide (f.f0 < 1) with
          | true =>
            go_wp2
            go_ret
            rw [HPG.out, h0]
            exact ⟨rfl, HB1.out⟩
          | false =>
            go_wp2
            go_ret
            rw [HPG.out, h0, HT.out]
            exact ⟨rfl, HB1.out⟩
      | false =>
        cases q4 : f.f1 == 2 with
        | true =>
          cases q5 : f.f2 == 0 with
          | true =>
            have HT := Aside0.mk (show tornF f = true by unfold tornF; rw [q1, q4, q5]; rfl)
            cases h0 : decide (f.f0 < 1) with
            | true =>
              go_wp2
              go_ret
              rw [HPG.out, h0]
              exact ⟨rfl, HB1.out⟩
            | false =>
              cases ha : (l.take i).any (fun o => o.f0 == f.f0) with
              | true =>
                have HA := Aside0.mk ha
                have HCG := HCF.out
                rw [ha] at HCG
                have HCG2 := Aside0.mk HCG
                clear ha HCG
                go_wp2_with (first
                  | (go_at_call 52; (with_reducible refine HCG2.out.mono ?_); rintro e w3 ⟨rfl, hb3⟩; have HB3 := Aside0.mk (below_step HB1.out hb3); clear hb3))
                go_ret
                rw [HPG.out, h0, HT.out, HA.out]
                exact ⟨rfl, HB3.out⟩
              | false =>
                have HA := Aside0.mk ha
                have HCG := HCF.out
                rw [ha] at HCG
                have HCG2 := Aside0.mk HCG
                have HM2 := Aside0.mk (show planGo [] l = planGo (l.take (i + 1)) (l.drop (i + 1)) by rw [HPG.out, h0, HT.out, ha]; rfl)
                clear ha HCG
                go_wp2_with (first
                  | (go_at_call 52; (with_reducible refine HCG2.out.mono ?_); rintro e w3 ⟨rfl, hb3⟩; have HB3 := Aside0.mk (below_step HB1.out hb3); clear hb3))
                go_roundw
                case rel => exact ⟨i + 1, by omega, by push_cast; rfl, HM2, HB3⟩
                case measure => simp [intOf]; omega
          | false =>
            have HT := Aside0.mk (show tornF f = false by unfold tornF; rw [q1, q4, q5]; rfl)
            cases h0 : decide (f.f0 < 1) with
            | true =>
              go_wp2
              go_ret
              rw [HPG.out, h0]
              exact ⟨rfl, HB1.out⟩
            | false =>
              go_wp2
              go_ret
              rw [HPG.out, h0, HT.out]
              exact ⟨rfl, HB1.out⟩
        | false =>
          have HT := Aside0.mk (show tornF f = false by unfold tornF; rw [q1, q4]; rfl)
          cases h0 : decide (f.f0 < 1) with
          | true =>
            go_wp2
            go_ret
            rw [HPG.out, h0]
            exact ⟨rfl, HB1.out⟩
          | false =>
            go_wp2
            go_ret
            rw [HPG.out, h0, HT.out]
            exact ⟨rfl, HB1.out⟩
    · obtain rfl : i = l.length := by omega
      have dq : decide ((l.length : Int) < (l.length : Int)) = false := decide_eq_false (by omega)
      go_wp2
      go_ret
      have hm := HM.out
      rw [List.drop_length] at hm
      rw [hm]
      exact ⟨rfl, HBr.out⟩
theorem rightPlan_is (A : Option Addr) (c : Nat) (l : List F3) (W : World) (hr : Kd.C kF W A l.length l) (hc : l.length ≤ c) : Calls Tryd.prog 29 #[.slice A l.length c] W fun e w' => e = .returned (.bool (planOK l)) ∧ Below W.heap.size W w' := by
  by_cases h : 256 < l.length
  · rw [show planOK l = false by unfold planOK; rw [decide_eq_true h]; rfl]
    exact rightPlan_long A l.length c h W
  · rw [show planOK l = planGo [] l by unfold planOK; rw [decide_eq_false h]; rfl]
    exact rightPlan_go A c l W hr hc h
end Go.Proofs.YtdlimghdimkadaaDoor.PAll

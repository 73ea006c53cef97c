import Derived.Test.YtdlimghdimkadaaDoorCi
import Derived.Test.YtdlimghdimkadaaDoorRelS
namespace Go.Proofs.YtdlimghdimkadaaDoor.PAll
open Go.RowKit Go.Proofs.YtdlimghdimkadaaDoorW.PrintWords Go.Proofs.YtdlimghdimkadaaDoorW.PrintLast Go.Proofs.YtdlimghdimkadaaDoorW.PrintMore
set_option linter.unusedSimpArgs false
set_option linter.unusedVariables false
attribute [local go_sem] max2_int min2_int max_two min_two max_three min_three max_four min_four
variable {w0 W : World} {gc gb : Nat} {gp : Nat → Nat} {m : Ch} {D : Nat → Nat → List Int}
abbrev gV (B P Z R : Int) : Value := .agg #[.int .i64 B, .int .i64 P, .int .i64 Z, .int .i64 R]
theorem infoF' : (Tryd.prog.info? 71).map (fun i => (i.zero, i.size, i.bytes)) = some (some (.agg #[.int .i64 0, .int .i64 0, .int .i64 0]), 3, 24) := by kernel_rfl
set_option maxRecDepth 100000 in
set_option maxHeartbeats 4000000 in
theorem clone_faults (A : Option Addr) (c : Nat) (l : List F3) (w : World) (hr : Kd.C kF w A l.length l) (hc : l.length ≤ c) (hb : l.length ≤ 1000000) :
    Calls Tryd.prog 30 #[.slice A l.length c] w fun e w' => ∃ v0_ : Value, e = .returned (v0_) ∧ Kd.R kF 71 w' w.heap.size (fun _ => True) v0_ l ∧ Below w.heap.size w w' := by
  have HR := Aside0.mk hr
  have HC := Aside0.mk hc
  have HBs := Aside0.mk hb
  clear hc hb
  rcases A with _ | ad
  · have h0 : l = [] := by
      rcases Nat.eq_zero_or_pos l.length with h0 | h0
      · exact List.eq_nil_of_length_eq_zero h0
      · obtain ⟨ad, h, _⟩ := hr.2.2 h0
        cases h
    subst h0
    clear hr
    have hnil := fun W : World => Lib.run_eql_slice_nil (P := Tryd.prog) W 56 71 none 0 c 0 0 Tryd.underlying56
    go_enter Tryd.func30, Tryd.ntmps30
    go_wp2
    go_ret
    exact ⟨_, rfl, Kd.R_nil _ _ _ _ _, Below.refl _ _⟩
  · clear hr
    have hnil := fun W : World => Lib.run_eql_slice_nil (P := Tryd.prog) W 56 71 (some ad) l.length c 0 0 Tryd.underlying56
    go_enter Tryd.func30, Tryd.ntmps30
    go_wp2_with (first
      | ((with_reducible refine gate_dst (N := 5) rfl ?_); refine Kd.R_lit kF w.heap.size 71 ?hg (N := 5) ?hd (xs := ([] : List F3)) (inner := []) (ok := fun _ => True) (okp := fun _ => True) ?hr ?hp (fun _ hk => hk) trivial (Below.refl _ _) (Nat.le_refl _) (by simp) ?_; (case hd => rfl); (case hg => rfl); (case hr => first | (go_simp; done) | (go_simp; rfl)); (case hp => exact (Reps.none _ _)); intro v1 w1 ho hb _ _; have HO := Aside0.mk ho; have HB := Aside0.mk hb; clear ho hb)
      | ((with_reducible refine gate_builtin (b := .append) (xs := #[.tmp 5, .tmp 6]) rfl ?_); at_builtin; refine Kd.R_append_rows kF (w0 := w) w.heap.size rfl (.tmp 5) (.tmp 6) 56 71 (.agg #[.int .i64 0, .int .i64 0, .int .i64 0]) 24 rfl Tryd.underlying56 infoF' rfl (by decide) (by decide) v1 [] l _ _ _ (fun _ => True) (fun _ => False) rfl rfl ?aO ?aR (fun _ _ h => h) (fun _ h => h.elim) ?aF ?aB ?aS ?aL ?_; (case aO => exact HO.out); (case aR => exact Kd.C_below HR.out HB.out); (case aF => exact fun _ _ => trivial); (case aB => exact HB.out); (case aS => exact below_size HB.out); (case aL => have := HBs.out; simp; omega); intro v2 w2 ho2 hb2 _ _; have HO2 := Aside0.mk ho2; have HB2 := Aside0.mk hb2; clear ho2 hb2))
    go_ret
    exact ⟨_, rfl, HO2.out, HB2.out⟩
theorem planOK_len {l : List F3} (h : planOK l = true) : l.length ≤ 256 := by
  unfold planOK at h
  simp only [Bool.and_eq_true, Bool.not_eq_true', decide_eq_false_iff_not] at h
  omega
theorem rightG_ok {g : Geo} (h : rightG g.B g.P g.Z g.R = true) : GOK g := by
  unfold rightG at h
  simp only [Bool.and_eq_true, decide_eq_true_eq] at h
  unfold GOK
  omega
def b0 : Bk := ⟨false, 0, 0, fun _ => ⟨0, .slice none 0 0⟩⟩
def m0 (g : Geo) (pv : Value) (pl : List F3) : Ch := ⟨g, pv, pl, 0, false, 0, 0, fun _ => b0⟩
/-- The row of blocks while its first i pages are laid. -/
def ncell (P : Nat) (i : Nat) (gp : Nat → Nat) (k : Nat) : Value :=
  if k % 4 = 0 then .bool false else if k % 4 = 1 then .int .i64 0 else if k % 4 = 2 then (if k / 4 < i then .slice (some ⟨gp (k / 4), 0, none⟩) P P else .slice none 0 0) else .int .i64 0
def cN (g : Geo) (i : Nat) (gp : Nat → Nat) : Array Value := Array.ofFn fun k : Fin (g.B * 4) => ncell g.P i gp k.val
theorem made_get (z : Array Value) (n k : Nat) (h : k < n) : (madeCells z n)[k]? = some (z[k % z.size]!) := by
  unfold madeCells
  rw [Array.getElem?_map, Array.getElem?_range, if_pos h]
  rfl
theorem cN_0 (g : Geo) (gp : Nat → Nat) : cN g 0 gp = madeCells (#[.bool false, .int .i64 0, .slice none 0 0, .int .i64 0]) (g.B * 4) := by
  apply Array.ext_getElem?
  intro i
  by_cases h : i < g.B * 4
  · unfold cN
    rw [made_get _ _ _ h, Array.getElem?_ofFn, dif_pos h]
    unfold ncell
    have h4 : i % 4 = 0 ∨ i % 4 = 1 ∨ i % 4 = 2 ∨ i % 4 = 3 := by omega
    rcases h4 with h4 | h4 | h4 | h4 <;> simp [h4]
  · rw [Array.getElem?_eq_none (by unfold cN; simp; omega), Array.getElem?_eq_none (by rw [size_madeCells]; omega)]
theorem cP_0 (P : Nat) : cP P b0 = madeCells (#[.int .i64 0, .slice none 0 0]) (P * 2) := by
  apply Array.ext_getElem?
  intro i
  by_cases h : i < P * 2
  · rw [made_get _ _ _ h, cP_get _ _ _ h]
    unfold pcell b0
    have h4 : i % 2 = 0 ∨ i % 2 = 1 := by omega
    rcases h4 with h4 | h4 <;> simp [h4]
  · rw [Array.getElem?_eq_none (by unfold cP; simp; omega), Array.getElem?_eq_none (by rw [size_madeCells]; omega)]
theorem cN_end (g : Geo) (gp : Nat → Nat) (pv : Value) (pl : List F3) : cN g g.B gp = cB gp (m0 g pv pl) := by
  unfold cN cB
  change (Array.ofFn fun k : Fin (g.B * 4) => ncell g.P g.B gp k.val) = Array.ofFn fun k : Fin (g.B * 4) => bcell gp (m0 g pv pl) k.val
  congr 1
  funext k
  unfold ncell bcell
  have hk : k.val / 4 < g.B := by have := k.isLt; omega
  rw [if_pos hk]
  rfl
theorem cN_set (g : Geo) (i : Nat) (gp : Nat → Nat) (x : Nat) : (cN g i gp).setIfInBounds (i * 4 + 2) (.slice (some ⟨x, 0, none⟩) g.P g.P) = cN g (i + 1) (fun y => if y = i then x else gp y) := by
  refine ofFn_set (ncell g.P i gp) _ _ _ ?_ (fun k hk => ?_)
  · unfold ncell
    rw [show (i * 4 + 2) % 4 = 2 by omega, show (i * 4 + 2) / 4 = i by omega]
    simp
  · unfold ncell
    have h4 : k % 4 = 0 ∨ k % 4 = 1 ∨ k % 4 = 2 ∨ k % 4 = 3 := by omega
    rcases h4 with h4 | h4 | h4 | h4
    · simp [h4]
    · simp [h4]
    · have hne : k / 4 ≠ i := fun h => hk (by omega)
      simp only [h4, hne]
      by_cases hlt : k / 4 < i
      · simp [hlt, show k / 4 < i + 1 by omega]
      · simp [hlt, show ¬ k / 4 < i + 1 by omega]
    · simp [h4]
theorem cN_get (g : Geo) (i : Nat) (gp : Nat → Nat) (k : Nat) (h : k < g.B * 4) : (cN g i gp)[k]? = some (ncell g.P i gp k) := by
  unfold cN
  rw [Array.getElem?_ofFn, dif_pos h]
theorem info_blk : (Tryd.prog.info? 79).map (fun i => (i.zero.map Value.cells, i.size, i.bytes)) = some (some #[.bool false, .int .i64 0, .slice none 0 0, .int .i64 0], 4, 48) := by kernel_rfl
theorem info_pg : (Tryd.prog.info? 88).map (fun i => (i.zero.map Value.cells, i.size, i.bytes)) = some (some #[.int .i64 0, .slice none 0 0], 2, 32) := by kernel_rfl
theorem make_rows (t e : TypeId) (z : Array Value) (s b n : Nat) (hu : Tryd.prog.underlying t = some (.slice e)) (hi : (Tryd.prog.info? e).map (fun i => (i.zero.map Value.cells, i.size, i.bytes)) = some (some z, s, b)) (hb : b * n ≤ 281474976710656) (hn : n ≤ 1000000) (w : World) :
    (Instr.makeSlice t (.int .i64 n) (.int .i64 n)).run Tryd.prog w = .ok (.slice (some ⟨w.heap.size, 0, none⟩) n n) (w.alloc (.cells (madeCells z (n * s)) e)) := by
  obtain ⟨i, hi1, hi2⟩ := Option.map_eq_some_iff.1 hi
  simp only [Prod.mk.injEq] at hi2
  obtain ⟨h1, h2, h3⟩ := hi2
  obtain ⟨z0, hz0, hz1⟩ := Option.map_eq_some_iff.1 h1
  have h := run_make (P := Tryd.prog) w t e i z0 hu hi1 hz0 .i64 .i64 (n : Int) (n : Int) (by omega) (Int.le_refl _) (by rw [h3]; have : ((b * n : Nat) : Int) ≤ 281474976710656 := by omega
                                                                                                                         rwa [Int.natCast_mul] at this) (by omega)
  simp only [Int.toNat_natCast, h2, hz1] at h
  exact h
set_option maxRecDepth 100000 in
theorem new_bad (B P Z R : Int) (A : Option Addr) (c : Nat) (l : List F3) (w : World) (hr : Kd.C kF w A l.length l) (hc : l.length ≤ c) (hbad : (rightG B P Z R && planOK l) = false) :
    Calls Tryd.prog 14 #[gV B P Z R, .slice A l.length c] w fun e w' => e = .returned (.tuple #[.pointer none, .int .i64 22]) ∧ Below w.heap.size w w' := by
  have HR := Aside0.mk hr
  have HC := Aside0.mk hc
  have hu28 := Tryd.underlying37
  clear hr hc
  cases hg : rightG B P Z R with
  | false =>
    have HRG := Aside0.mk (fun W => right_is B P Z R W)
    rw [hg] at HRG
    clear hg hbad
    go_enter Tryd.func14, Tryd.ntmps14
    go_upto_region 1 with (fail)
    generalize hW : w.alloc (.cells #[.int .i64 B, .int .i64 P, .int .i64 Z, .int .i64 R] 37) = W1
    have hb : Below w.heap.size w W1 := by rw [← hW]; exact below_alloc (Below.refl _ _) _
    have hg : W1.heap[w.heap.size]? = some (.cells #[.int .i64 B, .int .i64 P, .int .i64 Z, .int .i64 R] 37 (0, 0)) := by rw [← hW]; exact new_blk _ _ _
    have HB := Aside0.mk hb
    have a0 := Joins.cell_of_block hg 0
    have a1 := Joins.cell_of_block hg 1
    have a2 := Joins.cell_of_block hg 2
    have a3 := Joins.cell_of_block hg 3
    clear hW hb hg
    go_wp2_with (first
      | (go_at_call 28; (with_reducible refine (HRG.out _).mono ?_); rintro e w2 ⟨rfl, hb2⟩; have HB2 := Aside0.mk hb2; clear hb2))
    go_ret2
    exact ⟨rfl, below_step HB.out HB2.out⟩
  | true =>
    have hp : planOK l = false := by rw [hg] at hbad; simpa using hbad
    have HRG := Aside0.mk (fun W => right_is B P Z R W)
    rw [hg] at HRG
    have HRP := Aside0.mk (fun (W : World) (hb : Below w.heap.size w W) => show Calls Tryd.prog 29 #[.slice A l.length c] W fun e w' => e = .returned (.bool false) ∧ Below W.heap.size W w' by rw [← hp]; exact rightPlan_is A c l W (Kd.C_below HR.out hb) HC.out)
    clear hg hbad hp
    go_enter Tryd.func14, Tryd.ntmps14
    go_upto_region 1 with (fail)
    generalize hW : w.alloc (.cells #[.int .i64 B, .int .i64 P, .int .i64 Z, .int .i64 R] 37) = W1
    have hb : Below w.heap.size w W1 := by rw [← hW]; exact below_alloc (Below.refl _ _) _
    have hg : W1.heap[w.heap.size]? = some (.cells #[.int .i64 B, .int .i64 P, .int .i64 Z, .int .i64 R] 37 (0, 0)) := by rw [← hW]; exact new_blk _ _ _
    have HB := Aside0.mk hb
    have a0 := Joins.cell_of_block hg 0
    have a1 := Joins.cell_of_block hg 1
    have a2 := Joins.cell_of_block hg 2
    have a3 := Joins.cell_of_block hg 3
    clear hW hb hg
    go_wp2_with (first
      | (go_at_call 28; (with_reducible refine (HRG.out _).mono ?_); rintro e w2 ⟨rfl, hb2⟩; have HB2 := Aside0.mk (below_step HB.out hb2); clear hb2)
      | (go_at_call 29; (with_reducible refine (HRP.out _ HB2.out).mono ?_); rintro e w3 ⟨rfl, hb3⟩; have HB3 := Aside0.mk (below_step HB2.out hb3); clear hb3))
    go_ret2
    exact ⟨rfl, HB3.out⟩
set_option maxRecDepth 100000 in
set_option maxHeartbeats 8000000 in
theorem new_ok (g : Geo) (A : Option Addr) (c : Nat) (l : List F3) (w : World) (hr : Kd.C kF w A l.length l) (hc : l.length ≤ c) (hg : rightG g.B g.P g.Z g.R = true) (hp : planOK l = true) :
    Calls Tryd.prog 14 #[gV g.B g.P g.Z g.R, .slice A l.length c] w fun e w' => ∃ (gc gb : Nat) (gp : Nat → Nat) (pv : Value), e = .returned (.tuple #[cp gc, .int .i64 0]) ∧ St w w' gc gb gp (m0 g pv l) (fun _ _ => []) := by
  have hgok := rightG_ok hg
  have hlen := planOK_len hp
  have HR := Aside0.mk hr
  have HC := Aside0.mk hc
  have HGO := Aside0.mk hgok
  have HRG := Aside0.mk (fun W => right_is g.B g.P g.Z g.R W)
  rw [hg] at HRG
  have HRP := Aside0.mk (fun (W : World) (hb : Below w.heap.size w W) => show Calls Tryd.prog 29 #[.slice A l.length c] W fun e w' => e = .returned (.bool true) ∧ Below W.heap.size W w' by rw [← hp]; exact rightPlan_is A c l W (Kd.C_below HR.out hb) HC.out)
  have HCL := Aside0.mk (fun (W : World) (hb : Below w.heap.size w W) => clone_faults A c l W (Kd.C_below HR.out hb) HC.out (by omega))
  clear hr hc hg hp hlen
  obtain ⟨⟨hB1, hB2⟩, ⟨hP1, hP2⟩, ⟨hZ1, hZ2⟩⟩ := hgok
  have hmk : ∀ w, (Instr.makeSlice 72 (.int .i64 g.B) (.int .i64 g.B)).run Tryd.prog w = .ok (.slice (some ⟨w.heap.size, 0, none⟩) g.B g.B) (w.alloc (.cells (cN g 0 (fun _ => 0)) 79)) := fun w => by rw [cN_0]; exact make_rows _ _ _ 4 48 g.B Tryd.underlying72 info_blk (by omega) (by omega) w
  have hmk2 : ∀ w, (Instr.makeSlice 75 (.int .i64 g.P) (.int .i64 g.P)).run Tryd.prog w = .ok (.slice (some ⟨w.heap.size, 0, none⟩) g.P g.P) (w.alloc (.cells (cP g.P b0) 88)) := fun w => by rw [cP_0]; exact make_rows _ _ _ 2 32 g.P Tryd.underlying75 info_pg (by omega) (by omega) w
  have HMK := Aside0.mk hmk
  have HMK2 := Aside0.mk hmk2
  have hu28 := Tryd.underlying37
  have hu55 := Tryd.underlying74
  have hu60 := Tryd.underlying79
  clear hmk hmk2
  go_enter Tryd.func14, Tryd.ntmps14
  go_upto_region 1 with (fail)
  generalize hW : w.alloc (.cells #[.int .i64 g.B, .int .i64 g.P, .int .i64 g.Z, .int .i64 g.R] 37) = W1
  have hb : Below w.heap.size w W1 := by rw [← hW]; exact below_alloc (Below.refl _ _) _
  have hg : W1.heap[w.heap.size]? = some (.cells #[.int .i64 g.B, .int .i64 g.P, .int .i64 g.Z, .int .i64 g.R] 37 (0, 0)) := by rw [← hW]; exact new_blk _ _ _
  have HB := Aside0.mk hb
  have HG := Aside0.mk hg
  have a0 := Joins.cell_of_block hg 0
  have a1 := Joins.cell_of_block hg 1
  have a2 := Joins.cell_of_block hg 2
  have a3 := Joins.cell_of_block hg 3
  clear hW hb hg
  go_upto_region 3 with (first
    | (go_at_call 28; (with_reducible refine (HRG.out _).mono ?_); rintro e w2 ⟨rfl, hb2⟩; have HB2 := Aside0.mk hb2; clear hb2)
    | (go_at_call 29; (with_reducible refine (HRP.out _ (below_step HB.out HB2.out)).mono ?_); rintro e w3 ⟨rfl, hb3⟩; have HB3 := Aside0.mk (below_step HB2.out hb3); clear hb3))
  have HBw := Aside0.mk (below_step HB.out HB3.out)
  have HG3 := Aside0.mk (keep_below HG.out HB3.out)
  clear a0 a1 a2 a3
  refine Rel.tail (m := 7) [(0, 16, .inl ?r1v0), (1, 17, .inl ?r1v1), (2, 18, .inr (fun v w' => Kd.R kF 71 w' w.heap.size (fun _ => True) v l)), (3, 19, .inl ?r1v3), (4, 20, .inl ?r1v4), (5, 21, .inr (fun v w' => ∃ gx, v = .slice (some ⟨gx, 0, none⟩) g.B g.B ∧ w'.heap[gx]? = some (.cells (cN g 0 (fun _ => 0)) 79 (0, 0)) ∧ w3.heap.size ≤ gx)), (6, 22, .inr (fun v w' => ∃ gx pv, v = .agg #[.int .i64 g.B, .int .i64 g.P, .int .i64 g.Z, .int .i64 g.R, .slice (some ⟨gx, 0, none⟩) g.B g.B, pv, .int .i64 0, .bool false, .int .i64 0, .int .i64 0] ∧ w'.heap[gx]? = some (.cells (cN g 0 (fun _ => 0)) 79 (0, 0)) ∧ w3.heap.size ≤ gx ∧ Kd.R kF 71 w' w.heap.size (fun _ => True) pv l))] (fun w' => Below w3.heap.size w3 w') (fun w' w'' => Below w'.heap.size w' w'') (by rfl) rfl (by kernel_rfl) (by kernel_rfl) (by kernel_rfl) ?r1S (Rel.stable_inl (Rel.stable_inl (Rel.stable_inr (fun v w w' hb h => Kd.R_below h hb) (Rel.stable_inl (Rel.stable_inl (Rel.stable_inr (fun v w w' hb ⟨gx, h1, h2, h3⟩ => ⟨gx, h1, keep_below h2 hb, h3⟩) (Rel.stable_inr (fun v w w' hb ⟨gx, pv, h1, h2, h3, h4⟩ => ⟨gx, pv, h1, keep_below h2 hb, h3, Kd.R_below h4 hb⟩) Rel.stable_nil))))))) ?r1steps ?r1okv ?r1hlt ?r1fin
  case r1S => exact below_drew (Below.refl _ _)
  case r1steps =>
    refine Rel.from_some 0 rfl rfl (fun a wq hS hK K hC => ?_) ?_
    · refine Reg.step_on (by rfl) ?_
      have e2 := hK.off 2 _ rfl rfl
      have hx := keep_below HG3.out hS
      have f0 := Joins.cell_of_block hx 0
      have f1 := Joins.cell_of_block hx 1
      have f2 := Joins.cell_of_block hx 2
      have f3 := Joins.cell_of_block hx 3
      clear hx
      clear hK
      go_simp
      exact hC _ hS (Below.refl _ _)
    refine Rel.from_some 1 rfl rfl (fun a wq hS hK K hC => ?_) ?_
    · refine Reg.step_on (by rfl) ?_
      have e1 := hK.off 1 _ rfl rfl
      clear hK
      go_simp
      exact hC _ hS (Below.refl _ _)
    refine Rel.from_rel 2 rfl rfl (fun a wq hS hK K hC => ?_) ?_
    · refine Reg.step_on (by rfl) ?_
      have e17 := hK.slot 1 _ _ _ rfl (by kernel_rfl)
      clear hK
      go_simp
      go_at_call 30; (with_reducible refine (HCL.out wq (below_step HBw.out hS)).mono ?_)
      rintro e w' ⟨v, rfl, ho, hb⟩
      exact hC v w' (below_step hS hb) hb (Kd.R_lower ho (below_size (below_step HBw.out hS)))
    refine Rel.from_some 3 rfl rfl (fun a wq hS hK K hC => ?_) ?_
    · refine Reg.step_on (by rfl) ?_
      have e2 := hK.off 2 _ rfl rfl
      clear hK
      go_simp
      exact hC _ hS (Below.refl _ _)
    refine Rel.from_some 4 rfl rfl (fun a wq hS hK K hC => ?_) ?_
    · refine Reg.step_on (by rfl) ?_
      have e19 := hK.slot 3 _ _ _ rfl (by kernel_rfl)
      have hx := keep_below HG3.out hS
      have f0 := Joins.cell_of_block hx 0
      have f1 := Joins.cell_of_block hx 1
      have f2 := Joins.cell_of_block hx 2
      have f3 := Joins.cell_of_block hx 3
      clear hx
      clear hK
      go_simp
      exact hC _ hS (Below.refl _ _)
    refine Rel.from_rel 5 rfl rfl (fun a wq hS hK K hC => ?_) ?_
    · refine Reg.step_on (by rfl) ?_
      have e20 := hK.slot 4 _ _ _ rfl (by kernel_rfl)
      have hm := HMK.out wq
      clear hK
      go_simp
      exact hC _ _ (below_alloc hS _) (below_alloc (Below.refl _ _) _) ⟨_, rfl, new_blk _ _ _, below_size hS⟩
    refine Rel.from_rel 6 rfl rfl (fun a wq hS hK K hC => ?_) ?_
    · refine Reg.step_on (by rfl) ?_
      have e16 := hK.slot 0 _ _ _ rfl (by kernel_rfl)
      obtain ⟨u18, e18, q18⟩ := hK.rel 2 _ _ _ rfl (by kernel_rfl)
      obtain ⟨u21, e21, q21⟩ := hK.rel 5 _ _ _ rfl (by kernel_rfl)
      obtain ⟨gx, rfl, hg1, hg2⟩ := q21
      obtain ⟨A8, c8, e8⟩ := Kd.R_slice q18
      subst e8
      clear hK
      go_simp
      exact hC _ _ hS (Below.refl _ _) ⟨gx, _, rfl, hg1, hg2, q18⟩
    exact Rel.from_nil
  case r1okv => rfl
  case r1hlt => rfl
  case r1fin =>
    intro U wz hS hU
    have q2 := hU 2 _ _ _ rfl
    have q5 := hU 5 _ _ _ rfl
    have q6 := hU 6 _ _ _ rfl
    clear hU
    simp only [Rel.inst, Nat.zero_add, Nat.reduceAdd, Reg.putV, List.foldl_cons, List.foldl_nil, Act.put, List.setIfInBounds_toArray, List.set_cons_zero, List.set_cons_succ]
    obtain ⟨gb, pv, eb, hgb, hgl, hpv⟩ := q6
    rw [eb]
    have HSB := Aside0.mk hS
    have HGB := Aside0.mk hgb
    have HGL := Aside0.mk hgl
    have HPV := Aside0.mk hpv
    clear hS hgb hgl eb q5 q2 hpv
    refine Rel.tail_cons (fun K hK => ?_)
    refine Reg.step_on (by rfl) ?_
    go_simp
    refine hK _ _ ?_
    clear hK
    refine Rel.tail_cons (fun K hK => ?_)
    refine Reg.step_on (by rfl) ?_
    go_simp
    refine hK _ _ ?_
    clear hK
    refine Rel.tail_nil ?_
    generalize hW : wz.alloc (.cells #[.int .i64 g.B, .int .i64 g.P, .int .i64 g.Z, .int .i64 g.R, .slice (some ⟨gb, 0, none⟩) g.B g.B, pv, .int .i64 0, .bool false, .int .i64 0, .int .i64 0] 74) = W4
    have hb4 : Below wz.heap.size wz W4 := by rw [← hW]; exact below_alloc (Below.refl _ _) _
    have hc4 : W4.heap[wz.heap.size]? = some (.cells (cC gb (m0 g pv l)) 74 (0, 0)) := by rw [← hW]; exact new_blk _ _ _
    obtain ⟨gc, hgc⟩ : ∃ g, g = wz.heap.size := ⟨_, rfl⟩
    rw [← hgc] at hc4 ⊢
    have HC4 := Aside0.mk hc4
    have HB4 := Aside0.mk (below_step HBw.out (below_step HSB.out hb4))
    have HGB4 := Aside0.mk (keep_below HGB.out hb4)
    have HPV4 := Aside0.mk (Kd.R_below HPV.out hb4)
    have HG4 := Aside0.mk (keep_below HG3.out (below_step HSB.out hb4))
    have HGL4 := Aside0.mk (Nat.le_trans (below_size HBw.out) HGL.out)
    have HGC4 := Aside0.mk (show w.heap.size ≤ gc by rw [hgc]; exact below_size (below_step HBw.out HSB.out))
    have c4 := Joins.cell_of_block hc4 4
    clear hW hb4 hc4 hgc
    change W4.cell? ⟨gc, 4, none⟩ = some (.slice (some ⟨gb, 0, none⟩) g.B g.B) at c4
    go_wp2
    go_loopw [29] (fun v29 wr => ∃ (i : Nat) (gp : Nat → Nat), i ≤ g.B ∧ v29 = .int .i64 i ∧ Aside0 (wr.heap[gc]? = some (.cells (cC gb (m0 g pv l)) 74 (0, 0))) ∧ Aside0 (wr.heap[gb]? = some (.cells (cN g i gp) 79 (0, 0))) ∧ Aside0 (∀ x, x < i → wr.heap[gp x]? = some (.cells (cP g.P b0) 88 (0, 0))) ∧ Aside0 (∀ x y, x < i → y < i → gp x = gp y → x = y) ∧ Aside0 (∀ x, x < i → w.heap.size ≤ gp x) ∧ Aside0 (wr.heap[w.heap.size]? = some (.cells #[.int .i64 g.B, .int .i64 g.P, .int .i64 g.Z, .int .i64 g.R] 37 (0, 0))) ∧ Aside0 (Kd.R kF 71 wr w.heap.size (fun _ => True) pv l) ∧ Aside0 (Below w.heap.size w wr)) (fun i _ => g.B - (intOf i).toNat)
    case atStart => exact ⟨0, fun _ => 0, Nat.zero_le _, rfl, HC4, HGB4, ⟨fun x h => absurd h (Nat.not_lt_zero _)⟩, ⟨fun x y h => absurd h (Nat.not_lt_zero _)⟩, ⟨fun x h => absurd h (Nat.not_lt_zero _)⟩, HG4, HPV4, HB4⟩
    case round =>
      obtain ⟨i, gp, hi, rfl, HC5, HN5, HP5, HI5, HE5, HG5, HPV5, HB5⟩ := hrel
      clear c4
      by_cases hlt : i < g.B
      · have d0 : decide ((i : Int) < (g.B : Int)) = true := decide_eq_true (by omega)
        have hq : (i < g.B) = True := eq_true hlt
        have hqi : ((i : Int) < (g.B : Int)) = True := eq_true (by omega)
        go_upto_region 7 with (fail)
        refine Rel.tail (m := 10) [(0, 32, .inl ?r2v0), (1, 33, .inl ?r2v1), (2, 34, .inl ?r2v2), (3, 35, .inl ?r2v3), (4, 36, .inl ?r2v4), (5, 37, .inl ?r2v5), (6, 38, .inl ?r2v6), (7, 39, .inr (fun v w' => ∃ gx, v = .slice (some ⟨gx, 0, none⟩) g.P g.P ∧ w'.heap[gx]? = some (.cells (cP g.P b0) 88 (0, 0)) ∧ wr.heap.size ≤ gx)), (8, 40, .inl ?r2v8), (9, 41, .inl ?r2v9)] (fun w' => Below wr.heap.size wr w') (fun w' w'' => Below w'.heap.size w' w'') (by rfl) rfl (by kernel_rfl) (by kernel_rfl) (by kernel_rfl) ?r2S (Rel.stable_inl (Rel.stable_inl (Rel.stable_inl (Rel.stable_inl (Rel.stable_inl (Rel.stable_inl (Rel.stable_inl (Rel.stable_inr (fun v w w' hb ⟨gx, h1, h2, h3⟩ => ⟨gx, h1, keep_below h2 hb, h3⟩) (Rel.stable_inl (Rel.stable_inl Rel.stable_nil)))))))))) ?r2steps ?r2okv ?r2hlt ?r2fin
        case r2S => exact below_drew (Below.refl _ _)
        case r2steps =>
          refine Rel.from_some 0 rfl rfl (fun a wq hS hK K hC => ?_) ?_
          · refine Reg.step_on (by rfl) ?_
            have e6 := hK.off 6 _ rfl rfl
            clear hK
            go_simp
            exact hC _ hS (Below.refl _ _)
          refine Rel.from_some 1 rfl rfl (fun a wq hS hK K hC => ?_) ?_
          · refine Reg.step_on (by rfl) ?_
            have e32 := hK.slot 0 _ _ _ rfl (by kernel_rfl)
            clear hK
            go_simp
            exact hC _ hS (Below.refl _ _)
          refine Rel.from_some 2 rfl rfl (fun a wq hS hK K hC => ?_) ?_
          · refine Reg.step_on (by rfl) ?_
            have e33 := hK.slot 1 _ _ _ rfl (by kernel_rfl)
            clear hK
            go_simp
            exact hC _ hS (Below.refl _ _)
          refine Rel.from_some 3 rfl rfl (fun a wq hS hK K hC => ?_) ?_
          · refine Reg.step_on (by rfl) ?_
            have e34 := hK.slot 2 _ _ _ rfl (by kernel_rfl)
            have hx := keep_below HG5.out hS
            have f1 := Joins.cell_of_block hx 1
            have k4 := Joins.cell_of_block (keep_below HC5.out hS) 4
            change _ = some (Value.slice (some ⟨gb, 0, none⟩) g.B g.B) at k4
            clear hx
            clear hK
            go_simp
            exact hC _ hS (Below.refl _ _)
          refine Rel.from_some 4 rfl rfl (fun a wq hS hK K hC => ?_) ?_
          · refine Reg.step_on (by rfl) ?_
            have e7 := hK.off 7 _ rfl rfl
            clear hK
            go_simp
            exact hC _ hS (Below.refl _ _)
          refine Rel.from_some 5 rfl rfl (fun a wq hS hK K hC => ?_) ?_
          · refine Reg.step_on (by rfl) ?_
            have e2 := hK.off 2 _ rfl rfl
            clear hK
            go_simp
            exact hC _ hS (Below.refl _ _)
          refine Rel.from_some 6 rfl rfl (fun a wq hS hK K hC => ?_) ?_
          · refine Reg.step_on (by rfl) ?_
            have e37 := hK.slot 5 _ _ _ rfl (by kernel_rfl)
            have hx := keep_below HG5.out hS
            have f1 := Joins.cell_of_block hx 1
            have k4 := Joins.cell_of_block (keep_below HC5.out hS) 4
            change _ = some (Value.slice (some ⟨gb, 0, none⟩) g.B g.B) at k4
            clear hx
            clear hK
            go_simp
            exact hC _ hS (Below.refl _ _)
          refine Rel.from_rel 7 rfl rfl (fun a wq hS hK K hC => ?_) ?_
          · refine Reg.step_on (by rfl) ?_
            have e38 := hK.slot 6 _ _ _ rfl (by kernel_rfl)
            have hm := HMK2.out wq
            clear hK
            go_simp
            exact hC _ _ (below_alloc hS _) (below_alloc (Below.refl _ _) _) ⟨_, rfl, new_blk _ _ _, below_size hS⟩
          refine Rel.from_some 8 rfl rfl (fun a wq hS hK K hC => ?_) ?_
          · refine Reg.step_on (by rfl) ?_
            have e35 := hK.slot 3 _ _ _ rfl (by kernel_rfl)
            have e36 := hK.slot 4 _ _ _ rfl (by kernel_rfl)
            clear hK
            go_simp
            exact hC _ hS (Below.refl _ _)
          refine Rel.from_some 9 rfl rfl (fun a wq hS hK K hC => ?_) ?_
          · refine Reg.step_on (by rfl) ?_
            have e40 := hK.slot 8 _ _ _ rfl (by kernel_rfl)
            clear hK
            go_simp
            exact hC _ hS (Below.refl _ _)
          exact Rel.from_nil
        case r2okv => rfl
        case r2hlt => rfl
        case r2fin =>
          intro U wz hS hU
          have q7 := hU 7 _ _ _ rfl
          clear hU
          simp only [Rel.inst, Nat.zero_add, Nat.reduceAdd, Reg.putV, List.foldl_cons, List.foldl_nil, Act.put, List.setIfInBounds_toArray, List.set_cons_zero, List.set_cons_succ]
          obtain ⟨x0, eg, hg, hgl⟩ := q7
          rw [eg]
          have hN := keep_below HN5.out hS
          have zb := blk_cell hN (i * 4 + 2)
          rw [cN_get _ _ _ _ (by omega), show ncell g.P i gp (i * 4 + 2) = .slice none 0 0 by unfold ncell; rw [if_neg (by omega), if_neg (by omega), if_pos (by omega), if_neg (by omega)]] at zb
          have zf := blk_frozen hN (i * 4 + 2)
          have HNz := Aside0.mk hN
          have HCz := Aside0.mk (keep_below HC5.out hS)
          have HGz := Aside0.mk hg
          have HLz := Aside0.mk hgl
          have HSz := Aside0.mk hS
          clear hS hg hgl hN eg
          refine Rel.tail_cons (fun K hK => ?_)
          refine Reg.step_on (by rfl) ?_
          go_simp
          refine hK _ _ ?_
          clear hK zb zf
          refine Rel.tail_nil ?_
          generalize hW : wz.setCell ⟨gb, i * 4 + 2, none⟩ (.slice (some ⟨x0, 0, none⟩) g.P g.P) = W6
          have h1 : W6.heap[gb]? = some (.cells (cN g (i + 1) (fun x => if x = i then x0 else gp x)) 79 (0, 0)) := by rw [← hW, ← cN_set]; exact blk_set HNz.out _ _
          have h2 : W6.heap[gc]? = some (.cells (cC gb (m0 g pv l)) 74 (0, 0)) := by rw [← hW]; exact blk_far HCz.out (ne_of_type HCz.out HNz.out (by decide)) _
          have h3 : ∀ x, x < i + 1 → W6.heap[(fun x => if x = i then x0 else gp x) x]? = some (.cells (cP g.P b0) 88 (0, 0)) := fun x hx => by
            rw [← hW]
            by_cases hxi : x = i
            · subst hxi
              simp only [if_true]
              exact blk_far HGz.out (ne_of_type HGz.out HNz.out (by decide)) _
            · simp only [hxi, if_false]
              have hp := keep_below (HP5.out x (by omega)) HSz.out
              exact blk_far hp (ne_of_type hp HNz.out (by decide)) _
          have h4 : ∀ x y, x < i + 1 → y < i + 1 → (fun x => if x = i then x0 else gp x) x = (fun x => if x = i then x0 else gp x) y → x = y := fun x y hx hy e => by
            have hlt2 : ∀ z, z < i → gp z < x0 := fun z hz => Nat.lt_of_lt_of_le (blk_lt (HP5.out z hz)) HLz.out
            by_cases hxi : x = i
            · by_cases hyi : y = i
              · omega
              · simp only [hxi, hyi, if_true, if_false] at e
                have := hlt2 y (by omega)
                omega
            · by_cases hyi : y = i
              · simp only [hxi, hyi, if_true, if_false] at e
                have := hlt2 x (by omega)
                omega
              · simp only [hxi, hyi, if_false] at e
                exact HI5.out x y (by omega) (by omega) e
          have h5 : ∀ x, x < i + 1 → w.heap.size ≤ (fun x => if x = i then x0 else gp x) x := fun x hx => by
            by_cases hxi : x = i
            · simp only [hxi, if_true]; exact Nat.le_trans (below_size HB5.out) HLz.out
            · simp only [hxi, if_false]; exact HE5.out x (by omega)
          have h6 : W6.heap[w.heap.size]? = some (.cells #[.int .i64 g.B, .int .i64 g.P, .int .i64 g.Z, .int .i64 g.R] 37 (0, 0)) := by rw [← hW]; exact blk_far (keep_below HG5.out HSz.out) (ne_of_type (keep_below HG5.out HSz.out) HNz.out (by decide)) _
          have h7 : Below w.heap.size w W6 := by rw [← hW]; exact below_set (below_step HB5.out HSz.out) HGL4.out
          have h8 : Kd.R kF 71 W6 w.heap.size (fun _ => True) pv l := by rw [← hW]; exact Kd.R_set (Kd.R_below HPV5.out HSz.out) HNz.out (by decide) _ _
          have H8 := Aside0.mk h8
          have H1 := Aside0.mk h1
          have H2 := Aside0.mk h2
          have H3 := Aside0.mk h3
          have H4 := Aside0.mk h4
          have H5 := Aside0.mk h5
          have H6 := Aside0.mk h6
          have H7 := Aside0.mk h7
          clear hW h1 h2 h3 h4 h5 h6 h7 h8
          go_wp2
          go_roundw
          case rel => exact ⟨i + 1, _, by omega, by push_cast; rfl, H2, H1, H3, H4, H5, H6, H8, H7⟩
          case measure => simp [intOf]; omega
      · obtain hiB : i = g.B := by omega
        subst hiB
        have d0 : decide ((g.B : Int) < (g.B : Int)) = false := decide_eq_false (by omega)
        go_wp2
        go_ret2
        exact ⟨gc, gb, gp, pv, rfl, ⟨HC5.out, by rw [← cN_end]; exact HN5.out, fun x hx => HP5.out x hx, fun x y hx hy e => HI5.out x y hx hy e, HGC4.out, HGL4.out, fun x hx => HE5.out x hx, fun x y _ _ => Kd.R_nil _ _ _ _ _, HPV5.out, HB5.out, HGO.out⟩⟩
/-- Faults stay. -/
def KF (W w' : World) : Prop := ∀ (k : Nat) (cs : Array Value) (fr : Nat × Nat), W.heap[k]? = some (.cells cs 71 fr) → w'.heap[k]? = some (.cells cs 71 fr)
theorem KF.refl (W : World) : KF W W := fun _ _ _ h => h
theorem KF.of_below {W w' : World} (h : Below W.heap.size W w') : KF W w' := fun k cs fr hk => by rw [h.block k (blk_lt hk)]; exact hk
theorem KF.set {W : World} {g t : Nat} {cs : Array Value} (hg : W.heap[g]? = some (.cells cs t (0, 0))) (ht : t ≠ 71) (k : Nat) (v : Value) : KF W (W.setCell ⟨g, k, none⟩ v) := fun x cs2 fr hx => by
  have hne : x ≠ g := fun e => by
    subst e
    rw [hx] at hg
    simp only [Option.some.injEq, Obj.cells.injEq] at hg
    exact ht hg.2.1.symm
  exact (Below.heap_setCell W ⟨g, k, none⟩ v x hne).trans hx
theorem KF.R {W w' : World} (h : KF W w') {base : Nat} {ok : Nat → Prop} {v : Value} {xs : List F3} (hr : Kd.R kF 71 W base ok v xs) : Kd.R kF 71 w' base ok v xs := by
  have h2 := Kd.R_move (Kd.R_bound hr) (w1 := w') (fun k hk => by
    obtain ⟨_, _, _, q, hq, cells, hc⟩ := hk
    have hq5 : q = 71 := by
      rcases List.mem_cons.1 hq with h | h
      · exact h
      · cases h
    subst hq5
    rw [h k cells (0, 0) hc, hc])
  exact Kd.R_mono h2 (fun _ hk => hk.1)
/-- The stages of Arm's stores. -/
def armS (w0 w1 : World) (gc gb : Nat) (gp : Nat → Nat) (m : Ch) (D : Nat → Nat → List Int) (l : List F3) : Nat → World → Prop
  | 0, w' => Below w1.heap.size w1 w'
  | 1, w' => ∃ v : Value, St w0 w' gc gb gp ({ m with plan := v, pl := l } : Ch) D ∧ Keeps w1 w'
  | _, w' => ∃ v : Value, St w0 w' gc gb gp ({ m with plan := v, pl := l, frm := m.ops } : Ch) D ∧ Keeps w1 w'
set_option maxRecDepth 100000 in
set_option maxHeartbeats 8000000 in
theorem arm_ok (h : St w0 W gc gb gp m D) (A : Option Addr) (c : Nat) (l : List F3) (hr : Kd.C kF W A l.length l) (hc : l.length ≤ c) (hp : planOK l = true) :
    Calls Tryd.prog 47 #[cp gc, .slice A l.length c] W fun e w' => e = .returned (.int .i64 0) ∧ (∃ v : Value, St w0 w' gc gb gp ({ m with plan := v, pl := l, frm := m.ops } : Ch) D) ∧ Keeps W w' := by
  have hlen := planOK_len hp
  have HRP := Aside0.mk (show Calls Tryd.prog 29 #[.slice A l.length c] W fun e w' => e = .returned (.bool true) ∧ Below W.heap.size W w' by rw [← hp]; exact rightPlan_is A c l W hr hc)
  have H := Aside0.mk h
  have HC := Aside0.mk hr
  have HCC := Aside0.mk hc
  have hu32 := Tryd.underlying56
  clear h hr hc hp
  go_enter Tryd.func47, Tryd.ntmps47
  go_upto_region 5 with (first
    | (go_at_call 29; (with_reducible refine HRP.out.mono ?_); rintro e w1 ⟨rfl, hb1⟩; have HB1 := Aside0.mk hb1; have H1 := Aside0.mk (H.out.grow hb1); clear hb1))
  have HCL := Aside0.mk (fun (wq : World) (hS : Below w1.heap.size w1 wq) => clone_faults A c l wq (Kd.C_below HC.out (below_step HB1.out hS)) HCC.out (by omega))
  clear hlen
  refine RelS.relS [(0, 10, .inl ?r3v0), (1, 11, .inl ?r3v1), (2, 12, .inl ?r3v2), (3, 13, .inr (fun v w' => Kd.R kF 71 w' w0.heap.size (fun _ => True) v l)), (4, 14, .inl ?r3v4), (5, 15, .inl ?r3v5), (6, 16, .inl ?r3v6), (7, 17, .inl ?r3v7), (8, 18, .inl ?r3v8), (9, 19, .inl ?r3v9), (11, 20, .inl ?r3v11), (12, 21, .inl ?r3v12)] [10, 13] (armS w0 w1 gc gb gp m D l) KF (by rfl) rfl (by kernel_rfl) (by decide) (by decide) ?r3S (Rel.stable_inl (Rel.stable_inl (Rel.stable_inl (Rel.stable_inr (fun v w w' hb h => KF.R hb h) (Rel.stable_inl (Rel.stable_inl (Rel.stable_inl (Rel.stable_inl (Rel.stable_inl (Rel.stable_inl (Rel.stable_inl (Rel.stable_inl Rel.stable_nil)))))))))))) ?r3steps ?r3okv ?r3hlt ?r3fin
  case r3S => exact below_drew (Below.refl _ _)
  case r3steps =>
    refine RelS.fromS_some 0 rfl rfl (fun s a wq hlo hhi hS hK K hC => ?_) ?_
    · refine Reg.step_on (by rfl) ?_
      clear hlo hhi
      have e0 := hK.off 0 _ rfl rfl
      clear hK
      go_simp
      exact hC _ hS (KF.refl _)
    refine RelS.fromS_some 1 rfl rfl (fun s a wq hlo hhi hS hK K hC => ?_) ?_
    · refine Reg.step_on (by rfl) ?_
      clear hlo hhi
      have e0 := hK.off 0 _ rfl rfl
      clear hK
      go_simp
      exact hC _ hS (KF.refl _)
    refine RelS.fromS_some 2 rfl rfl (fun s a wq hlo hhi hS hK K hC => ?_) ?_
    · refine Reg.step_on (by rfl) ?_
      clear hlo hhi
      have e1 := hK.off 1 _ rfl rfl
      clear hK
      go_simp
      exact hC _ hS (KF.refl _)
    refine RelS.fromS_rel 3 rfl rfl (fun s a wq hlo hhi hS hK K hC => ?_) ?_
    · refine Reg.step_on (by rfl) ?_
      obtain rfl : s = 0 := Nat.le_antisymm (Nat.le_trans hhi (Nat.le_of_eq (by kernel_rfl))) (Nat.le_trans (Nat.le_of_eq (by kernel_rfl)) hlo)
      clear hlo hhi
      have e12 := hK.slot 2 _ _ _ rfl (by kernel_rfl)
      clear hK
      go_simp
      change Below w1.heap.size w1 wq at hS
      go_at_call 30; (with_reducible refine (HCL.out wq hS).mono ?_)
      rintro e w' ⟨v, rfl, ho, hb⟩
      exact hC v w' (below_step hS hb) (KF.of_below hb) (Kd.R_lower ho (below_size (H1.out.grow hS).below))
    refine RelS.fromS_some 4 rfl rfl (fun s a wq hlo hhi hS hK K hC => ?_) ?_
    · refine Reg.step_on (by rfl) ?_
      clear hlo hhi
      have e0 := hK.off 0 _ rfl rfl
      clear hK
      go_simp
      exact hC _ hS (KF.refl _)
    refine RelS.fromS_some 5 rfl rfl (fun s a wq hlo hhi hS hK K hC => ?_) ?_
    · refine Reg.step_on (by rfl) ?_
      clear hlo hhi
      have e14 := hK.slot 4 _ _ _ rfl (by kernel_rfl)
      clear hK
      go_simp
      exact hC _ hS (KF.refl _)
    refine RelS.fromS_some 6 rfl rfl (fun s a wq hlo hhi hS hK K hC => ?_) ?_
    · refine Reg.step_on (by rfl) ?_
      clear hlo hhi
      have e15 := hK.slot 5 _ _ _ rfl (by kernel_rfl)
      clear hK
      go_simp
      exact hC _ hS (KF.refl _)
    refine RelS.fromS_some 7 rfl rfl (fun s a wq hlo hhi hS hK K hC => ?_) ?_
    · refine Reg.step_on (by rfl) ?_
      obtain rfl : s = 0 := Nat.le_antisymm (Nat.le_trans hhi (Nat.le_of_eq (by kernel_rfl))) (Nat.le_trans (Nat.le_of_eq (by kernel_rfl)) hlo)
      clear hlo hhi
      have e16 := hK.slot 6 _ _ _ rfl (by kernel_rfl)
      have zz : wq.cell? ⟨gc, 8, none⟩ = some (.int .i64 m.ops) := (H1.out.grow hS).cellC 8
      clear hK
      go_simp
      exact hC _ hS (KF.refl _)
    refine RelS.fromS_some 8 rfl rfl (fun s a wq hlo hhi hS hK K hC => ?_) ?_
    · refine Reg.step_on (by rfl) ?_
      clear hlo hhi
      have e10 := hK.slot 0 _ _ _ rfl (by kernel_rfl)
      clear hK
      go_simp
      exact hC _ hS (KF.refl _)
    refine RelS.fromS_some 9 rfl rfl (fun s a wq hlo hhi hS hK K hC => ?_) ?_
    · refine Reg.step_on (by rfl) ?_
      clear hlo hhi
      have e18 := hK.slot 8 _ _ _ rfl (by kernel_rfl)
      clear hK
      go_simp
      exact hC _ hS (KF.refl _)
    refine RelS.fromS_none rfl rfl (fun s a wq hlo hhi hS hK K hC => ?_) ?_
    · refine Reg.step_on (by rfl) ?_
      obtain rfl : s = 0 := Nat.le_antisymm (Nat.le_trans hhi (Nat.le_of_eq (by kernel_rfl))) (Nat.le_trans (Nat.le_of_eq (by kernel_rfl)) hlo)
      clear hlo hhi
      have e19 := hK.slot 9 _ _ _ rfl (by kernel_rfl)
      obtain ⟨u13, e13, q13⟩ := hK.rel 3 _ _ _ rfl (by kernel_rfl)
      have h5 := H1.out.grow hS
      have c5 := h5.cellC 5
      have f5 := blk_frozen h5.c 5
      have H5 := Aside0.mk h5
      have HK5 := Aside0.mk (Keeps.of_below hS)
      have HQ := Aside0.mk q13
      obtain ⟨A6, c6, e6⟩ := Kd.R_slice q13
      subst e6
      clear hK hS h5 q13
      go_simp
      exact hC _ ⟨_, H5.out.setC 5 _ rfl rfl rfl HQ.out, HK5.out.set H5.out.c (by decide) _ _⟩ (KF.set H5.out.c (by decide) _ _)
    refine RelS.fromS_some 10 rfl rfl (fun s a wq hlo hhi hS hK K hC => ?_) ?_
    · refine Reg.step_on (by rfl) ?_
      clear hlo hhi
      have e11 := hK.slot 1 _ _ _ rfl (by kernel_rfl)
      clear hK
      go_simp
      exact hC _ hS (KF.refl _)
    refine RelS.fromS_some 11 rfl rfl (fun s a wq hlo hhi hS hK K hC => ?_) ?_
    · refine Reg.step_on (by rfl) ?_
      clear hlo hhi
      have e20 := hK.slot 10 _ _ _ rfl (by kernel_rfl)
      clear hK
      go_simp
      exact hC _ hS (KF.refl _)
    refine RelS.fromS_none rfl rfl (fun s a wq hlo hhi hS hK K hC => ?_) ?_
    · refine Reg.step_on (by rfl) ?_
      obtain rfl : s = 1 := Nat.le_antisymm (Nat.le_trans hhi (Nat.le_of_eq (by kernel_rfl))) (Nat.le_trans (Nat.le_of_eq (by kernel_rfl)) hlo)
      clear hlo hhi
      have e21 := hK.slot 11 _ _ _ rfl (by kernel_rfl)
      have e17 := hK.slot 7 _ _ _ rfl (by kernel_rfl)
      obtain ⟨v5, h5, hk5⟩ := hS
      have c6 := h5.cellC 6
      have f6 := blk_frozen h5.c 6
      have H5 := Aside0.mk h5
      have HK5 := Aside0.mk hk5
      clear hK h5 hk5
      go_simp
      exact hC _ ⟨_, H5.out.setC 6 _ rfl rfl rfl H5.out.pln, HK5.out.set H5.out.c (by decide) _ _⟩ (KF.set H5.out.c (by decide) _ _)
    exact RelS.fromS_nil
  case r3okv => rfl
  case r3hlt => rfl
  case r3fin =>
    intro U wz hS hU
    have q3 := hU 3 _ _ _ rfl
    clear hU
    simp only [Rel.inst, Nat.zero_add, Nat.reduceAdd, Reg.putV, List.foldl_cons, List.foldl_nil, Act.put, List.setIfInBounds_toArray, List.set_cons_zero, List.set_cons_succ]
    obtain ⟨v, h5, hk5⟩ : ∃ v : Value, St w0 wz gc gb gp ({ m with plan := v, pl := l, frm := m.ops } : Ch) D ∧ Keeps w1 wz := hS
    have H5 := Aside0.mk h5
    have HK5 := Aside0.mk hk5
    clear q3 h5 hk5
    go_wp2
    go_ret
    exact ⟨rfl, ⟨v, H5.out⟩, (Keeps.of_below HB1.out).trans HK5.out⟩
set_option maxRecDepth 100000 in
theorem arm_bad (h : St w0 W gc gb gp m D) (A : Option Addr) (c : Nat) (l : List F3) (hr : Kd.C kF W A l.length l) (hc : l.length ≤ c) (hp : planOK l = false) :
    Calls Tryd.prog 47 #[cp gc, .slice A l.length c] W fun e w' => e = .returned (.int .i64 22) ∧ Below W.heap.size W w' := by
  have HRP := Aside0.mk (show Calls Tryd.prog 29 #[.slice A l.length c] W fun e w' => e = .returned (.bool false) ∧ Below W.heap.size W w' by rw [← hp]; exact rightPlan_is A c l W hr hc)
  clear h hr hc hp
  go_enter Tryd.func47, Tryd.ntmps47
  go_wp2_with (first
    | (go_at_call 29; (with_reducible refine HRP.out.mono ?_); rintro e w1 ⟨rfl, hb1⟩; have HB1 := Aside0.mk hb1; clear hb1))
  go_ret
  exact ⟨rfl, HB1.out⟩
theorem setG {g : Nat} {a b c d : Value} (h : W.heap[g]? = some (.cells #[a, b, c, d] 37 (0, 0))) (x y z u : Value) : ((((W.setCell ⟨g, 0, none⟩ x).setCell ⟨g, 1, none⟩ y).setCell ⟨g, 2, none⟩ z).setCell ⟨g, 3, none⟩ u).heap[g]? = some (.cells #[x, y, z, u] 37 (0, 0)) :=
  blk_put (blk_put (blk_put (blk_put h 0 x (cs' := #[x, b, c, d]) rfl) 1 y (cs' := #[x, y, c, d]) rfl) 2 z (cs' := #[x, y, z, d]) rfl) 3 u rfl
set_option maxRecDepth 100000 in
theorem geometry_is (h : St w0 W gc gb gp m D) : Calls Tryd.prog 37 #[cp gc] W fun e w' => e = .returned (gV m.g.B m.g.P m.g.Z m.g.R) ∧ Below W.heap.size W w' := by
  have H := Aside0.mk h.c
  have hu28 := Tryd.underlying37
  clear h
  go_enter Tryd.func37, Tryd.ntmps37
  go_upto_region 1 with (fail)
  generalize hW : W.alloc (.cells #[.int .i64 0, .int .i64 0, .int .i64 0, .int .i64 0] 37) = W1
  have hb : Below W.heap.size W W1 := by rw [← hW]; exact below_alloc (Below.refl _ _) _
  have hx : W1.heap[W.heap.size]? = some (.cells #[.int .i64 0, .int .i64 0, .int .i64 0, .int .i64 0] 37 (0, 0)) := by rw [← hW]; exact new_blk _ _ _
  have c0 : W1.cell? ⟨gc, 0, none⟩ = some (.int .i64 m.g.B) := Joins.cell_of_block (keep_below H.out hb) 0
  have c1 : W1.cell? ⟨gc, 1, none⟩ = some (.int .i64 m.g.P) := Joins.cell_of_block (keep_below H.out hb) 1
  have c2 : W1.cell? ⟨gc, 2, none⟩ = some (.int .i64 m.g.Z) := Joins.cell_of_block (keep_below H.out hb) 2
  have c3 : W1.cell? ⟨gc, 3, none⟩ = some (.int .i64 m.g.R) := Joins.cell_of_block (keep_below H.out hb) 3
  have x0 := Joins.cell_of_block hx 0
  have x1 := Joins.cell_of_block hx 1
  have x2 := Joins.cell_of_block hx 2
  have x3 := Joins.cell_of_block hx 3
  have fx0 := blk_frozen hx 0
  have fx1 := blk_frozen hx 1
  have fx2 := blk_frozen hx 2
  have fx3 := blk_frozen hx 3
  have HX := Aside0.mk hx
  have HB := Aside0.mk hb
  clear hW hx hb
  go_wp2
  refine bodyPost_ret (results_cell_row rfl _ _ W.heap.size 37 #[.int .i64 m.g.B, .int .i64 m.g.P, .int .i64 m.g.Z, .int .i64 m.g.R] (0, 0) _ rfl (setG HX.out _ _ _ _) Tryd.underlying37 rfl (by kernel_rfl)) rfl ?_
  exact ⟨rfl, below_set (below_set (below_set (below_set HB.out (Nat.le_refl _)) (Nat.le_refl _)) (Nat.le_refl _)) (Nat.le_refl _)⟩
end Go.Proofs.YtdlimghdimkadaaDoor.PAll

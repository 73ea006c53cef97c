import Derived.Test.YtdlimghdimkadaaDoorCa
namespace Go.Proofs.YtdlimghdimkadaaDoor.PAll
open Go.RowKit Go.Proofs.YtdlimghdimkadaaDoorW.PrintWords Go.Proofs.YtdlimghdimkadaaDoorW.PrintLast Go.Proofs.YtdlimghdimkadaaDoorW.PrintMore
set_option linter.unusedSimpArgs false
set_option linter.unusedVariables false
attribute [local go_sem] max2_int min2_int max_two min_two max_three min_three max_four min_four
variable {w0 W : World} {gc gb : Nat} {gp : Nat → Nat} {m : Ch} {D : Nat → Nat → List Int}
abbrev cp (gc : Nat) : Value := .pointer (some ⟨gc, 0, none⟩)
abbrev bp (gb n : Nat) : Value := .pointer (some ⟨gb, n * 4, none⟩)
/-- What is no part of a chip, and no fault, stays. -/
def Keeps (W w' : World) : Prop := ∀ (k : Nat) (cs : Array Value) (t : Nat) (fr : Nat × Nat), t ≠ 74 → t ≠ 79 → t ≠ 88 → t ≠ 71 → W.heap[k]? = some (.cells cs t fr) → w'.heap[k]? = some (.cells cs t fr)
theorem Keeps.of_below {W w' : World} (h : Below W.heap.size W w') : Keeps W w' := fun k cs t fr _ _ _ _ hk => by rw [h.block k (blk_lt hk)]; exact hk
theorem Keeps.refl (W : World) : Keeps W W := fun _ _ _ _ _ _ _ _ h => h
theorem Keeps.trans {W w1 w2 : World} (h : Keeps W w1) (h2 : Keeps w1 w2) : Keeps W w2 := fun k cs t fr a b c d hk => h2 k cs t fr a b c d (h k cs t fr a b c d hk)
theorem Keeps.set {W w' : World} (h : Keeps W w') {g t : Nat} {cs : Array Value} (hg : w'.heap[g]? = some (.cells cs t (0, 0))) (ht : t = 74 ∨ t = 79 ∨ t = 88 ∨ t = 71) (k : Nat) (v : Value) : Keeps W (w'.setCell ⟨g, k, none⟩ v) := fun x cs2 t2 fr h1 h2 h3 h4 hx => by
  have h5 := h x cs2 t2 fr h1 h2 h3 h4 hx
  have hne : x ≠ g := fun e => by
    subst e
    rw [h5] at hg
    simp only [Option.some.injEq, Obj.cells.injEq] at hg
    have e2 := hg.2.1
    rcases ht with h | h | h | h
    · exact h1 (e2.trans h)
    · exact h2 (e2.trans h)
    · exact h3 (e2.trans h)
    · exact h4 (e2.trans h)
  exact (Below.heap_setCell w' ⟨g, k, none⟩ v x hne).trans h5
theorem Keeps.blk {W w' : World} (h : Keeps W w') {k : Nat} {cs : Array Value} {fr : Nat × Nat} (hk : W.heap[k]? = some (.cells cs 5 fr)) : w'.heap[k]? = some (.cells cs 5 fr) := h k cs 5 fr (by decide) (by decide) (by decide) (by decide) hk
theorem Keeps.R {W w' : World} (h : Keeps W w') {base : Nat} {ok : Nat → Prop} {v : Value} {xs : List Int} (hr : Kd.R kB 5 W base ok v xs) : Kd.R kB 5 w' base ok v xs := by
  have h2 := Kd.R_move (Kd.R_bound hr) (w1 := w') (fun k hk => by
    obtain ⟨_, _, _, q, hq, cells, hc⟩ := hk
    have hq5 : q = 5 := by
      rcases List.mem_cons.1 hq with h | h
      · exact h
      · cases h
    subst hq5
    rw [h.blk hc, hc])
  exact Kd.R_mono h2 (fun _ hk => hk.1)
set_option maxRecDepth 100000 in
set_option maxHeartbeats 4000000 in
theorem at_yes (h : St w0 W gc gb gp m D) (n : Nat) (hn : n < m.g.B) :
    Calls Tryd.prog 49 #[cp gc, .int .i64 n] W fun e w' => e = .returned (bp gb n) ∧ Below W.heap.size W w' := by
  have c4 : W.cell? ⟨gc, 4, none⟩ = some (.slice (some ⟨gb, 0, none⟩) m.g.B m.g.B) := h.cellC 4
  have d1 : decide ((n : Int) < 0) = false := decide_eq_false (by omega)
  have d2 : decide ((m.g.B : Int) ≤ (n : Int)) = false := decide_eq_false (by omega)
  have d3 : decide (m.g.B ≤ n) = false := decide_eq_false (by omega)
  have hq : (n < m.g.B) = True := eq_true hn
  clear h
  go_enter Tryd.func49, Tryd.ntmps49
  go_wp2
  go_ret
  exact ⟨rfl, Below.refl _ _⟩
set_option maxRecDepth 100000 in
set_option maxHeartbeats 4000000 in
theorem at_no (h : St w0 W gc gb gp m D) (n : Int) (hn : n < 0 ∨ m.g.B ≤ n) :
    Calls Tryd.prog 49 #[cp gc, .int .i64 n] W fun e w' => e = .returned (.pointer none) ∧ Below W.heap.size W w' := by
  have c4 : W.cell? ⟨gc, 4, none⟩ = some (.slice (some ⟨gb, 0, none⟩) m.g.B m.g.B) := h.cellC 4
  clear h
  by_cases h0 : n < 0
  · have d1 : decide (n < 0) = true := decide_eq_true h0
    go_enter Tryd.func49, Tryd.ntmps49
    go_wp2
    go_ret
    exact ⟨rfl, Below.refl _ _⟩
  · have d1 : decide (n < 0) = false := decide_eq_false h0
    have d2 : decide ((m.g.B : Int) ≤ n) = true := decide_eq_true (by omega)
    go_enter Tryd.func49, Tryd.ntmps49
    go_wp2
    go_ret
    exact ⟨rfl, Below.refl _ _⟩
set_option maxRecDepth 100000 in
theorem at_nil (n : Int) (W : World) :
    Calls Tryd.prog 49 #[.pointer none, .int .i64 n] W fun e w' => e = .returned (.pointer none) ∧ Below W.heap.size W w' := by
  go_enter Tryd.func49, Tryd.ntmps49
  go_wp2
  go_ret
  exact ⟨rfl, Below.refl _ _⟩
set_option maxRecDepth 100000 in
set_option maxHeartbeats 4000000 in
theorem ready_yes (h : St w0 W gc gb gp m D) (hoff : m.off = false) (n : Nat) (hn : n < m.g.B) :
    Calls Tryd.prog 33 #[cp gc, .int .i64 n] W fun e w' => e = .returned (.tuple #[bp gb n, .int .i64 0]) ∧ Below W.heap.size W w' := by
  have c7 : ∀ w', Below W.heap.size W w' → w'.cell? ⟨gc, 7, none⟩ = some (.bool false) := fun w' hb => cell_below (by rw [h.cellC 7]; simp [cC, hoff]) hb
  have HA := Aside0.mk (at_yes h n hn)
  have HC := Aside0.mk c7
  clear h hoff c7
  go_enter Tryd.func33, Tryd.ntmps33
  go_wp2_with (first
    | (go_at_call 49; (with_reducible refine HA.out.mono ?_); rintro e w1 ⟨rfl, hb1⟩; have HB1 := Aside0.mk hb1; have z7 := HC.out w1 hb1; clear hb1))
  go_ret2
  exact ⟨rfl, HB1.out⟩
set_option maxRecDepth 100000 in
set_option maxHeartbeats 4000000 in
theorem ready_no (h : St w0 W gc gb gp m D) (hoff : m.off = false) (n : Int) (hn : n < 0 ∨ m.g.B ≤ n) :
    Calls Tryd.prog 33 #[cp gc, .int .i64 n] W fun e w' => e = .returned (.tuple #[.pointer none, .int .i64 22]) ∧ Below W.heap.size W w' := by
  have c7 : ∀ w', Below W.heap.size W w' → w'.cell? ⟨gc, 7, none⟩ = some (.bool false) := fun w' hb => cell_below (by rw [h.cellC 7]; simp [cC, hoff]) hb
  have HA := Aside0.mk (at_no h n hn)
  have HC := Aside0.mk c7
  clear h hoff c7
  go_enter Tryd.func33, Tryd.ntmps33
  go_wp2_with (first
    | (go_at_call 49; (with_reducible refine HA.out.mono ?_); rintro e w1 ⟨rfl, hb1⟩; have HB1 := Aside0.mk hb1; have z7 := HC.out w1 hb1; clear hb1))
  go_ret2
  exact ⟨rfl, HB1.out⟩
set_option maxRecDepth 100000 in
set_option maxHeartbeats 4000000 in
theorem ready_off (h : St w0 W gc gb gp m D) (hoff : m.off = true) (n : Int) :
    Calls Tryd.prog 33 #[cp gc, .int .i64 n] W fun e w' => e = .returned (.tuple #[.pointer none, .int .i64 6]) ∧ Below W.heap.size W w' := by
  have c7 : ∀ w', Below W.heap.size W w' → w'.cell? ⟨gc, 7, none⟩ = some (.bool true) := fun w' hb => cell_below (by rw [h.cellC 7]; simp [cC, hoff]) hb
  have hat : ∃ v : Value, Calls Tryd.prog 49 #[cp gc, .int .i64 n] W fun e w' => e = .returned v ∧ Below W.heap.size W w' := by
    by_cases hn : 0 ≤ n ∧ n < m.g.B
    · obtain ⟨k, rfl⟩ : ∃ k : Nat, n = (k : Int) := ⟨n.toNat, by omega⟩
      exact ⟨_, at_yes h k (by omega)⟩
    · exact ⟨_, at_no h n (by omega)⟩
  obtain ⟨v, hat⟩ := hat
  have HA := Aside0.mk hat
  have HC := Aside0.mk c7
  clear h hoff c7 hat
  go_enter Tryd.func33, Tryd.ntmps33
  go_wp2_with (first
    | (go_at_call 49; (with_reducible refine HA.out.mono ?_); rintro e w1 ⟨rfl, hb1⟩; have HB1 := Aside0.mk hb1; have z7 := HC.out w1 hb1; clear hb1))
  go_ret2
  exact ⟨rfl, HB1.out⟩
set_option maxRecDepth 100000 in
theorem ready_nil (n : Int) (W : World) :
    Calls Tryd.prog 33 #[.pointer none, .int .i64 n] W fun e w' => e = .returned (.tuple #[.pointer none, .int .i64 14]) ∧ Below W.heap.size W w' := by
  go_enter Tryd.func33, Tryd.ntmps33
  go_wp2_with (first
    | (go_at_call 49; (with_reducible refine (at_nil n _).mono ?_); rintro e w1 ⟨rfl, hb1⟩; have HB1 := Aside0.mk hb1; clear hb1))
  go_ret2
  exact ⟨rfl, HB1.out⟩
/-! ### what only looks -/
set_option maxRecDepth 100000 in
set_option maxHeartbeats 4000000 in
theorem next_yes (h : St w0 W gc gb gp m D) (n : Nat) (hn : n < m.g.B) :
    Calls Tryd.prog 24 #[cp gc, .int .i64 n] W fun e w' => e = .returned (.int .i64 (m.bk n).nx) ∧ Below W.heap.size W w' := by
  have c3 : ∀ w', Below W.heap.size W w' → w'.cell? ⟨gb, n * 4 + 3, none⟩ = some (.int .i64 (m.bk n).nx) := fun w' hb => cell_below (h.cellB n hn).2.2.2 hb
  have HA := Aside0.mk (at_yes h n hn)
  have HC := Aside0.mk c3
  clear h c3
  go_enter Tryd.func24, Tryd.ntmps24
  go_wp2_with (first
    | (go_at_call 49; (with_reducible refine HA.out.mono ?_); rintro e w1 ⟨rfl, hb1⟩; have HB1 := Aside0.mk hb1; have z7 := HC.out w1 hb1; clear hb1))
  go_ret
  exact ⟨rfl, HB1.out⟩
set_option maxRecDepth 100000 in
theorem next_no (h : St w0 W gc gb gp m D) (n : Int) (hn : n < 0 ∨ m.g.B ≤ n) :
    Calls Tryd.prog 24 #[cp gc, .int .i64 n] W fun e w' => e = .returned (.int .i64 0) ∧ Below W.heap.size W w' := by
  have HA := Aside0.mk (at_no h n hn)
  clear h
  go_enter Tryd.func24, Tryd.ntmps24
  go_wp2_with (first
    | (go_at_call 49; (with_reducible refine HA.out.mono ?_); rintro e w1 ⟨rfl, hb1⟩; have HB1 := Aside0.mk hb1; clear hb1))
  go_ret
  exact ⟨rfl, HB1.out⟩
set_option maxRecDepth 100000 in
theorem on_is (h : St w0 W gc gb gp m D) : Calls Tryd.prog 36 #[cp gc] W fun e w' => e = .returned (.bool !m.off) ∧ Below W.heap.size W w' := by
  have c7 : W.cell? ⟨gc, 7, none⟩ = some (.bool m.off) := h.cellC 7
  clear h
  go_enter Tryd.func36, Tryd.ntmps36
  go_wp2
  go_ret
  exact ⟨rfl, Below.refl _ _⟩

set_option maxRecDepth 100000 in
set_option maxHeartbeats 4000000 in
theorem bad_yes (h : St w0 W gc gb gp m D) (n : Nat) (hn : n < m.g.B) :
    Calls Tryd.prog 23 #[cp gc, .int .i64 n] W fun e w' => e = .returned (.bool (m.bk n).bad) ∧ Below W.heap.size W w' := by
  have c3 : ∀ w', Below W.heap.size W w' → w'.cell? ⟨gb, n * 4, none⟩ = some (.bool (m.bk n).bad) := fun w' hb => cell_below (h.cellB n hn).1 hb
  have HA := Aside0.mk (at_yes h n hn)
  have HC := Aside0.mk c3
  clear h c3
  go_enter Tryd.func23, Tryd.ntmps23
  go_wp2_with (first
    | (go_at_call 49; (with_reducible refine HA.out.mono ?_); rintro e w1 ⟨rfl, hb1⟩; have HB1 := Aside0.mk hb1; have z7 := HC.out w1 hb1; clear hb1))
  go_ret
  exact ⟨rfl, HB1.out⟩
set_option maxRecDepth 100000 in
theorem bad_no (h : St w0 W gc gb gp m D) (n : Int) (hn : n < 0 ∨ m.g.B ≤ n) :
    Calls Tryd.prog 23 #[cp gc, .int .i64 n] W fun e w' => e = .returned (.bool false) ∧ Below W.heap.size W w' := by
  have HA := Aside0.mk (at_no h n hn)
  clear h
  go_enter Tryd.func23, Tryd.ntmps23
  go_wp2_with (first
    | (go_at_call 49; (with_reducible refine HA.out.mono ?_); rintro e w1 ⟨rfl, hb1⟩; have HB1 := Aside0.mk hb1; clear hb1))
  go_ret
  exact ⟨rfl, HB1.out⟩
end Go.Proofs.YtdlimghdimkadaaDoor.PAll

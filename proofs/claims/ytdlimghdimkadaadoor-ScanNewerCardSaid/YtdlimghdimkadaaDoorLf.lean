/- scan.Find, scan.Least. -/
import Derived.Test.YtdlimghdimkadaaDoorLe
namespace Go.Proofs.YtdlimghdimkadaaDoor.PAll
open Go Go.RowKit Go.Shelf Go.Proofs.YtdlimghdimkadaaDoorW.PrintWords
set_option linter.unusedSimpArgs false
set_option linter.unusedVariables false
attribute [local go_sem] Oper.semAt_some
theorem box6_own {β : Type} (B : Nat) (t : TypeId) (cs : Array Value) : Own (fun (_ : β) W => W.heap[B]? = some (.cells cs t (0, 0))) := fun s X Y row hs hg hrow =>
  (hg.block B (Array.getElem?_eq_some_iff.1 hs).1 (fun e' => by obtain ⟨o, ho, hc⟩ := hrow B e'.symm; rw [hs] at ho; cases ho; cases hc)).trans hs
set_option maxRecDepth 100000 in
set_option maxHeartbeats 4000000 in
theorem Find_in (F : Fence) (n : Nat) (h7 : F.fn 7) (h27 : F.fn 27) (h50 : F.fn 50) (hro : F.round = none) (hn : 4 ≤ n) (A : Option Addr) (c : Nat) (xs : List Blk) (leb : Int) (w : World) (hr : Kd.C kBlk w A xs.length xs) (hlen : xs.length ≤ 4611686018427387904) :
    CallsIn F n Tryd.prog 7 #[.slice A xs.length c, .int .i64 leb] w fun e W' => e = .returned (.int .i64 (findL leb xs 0)) ∧ Below w.heap.size w W' := by
  have h1 : 1 ≤ n := by omega
  refine callsIn_of_wp_marks Tryd.func7 rfl h7 ?_ hro
  simp only [Tryd.ntmps7, List.size_toArray, List.length_cons, List.length_nil, Nat.reduceAdd, Nat.reduceSub, Array.replicate_succ, Array.replicate_zero, List.push_toArray, List.append_toArray, List.nil_append, List.cons_append]
  gi_wp2_with (gi_at_call 27; refine (blocks_in F (n - 1) h27 hro _ _ _ _ _).mono ?_; rintro e w' ⟨rfl, rfl⟩)
  have bK := (((Boxed.new w 3 (.int .i64 leb)).alloc (.cells #[.int .i64 0] 3)).alloc (.cells #[.slice A xs.length c] 23)).alloc (.cells #[.int .i64 4] 3)
  have bR := ((Boxed.new (w.alloc (.cells #[.int .i64 leb] 3)) 3 (.int .i64 0)).alloc (.cells #[.slice A xs.length c] 23)).alloc (.cells #[.int .i64 4] 3)
  have bS := (Boxed.new ((w.alloc (.cells #[.int .i64 leb] 3)).alloc (.cells #[.int .i64 0] 3)) 23 (.slice A xs.length c)).alloc (.cells #[.int .i64 4] 3)
  have bT := Boxed.new (((w.alloc (.cells #[.int .i64 leb] 3)).alloc (.cells #[.int .i64 0] 3)).alloc (.cells #[.slice A xs.length c] 23)) 3 (.int .i64 4)
  simp only [World.size_alloc] at bK bR bS bT
  have hB0 : Below w.heap.size w ((((w.alloc (.cells #[.int .i64 leb] 3)).alloc (.cells #[.int .i64 0] 3)).alloc (.cells #[.slice A xs.length c] 23)).alloc (.cells #[.int .i64 4] 3)) := ((((Below.refl _ w).alloc (Nat.le_refl _) _).alloc (by simp) _).alloc (by simp; omega) _).alloc (by simp; omega) _
  have hsz : ((((w.alloc (.cells #[.int .i64 leb] 3)).alloc (.cells #[.int .i64 0] 3)).alloc (.cells #[.slice A xs.length c] 23)).alloc (.cells #[.int .i64 4] 3)).heap.size = w.heap.size + 4 := by simp
  obtain ⟨W0, hW0⟩ : ∃ W0, (((w.alloc (.cells #[.int .i64 leb] 3)).alloc (.cells #[.int .i64 0] 3)).alloc (.cells #[.slice A xs.length c] 23)).alloc (.cells #[.int .i64 4] 3) = W0 := ⟨_, rfl⟩
  rw [hW0] at bK bR bS bT hB0 hsz ⊢
  clear hW0
  refine range_blocks hro (by omega) h50 (w.heap.size + 1 + 1) (w.heap.size + 1 + 1 + 1) 4 A c xs rfl rfl hlen
    (fun pre W => (((∀ p ∈ pre, ¬ p.1.2.f2 = leb) ∧ Boxed W w.heap.size 3 (.int .i64 leb)) ∧ Boxed W (w.heap.size + 1) 3 (.int .i64 0)) ∧ (Boxed W (w.heap.size + 1 + 1) 23 (.slice A xs.length c) ∧ Boxed W (w.heap.size + 1 + 1 + 1) 3 (.int .i64 4)) ∧ Below w.heap.size w W)
    (fun pre W => (∃ ini last, pre = ini ++ [last] ∧ (∀ p ∈ ini, ¬ p.1.2.f2 = leb) ∧ last.1.2.f2 = leb ∧ Boxed W (w.heap.size + 1) 3 (.int .i64 (last.1.1 : Int))) ∧ Below w.heap.size w W)
    (OwnFrom.and (OwnFrom.and (OwnFrom.and (ownFrom_pure _ _) (Own.from (boxed_own _ _ _) _)) (Own.from (boxed_own _ _ _) _)) (OwnFrom.and (OwnFrom.and (Own.from (boxed_own _ _ _) _) (Own.from (boxed_own _ _ _) _)) (ownFrom_below (Nat.le_refl _) (by omega))))
    (OwnFrom.and (Own.from (fun s X Y row hs hg hrow => by obtain ⟨ini, last, e1, e2, e3, e4⟩ := hs; exact ⟨ini, last, e1, e2, e3, boxed_own (w.heap.size + 1) 3 (fun (_ : Unit) => Value.int .i64 (last.1.1 : Int)) () X Y row e4 hg hrow⟩) _) (ownFrom_below (Nat.le_refl _) (by omega)))
    (fun pre W' h => h.2.1.1.cell) (fun pre W' h => h.2.1.2.cell) (fun k W' h hi => entry_of (Kd.C_below hr hi.2.2) k h)
    ⟨⟨⟨by simp, bK⟩, bR⟩, ⟨bS, bT⟩, hB0⟩
    (fun x a' W => ∃ Bx, w.heap.size + 4 ≤ Bx ∧ W.heap[Bx]? = some (.cells (bC x.1.2) 49 (0, 0)) ∧ a' = { tmps := #[.slice A xs.length c, .int .i64 leb, undef, .pointer (some ⟨w.heap.size, 0, none⟩), .pointer (some ⟨w.heap.size + 1, 0, none⟩), .int .i64 (x.1.1 : Int), .pointer (some ⟨Bx, 0, none⟩), .slice A xs.length c, .func (.func 50) #[] #[.pointer (some ⟨w.heap.size + 1 + 1, 0, none⟩), .pointer (some ⟨w.heap.size + 1 + 1 + 1, 0, none⟩)], .int .i64 (x.1.1 : Int), .agg (bC x.1.2), undef, undef, undef, undef, undef], defers := [] })
    (fun x a' _ X Y row hs hg hrow => by obtain ⟨Bx, h1, h2, h3⟩ := hs; exact ⟨Bx, h1, box6_own (β := Unit) Bx 49 (bC x.1.2) () X Y row h2 hg (fun r e => (hrow r e).2), h3⟩)
    ?assign ?body ?done ?stop
  case assign =>
    rintro l pre x W K ⟨⟨⟨hp, bK1⟩, bR1⟩, ⟨bS1, bT1⟩, hB1⟩ hK
    have hu49 := Tryd.underlying49
    have hs1 : w.heap.size + 1 + 1 + 1 < W.heap.size := (Array.getElem?_eq_some_iff.1 (show W.heap[w.heap.size + 1 + 1 + 1]? = _ from bT1)).1
    simp only [encE]
    gi_wp2
    exact hK _ _ ((KeepsOthers.alloc _ _).from _) ⟨⟨⟨hp, bK1.alloc _⟩, bR1.alloc _⟩, ⟨bS1.alloc _, bT1.alloc _⟩, hB1.alloc hB1.size _⟩ ⟨W.heap.size, by omega, World.alloc_heap_new W _, rfl⟩
  case body =>
    rintro l pre x a' W ⟨⟨⟨hp, bK1⟩, bR1⟩, ⟨bS1, bT1⟩, hB1⟩ ⟨Bx, hBx, bX, rfl⟩ hlt
    have cK := bK1.cell
    have fR := bR1.frozen
    have cR := bR1.cell
    have cX : W.cell? ⟨Bx, 2, none⟩ = some (.int .i64 x.1.2.f2) := Joins.cell_of_block bX 2
    by_cases hle : x.1.2.f2 = leb
    · have e1 : (x.1.2.f2 == leb) = true := by simp only [beq_iff_eq]; exact hle
      have HLE := Aside0.mk hle
      clear hle
      gi_wp2
      exact ⟨(KeepsOthers.setCell _ _ _).from _, ⟨pre, x, rfl, hp, HLE.out, bR1.set _⟩, hB1.setCell (p := ⟨w.heap.size + 1, 0, none⟩) (by simp) _⟩
    · have e1 : (x.1.2.f2 == leb) = false := by simp only [beq_eq_false_iff_ne]; exact hle
      have HLE := Aside0.mk hle
      clear hle
      gi_wp2
      exact ⟨KeepsFrom.refl _ _, ⟨⟨fun p hp' => (List.mem_append.1 hp').elim (hp p) (fun e => by simp at e; subst e; exact HLE.out), bK1⟩, bR1⟩, ⟨bS1, bT1⟩, hB1⟩
  case done =>
    rintro W ⟨⟨⟨hp, bK1⟩, bR1⟩, ⟨bS1, bT1⟩, hB1⟩ hK
    have hcr := bR1.cell
    have hfr := bR1.frozen
    gi_wp2
    have hK' := (KeepsOthers.setCell W ⟨w.heap.size + 1, 0, none⟩ (.int .i64 (-1))).same W0.heap.size _ hK rfl
    refine ⟨by simp, .inl ⟨_, _, rfl, run_takeDeferred hK', ?_⟩⟩
    have hc5 := cell_kept (World.cell?_setCell_same' W ⟨w.heap.size + 1, 0, none⟩ (.int .i64 (-1)) (by rw [hcr]; rfl)) (grownBy_putObj' _ W0.heap.size (.deferred none)) (fun r e => by cases e; exact ⟨_, hK', rfl⟩)
    refine ⟨.int .i64 (-1), ?_, ?_, (hB1.setCell (p := ⟨w.heap.size + 1, 0, none⟩) (by simp) _).trans (belowK_b (w := w) (Nat.le_refl _) _ W0.heap.size _ _ (by omega) hK' rfl rfl)⟩
    · simp [results, Tryd.f7, go_sem, hc5]
    · rw [findL_miss leb xs 0 (fun i h hh => hp _ (fil_in h hh.1 h) hh.2)]
  case stop =>
    rintro k hk W hs ⟨⟨ini, last, e1, e2, e3, bR1⟩, hB⟩ hK
    gi_wp2
    refine ⟨by simp, .inl ⟨_, _, rfl, run_takeDeferred hK, ?_⟩⟩
    have hc5 := cell_kept bR1.cell (grownBy_putObj' _ W0.heap.size (.deferred none)) (fun r e => by cases e; exact ⟨_, hK, rfl⟩)
    obtain ⟨rfl, e5⟩ := List.append_inj' e1 rfl
    obtain rfl : entAt xs k hk = last := by simpa using e5
    refine ⟨.int .i64 (k : Int), ?_, ?_, hB.trans (belowK_b (w := w) (Nat.le_refl _) W W0.heap.size _ _ (by omega) hK rfl rfl)⟩
    · simp [results, Tryd.f7, go_sem, hc5, entAt]
    · rw [findL_hit leb xs 0 k hk hs e3 (fun i h hi hh => e2 _ (fil_in h hh.1 hi) hh.2), Nat.zero_add]
end Go.Proofs.YtdlimghdimkadaaDoor.PAll

/- A range over scan.blocks: the law, for a loop whose rounds may write into the list. -/
import Derived.Test.YtdlimghdimkadaaDoorLc
namespace Go.Proofs.YtdlimghdimkadaaDoor.PAll
open Go Go.RowKit Go.Shelf Go.Proofs.YtdlimghdimkadaaDoorW.PrintWords
set_option linter.unusedSimpArgs false
set_option linter.unusedVariables false
/-- What lies in the two blocks of a loop's book-keeping. -/
def Desk (D : Nat) (r : Loop) (W : World) : Prop := W.heap[D + 1]? = some (.loop r) ∧ W.heap[D]? = some (.deferred (some []))
theorem Desk.lt {D : Nat} {r : Loop} {W : World} (h : Desk D r W) : D + 1 < W.heap.size := (Array.getElem?_eq_some_iff.1 h.1).1
theorem Desk.put {D : Nat} {r : Loop} {W : World} (h : Desk D r W) (r' : Loop) : Desk D r' (W.putObj (D + 1) (.loop r')) :=
  ⟨World.putObj_heap_same h.lt, (World.putObj_heap_other (by omega)).trans h.2⟩
theorem Desk.keeps {D : Nat} {r : Loop} {W W' : World} (h : Desk D r W) (k : KeepsFrom D W W') : Desk D r W' := ⟨k.same _ _ (by omega) h.1 rfl, k.same _ _ (Nat.le_refl _) h.2 rfl⟩
theorem Desk.alloc {D : Nat} {r : Loop} {W : World} (h : Desk D r W) (o : Obj) : Desk D r (W.alloc o) := h.keeps ((KeepsOthers.alloc _ _).from _)
theorem Desk.own {B D : Nat} {r : Loop} {W : World} {β : Type} {I : β → World → Prop} (hI : OwnFrom B I) (hB : B ≤ D) (h : Desk D r W) {s : β} (hs : I s W) (r' : Loop) : I s (W.putObj (D + 1) (.loop r')) :=
  hI.putObj _ hs (by omega) h.1 rfl
/-- How a round's body may be left. -/
def rPost {α : Type} (B : Nat) (I Ix : List α → World → Prop) (xs : List α) (W : World) : Exit → Act → World → Prop
  | .normal, _, W' => KeepsFrom B W W' ∧ I xs W'
  | .ret, _, W' => KeepsFrom B W W' ∧ Ix xs W'
  | _, _, _ => False
theorem range_blocks {F : Fence} {n : Nat} {g : Operand} {ps : Array Tmp} {assign body : Code} {Q : Exit → Act → World → Prop} {a : Act} {w : World}
    (hro : F.round = none) (h1 : 3 ≤ n) (hF : F.fn 50) (Bs Bt : Nat) (st : Int) (A : Option Addr) (c : Nat) (xs : List Blk)
    (hg : a.eval g = .func (.func 50) #[] #[.pointer (some ⟨Bs, 0, none⟩), .pointer (some ⟨Bt, 0, none⟩)]) (hps : ps.size = 2) (hlen : xs.length ≤ 4611686018427387904)
    (I Ix : List (Ent xs) → World → Prop) (hI : OwnFrom w.heap.size I) (hIx : OwnFrom w.heap.size Ix)
    (hBs : ∀ pre W', I pre W' → W'.cell? ⟨Bs, 0, none⟩ = some (.slice A xs.length c)) (hBt : ∀ pre W', I pre W' → W'.cell? ⟨Bt, 0, none⟩ = some (.int .i64 st))
    (hE : ∀ k W', (h : k < xs.length) → I (fil xs st k) W' → Entry W' A k xs[k]) (h0 : I [] w)
    (Ax : Ent xs → Act → World → Prop) (hAx : ∀ x a', OwnFrom w.heap.size (fun (_ : Unit) W => Ax x a' W))
    (hassign : ∀ (l : Nat) (pre : List (Ent xs)) (x : Ent xs) (W : World) (K : Act → World → Prop), I pre W → (∀ a' W', KeepsFrom w.heap.size W W' → I pre W' → Ax x a' W' → K a' W') →
      assign.wpIn (F.inRound l) (n - 1 - 1) Tryd.prog (Exit.then K (fun _ _ _ => False)) { tmps := (ps.zip (encE x)).foldl (fun t (p, v) => t.setIfInBounds p v) a.tmps, defers := [] } W)
    (hbody : ∀ (l : Nat) (pre : List (Ent xs)) (x : Ent xs) (a' : Act) (W : World), I pre W → Ax x a' W → pre.length < xs.length → body.wpIn (F.inRound l) (n - 1 - 1) Tryd.prog (rPost w.heap.size I Ix (pre ++ [x]) W) a' W)
    (hdone : ∀ (W : World), I (fil xs st xs.length) W → W.heap[w.heap.size]? = some (.deferred (some [])) → Q .normal { a with defers := { target := .collected w.heap.size, args := #[] } :: a.defers } W)
    (hstop : ∀ (k : Nat) (h : k < xs.length) (W : World), xs[k].f0 = st → Ix (fil xs st k ++ [entAt xs k h]) W → W.heap[w.heap.size]? = some (.deferred (some [])) → Code.ret.wpIn F n Tryd.prog Q { a with defers := { target := .collected w.heap.size, args := #[] } :: a.defers } W) :
    (Code.rangeFunc g ps assign body).wpIn F n Tryd.prog Q a w := by
  refine wpIn_rangeFunc fun fn hfn => ?_
  rw [hro]
  have e1 := run_enterLoop_outer (P := Tryd.prog) (w := w) fn a.tmps ps assign body
  obtain ⟨R, hR⟩ : ∃ R : LoopState → Option Code → Loop, R = fun s j => { state := s, pending := j, fn, tmps := a.tmps, params := ps, assign, body, defers := w.heap.size } := ⟨_, rfl⟩
  have hsz : w.heap.size + 1 = (w.alloc (.deferred (some []))).heap.size := by simp
  have d1 : Desk w.heap.size (R .ready none) ((w.alloc (.deferred (some []))).alloc (.loop (R .ready none))) :=
    ⟨by rw [hsz]; exact World.alloc_heap_new _ _, (Below.heap_alloc _ _ _ (by simp)).trans (World.alloc_heap_new w _)⟩
  have i1 : I [] ((w.alloc (.deferred (some []))).alloc (.loop (R .ready none))) := hI.alloc _ (hI.alloc _ h0)
  have e2 : (w.alloc (.deferred (some []))).alloc (.loop (R .ready none)) = (w.alloc (.deferred (some []))).alloc (.loop { state := .ready, pending := none, fn, tmps := a.tmps, params := ps, assign, body, defers := w.heap.size }) := by rw [hR]
  rw [← e2] at e1
  generalize (w.alloc (.deferred (some []))).alloc (.loop (R .ready none)) = W1 at e1 d1 i1
  clear e2
  refine ⟨w.heap.size + 1, _, W1, { target := .fn (.func 50) #[.pointer (some ⟨Bs, 0, none⟩), .pointer (some ⟨Bt, 0, none⟩)], args := #[.func (.yield (w.heap.size + 1)) #[] #[]] }, W1, 50,
    #[.func (.yield (w.heap.size + 1)) #[] #[], .pointer (some ⟨Bs, 0, none⟩), .pointer (some ⟨Bt, 0, none⟩)], W1, e1, ?_, ?_, ?_, fun _ => by omega, ?_⟩
  · simp only [resolve, hg]
    simp [go_sem]
  · intro f' hf'
    simp [Target.leads] at hf'
    subst hf'
    exact hF
  · have eg := enters_of (P := Tryd.prog) (f := 50) Tryd.func50 (by kernel_rfl) rfl
    simp [invoke, go_sem, eg]
  · refine (blocks1_in F (n - 1) hF hro (by omega) (w.heap.size + 1) Bs Bt st A c xs W1
      (fun pre W => I pre W ∧ Desk w.heap.size (R .ready none) W) (fun pre W => Ix pre W ∧ Desk w.heap.size (R .done (some .ret)) W)
      (fun pre W o h => ⟨hI.alloc _ h.1, h.2.alloc _⟩) (fun k W' h hj => hE k W' h hj.1) ?_ hlen (hBs _ _ i1) (fun pre W' h => hBt pre W' h.1) ⟨i1, d1⟩).mono ?_
    · rintro pre x W ⟨hi, hd⟩ hl
      have hy := run_yield (P := Tryd.prog) (args := encE x) hd.1 (by rw [hR]; exact hps.symm)
      simp only [hR] at hy
      refine ⟨fn, _, assign, body, hy, roundIn_of_wpIn hfn (hassign _ pre x W _ hi fun a' Wa hka hia hax => ?_)⟩
      have hda := hd.keeps hka
      refine ⟨_, run_beginRound hda.1 (by rw [hR]), ?_⟩
      refine wpIn_mono (hbody _ pre x a' _ (hda.own hI (Nat.le_refl _) hia _) ((hAx x a').putObj (s := ()) _ hax (by omega) hda.1 rfl) hl) ?_
      have hdb := hda.put { R .ready none with state := .busy }
      rintro e a3 W3 hp
      cases e with
      | normal =>
        obtain ⟨hk3, hi3⟩ := hp
        have hd3 := hdb.keeps hk3
        have hr := run_endRound (P := Tryd.prog) none hd3.1
        refine ⟨_, _, hr, .inl ⟨rfl, hd3.own hI (Nat.le_refl _) hi3 _, ?_⟩⟩
        have := hd3.put (R .ready none)
        rw [hR] at this ⊢
        exact this
      | ret =>
        obtain ⟨hk3, hi3⟩ := hp
        have hd3 := hdb.keeps hk3
        have hr := run_endRound (P := Tryd.prog) (some .ret) hd3.1
        refine ⟨_, _, hr, .inr ⟨rfl, hd3.own hIx (Nat.le_refl _) hi3 _, ?_⟩⟩
        have := hd3.put (R .done (some .ret))
        rw [hR] at this ⊢
        exact this
      | exit id => exact hp.elim
      | goto t => exact hp.elim
      | panic ch => exact hp.elim
      | outgrown => exact hp.elim
    · rintro e W2 ⟨⟨v, rfl⟩, (⟨ys, rfl, hi, hd⟩ | ⟨pre, ⟨k, hk, hs, rfl⟩, hi, hd⟩)⟩
      · have he := run_endLoop (P := Tryd.prog) hd.1 (by rw [hR]; simp)
        have hp : (R .ready none).pending = none := by rw [hR]
        rw [hp] at he
        refine ⟨none, _, he, hdone _ (hd.own hI (Nat.le_refl _) hi _) (hd.put _).2⟩
      · have he := run_endLoop (P := Tryd.prog) hd.1 (by rw [hR]; simp)
        have hp : (R .done (some .ret)).pending = some .ret := by rw [hR]
        rw [hp] at he
        refine ⟨some .ret, _, he, hstop k hk _ hs (hd.own hIx (Nat.le_refl _) hi _) (hd.put _).2⟩
end Go.Proofs.YtdlimghdimkadaaDoor.PAll

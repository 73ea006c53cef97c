import Derived.RangeFuncNested
import Derived.RangeFuncBound
import Derived.RangeFuncCalls
import Derived.RangeFuncLeaves
import Derived.Shelf.Abstract
import Derived.Shelf.RegionOpen
import Derived.WalkKit
import Derived.OwnWalkIn
import Derived.TacticsInMore
import Derived.LoopNIn
import Derived.LoopIn
import Derived.Laws.Cover1
import Derived.Test.YtpllpagbdmikpaaHh
namespace Go.Proofs.Ytpllpagbdmikpaa.PAll
open Go Go.RowKit Go.Shelf Go.Proofs.YtpllpagbdmikpaaW.PrintWords
attribute [local go_sem] Oper.semAt_some
/-! ### slices.Backward, image.Child -/
def uptoF {α : Type} (f : Nat → α) (k : Nat) : List α := (List.range k).map f
theorem uptoF_succ {α : Type} (f : Nat → α) (k : Nat) : uptoF f (k + 1) = uptoF f k ++ [f k] := by simp [uptoF, List.range_succ]
theorem uptoF_length {α : Type} (f : Nat → α) (k : Nat) : (uptoF f k).length = k := by simp [uptoF]
def enc69 (x : Nat × S69) : Array Value := #[.int .i64 (x.1 : Int), .agg #[.string x.2.f0, .int .i64 x.2.f1.f0, .int .i64 x.2.f1.f1, .int .i64 x.2.f1.f2]]
def backF (l : List S69) (t : Nat) : Nat × S69 := (l.length - 1 - t, l.getD (l.length - 1 - t) z69)
set_option maxRecDepth 100000 in
set_option maxHeartbeats 4000000 in
theorem back1_in (F : Fence) (n : Nat) (h44 : F.fn 44) (hro : F.round = none) (hn : 1 ≤ n) (l Bs : Nat) (w0 : World) (A : Option Addr) (c : Nat) (xs : List S69) (hr : Kd.C k69 w0 A xs.length xs) (J Jx : List (Nat × S69) → World → Prop)
    (hY : ∀ pre x W, J pre W → pre.length < xs.length → YieldAt F (n - 1) Try.prog l (enc69 x) W fun e W' =>
      (e = .returned (.bool true) ∧ J (pre ++ [x]) W' ∧ Below w0.heap.size W W') ∨ (e = .returned (.bool false) ∧ Jx (pre ++ [x]) W'))
    (W : World) (hW : Below w0.heap.size w0 W) (hBs : W.cell? ⟨Bs, 0, none⟩ = some (.slice A xs.length c)) (hBl : Bs < w0.heap.size ∨ (∀ W', Below w0.heap.size W W' → W'.cell? ⟨Bs, 0, none⟩ = some (.slice A xs.length c))) (h0 : J [] W) :
    CallsIn F n Try.prog 44 #[.func (.yield l) #[] #[], .pointer (some ⟨Bs, 0, none⟩)] W fun e W' => (∃ v, e = .returned v) ∧
      ((∃ ys, ys = uptoF (backF xs) xs.length ∧ J ys W') ∨ (∃ pre, (∃ k, k ≤ xs.length ∧ pre = uptoF (backF xs) k) ∧ Jx pre W')) := by
  have hmax := Kd.C_max hr
  have hw0 : IntKind.i64.wrap ((xs.length : Int) - 1) = (xs.length : Int) - 1 := IntWalk.i64_in _ (by omega)
  have hcb : ∀ W', Below w0.heap.size W W' → W'.cell? ⟨Bs, 0, none⟩ = some (.slice A xs.length c) := fun W' hb => by
    rcases hBl with h | h
    · exact (hb.cell (p := ⟨Bs, 0, none⟩) h).trans hBs
    · exact h W' hb
  refine callsIn_of_wp Try.func44 rfl h44 ?_ hro
  simp only [Try.ntmps44, List.size_toArray, List.length_cons, List.length_nil, Nat.reduceAdd, Nat.reduceSub, Array.replicate_succ, Array.replicate_zero, List.push_toArray, List.append_toArray, List.nil_append, List.cons_append]
  gi_wp2
  gi_loopw [3] (fun i wr => ∃ m : Nat, m ≤ xs.length ∧ i = .int .i64 ((m : Int) - 1) ∧ J (uptoF (backF xs) (xs.length - m)) wr ∧ Below w0.heap.size W wr)
    (fun i _ => (intOf i + 1).toNat)
  case atStart => exact ⟨xs.length, Nat.le_refl _, rfl, by rw [Nat.sub_self]; exact h0, Below.refl _ _⟩
  case round =>
    obtain ⟨m, hm, hi, hJs, hnx⟩ := hrel
    have hcs := hcb _ hnx
    cases m with
    | zero =>
      subst hi
      gi_wp2
      go_end0
      exact ⟨⟨_, rfl⟩, .inl ⟨_, rfl, hJs⟩⟩
    | succ j =>
      rw [show ((j + 1 : Nat) : Int) - 1 = (j : Int) from by omega] at hi
      subst hi
      obtain ⟨ad, e0, c0, c1, c2, c3⟩ := at_T69 (Kd.C_below hr (hW.trans hnx)) (j : Int) (by omega) (by omega)
      subst e0
      simp only [Int.toNat_natCast] at c0 c1 c2 c3
      have hx : rd_T69 xs (j : Int) = xs.getD j z69 := rfl
      rw [hx] at c0 c1 c2 c3
      have hj0 : 0 ≤ (j : Int) := by omega
      have hj1 : (j : Int) < (xs.length : Int) := by omega
      have hj2 : j < xs.length := by omega
      have hwj : IntKind.i64.wrap ((j : Int) - 1) = (j : Int) - 1 := IntWalk.i64_in _ (by omega)
      have hb : backF xs (xs.length - (j + 1)) = (j, xs.getD j z69) := by unfold backF; rw [show xs.length - 1 - (xs.length - (j + 1)) = j from by omega]
      obtain ⟨fn, tmps, assign, body, hy, hR⟩ := hY _ (j, xs.getD j z69) wr hJs (by rw [uptoF_length]; omega)
      dsimp only [enc69] at hy
      generalize xs.getD j z69 = s at *
      gi_wp2
      refine hR.mono ?_
      rintro e W3 (⟨rfl, hJ3, hk3⟩ | ⟨rfl, hJx3⟩)
      · gi_wp2
        go_roundw
        case rel => exact ⟨j, by omega, rfl, by rw [show xs.length - j = (xs.length - (j + 1)) + 1 from by omega, uptoF_succ, hb]; exact hJ3, hnx.trans hk3⟩
        case measure => simp [intOf]
      · gi_wp2
        refine bodyPost_ret (results_none rfl _ _ _) rfl ?_
        exact ⟨⟨_, rfl⟩, .inr ⟨_, ⟨xs.length - (j + 1) + 1, by omega, by rw [uptoF_succ, hb]⟩, hJx3⟩⟩
set_option maxHeartbeats 1000000 in
theorem back_in (F : Fence) (n : Nat) (h40 : F.fn 40) (hro : F.round = none) (a : Option Addr) (len cap : Nat) (w : World) :
    CallsIn F n Try.prog 40 #[.slice a len cap] w fun e w' => e = .returned (.func (.func 44) #[] #[.pointer (some ⟨w.heap.size, 0, none⟩)]) ∧ w' = w.alloc (.cells #[.slice a len cap] 25) := by
  refine callsIn_of_wp Try.func40 rfl h40 ?_ hro
  simp only [Try.ntmps40, List.size_toArray, List.length_cons, List.length_nil, Nat.reduceAdd, Nat.reduceSub, Array.replicate_succ, Array.replicate_zero, List.push_toArray, List.append_toArray, List.nil_append, List.cons_append]
  gi_wp2
  go_ret
  exact ⟨rfl, rfl⟩
theorem back_stops (F : Fence) (n : Nat) (h44 : F.fn 44) (hro : F.round = none) (hn : 1 ≤ n) (Bs : Nat) (w0 : World) (A : Option Addr) (c : Nat) (xs : List S69) (hr : Kd.C k69 w0 A xs.length xs) (hBl : Bs < w0.heap.size) (hBs : w0.cell? ⟨Bs, 0, none⟩ = some (.slice A xs.length c)) :
    SeqStopsK F n Try.prog 44 #[.pointer (some ⟨Bs, 0, none⟩)] enc69 (Below w0.heap.size) (fun ys => ys = uptoF (backF xs) xs.length) (fun pre => ∃ k, k ≤ xs.length ∧ pre = uptoF (backF xs) k) xs.length w0 := fun l J Jx W hW _ _ hY h0 =>
  back1_in F n h44 hro hn l Bs w0 A c xs hr J Jx hY W hW ((hW.cell (p := ⟨Bs, 0, none⟩) hBl).trans hBs) (.inl hBl) h0
def leB (s : S69) (key : ByteArray) : Bool := Op.bytesLess s.f0.toList key.toList || s.f0.toList == key.toList
def childN (l : List S69) (key : ByteArray) : Nat → Int
  | 0 => -1
  | m + 1 => if leB (l.getD m z69) key = true then (m : Int) else childN l key m
theorem childN_all {l : List S69} {key : ByteArray} : ∀ {m : Nat}, (∀ j, j < m → leB (l.getD j z69) key = false) → childN l key m = -1
  | 0, _ => rfl
  | m + 1, h => by
    unfold childN
    rw [h m (by omega), if_neg (by simp)]
    exact childN_all (fun j hj => h j (by omega))
theorem childN_at {l : List S69} {key : ByteArray} {k : Nat} (hk : leB (l.getD k z69) key = true) : ∀ {m : Nat}, k < m → (∀ j, k < j → j < m → leB (l.getD j z69) key = false) → childN l key m = (k : Int)
  | 0, h, _ => by omega
  | m + 1, h, ha => by
    unfold childN
    rcases Nat.lt_or_ge k m with h2 | h2
    · rw [ha m h2 (by omega), if_neg (by simp)]
      exact childN_at hk h2 (fun j h3 h4 => ha j h3 (by omega))
    · obtain rfl : k = m := by omega
      rw [if_pos hk]
theorem box4_own {β : Type} (B : Nat) (t : TypeId) (cs : Array Value) : Own (fun (_ : β) W => W.heap[B]? = some (.cells cs t (0, 0))) := fun s X Y row hs hg hrow =>
  (hg.block B (blk_lt hs) (fun e' => by obtain ⟨o, ho, hc⟩ := hrow B e'.symm; rw [hs] at ho; cases ho; cases hc)).trans hs
def cells69 (s : S69) : Array Value := #[.string s.f0, .int .i64 s.f1.f0, .int .i64 s.f1.f1, .int .i64 s.f1.f2]
set_option maxRecDepth 100000 in
set_option maxHeartbeats 4000000 in
theorem Child_in (F : Fence) (n : Nat) (h22 : F.fn 22) (h40 : F.fn 40) (h44 : F.fn 44) (hro : F.round = none) (hn : 3 ≤ n) (lv : Int) (A : Option Addr) (c : Nat) (xs : List S69) (key : ByteArray) (w : World) (hr : Kd.C k69 w A xs.length xs) :
    CallsIn F n Try.prog 22 #[.agg #[.int .i64 lv, .slice A xs.length c], .string key] w fun e W' => e = .returned (.int .i64 (childN xs key xs.length)) ∧ Below w.heap.size w W' := by
  have h1 : 1 ≤ n := by omega
  refine callsIn_of_wp_marks Try.func22 rfl h22 ?_ hro
  simp only [Try.ntmps22, List.size_toArray, List.length_cons, List.length_nil, Nat.reduceAdd, Nat.reduceSub, Array.replicate_succ, Array.replicate_zero, List.push_toArray, List.append_toArray, List.nil_append, List.cons_append]
  gi_wp2_with (gi_at_call 40; refine (back_in F (n - 1) h40 hro _ _ _ _).mono ?_; rintro e w' ⟨rfl, rfl⟩)
  obtain ⟨Ia, hIa⟩ : ∃ Ia, Obj.cells #[Value.int IntKind.i64 lv, Value.slice A xs.length c] 37 = Ia := ⟨_, rfl⟩
  rw [hIa]
  clear hIa
  have bK := ((Boxed.new (w.alloc Ia) 9 (.string key)).alloc (.cells #[.int .i64 0] 3)).alloc (.cells #[.slice A xs.length c] 25)
  have bR := (Boxed.new ((w.alloc Ia).alloc (.cells #[.string key] 9)) 3 (.int .i64 0)).alloc (.cells #[.slice A xs.length c] 25)
  have bN := Boxed.new (((w.alloc Ia).alloc (.cells #[.string key] 9)).alloc (.cells #[.int .i64 0] 3)) 25 (.slice A xs.length c)
  simp only [World.size_alloc] at bK bR bN
  have hB0 : Below w.heap.size w ((((w.alloc Ia).alloc (.cells #[.string key] 9)).alloc (.cells #[.int .i64 0] 3)).alloc (.cells #[.slice A xs.length c] 25)) := ((((Below.refl _ w).alloc (Nat.le_refl _) _).alloc (by simp) _).alloc (by simp; omega) _).alloc (by simp; omega) _
  have hsz : ((((w.alloc Ia).alloc (.cells #[.string key] 9)).alloc (.cells #[.int .i64 0] 3)).alloc (.cells #[.slice A xs.length c] 25)).heap.size = w.heap.size + 4 := by simp
  obtain ⟨W0, hW0⟩ : ∃ W0, (((w.alloc Ia).alloc (.cells #[.string key] 9)).alloc (.cells #[.int .i64 0] 3)).alloc (.cells #[.slice A xs.length c] 25) = W0 := ⟨_, rfl⟩
  rw [hW0] at bK bR bN hB0 hsz ⊢
  clear hW0
  refine wpIn_rangeFunc_ownH hro h1 (gf := 44) (lb := #[.pointer (some ⟨w.heap.size + 1 + 1 + 1, 0, none⟩)]) rfl h44 (enters_of Try.func44 (by kernel_rfl) rfl)
    (back_stops F (n - 1) h44 hro (by omega) (w.heap.size + 1 + 1 + 1) W0 A c xs (Kd.C_below hr hB0) (by omega) bN.cell) belowK_t (belowK_b (Nat.le_refl _)) (Below.refl _ _) (fun _ => rfl)
    (fun pre W => (((∀ p ∈ pre, leB p.2 key = false) ∧ Boxed W (w.heap.size + 1) 9 (.string key)) ∧ Boxed W (w.heap.size + 1 + 1) 3 (.int .i64 0)) ∧ Below W0.heap.size W0 W)
    (fun cd pre W => ((cd = .ret ∧ ∃ ini last, pre = ini ++ [last] ∧ (∀ p ∈ ini, leB p.2 key = false) ∧ leB last.2 key = true ∧ Boxed W (w.heap.size + 1 + 1) 3 (.int .i64 (last.1 : Int)))) ∧ Below w.heap.size w W)
    (OwnFrom.and (OwnFrom.and (OwnFrom.and (ownFrom_pure _ _) (Own.from (boxed_own _ _ _) _)) (Own.from (boxed_own _ _ _) _)) (ownFrom_below (Nat.le_refl _) (Nat.le_refl _)))
    (fun cd => OwnFrom.and (Own.from (fun s X Y row hs hg hrow => by obtain ⟨hc, ini, last, e1, e2, e3, e4⟩ := hs; exact ⟨hc, ini, last, e1, e2, e3, boxed_own (w.heap.size + 1 + 1) 3 (fun (_ : Unit) => Value.int .i64 (last.1 : Int)) () X Y row e4 hg hrow⟩) _) (ownFrom_below (Nat.le_refl _) (by omega)))
    ⟨⟨⟨by simp, bK⟩, bR⟩, Below.refl _ _⟩
    (fun x a' W => ∃ Bx, w.heap.size + 4 ≤ Bx ∧ W.heap[Bx]? = some (.cells (cells69 x.2) 69 (0, 0)) ∧ a' = { tmps := #[.agg #[.int .i64 lv, .slice A xs.length c], .string key, .pointer (some ⟨w.heap.size, 0, none⟩), .pointer (some ⟨w.heap.size + 1, 0, none⟩), .pointer (some ⟨w.heap.size + 1 + 1, 0, none⟩), .int .i64 (x.1 : Int), .pointer (some ⟨Bx, 0, none⟩), .pointer (some ⟨w.heap.size, 1, none⟩), .slice A xs.length c, .func (.func 44) #[] #[.pointer (some ⟨w.heap.size + 1 + 1 + 1, 0, none⟩)], .int .i64 (x.1 : Int), .agg (cells69 x.2), undef, undef, undef, undef, undef], defers := [] })
    (fun x a' _ X Y row hs hg hrow => by obtain ⟨Bx, h1, h2, h3⟩ := hs; exact ⟨Bx, h1, box4_own (β := Unit) Bx 69 (cells69 x.2) () X Y row h2 hg (fun r e => (hrow r e).2), h3⟩)
    ?assign ?body ?done ?stop
  case assign =>
    rintro l pre x W K ⟨⟨⟨hp, bK1⟩, bR1⟩, hB1⟩ hK
    have hu69 := Try.underlying69
    have hu67 := Try.underlying67
    simp only [enc69]
    gi_wp2
    exact hK _ _ ((KeepsOthers.alloc _ _).from _) ((Below.refl _ W).alloc hB1.size _) ⟨⟨⟨hp, bK1.alloc _⟩, bR1.alloc _⟩, hB1.alloc hB1.size _⟩ ⟨W.heap.size, by have := hB1.size; omega, World.alloc_heap_new W _, rfl⟩
  case body =>
    rintro l pre x a' W hl ⟨r, hr9⟩ ⟨⟨⟨hp, bK1⟩, bR1⟩, hB1⟩ ⟨Bx, hBx, bX, rfl⟩ hlt
    have cK := bK1.cell
    have cR := bR1.cell
    have fR := bR1.frozen
    have cX : W.cell? ⟨Bx, 0, none⟩ = some (.string x.2.f0) := Joins.cell_of_block bX 0
    have hBw : Below w.heap.size w W := hB0.trans (hB1.mono (by omega))
    cases hle : leB x.2 key with
    | true =>
      have hle2 : (Op.bytesLess x.2.f0.toList key.toList || x.2.f0.toList == key.toList) = true := hle
      gi_wp2
      exact ⟨(KeepsOthers.setCell _ _ _).from _, ⟨rfl, pre, x, rfl, hp, hle, bR1.set _⟩, hBw.setCell (p := ⟨w.heap.size + 1 + 1, 0, none⟩) (by simp; omega) _⟩
    | false =>
      have hle2 : (Op.bytesLess x.2.f0.toList key.toList || x.2.f0.toList == key.toList) = false := hle
      gi_wp2
      exact ⟨KeepsFrom.refl _ _, Below.refl _ _, ⟨⟨fun p hp' => (List.mem_append.1 hp').elim (hp p) (fun e => by simp at e; subst e; exact hle), bK1⟩, bR1⟩, hB1⟩
  case done =>
    rintro D ys W hD rfl ⟨⟨⟨hp, bK1⟩, bR1⟩, hB1⟩ hK
    have hBw : Below w.heap.size w W := hB0.trans (hB1.mono (by omega))
    have hcr := bR1.cell
    have hfr := bR1.frozen
    gi_wp2
    have hK' := (KeepsOthers.setCell W ⟨w.heap.size + 1 + 1, 0, none⟩ (.int .i64 (-1))).same D _ hK rfl
    refine ⟨by simp, .inl ⟨_, _, rfl, run_takeDeferred hK', ?_⟩⟩
    have hc5 := cell_kept (World.cell?_setCell_same' W ⟨w.heap.size + 1 + 1, 0, none⟩ (.int .i64 (-1)) (by rw [hcr]; rfl)) (grownBy_putObj' _ D (.deferred none)) (fun r e => by cases e; exact ⟨_, hK', rfl⟩)
    refine ⟨.int .i64 (-1), ?_, ?_, (hBw.setCell (p := ⟨w.heap.size + 1 + 1, 0, none⟩) (by simp; omega) _).trans (belowK_b (w := w) (Nat.le_refl _) _ D _ _ (by omega) hK' rfl rfl)⟩
    · simp [results, Try.f22, go_sem, hc5]
    · rw [childN_all (fun j hj => ?_)]
      have := hp (backF xs (xs.length - 1 - j)) (by simp only [uptoF, List.mem_map, List.mem_range]; exact ⟨xs.length - 1 - j, by omega, rfl⟩)
      unfold backF at this
      rw [show xs.length - 1 - (xs.length - 1 - j) = j from by omega] at this
      exact this
  case stop =>
    rintro D cd pre W hD ⟨k, hk, rfl⟩ ⟨⟨rfl, ini, last, e1, e2, e3, bR1⟩, hB⟩ hK
    gi_wp2
    refine ⟨by simp, .inl ⟨_, _, rfl, run_takeDeferred hK, ?_⟩⟩
    have hc5 := cell_kept bR1.cell (grownBy_putObj' _ D (.deferred none)) (fun r e => by cases e; exact ⟨_, hK, rfl⟩)
    obtain ⟨k', rfl⟩ : ∃ k', k = k' + 1 := by
      cases k with
      | zero => simp [uptoF] at e1
      | succ k' => exact ⟨k', rfl⟩
    rw [uptoF_succ] at e1
    obtain ⟨rfl, e5⟩ := List.append_inj' e1 rfl
    obtain rfl : backF xs k' = last := by simpa using e5
    refine ⟨.int .i64 ((backF xs k').1 : Int), ?_, ?_, hB.trans (belowK_b (w := w) (Nat.le_refl _) W D _ _ (by omega) hK rfl rfl)⟩
    · simp [results, Try.f22, go_sem, hc5]
    · rw [childN_at (k := xs.length - 1 - k') e3 (by omega) (fun j h2 h3 => ?_)]
      · rfl
      · have := e2 (backF xs (xs.length - 1 - j)) (by simp only [uptoF, List.mem_map, List.mem_range]; exact ⟨xs.length - 1 - j, by omega, rfl⟩)
        unfold backF at this
        rw [show xs.length - 1 - (xs.length - 1 - j) = j from by omega] at this
        exact this
theorem Child_any (lv : Int) (A : Option Addr) (c : Nat) (xs : List S69) (key : ByteArray) (w : World) (hr : Kd.C k69 w A xs.length xs) :
    Calls Try.prog 22 #[.agg #[.int .i64 lv, .slice A xs.length c], .string key] w fun e W' => e = .returned (.int .i64 (childN xs key xs.length)) ∧ Below w.heap.size w W' :=
  callsIn_wide.1 (Child_in Fence.wide 3 trivial trivial trivial rfl (Nat.le_refl _) lv A c xs key w hr)
end Go.Proofs.Ytpllpagbdmikpaa.PAll

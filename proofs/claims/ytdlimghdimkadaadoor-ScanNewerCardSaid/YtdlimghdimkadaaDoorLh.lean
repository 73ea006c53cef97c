/- scan.Scan: the list's rows, and the walk. -/
import Derived.Test.YtdlimghdimkadaaDoorLg
import Derived.Maps.OwnIn
namespace Go.Proofs.YtdlimghdimkadaaDoor.PAll
open Go Go.RowKit Go.Shelf Go.Proofs.YtdlimghdimkadaaDoorW.PrintWords Go.Proofs.YtdlimghdimkadaaDoorW.PrintLast Go.Proofs.YtdlimghdimkadaaDoorW.PrintMore Go.Proofs.YtdlimghdimkadaaDoor.Plain
set_option linter.unusedSimpArgs false
set_option linter.unusedVariables false
attribute [local go_sem] max2_int min2_int max_two min_two max_three min_three max_four min_four
/-- A list of blocks lies in the heap's block g. -/
def Rows (W : World) (g : Nat) (xs : List Blk) : Prop := ∃ cells : Array Value, W.heap[g]? = some (.cells cells 49 (0, 0)) ∧ ∀ k, (h : k < xs.length) →
  cells[k * 6]? = some (.int .i64 xs[k].f0) ∧ cells[k * 6 + 1]? = some (.int .i64 xs[k].f1) ∧ cells[k * 6 + 2]? = some (.int .i64 xs[k].f2) ∧ cells[k * 6 + 3]? = some (.int .i64 xs[k].f3) ∧ cells[k * 6 + 4]? = some (.int .u64 xs[k].f4) ∧ cells[k * 6 + 5]? = some (.bool xs[k].f5)
theorem Rows.keep {W W' : World} {g : Nat} {xs : List Blk} (h : Rows W g xs) (e : W'.heap[g]? = W.heap[g]?) : Rows W' g xs := by
  obtain ⟨cells, h1, h2⟩ := h
  exact ⟨cells, e.trans h1, h2⟩
theorem Rows.cell {W : World} {g : Nat} {xs : List Blk} (h : Rows W g xs) (k : Nat) (hk : k < xs.length) : W.cell? ⟨g, k * 6, none⟩ = some (.int .i64 xs[k].f0) ∧ W.cell? ⟨g, k * 6 + 1, none⟩ = some (.int .i64 xs[k].f1) ∧ W.cell? ⟨g, k * 6 + 2, none⟩ = some (.int .i64 xs[k].f2) ∧ W.cell? ⟨g, k * 6 + 3, none⟩ = some (.int .i64 xs[k].f3) ∧ W.cell? ⟨g, k * 6 + 4, none⟩ = some (.int .u64 xs[k].f4) ∧ W.cell? ⟨g, k * 6 + 5, none⟩ = some (.bool xs[k].f5) := by
  obtain ⟨cells, h1, h2⟩ := h
  obtain ⟨a0, a1, a2, a3, a4, a5⟩ := h2 k hk
  exact ⟨(Joins.cell_of_block h1 _).trans a0, (Joins.cell_of_block h1 _).trans a1, (Joins.cell_of_block h1 _).trans a2, (Joins.cell_of_block h1 _).trans a3, (Joins.cell_of_block h1 _).trans a4, (Joins.cell_of_block h1 _).trans a5⟩
theorem Rows.frozen {W : World} {g : Nat} {xs : List Blk} (h : Rows W g xs) (o : Nat) : W.frozen? ⟨g, o, none⟩ = false := by
  obtain ⟨cells, h1, h2⟩ := h
  exact blk_frozen h1 o
theorem Rows.entry {W : World} {g : Nat} {xs : List Blk} (h : Rows W g xs) (k : Nat) (hk : k < xs.length) : Entry W (some ⟨g, 0, none⟩) k xs[k] := by
  have e : (⟨g, 0, none⟩ : Addr).add (k * 6) = ⟨g, k * 6, none⟩ := add0 g (k * 6)
  obtain ⟨a0, a1, a2, a3, a4, a5⟩ := h.cell k hk
  exact ⟨_, rfl, by rw [e]; exact a0, by rw [e]; exact a1, by rw [e]; exact a2, by rw [e]; exact a3, by rw [e]; exact a4, by rw [e]; exact a5⟩
theorem Rows.lt {W : World} {g : Nat} {xs : List Blk} (h : Rows W g xs) : g < W.heap.size := by
  obtain ⟨cells, h1, h2⟩ := h
  exact (Array.getElem?_eq_some_iff.1 h1).1
theorem Rows.far {W : World} {g : Nat} {xs : List Blk} (h : Rows W g xs) {p : Addr} (hp : g ≠ p.block) (u : Value) : Rows (W.setCell p u) g xs := h.keep (Below.heap_setCell W p u g hp)
theorem Rows.own {β : Type} (g : Nat) (f : β → List Blk) : Own (fun (s : β) W => Rows W g (f s)) := fun s X Y row hs hg hrow => by
  obtain ⟨cells, h1, h2⟩ := hs
  exact ⟨cells, box6_own (β := Unit) g 49 cells () X Y row h1 hg hrow, h2⟩
/-- A count is written. -/
theorem Rows.count {W : World} {g : Nat} {xs : List Blk} (h : Rows W g xs) (k : Nat) (hk : k < xs.length) (v : Int) : Rows (W.setCell ⟨g, k * 6 + 1, none⟩ (.int .i64 v)) g (xs.set k { xs[k] with f1 := v }) := by
  obtain ⟨cells, h1, h2⟩ := h
  have hk6 : k * 6 + 1 < cells.size := by
    have := (h2 k hk).2.1
    exact (Array.getElem?_eq_some_iff.1 this).1
  refine ⟨cells.setIfInBounds (k * 6 + 1) (.int .i64 v), blk_put h1 (k * 6 + 1) _ rfl, fun j hj => ?_⟩
  have hj' : j < xs.length := by simpa using hj
  obtain ⟨a0, a1, a2, a3, a4, a5⟩ := h2 j hj'
  have ne : ∀ o, o ≠ k * 6 + 1 → (cells.setIfInBounds (k * 6 + 1) (.int .i64 v))[o]? = cells[o]? := fun o ho => Array.getElem?_setIfInBounds_ne (Ne.symm ho)
  by_cases hjk : j = k
  · subst hjk
    simp only [List.getElem_set_self]
    exact ⟨(ne (j * 6) (by omega)).trans a0, Array.getElem?_setIfInBounds_self_of_lt hk6, (ne (j * 6 + 2) (by omega)).trans a2, (ne (j * 6 + 3) (by omega)).trans a3, (ne (j * 6 + 4) (by omega)).trans a4, (ne (j * 6 + 5) (by omega)).trans a5⟩
  · rw [ne _ (by omega), ne _ (by omega), ne _ (by omega), ne _ (by omega), ne _ (by omega), ne _ (by omega), List.getElem_set_ne (fun e => hjk e.symm)]
    exact ⟨a0, a1, a2, a3, a4, a5⟩
/-- A block is written. -/
theorem Rows.put {W : World} {g : Nat} {xs : List Blk} (h : Rows W g xs) (k : Nat) (hk : k < xs.length) (x : Blk) : Rows ((((((W.setCell ⟨g, k * 6, none⟩ (.int .i64 x.f0)).setCell ⟨g, k * 6 + 1, none⟩ (.int .i64 x.f1)).setCell ⟨g, k * 6 + 2, none⟩ (.int .i64 x.f2)).setCell ⟨g, k * 6 + 3, none⟩ (.int .i64 x.f3)).setCell ⟨g, k * 6 + 4, none⟩ (.int .u64 x.f4)).setCell ⟨g, k * 6 + 5, none⟩ (.bool x.f5)) g (xs.set k x) := by
  obtain ⟨cells, h1, h2⟩ := h
  have hk6 : k * 6 + 5 < cells.size := by
    have := (h2 k hk).2.2.2.2.2
    exact (Array.getElem?_eq_some_iff.1 this).1
  refine ⟨(((((cells.setIfInBounds (k * 6) (.int .i64 x.f0)).setIfInBounds (k * 6 + 1) (.int .i64 x.f1)).setIfInBounds (k * 6 + 2) (.int .i64 x.f2)).setIfInBounds (k * 6 + 3) (.int .i64 x.f3)).setIfInBounds (k * 6 + 4) (.int .u64 x.f4)).setIfInBounds (k * 6 + 5) (.bool x.f5), ?_, fun j hj => ?_⟩
  · refine blk_put (blk_put (blk_put (blk_put (blk_put (blk_put h1 (k * 6) _ rfl) (k * 6 + 1) _ rfl) (k * 6 + 2) _ rfl) (k * 6 + 3) _ rfl) (k * 6 + 4) _ rfl) (k * 6 + 5) _ rfl
  · have hj' : j < xs.length := by simpa using hj
    obtain ⟨a0, a1, a2, a3, a4, a5⟩ := h2 j hj'
    by_cases hjk : j = k
    · subst hjk
      simp only [List.getElem_set_self]
      refine ⟨?_, ?_, ?_, ?_, ?_, ?_⟩ <;> simp [Array.getElem?_setIfInBounds] <;> omega
    · rw [List.getElem_set_ne (fun e => hjk e.symm)]
      have ne : ∀ (c : Array Value) (o p : Nat) (u : Value), o ≠ p → (c.setIfInBounds p u)[o]? = c[o]? := fun c o p u ho => Array.getElem?_setIfInBounds_ne (Ne.symm ho)
      refine ⟨?_, ?_, ?_, ?_, ?_, ?_⟩ <;> (rw [ne _ _ _ _ (by omega), ne _ _ _ _ (by omega), ne _ _ _ _ (by omega), ne _ _ _ _ (by omega), ne _ _ _ _ (by omega), ne _ _ _ _ (by omega)]; assumption)
theorem Rows.of_R {W : World} {base : Nat} {ok : Nat → Prop} {v : Value} {xs : List Blk} (h : Kd.R kBlk 49 W base ok v xs) (h0 : 0 < xs.length) : ∃ g c, v = .slice (some ⟨g, 0, none⟩) xs.length c ∧ base ≤ g ∧ xs.length ≤ c ∧ Rows W g xs := by
  obtain ⟨g, c, rfl, hb, hl, cells, hg⟩ := Kd.R_form h h0
  obtain ⟨hle, hC⟩ := (Kd.R_reads' h).2
  refine ⟨g, c, rfl, hb, hle, cells, hg, fun k hk => ?_⟩
  obtain ⟨ad, e0, a0, a1, a2, a3, a4, a5⟩ := entry_of hC k hk
  obtain rfl : (⟨g, 0, none⟩ : Addr) = ad := by simpa using e0
  have e : (⟨g, 0, none⟩ : Addr).add (k * 6) = ⟨g, k * 6, none⟩ := add0 g (k * 6)
  rw [e] at a0 a1 a2 a3 a4 a5
  have q : ∀ o v, W.cell? ⟨g, o, none⟩ = some v → cells[o]? = some v := fun o v hv => (Joins.cell_of_block hg o).symm.trans hv
  exact ⟨q _ _ a0, q _ _ a1, q _ _ a2, q _ _ a3, q _ _ a4, q _ _ a5⟩
theorem told_cell {W : World} {base : Nat} {ok : Nat → Prop} {e g n c : Nat} {xs : List Bool} (h : Kd.R Kd.bool e W base ok (.slice (some ⟨g, 0, none⟩) n c) xs) (k : Nat) (hk : k < xs.length) : W.cell? ⟨g, k, none⟩ = some (.bool xs[k]) := by
  obtain ⟨hn, -, hC⟩ := Kd.R_reads' h
  obtain ⟨ad, cs, e0, -, hK, hc⟩ := Kd.C_get hC false (k : Int) (by omega) (by omega)
  obtain rfl : (⟨g, 0, none⟩ : Addr) = ad := by simpa using e0
  have hK' : cs = [.bool (xs.getD (k : Int).toNat false)] := hK
  have := hc 0 (.bool (xs.getD (k : Int).toNat false)) (by rw [hK']; rfl)
  rw [Int.toNat_natCast] at this
  have e1 : (⟨g, 0, none⟩ : Addr).add (k * Kd.bool.sz + 0) = ⟨g, k, none⟩ := by
    have : k * Kd.bool.sz + 0 = k := Nat.mul_one k
    rw [this]
    exact add0 g k
  rw [e1, List.getD_eq_getElem?_getD, List.getElem?_eq_getElem hk] at this
  exact this
/-- The first j evened. -/
def mixL (s : Int × Int) (l : List (Blk × Bool)) (j : Nat) : List Blk := (l.take j).map (evenA s) ++ (l.drop j).map (·.1)
theorem mixL_zero (s : Int × Int) (l : List (Blk × Bool)) : mixL s l 0 = l.map (·.1) := by simp [mixL]
theorem mixL_all (s : Int × Int) (l : List (Blk × Bool)) : mixL s l l.length = l.map (evenA s) := by simp [mixL]
theorem mixL_len (s : Int × Int) (l : List (Blk × Bool)) (j : Nat) (hj : j ≤ l.length) : (mixL s l j).length = l.length := by simp [mixL]; omega
theorem mixL_get (s : Int × Int) (l : List (Blk × Bool)) (j : Nat) (hj : j < l.length) : (mixL s l j)[j]? = some l[j].1 := by
  unfold mixL
  rw [List.getElem?_append_right (by simp; omega)]
  simp [hj, Nat.min_eq_left (Nat.le_of_lt hj)]
theorem mixL_step (s : Int × Int) (l : List (Blk × Bool)) (j : Nat) (hj : j < l.length) : mixL s l (j + 1) = (mixL s l j).set j (evenA s l[j]) := by
  unfold mixL
  have e1 : l.take (j + 1) = l.take j ++ [l[j]] := by
    rw [List.take_add_one, List.getElem?_eq_getElem hj]
    rfl
  have e2 : l.drop j = l[j] :: l.drop (j + 1) := List.drop_eq_getElem_cons hj
  have e3 : ((l.take j).map (evenA s)).length = j := by simp; omega
  rw [e1, e2, List.set_append_right _ _ (by omega), e3, Nat.sub_self, List.map_append, List.append_assoc]
  rfl
theorem mixL_same (s : Int × Int) (l : List (Blk × Bool)) (j : Nat) (hj : j < l.length) (h : evenA s l[j] = l[j].1) : mixL s l (j + 1) = mixL s l j := by
  rw [mixL_step s l j hj, h]
  have hm := mixL_get s l j hj
  obtain ⟨hlt, he⟩ := List.getElem?_eq_some_iff.1 hm
  rw [← he, List.set_getElem_self]
theorem Rows.reads {W : World} {g : Nat} {xs : List Blk} (h : Rows W g xs) (hl : xs.length ≤ 9223372036854775807) : Kd.C kBlk W (some ⟨g, 0, none⟩) xs.length xs := by
  refine ⟨rfl, hl, fun _ => ⟨_, rfl, fun j p hj => ?_⟩⟩
  obtain ⟨hk, rfl⟩ := List.getElem?_eq_some_iff.1 hj
  refine ⟨[.int .i64 xs[j].f0, .int .i64 xs[j].f1, .int .i64 xs[j].f2, .int .i64 xs[j].f3, .int .u64 xs[j].f4, .bool xs[j].f5], rfl, kBlk.K_of_M (k49_mkM W 0 (fun _ => True) xs[j]), fun i u hi => ?_⟩
  have e : ∀ o, (⟨g, 0, none⟩ : Addr).add o = ⟨g, o, none⟩ := add0 g
  obtain ⟨a0, a1, a2, a3, a4, a5⟩ := h.cell j hk
  rw [e]
  show W.cell? ⟨g, j * 6 + i, none⟩ = some u
  match i, hi with
  | 0, hi => cases hi; exact a0
  | 1, hi => cases hi; exact a1
  | 2, hi => cases hi; exact a2
  | 3, hi => cases hi; exact a3
  | 4, hi => cases hi; exact a4
  | 5, hi => cases hi; exact a5
  | n + 6, hi => simp at hi
theorem parseMapL_leb {l : List Int} (h : Bytes l) : 0 ≤ (parseMapL l).1.1 ∧ (parseMapL l).1.1 < 256 := by
  unfold parseMapL
  cases ho : openL l 77 12 with
  | none => simp
  | some p =>
    have hp : Bytes p := by
      unfold openL at ho
      split at ho
      · cases ho
      · split at ho
        · cases ho; exact unframe_bytes h
        · cases ho
    simp only
    split
    · simp
    · have hb := getL_bd (l := (p.drop 1).take 2) (fun x hx => hp x (List.mem_of_mem_drop (List.mem_of_mem_take hx)))
      refine ⟨hb.1, ?_⟩
      show getL ((p.drop 1).take 2) < 256
      omega
theorem blockA_leb {a : AC} (h : ABytes a) (n : Int) : 0 ≤ (blockA a n).1.f2 ∧ (blockA a n).1.f2 < 256 := by
  unfold blockA
  split; · simp
  split; · simp
  split; · simp
  split; · simp
  split; · simp
  split
  · exact parseMapL_leb (pageA_bytes h n 1)
  · simp
theorem looksA_leb {a : AC} (h : ABytes a) (m : Nat) : ∀ x ∈ looksA a m, 0 ≤ x.1.f2 ∧ x.1.f2 < 256 := fun x hx => by
  obtain ⟨i, -, rfl⟩ := List.mem_map.1 hx
  exact blockA_leb h i
theorem evenA_f2 (s : Int × Int) (x : Blk × Bool) : (evenA s x).f2 = x.1.f2 := by unfold evenA; split <;> rfl
theorem mixL_leb {s : Int × Int} {l : List (Blk × Bool)} (h : ∀ x ∈ l, 0 ≤ x.1.f2 ∧ x.1.f2 < 256) (j : Nat) : ∀ b ∈ mixL s l j, 0 ≤ b.f2 ∧ b.f2 < 256 := fun b hb => by
  rcases List.mem_append.1 hb with hb | hb
  · obtain ⟨x, hx, rfl⟩ := List.mem_map.1 hb
    rw [evenA_f2]
    exact h x (List.mem_of_mem_take hx)
  · obtain ⟨x, hx, rfl⟩ := List.mem_map.1 hb
    exact h x (List.mem_of_mem_drop hx)
/-! ### the map of the newest -/
/-- A map of ints reads as f. -/
def MapIs (D : DataW Unit) (f : Int → Option Nat) : Prop := Maps.IsMap D ∧ ∀ l : Int, Maps.has D (.int .i64 l) = (f l).isSome ∧ ∀ k, f l = some k → D.atKey (.int .i64 l) (.lit (.int .i64 0)) = .lit (.int .i64 (k : Int))
theorem MapIs.empty : MapIs (.map []) (fun _ => none) := ⟨⟨[], rfl⟩, fun l => ⟨rfl, fun k h => by cases h⟩⟩
theorem MapIs.put {D : DataW Unit} {f : Int → Option Nat} (h : MapIs D f) (leb : Int) (i : Nat) : MapIs (D.put (.int .i64 leb) (.lit (.int .i64 (i : Int)))) (fun l => if l = leb then some i else f l) := by
  refine ⟨h.1.put _ _, fun l => ?_⟩
  have hk : WideAt.IsKeyLit (Lit.int .i64 leb) := by simp [WideAt.IsKeyLit]
  by_cases hl : l = leb
  · subst hl
    have e : (fun x => if x = l then some i else f x) l = some i := if_pos rfl
    rw [e]
    refine ⟨by rw [Maps.has_put_same h.1 hk]; rfl, fun k hk' => ?_⟩
    cases hk'
    exact Maps.atKey_put_same h.1 hk _ _
  · have hne : Lit.int .i64 l ≠ Lit.int .i64 leb := fun e => hl (by cases e; rfl)
    have e : (fun x => if x = leb then some i else f x) l = f l := if_neg hl
    rw [e]
    refine ⟨by rw [Maps.has_put_other hne]; exact (h.2 l).1, fun k hk' => ?_⟩
    rw [Maps.atKey_put_other hne]
    exact (h.2 l).2 k hk'
theorem MapIs.getD {D : DataW Unit} {f : Int → Option Nat} (h : MapIs D f) (l : Int) : D.atKey (.int .i64 l) (.lit (.int .i64 0)) = .lit (.int .i64 (((f l).getD 0 : Nat) : Int)) := by
  obtain ⟨h1, h2⟩ := h.2 l
  cases hf : f l with
  | none => rw [hf] at h1; rw [Maps.atKey_of_not_has h1]; rfl
  | some k => rw [h2 k hf]; rfl
theorem ownsMap_heap {W W' : World} (e : W'.heap = W.heap) {P : Program} {k : TypeId} {R : Value → Option (DataW Unit × List MemPlace)} {b n : Nat} {D : DataW Unit} (h : W.ownsMap P k R b n D) : W'.ownsMap P k R b n D := by
  obtain ⟨es, clock, hb, h2⟩ := h
  exact ⟨es, clock, by rw [e]; exact hb, h2⟩
theorem ownFrom_map {β : Type} {B b : Nat} {P : Program} {k : TypeId} {R : Value → Option (DataW Unit × List MemPlace)} (hB : b < B) (p : β → Nat → DataW Unit → Prop) : OwnFrom B (fun (s : β) W => ∃ n D, W.ownsMap P k R b n D ∧ p s n D) := fun s X Y row hs hg hr => by
  obtain ⟨n, D, h, hp⟩ := hs
  exact ⟨n, D, h.kept hg (fun e => by have := (hr b e.symm).1; omega), hp⟩
theorem rows_heap {W W' : World} (e : W'.heap = W.heap) {g : Nat} {xs : List Blk} (h : Rows W g xs) : Rows W' g xs := h.keep (by rw [e])
theorem wf_leb {l : Int} (h : 0 ≤ l ∧ l < 256) : (Lit.int .i64 l).wf = true := WalkArith.wf_i64 (by omega)
theorem lawInt : Maps.Keyed Tryd.prog 3 := Maps.int_keyed Tryd.underlying3
theorem zeroInt (w : World) : (zeroValue 3).run Tryd.prog w = .ok (.int .i64 0) w := by kernel_rfl
end Go.Proofs.YtdlimghdimkadaaDoor.PAll

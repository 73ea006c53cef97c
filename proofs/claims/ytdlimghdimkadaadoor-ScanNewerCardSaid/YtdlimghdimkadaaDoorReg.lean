/- A region that draws its order, all of whose operations tell fixed values in every world of a kind S: each operation is shown once. -/
import Derived.Test.YtdlimghdimkadaaDoorWX
namespace Go.Proofs.YtdlimghdimkadaaDoor.Reg
open Go Go.RowKit Go.Proofs.YtdlimghdimkadaaDoorW.PrintLast Go.Proofs.YtdlimghdimkadaaDoorW.PrintWords

/-- What is known of the frame when operation i comes up: D are listed, L are not. -/
structure Knows (a0 : Act) (V : List (Nat × Tmp × Value)) (D L : List Nat) (a : Act) : Prop where
  off : ∀ t v, (V.all fun e => !(e.2.1 == t)) = true → a0.tmps[t]? = some v → a.tmps[t]? = some v
  pre : ∀ t v j, L.contains j = true → (V.all fun e => !(e.2.1 == t) || e.1 == j) = true → a0.tmps[t]? = some v → a.tmps[t]? = some v
  slot : ∀ (k : Nat) (i : Nat) (t : Tmp) (v : Value), V[k]? = some (i, t, v) → D.contains i = true → a.tmps[t]? = some v
def deps (B : List Nat) (n i : Nat) : List Nat := (List.range n).filter fun j => (B.getD i 0).testBit j
def laters (B : List Nat) (n i : Nat) : List Nat := (List.range n).filter fun d => (B.getD d 0).testBit i
def Det (P : Program) (ops : Array Oper) (Q : Exit → Act → World → Prop) (B : List Nat) (n : Nat) (a0 : Act) (V : List (Nat × Tmp × Value)) (S : World → Prop) (i : Nat) : Prop :=
  ∃ oi v, ops[i]? = some oi ∧ (match oi.dst with
      | some t => ∃ k : Nat, V[k]? = some (i, t, v)
      | none => (V.all fun e => !(e.1 == i)) = true) ∧
    ∀ a w, S w → Knows a0 V (deps B n i) (laters B n i) a → ∀ K : Act → World → Prop, (∀ w', S w' → K (a.put oi.dst v) w') →
      if Region.wanted oi (yielded ops a.tmps) = true then Oper.wp P oi a w K Q else K (a.put oi.dst undef) w
def okV (V : List (Nat × Tmp × Value)) (size : Nat) : Bool :=
  (List.range V.length).all fun k => match V[k]? with
    | some e => ((V.take k ++ V.drop (k + 1)).all fun x => !(x.1 == e.1) && !(x.2.1 == e.2.1)) && Nat.ble (e.2.1 + 1) size
    | none => true
theorem okV_at {V : List (Nat × Tmp × Value)} {size : Nat} (h : okV V size = true) {k : Nat} {e : Nat × Tmp × Value} (hk : V[k]? = some e) :
    ((V.take k ++ V.drop (k + 1)).all fun x => !(x.1 == e.1) && !(x.2.1 == e.2.1)) = true ∧ Nat.ble (e.2.1 + 1) size = true := by
  have h1 := List.all_eq_true.1 h k (List.mem_range.2 (List.getElem?_eq_some_iff.1 hk).1)
  rw [hk] at h1
  simpa only [Bool.and_eq_true] using h1
def putV (a : Act) (V : List (Nat × Tmp × Value)) : Act := V.foldl (fun a e => a.put (some e.2.1) e.2.2) a
theorem putSel_all {b : Nat → Bool} : ∀ {V : List (Nat × Tmp × Value)} {a : Act}, (∀ e ∈ V, b e.1 = true) → putSel a b V = putV a V
  | [], _, _ => rfl
  | e :: r, a, h => by
    unfold putSel
    rw [if_pos (h e List.mem_cons_self), putSel_all (fun x hx => h x (List.mem_cons_of_mem _ hx))]
    rfl
section
variable {P : Program} {ops : Array Oper} {Q : Exit → Act → World → Prop} {T : Bool × List (List Nat × List Nat)} {B : List Nat}
theorem det_nil {n : Nat} {a0 : Act} {V : List (Nat × Tmp × Value)} {S : World → Prop} : ∀ i ∈ ([] : List Nat), Det P ops Q B n a0 V S i := fun _ h => by cases h
theorem det_cons {n : Nat} {a0 : Act} {V : List (Nat × Tmp × Value)} {S : World → Prop} {i : Nat} {r : List Nat} (h : Det P ops Q B n a0 V S i) (hs : ∀ j ∈ r, Det P ops Q B n a0 V S j) : ∀ j ∈ i :: r, Det P ops Q B n a0 V S j := fun j hj => by
  rcases List.mem_cons.1 hj with rfl | hj
  · exact h
  · exact hs j hj
theorem det_region {id n : Nat} {a0 : Act} {w0 : World} (V : List (Nat × Tmp × Value)) (S : World → Prop) (hm : P.follows .mixedOrders = true) (hn : ops.size = n)
    (hT : rtab .any ops = T) (hw : waitsOk T.2 B = true) (hk : baseOk T.2 (List.range n) = true) (hl : T.2.length = n)
    (h0 : S w0.drew) (hs : ∀ i ∈ List.range n, Det P ops Q B n a0 V S i) (hV : okV V a0.tmps.size = true) (hlt : V.all (fun e => decide (e.1 < n)) = true)
    (hend : ∀ w, S w → Q .normal (putV a0 V) w) : (Code.region id ops true).wp P Q a0 w0 := by
  refine start_ (n := n) (S := fun _ => True) (ds := []) (Array.replicate n false) hm hn rfl trivial (fun _ => ?_)
  refine inv_ (T := T) (B := B) (md := .any) (List.range n) (fun b a w => a = putSel a0 b V ∧ S w) hT hw hk ?_ ⟨?_, h0⟩ ?_ ?_
  · rw [Bool.and_eq_true, beq_iff_eq, beq_iff_eq]
    refine ⟨?_, by simp⟩
    apply List.ext_getElem?
    intro j
    simp only [lof, hl]
    by_cases hj : j < n
    · simp [hj]
    · simp [hj]
  · have : ∀ (V : List (Nat × Tmp × Value)) (a : Act), putSel a (fun _ => false) V = a := by
      intro V
      induction V with
      | nil => intro a; rfl
      | cons e r ih => intro a; unfold putSel; simpa using ih a
    exact (this V a0).symm
  · intro i hi b a w hI hb hdep hlat
    obtain ⟨rfl, hS⟩ := hI
    obtain ⟨oi, v, ho, hv, hd⟩ := hs i hi
    refine ⟨oi, ho, fun K hK => ?_⟩
    have hin : ∀ j, j < n → (List.range n).contains j = true := fun j hj => by simp [hj]
    have hD : ∀ j, (deps B n i).contains j = true → b j = true := fun j hj => by
      have h1 := List.contains_iff_mem.1 hj
      obtain ⟨h2, h3⟩ := List.mem_filter.1 h1
      exact hdep j (by rw [hin j (List.mem_range.1 h2), h3]; rfl)
    have hL : ∀ j, (laters B n i).contains j = true → b j = false := fun j hj => by
      have h1 := List.contains_iff_mem.1 hj
      obtain ⟨h2, h3⟩ := List.mem_filter.1 h1
      exact hlat j (by rw [hin j (List.mem_range.1 h2), h3]; rfl)
    have hslot : ∀ (k : Nat) (e : Nat × Tmp × Value), V[k]? = some e → (deps B n i).contains e.1 = true → (putSel a0 b V).tmps[e.2.1]? = some e.2.2 := by
      intro k e hk hDe
      obtain ⟨h1, h2⟩ := okV_at hV hk
      refine putSel_on k hk ?_ (hD _ hDe) h2
      rw [List.all_append, Bool.and_eq_true] at h1
      refine List.all_eq_true.2 (fun x hx => ?_)
      have := List.all_eq_true.1 h1.2 x hx
      rw [Bool.and_eq_true] at this
      exact this.2
    refine hd (putSel a0 b V) w hS ⟨fun t v ht h0t => by rw [putSel_off ht]; exact h0t, fun t v j hj ht h0t => by rw [putSel_not (hL j hj) ht]; exact h0t, fun k i t v hk hDe => hslot k (i, t, v) hk hDe⟩ K (fun w' hS' => ?_)
    refine hK _ _ ⟨?_, hS'⟩
    rcases hdst : oi.dst with _ | t
    · rw [hdst] at hv
      exact putSel_none hv
    · rw [hdst] at hv
      obtain ⟨k, hk⟩ := hv
      obtain ⟨h1, _⟩ := okV_at hV hk
      refine putSel_upk (L := V) (L' := V) k hb hk ?_ h1
      have hk2 := (List.getElem?_eq_some_iff.1 hk)
      obtain ⟨hk3, hk4⟩ := hk2
      rw [← hk4, List.set_getElem_self]
  · intro b a w hb hI
    obtain ⟨rfl, hS⟩ := hI
    rw [putSel_all (fun e he => hb e.1 (by
      have := List.all_eq_true.1 hlt e he
      simp only [decide_eq_true_eq] at this
      simp [this]))]
    exact hend w hS
def bitsOf (T : List (List Nat × List Nat)) : List Nat := T.foldl (fun B r => B ++ [r.1.foldl (fun m n => m ||| (1 <<< n) ||| B.getD n 0) 0]) []
def regOk (ops : Array Oper) (n : Nat) : Bool := waitsOk (rtab .any ops).2 (bitsOf (rtab .any ops).2) && baseOk (rtab .any ops).2 (List.range n) && (rtab .any ops).2.length == n
abbrev bits (ops : Array Oper) : List Nat := bitsOf (rtab .any ops).2
def DetFrom (P : Program) (ops : Array Oper) (Q : Exit → Act → World → Prop) (B : List Nat) (n : Nat) (a0 : Act) (V : List (Nat × Tmp × Value)) (S : World → Prop) : Nat → List Oper → Prop
  | _, [] => True
  | i, o :: r => (∃ v, (match o.dst with
      | some t => ∃ k : Nat, V[k]? = some (i, t, v)
      | none => (V.all fun e => !(e.1 == i)) = true) ∧
    ∀ a w, S w → Knows a0 V (deps B n i) (laters B n i) a → ∀ K : Act → World → Prop, (∀ w', S w' → K (a.put o.dst v) w') →
      if Region.wanted o (yielded ops a.tmps) = true then Oper.wp P o a w K Q else K (a.put o.dst undef) w) ∧ DetFrom P ops Q B n a0 V S (i + 1) r
theorem from_get {n : Nat} {a0 : Act} {V : List (Nat × Tmp × Value)} {S : World → Prop} : ∀ (l : List Oper) (i : Nat), DetFrom P ops Q B n a0 V S i l → (∀ j, l[j]? = ops[i + j]?) → ∀ j, j < l.length → Det P ops Q B n a0 V S (i + j)
  | [], _, _, _, j, hj => by simp at hj
  | o :: r, i, h, hg, 0, _ => by
    obtain ⟨⟨v, hv, hd⟩, _⟩ := h
    have h0 := hg 0
    simp only [List.getElem?_cons_zero, Nat.add_zero] at h0
    exact ⟨o, v, h0.symm, hv, hd⟩
  | o :: r, i, h, hg, j + 1, hj => by
    have h2 := from_get r (i + 1) h.2 (fun m => by
      have := hg (m + 1)
      simp only [List.getElem?_cons_succ] at this
      rw [this, show i + (m + 1) = i + 1 + m by omega]) j (by simp at hj; omega)
    rwa [show i + 1 + j = i + (j + 1) by omega] at h2
theorem from_nil {n i : Nat} {a0 : Act} {V : List (Nat × Tmp × Value)} {S : World → Prop} : DetFrom P ops Q B n a0 V S i [] := trivial
theorem from_some {n i : Nat} {a0 : Act} {V : List (Nat × Tmp × Value)} {S : World → Prop} {o : Oper} {r : List Oper} {t : Tmp} {v : Value} (k : Nat) (ht : o.dst = some t) (hk : V[k]? = some (i, t, v))
    (h : ∀ a w, S w → Knows a0 V (deps B n i) (laters B n i) a → ∀ K : Act → World → Prop, (∀ w', S w' → K (a.put (some t) v) w') → if Region.wanted o (yielded ops a.tmps) = true then Oper.wp P o a w K Q else K (a.put (some t) undef) w)
    (hr : DetFrom P ops Q B n a0 V S (i + 1) r) : DetFrom P ops Q B n a0 V S i (o :: r) := by
  refine ⟨⟨v, ?_, ?_⟩, hr⟩
  · rw [ht]; exact ⟨k, hk⟩
  · rw [ht]; exact h
theorem from_none {n i : Nat} {a0 : Act} {V : List (Nat × Tmp × Value)} {S : World → Prop} {o : Oper} {r : List Oper} (ht : o.dst = none) (hk : (V.all fun e => !(e.1 == i)) = true)
    (h : ∀ a w, S w → Knows a0 V (deps B n i) (laters B n i) a → ∀ K : Act → World → Prop, (∀ w', S w' → K a w') → if Region.wanted o (yielded ops a.tmps) = true then Oper.wp P o a w K Q else K a w)
    (hr : DetFrom P ops Q B n a0 V S (i + 1) r) : DetFrom P ops Q B n a0 V S i (o :: r) := by
  refine ⟨⟨undef, ?_, ?_⟩, hr⟩
  · rw [ht]; exact hk
  · rw [ht]; exact h
theorem det {id n : Nat} {a0 : Act} {w0 : World} (V : List (Nat × Tmp × Value)) (S : World → Prop) (hm : P.follows .mixedOrders = true) (hn : ops.size = n) (hc : regOk ops n = true)
    (h0 : S w0.drew) (hs : DetFrom P ops Q (bits ops) n a0 V S 0 ops.toList) (hV : okV V a0.tmps.size = true) (hlt : V.all (fun e => decide (e.1 < n)) = true)
    (hend : ∀ w, S w → Q .normal (putV a0 V) w) : (Code.region id ops true).wp P Q a0 w0 := by
  unfold regOk at hc
  rw [Bool.and_eq_true, Bool.and_eq_true, beq_iff_eq] at hc
  refine det_region V S hm hn rfl hc.1.1 hc.1.2 hc.2 h0 (fun i hi => ?_) hV hlt hend
  have h2 := from_get ops.toList 0 hs (fun j => by simp) i (by simpa [hn] using hi)
  rwa [Nat.zero_add] at h2
theorem step_on {o : Oper} {y : Nat → Option Bool} {a : Act} {w : World} {K : Act → World → Prop} {E : Prop} (h : Region.wanted o y = true) (hx : Oper.wp P o a w K Q) : if Region.wanted o y = true then Oper.wp P o a w K Q else E := by rw [if_pos h]; exact hx
theorem step_off {o : Oper} {y : Nat → Option Bool} {E F : Prop} (h : Region.wanted o y = false) (hx : F) : if Region.wanted o y = true then E else F := by rw [if_neg (by rw [h]; simp)]; exact hx
theorem wanted_undef {o og : Oper} {g : Nat} {u : Bool} {t : Tmp} {a : Act} (hg : o.guard = some (g, u)) (ho : ops[g]? = some og) (hd : og.dst = some t) (hv : a.tmps[t]? = some undef) : Region.wanted o (yielded ops a.tmps) = false := by
  have h : yielded ops a.tmps g = none := by unfold yielded; rw [ho, Option.bind_some, hd, Option.bind_some, hv]; rfl
  unfold Region.wanted
  rw [hg]
  simp [h]
theorem list_range_eq {n : Nat} {l : List Nat} {p : Nat → Prop} (h : List.range n = l) (hs : ∀ i ∈ l, p i) : ∀ i ∈ List.range n, p i := h ▸ hs
end
end Go.Proofs.YtdlimghdimkadaaDoor.Reg

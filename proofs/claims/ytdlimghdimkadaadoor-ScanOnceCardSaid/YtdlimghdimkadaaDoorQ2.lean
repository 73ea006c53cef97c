/- What the law ScanOnce rests on, part 2: texts of the session and what the print wrote for it, one behind the other; only what the proof names is kept. -/
import Derived.Test.YtdlimghdimkadaaDoorQ1
import Derived.Deep.CutBlock
namespace Go.Proofs.YtdlimghdimkadaaDoor.Rel
open Go Go.RowKit Go.Proofs.YtdlimghdimkadaaDoorW.PrintLast Go.Proofs.YtdlimghdimkadaaDoorW.PrintWords Go.Proofs.YtdlimghdimkadaaDoor.Reg
abbrev Ent := Nat × Tmp × (Value ⊕ (Value → World → Prop))
def inst (U : Nat → Value) : Nat → List Ent → List (Nat × Tmp × Value)
 | _, [] => []
 | m, (i, t, .inl c) :: r => (i, t, c) :: inst U (m + 1) r
 | m, (i, t, .inr _) :: r => (i, t, U m) :: inst U (m + 1) r
theorem inst_inl {U : Nat → Value} : ∀ {V : List Ent} {m k : Nat} {i : Nat} {t : Tmp} {c : Value}, V[k]? = some (i, t, .inl c) → (inst U m V)[k]? = some (i, t, c)
 | [], _, _, _, _, _, h => by simp at h
 | (_, _, .inl _) :: r, m, 0, i, t, c, h => by simpa [inst] using h
 | (_, _, .inr _) :: r, m, 0, i, t, c, h => by simp at h
 | (_, _, .inl _) :: r, m, k + 1, i, t, c, h => by simpa [inst] using inst_inl (V := r) (m := m + 1) (k := k) (by simpa using h)
 | (_, _, .inr _) :: r, m, k + 1, i, t, c, h => by simpa [inst] using inst_inl (V := r) (m := m + 1) (k := k) (by simpa using h)
theorem inst_inr {U : Nat → Value} : ∀ {V : List Ent} {m k : Nat} {i : Nat} {t : Tmp} {Q : Value → World → Prop}, V[k]? = some (i, t, .inr Q) → (inst U m V)[k]? = some (i, t, U (m + k))
 | [], _, _, _, _, _, h => by simp at h
 | (_, _, .inl _) :: r, m, 0, i, t, c, h => by simp at h
 | (_, _, .inr _) :: r, m, 0, i, t, c, h => by
  simp at h
  simp [inst, h.1, h.2.1]
 | (_, _, .inl _) :: r, m, k + 1, i, t, c, h => by
  have := inst_inr (U := U) (V := r) (m := m + 1) (k := k) (by simpa using h)
  simpa [inst, show m + 1 + k = m + (k + 1) by omega] using this
 | (_, _, .inr _) :: r, m, k + 1, i, t, c, h => by
  have := inst_inr (U := U) (V := r) (m := m + 1) (k := k) (by simpa using h)
  simpa [inst, show m + 1 + k = m + (k + 1) by omega] using this
theorem inst_get {U : Nat → Value} {V : List Ent} {k : Nat} {e : Ent} (h : V[k]? = some e) : ∃ v, (inst U 0 V)[k]? = some (e.1, e.2.1, v) := by
 obtain ⟨i, t, x⟩ := e
 cases x with
 | inl c => exact ⟨c, inst_inl h⟩
 | inr Q => exact ⟨_, inst_inr h⟩
theorem inst_same {U U' : Nat → Value} : ∀ {V : List Ent} {m : Nat}, (∀ j, m ≤ j → U' j = U j) → inst U' m V = inst U m V
 | [], _, _ => rfl
 | (_, _, .inl _) :: r, m, h => by simp only [inst]; rw [inst_same (V := r) (m := m + 1) (fun j hj => h j (by omega))]
 | (_, _, .inr _) :: r, m, h => by simp only [inst]; rw [inst_same (V := r) (m := m + 1) (fun j hj => h j (by omega)), h m (Nat.le_refl _)]
theorem inst_set {U : Nat → Value} {v : Value} : ∀ {V : List Ent} {m k : Nat} {i : Nat} {t : Tmp} {Q : Value → World → Prop}, V[k]? = some (i, t, .inr Q) → (inst U m V).set k (i, t, v) = inst (fun j => if j = m + k then v else U j) m V
 | [], _, _, _, _, _, h => by simp at h
 | (_, _, .inl _) :: r, m, 0, i, t, c, h => by simp at h
 | (_, _, .inr _) :: r, m, 0, i, t, c, h => by
  simp at h
  simp only [inst, List.set_cons_zero, Nat.add_zero, if_true, h.1, h.2.1]
  rw [inst_same (U := U) (U' := fun j => if j = m then v else U j) (V := r) (m := m + 1) (fun j hj => by simp; omega)]
 | (_, _, .inl _) :: r, m, k + 1, i, t, c, h => by
  have := inst_set (U := U) (v := v) (V := r) (m := m + 1) (k := k) (by simpa using h)
  simp only [inst, List.set_cons_succ, this, show m + 1 + k = m + (k + 1) by omega]
 | (_, _, .inr _) :: r, m, k + 1, i, t, c, h => by
  have := inst_set (U := U) (v := v) (V := r) (m := m + 1) (k := k) (by simpa using h)
  simp only [inst, List.set_cons_succ, this, show m + 1 + k = m + (k + 1) by omega]
  rw [if_neg (by omega)]
def key (e : Nat × Tmp × Value) : Nat × Tmp := (e.1, e.2.1)
theorem inst_key {U U' : Nat → Value} : ∀ {V : List Ent} {m : Nat}, (inst U m V).map key = (inst U' m V).map key
 | [], _ => rfl
 | (_, _, .inl _) :: r, m => by simp only [inst, List.map_cons]; rw [inst_key (U := U) (U' := U') (V := r)]
 | (_, _, .inr _) :: r, m => by simp only [inst, List.map_cons]; rw [inst_key (U := U) (U' := U') (V := r)]; rfl
theorem all_key {p : Nat × Tmp → Bool} {L L' : List (Nat × Tmp × Value)} (h : L.map key = L'.map key) : (L.all fun e => p (e.1, e.2.1)) = (L'.all fun e => p (e.1, e.2.1)) := by
 have h1 : ∀ L : List (Nat × Tmp × Value), (L.all fun e => p (e.1, e.2.1)) = (L.map key).all p := fun L => by rw [List.all_map]; rfl
 rw [h1, h1, h]
theorem okV_key {L L' : List (Nat × Tmp × Value)} {size : Nat} (h : L.map key = L'.map key) : okV L size = okV L' size := by
 unfold okV
 have hl : L.length = L'.length := by simpa using congrArg List.length h
 rw [hl]
 congr 1
 funext k
 have hk : (L.map key)[k]? = (L'.map key)[k]? := by rw [h]
 rw [List.getElem?_map, List.getElem?_map] at hk
 cases e : L[k]? with
 | none =>
  rw [e] at hk
  cases e' : L'[k]? with
  | none => rfl
  | some y => rw [e'] at hk; simp at hk
 | some x =>
  rw [e] at hk
  cases e' : L'[k]? with
  | none => rw [e'] at hk; simp at hk
  | some y =>
   rw [e'] at hk
   simp only [Option.map_some, Option.some.injEq] at hk
   have h1 : x.1 = y.1 := (Prod.mk.inj (show (x.1, x.2.1) = (y.1, y.2.1) from hk)).1
   have h2 : x.2.1 = y.2.1 := (Prod.mk.inj (show (x.1, x.2.1) = (y.1, y.2.1) from hk)).2
   simp only [h1, h2]
   congr 1
   refine all_key (p := fun z => !(z.1 == y.1) && !(z.2 == y.2.1)) ?_
   rw [List.map_append, List.map_append, List.map_take, List.map_drop, List.map_take, List.map_drop, h]
theorem okV_ne {L : List (Nat × Tmp × Value)} {size k k' : Nat} {i : Nat} {t t' : Tmp} {v v' : Value} (h : okV L size = true) (hk : L[k]? = some (i, t, v)) (hk' : L[k']? = some (i, t', v')) (hne : k' ≠ k) : False := by
 obtain ⟨h1, _⟩ := okV_at h hk
 have hm : (i, t', v') ∈ L.take k ++ L.drop (k + 1) := by
  rw [List.mem_append]
  rcases Nat.lt_or_ge k' k with h2 | h2
  ·left
   exact List.mem_of_getElem? (i := k') (by rw [List.getElem?_take, if_pos h2]; exact hk')
  ·right
   exact List.mem_of_getElem? (i := k' - (k + 1)) (by rw [List.getElem?_drop, show k + 1 + (k' - (k + 1)) = k' by omega]; exact hk')
 have := List.all_eq_true.1 h1 _ hm
 simp at this
def U0 : Nat → Value := fun _ => undef
structure Knows (a0 : Act) (V : List Ent) (D L : List Nat) (a : Act) (w : World) : Prop where
 off : ∀ t v, ((inst U0 0 V).all fun e => !(e.2.1 == t)) = true → a0.tmps[t]? = some v → a.tmps[t]? = some v
 pre : ∀ t v j, L.contains j = true → ((inst U0 0 V).all fun e => !(e.2.1 == t) || e.1 == j) = true → a0.tmps[t]? = some v → a.tmps[t]? = some v
 slot : ∀ (k : Nat) (i : Nat) (t : Tmp) (v : Value), V[k]? = some (i, t, .inl v) → D.contains i = true → a.tmps[t]? = some v
 rel : ∀ (k : Nat) (i : Nat) (t : Tmp) (Q : Value → World → Prop), V[k]? = some (i, t, .inr Q) → D.contains i = true → ∃ v, a.tmps[t]? = some v ∧ Q v w
def Step (P : Program) (ops : Array Oper) (Q : Exit → Act → World → Prop) (B : List Nat) (n : Nat) (a0 : Act) (V : List Ent) (S : World → Prop) (G : World → World → Prop) (i : Nat) (oi : Oper) : Prop :=
 (match oi.dst with
   | some t => ∃ (k : Nat) (e : Value ⊕ (Value → World → Prop)), V[k]? = some (i, t, e) ∧ ∀ a w, S w → Knows a0 V (deps B n i) (laters B n i) a w → ∀ K : Act → World → Prop,
     (∀ v w', S w' → G w w' → (match e with | .inl c => v = c | .inr q => q v w') → K (a.put (some t) v) w') →
     if Region.wanted oi (yielded ops a.tmps) = true then Oper.wp P oi a w K Q else K (a.put (some t) undef) w
   | none => ((inst U0 0 V).all fun e => !(e.1 == i)) = true ∧ ∀ a w, S w → Knows a0 V (deps B n i) (laters B n i) a w → ∀ K : Act → World → Prop, (∀ w', S w' → G w w' → K a w') →
     if Region.wanted oi (yielded ops a.tmps) = true then Oper.wp P oi a w K Q else K a w)
section
variable {P : Program} {ops : Array Oper} {Q : Exit → Act → World → Prop} {T : Bool × List (List Nat × List Nat)} {B : List Nat}
theorem rel_region {id n : Nat} {a0 : Act} {w0 : World} (V : List Ent) (S : World → Prop) (G : World → World → Prop) (hm : P.follows .mixedOrders = true) (hn : ops.size = n)
  (hT : rtab .any ops = T) (hw : waitsOk T.2 B = true) (hk : baseOk T.2 (List.range n) = true) (hl : T.2.length = n)
  (h0 : S w0.drew) (hst : ∀ (k : Nat) (i : Nat) (t : Tmp) (q : Value → World → Prop), V[k]? = some (i, t, .inr q) → ∀ v w w', G w w' → q v w → q v w')
  (hs : ∀ i ∈ List.range n, ∃ oi, ops[i]? = some oi ∧ Step P ops Q B n a0 V S G i oi) (hV : okV (inst U0 0 V) a0.tmps.size = true) (hlt : (inst U0 0 V).all (fun e => decide (e.1 < n)) = true)
  (hend : ∀ U w, S w → (∀ (k : Nat) (i : Nat) (t : Tmp) (q : Value → World → Prop), V[k]? = some (i, t, .inr q) → q (U k) w) → Q .normal (putV a0 (inst U 0 V)) w) : (Code.region id ops true).wp P Q a0 w0 := by
 have hVU : ∀ U, okV (inst U 0 V) a0.tmps.size = true := fun U => by rw [okV_key (inst_key (U := U) (U' := U0))]; exact hV
 refine start_ (n := n) (S := fun _ => True) (ds := []) (Array.replicate n false) hm hn rfl trivial (fun _ => ?_)
 refine inv_ (T := T) (B := B) (md := .any) (List.range n) (fun b a w => ∃ U, a = putSel a0 b (inst U 0 V) ∧ S w ∧ ∀ (k : Nat) (i : Nat) (t : Tmp) (q : Value → World → Prop), V[k]? = some (i, t, .inr q) → b i = true → q (U k) w) hT hw hk ?_ ?_ ?_ ?_
 ·rw [Bool.and_eq_true, beq_iff_eq, beq_iff_eq]
  refine ⟨?_, by simp⟩
  apply List.ext_getElem?
  intro j
  simp only [lof, hl]
  by_cases hj : j < n
  ·simp [hj]
  ·simp [hj]
 ·refine ⟨U0, ?_, h0, fun _ _ _ _ _ hb => by cases hb⟩
  have : ∀ (V : List (Nat × Tmp × Value)) (a : Act), putSel a (fun _ => false) V = a := by
   intro V
   induction V with
   | nil => intro a; rfl
   | cons e r ih => intro a; unfold putSel; simpa using ih a
  exact (this _ a0).symm
 ·intro i hi b a w hI hb hdep hlat
  obtain ⟨U, rfl, hS, hU⟩ := hI
  obtain ⟨oi, ho, hd⟩ := hs i hi
  refine ⟨oi, ho, fun K hK => ?_⟩
  have hin : ∀ j, j < n → (List.range n).contains j = true := fun j hj => by simp [hj]
  have hD : ∀ j, (deps B n i).contains j = true → b j = true := fun j hj => by
   have h1 := List.contains_iff_mem.1 hj
   obtain ⟨h2, h3⟩ := List.mem_filter.1 h1
   exact hdep j (by rw [hin j (List.mem_range.1 h2), h3]; rfl)
  have hL : ∀ j, (laters B n i).contains j = true → b j = false := fun j hj => by
   have h1 := List.contains_iff_mem.1 hj
   obtain ⟨h2, h3⟩ := List.mem_filter.1 h1
   exact hlat j (by rw [hin j (List.mem_range.1 h2), h3]; rfl)
  have hslot : ∀ (k : Nat) (e : Nat × Tmp × Value), (inst U 0 V)[k]? = some e → (deps B n i).contains e.1 = true → (putSel a0 b (inst U 0 V)).tmps[e.2.1]? = some e.2.2 := by
   intro k e hk hDe
   obtain ⟨h1, h2⟩ := okV_at (hVU U) hk
   refine putSel_on k hk ?_ (hD _ hDe) h2
   rw [List.all_append, Bool.and_eq_true] at h1
   refine List.all_eq_true.2 (fun x hx => ?_)
   have := List.all_eq_true.1 h1.2 x hx
   rw [Bool.and_eq_true] at this
   exact this.2
  have hK0 : Knows a0 V (deps B n i) (laters B n i) (putSel a0 b (inst U 0 V)) w := by
   refine ⟨fun t v ht h0t => ?_, fun t v j hj ht h0t => ?_, fun k i t v hk hDe => hslot k (i, t, v) (inst_inl hk) hDe, fun k i t q hk hDe => ⟨U k, ?_, hU k i t q hk (hD _ hDe)⟩⟩
   ·rw [putSel_off (by rw [all_key (p := fun z => !(z.2 == t)) (inst_key (U := U) (U' := U0))]; exact ht)]; exact h0t
   ·rw [putSel_not (hL j hj) (by rw [all_key (p := fun z => !(z.2 == t) || z.1 == j) (inst_key (U := U) (U' := U0))]; exact ht)]; exact h0t
   ·have := hslot k _ (inst_inr (U := U) (m := 0) hk) hDe
    rw [Nat.zero_add] at this
    exact this
  unfold Step at hd
  rcases hdst : oi.dst with _ | t
  ·rw [hdst] at hd
   obtain ⟨hv, hd⟩ := hd
   have := hd (putSel a0 b (inst U 0 V)) w hS hK0 (fun a w => K a w) (fun w' hS' hG => ?_)
   ·exact this
   ·have h9 := hK (putSel a0 b (inst U 0 V)) w' ⟨U, ?_, hS', fun k j t q hk hbj => ?_⟩
    ·exact h9
    ·have := putSel_none (a := a0) (b := b) (v := undef) (i := i) (L := inst U 0 V) (by rw [all_key (p := fun z => !(z.1 == i)) (inst_key (U := U) (U' := U0))]; exact hv)
     exact this
    ·refine hst k j t q hk _ _ _ hG (hU k j t q hk ?_)
     by_cases hji : j = i
     ·exfalso
      subst hji
      obtain ⟨v, hg⟩ := inst_get (U := U0) hk
      have := List.all_eq_true.1 hv _ (List.mem_of_getElem? hg)
      simp at this
     ·rwa [up_ne hji] at hbj
  ·rw [hdst] at hd
   obtain ⟨k, e, hk, hd⟩ := hd
   refine hd (putSel a0 b (inst U 0 V)) w hS hK0 K (fun v w' hS' hG hv => ?_)
   cases e with
   | inl c =>
    obtain rfl : v = c := hv
    have hk1 := inst_inl (U := U) (m := 0) hk
    obtain ⟨h1, _⟩ := okV_at (hVU U) hk1
    refine hK _ w' ⟨U, ?_, hS', fun k' j t' q hk' hbj => ?_⟩
    ·refine putSel_upk (L := inst U 0 V) (L' := inst U 0 V) k hb hk1 ?_ h1
     obtain ⟨hk3, hk4⟩ := List.getElem?_eq_some_iff.1 hk1
     rw [← hk4, List.set_getElem_self]
    ·refine hst k' j t' q hk' _ _ _ hG (hU k' j t' q hk' ?_)
     by_cases hji : j = i
     ·exfalso
      subst hji
      have hkk : k' ≠ k := by
       rintro rfl
       rw [hk] at hk'
       simp at hk'
      exact okV_ne (hVU U) hk1 (inst_inr (U := U) (m := 0) hk') (fun h => hkk h)
     ·rwa [up_ne hji] at hbj
   | inr q =>
    have hk1 := inst_inr (U := U) (m := 0) hk
    obtain ⟨h1, _⟩ := okV_at (hVU U) hk1
    refine hK _ w' ⟨fun j => if j = 0 + k then v else U j, ?_, hS', fun k' j t' q' hk' hbj => ?_⟩
    ·exact putSel_upk (L := inst U 0 V) k hb hk1 (inst_set hk) h1
    ·rw [Nat.zero_add]
     by_cases hkk : k' = k
     ·subst hkk
      rw [hk] at hk'
      simp only [Option.some.injEq, Prod.mk.injEq, Sum.inr.injEq] at hk'
      obtain ⟨rfl, rfl, rfl⟩ := hk'
      simp only [if_true]
      exact hv
     ·simp only [if_neg hkk]
      refine hst k' j t' q' hk' _ _ _ hG (hU k' j t' q' hk' ?_)
      by_cases hji : j = i
      ·exfalso
       subst hji
       exact okV_ne (hVU U) hk1 (inst_inr (U := U) (m := 0) hk') (fun h => hkk h)
      ·rwa [up_ne hji] at hbj
 ·intro b a w hb hI
  obtain ⟨U, rfl, hS, hU⟩ := hI
  rw [putSel_all (fun e he => hb e.1 (by
   have h2 : (inst U 0 V).all (fun e => decide (e.1 < n)) = true := by rw [all_key (p := fun z => decide (z.1 < n)) (inst_key (U := U) (U' := U0))]; exact hlt
   have := List.all_eq_true.1 h2 e he
   simp only [decide_eq_true_eq] at this
   simp [this]))]
  refine hend U w hS (fun k i t q hk => hU k i t q hk (hb i ?_))
  obtain ⟨v, hg⟩ := inst_get (U := U0) hk
  have := List.all_eq_true.1 hlt _ (List.mem_of_getElem? hg)
  simp only [decide_eq_true_eq] at this
  simp [this]
def From (P : Program) (ops : Array Oper) (Q : Exit → Act → World → Prop) (B : List Nat) (n : Nat) (a0 : Act) (V : List Ent) (S : World → Prop) (G : World → World → Prop) : Nat → List Oper → Prop
 | _, [] => True
 | i, o :: r => Step P ops Q B n a0 V S G i o ∧ From P ops Q B n a0 V S G (i + 1) r
theorem from_get {n : Nat} {a0 : Act} {V : List Ent} {S : World → Prop} {G : World → World → Prop} : ∀ (l : List Oper) (i : Nat), From P ops Q B n a0 V S G i l → (∀ j, l[j]? = ops[i + j]?) → ∀ j, j < l.length → ∃ oi, ops[i + j]? = some oi ∧ Step P ops Q B n a0 V S G (i + j) oi
 | [], _, _, _, j, hj => by simp at hj
 | o :: r, i, h, hg, 0, _ => by
  have h0 := hg 0
  simp only [List.getElem?_cons_zero, Nat.add_zero] at h0
  exact ⟨o, h0.symm, h.1⟩
 | o :: r, i, h, hg, j + 1, hj => by
  have h2 := from_get r (i + 1) h.2 (fun m => by
   have := hg (m + 1)
   simp only [List.getElem?_cons_succ] at this
   rw [this, show i + (m + 1) = i + 1 + m by omega]) j (by simp at hj; omega)
  rwa [show i + 1 + j = i + (j + 1) by omega] at h2
theorem from_nil {n i : Nat} {a0 : Act} {V : List Ent} {S : World → Prop} {G : World → World → Prop} : From P ops Q B n a0 V S G i [] := trivial
theorem from_some {n i : Nat} {a0 : Act} {V : List Ent} {S : World → Prop} {G : World → World → Prop} {o : Oper} {r : List Oper} {t : Tmp} {v : Value} (k : Nat) (ht : o.dst = some t) (hk : V[k]? = some (i, t, .inl v))
  (h : ∀ a w, S w → Knows a0 V (deps B n i) (laters B n i) a w → ∀ K : Act → World → Prop, (∀ w', S w' → G w w' → K (a.put (some t) v) w') → if Region.wanted o (yielded ops a.tmps) = true then Oper.wp P o a w K Q else K (a.put (some t) undef) w)
  (hr : From P ops Q B n a0 V S G (i + 1) r) : From P ops Q B n a0 V S G i (o :: r) := by
 refine ⟨?_, hr⟩
 unfold Step
 rw [ht]
 exact ⟨k, _, hk, fun a w hS hK K hC => h a w hS hK K (fun w' hS' hG => hC v w' hS' hG rfl)⟩
theorem from_rel {n i : Nat} {a0 : Act} {V : List Ent} {S : World → Prop} {G : World → World → Prop} {o : Oper} {r : List Oper} {t : Tmp} {q : Value → World → Prop} (k : Nat) (ht : o.dst = some t) (hk : V[k]? = some (i, t, .inr q))
  (h : ∀ a w, S w → Knows a0 V (deps B n i) (laters B n i) a w → ∀ K : Act → World → Prop, (∀ v w', S w' → G w w' → q v w' → K (a.put (some t) v) w') → if Region.wanted o (yielded ops a.tmps) = true then Oper.wp P o a w K Q else K (a.put (some t) undef) w)
  (hr : From P ops Q B n a0 V S G (i + 1) r) : From P ops Q B n a0 V S G i (o :: r) := by
 refine ⟨?_, hr⟩
 unfold Step
 rw [ht]
 exact ⟨k, _, hk, h⟩
theorem rel {id n : Nat} {a0 : Act} {w0 : World} (V : List Ent) (S : World → Prop) (G : World → World → Prop) (hm : P.follows .mixedOrders = true) (hn : ops.size = n) (hc : regOk ops n = true)
  (h0 : S w0.drew) (hst : ∀ (k : Nat) (i : Nat) (t : Tmp) (q : Value → World → Prop), V[k]? = some (i, t, .inr q) → ∀ v w w', G w w' → q v w → q v w')
  (hs : From P ops Q (Reg.bits ops) n a0 V S G 0 ops.toList) (hV : okV (inst U0 0 V) a0.tmps.size = true) (hlt : (inst U0 0 V).all (fun e => decide (e.1 < n)) = true)
  (hend : ∀ U w, S w → (∀ (k : Nat) (i : Nat) (t : Tmp) (q : Value → World → Prop), V[k]? = some (i, t, .inr q) → q (U k) w) → Q .normal (putV a0 (inst U 0 V)) w) : (Code.region id ops true).wp P Q a0 w0 := by
 unfold regOk at hc
 rw [Bool.and_eq_true, Bool.and_eq_true, beq_iff_eq] at hc
 refine rel_region V S G hm hn rfl hc.1.1 hc.1.2 hc.2 h0 hst (fun i hi => ?_) hV hlt hend
 have h2 := from_get ops.toList 0 hs (fun j => by simp) i (by simpa [hn] using hi)
 rwa [Nat.zero_add] at h2
theorem stable_nil {G : World → World → Prop} : ∀ (k : Nat) (i : Nat) (t : Tmp) (q : Value → World → Prop), ([] : List Ent)[k]? = some (i, t, .inr q) → ∀ v w w', G w w' → q v w → q v w' := fun k i t q h => by simp at h
theorem stable_inl {V : List Ent} {G : World → World → Prop} {i0 : Nat} {t0 : Tmp} {c : Value} (h : ∀ (k : Nat) (i : Nat) (t : Tmp) (q : Value → World → Prop), V[k]? = some (i, t, .inr q) → ∀ v w w', G w w' → q v w → q v w') :
  ∀ (k : Nat) (i : Nat) (t : Tmp) (q : Value → World → Prop), ((i0, t0, .inl c) :: V : List Ent)[k]? = some (i, t, .inr q) → ∀ v w w', G w w' → q v w → q v w'
 | 0, i, t, q, hk => by simp at hk
 | k + 1, i, t, q, hk => h k i t q (by simpa using hk)
theorem stable_inr {V : List Ent} {G : World → World → Prop} {i0 : Nat} {t0 : Tmp} {q0 : Value → World → Prop} (h0 : ∀ v w w', G w w' → q0 v w → q0 v w') (h : ∀ (k : Nat) (i : Nat) (t : Tmp) (q : Value → World → Prop), V[k]? = some (i, t, .inr q) → ∀ v w w', G w w' → q v w → q v w') :
  ∀ (k : Nat) (i : Nat) (t : Tmp) (q : Value → World → Prop), ((i0, t0, .inr q0) :: V : List Ent)[k]? = some (i, t, .inr q) → ∀ v w w', G w w' → q v w → q v w'
 | 0, i, t, q, hk => by
  simp only [List.getElem?_cons_zero, Option.some.injEq, Prod.mk.injEq, Sum.inr.injEq] at hk
  obtain ⟨_, _, rfl⟩ := hk
  exact h0
 | k + 1, i, t, q, hk => h k i t q (by simpa using hk)
end
end Go.Proofs.YtdlimghdimkadaaDoor.Rel
namespace Go.Proofs.YtdlimghdimkadaaDoor.Rel
open Go Go.RowKit Go.Proofs.YtdlimghdimkadaaDoorW.PrintLast Go.Proofs.YtdlimghdimkadaaDoorW.PrintWords Go.Proofs.YtdlimghdimkadaaDoor.Reg
def wpTail (P : Program) (ops : Array Oper) (Q : Exit → Act → World → Prop) : List Oper → Act → World → Prop
 | [], a, w => Q .normal a w
 | o :: r, a, w => ∀ K : Act → World → Prop, Shut (∀ a' w', wpTail P ops Q r a' w' → K a' w') → if Region.wanted o (yielded ops a.tmps) = true then Oper.wp P o a w K Q else K (a.put o.dst undef) w
section
variable {P : Program} {ops : Array Oper} {Q : Exit → Act → World → Prop} {T : Bool × List (List Nat × List Nat)} {B : List Nat}
theorem from_getn (m : Nat) {n : Nat} {a0 : Act} {V : List Ent} {S : World → Prop} {G : World → World → Prop} (os : List Oper) : ∀ (l : List Oper) (i : Nat), From P ops Q B n a0 V S G i l → (∀ j, i + j < m → l[j]? = os[i + j]?) → ∀ j, j < l.length → i + j < m → ∃ oi, os[i + j]? = some oi ∧ Step P ops Q B n a0 V S G (i + j) oi
 | [], _, _, _, j, hj, _ => by simp at hj
 | o :: r, i, h, hg, 0, _, hm => by
  have h0 := hg 0 hm
  simp only [List.getElem?_cons_zero, Nat.add_zero] at h0
  exact ⟨o, h0.symm, h.1⟩
 | o :: r, i, h, hg, j + 1, hj, hm => by
  have h2 := from_getn m os r (i + 1) h.2 (fun q hq => by
   have := hg (q + 1) (by omega)
   simp only [List.getElem?_cons_succ] at this
   rw [this, show i + (q + 1) = i + 1 + q by omega]) j (by simp at hj; omega) (by omega)
  rwa [show i + 1 + j = i + (j + 1) by omega] at h2
theorem tail_region {id n m : Nat} {a0 : Act} {w0 : World} (V : List Ent) (S : World → Prop) (G : World → World → Prop) (hm : P.follows .mixedOrders = true) (hn : ops.size = n) (hmn : m < n)
  (hT : rtab .any ops = T) (hw : waitsOk T.2 B = true) (hk : baseOk T.2 (List.range n) = true) (hl : T.2.length = n) (htl : ((List.range n).all fun j => decide (j < m) || (List.range j).all fun i => (B.getD j 0).testBit i) = true)
  (h0 : S w0.drew) (hst : ∀ (k : Nat) (i : Nat) (t : Tmp) (q : Value → World → Prop), V[k]? = some (i, t, .inr q) → ∀ v w w', G w w' → q v w → q v w')
  (hs : ∀ i, i < m → ∃ oi, ops[i]? = some oi ∧ Step P ops Q B n a0 V S G i oi) (hV : okV (inst U0 0 V) a0.tmps.size = true) (hlt : (inst U0 0 V).all (fun e => decide (e.1 < m)) = true)
  (hend : ∀ U w, S w → (∀ (k : Nat) (i : Nat) (t : Tmp) (q : Value → World → Prop), V[k]? = some (i, t, .inr q) → q (U k) w) → wpTail P ops Q (ops.toList.drop m) (putV a0 (inst U 0 V)) w) : (Code.region id ops true).wp P Q a0 w0 := by
 have hVU : ∀ U, okV (inst U 0 V) a0.tmps.size = true := fun U => by rw [okV_key (inst_key (U := U) (U' := U0))]; exact hV
 have htb : ∀ j, j < n → m ≤ j → ∀ i, i < j → (B.getD j 0).testBit i = true := fun j hj hmj i hij => by
  have h1 := List.all_eq_true.1 htl j (List.mem_range.2 hj)
  rw [Bool.or_eq_true, decide_eq_true_eq] at h1
  rcases h1 with h1 | h1
  ·omega
  ·exact List.all_eq_true.1 h1 i (List.mem_range.2 hij)
 refine start_ (n := n) (S := fun _ => True) (ds := []) (Array.replicate n false) hm hn rfl trivial (fun _ => ?_)
 refine inv_ (T := T) (B := B) (md := .any) (List.range n) (fun b a w => (b m = false ∧ ∃ U, a = putSel a0 b (inst U 0 V) ∧ S w ∧ ∀ (k : Nat) (i : Nat) (t : Tmp) (q : Value → World → Prop), V[k]? = some (i, t, .inr q) → b i = true → q (U k) w) ∨ (∃ t, m < t ∧ t ≤ n ∧ (∀ j, j < t → b j = true) ∧ (∀ j, t ≤ j → j < n → b j = false) ∧ wpTail P ops Q (ops.toList.drop t) a w)) hT hw hk ?_ ?_ ?_ ?_
 ·rw [Bool.and_eq_true, beq_iff_eq, beq_iff_eq]
  refine ⟨?_, by simp⟩
  apply List.ext_getElem?
  intro j
  simp only [lof, hl]
  by_cases hj : j < n
  ·simp [hj]
  ·simp [hj]
 ·refine .inl ⟨rfl, U0, ?_, h0, fun _ _ _ _ _ hb => by cases hb⟩
  have : ∀ (V : List (Nat × Tmp × Value)) (a : Act), putSel a (fun _ => false) V = a := by
   intro V
   induction V with
   | nil => intro a; rfl
   | cons e r ih => intro a; unfold putSel; simpa using ih a
  exact (this _ a0).symm
 ·intro i hi b a w hI hb hdep hlat
  have hin0 : i < n := List.mem_range.1 hi
  have hin : ∀ j, j < n → (List.range n).contains j = true := fun j hj => by simp [hj]
  by_cases him : i < m
  ·have hbm : b m = false := hlat m (by rw [hin m hmn, htb m hmn (Nat.le_refl _) i him]; rfl)
   rcases hI with ⟨_, U, rfl, hS, hU⟩ | ⟨t, ht, _, h1, _⟩
   ·obtain ⟨oi, ho, hd⟩ := hs i him
    refine ⟨oi, ho, fun K hK => ?_⟩
    have hD : ∀ j, (deps B n i).contains j = true → b j = true := fun j hj => by
     have h1 := List.contains_iff_mem.1 hj
     obtain ⟨h2, h3⟩ := List.mem_filter.1 h1
     exact hdep j (by rw [hin j (List.mem_range.1 h2), h3]; rfl)
    have hL : ∀ j, (laters B n i).contains j = true → b j = false := fun j hj => by
     have h1 := List.contains_iff_mem.1 hj
     obtain ⟨h2, h3⟩ := List.mem_filter.1 h1
     exact hlat j (by rw [hin j (List.mem_range.1 h2), h3]; rfl)
    have hslot : ∀ (k : Nat) (e : Nat × Tmp × Value), (inst U 0 V)[k]? = some e → (deps B n i).contains e.1 = true → (putSel a0 b (inst U 0 V)).tmps[e.2.1]? = some e.2.2 := by
     intro k e hk hDe
     obtain ⟨h1, h2⟩ := okV_at (hVU U) hk
     refine putSel_on k hk ?_ (hD _ hDe) h2
     rw [List.all_append, Bool.and_eq_true] at h1
     refine List.all_eq_true.2 (fun x hx => ?_)
     have := List.all_eq_true.1 h1.2 x hx
     rw [Bool.and_eq_true] at this
     exact this.2
    have hK0 : Knows a0 V (deps B n i) (laters B n i) (putSel a0 b (inst U 0 V)) w := by
     refine ⟨fun t v ht h0t => ?_, fun t v j hj ht h0t => ?_, fun k i t v hk hDe => hslot k (i, t, v) (inst_inl hk) hDe, fun k i t q hk hDe => ⟨U k, ?_, hU k i t q hk (hD _ hDe)⟩⟩
     ·rw [putSel_off (by rw [all_key (p := fun z => !(z.2 == t)) (inst_key (U := U) (U' := U0))]; exact ht)]; exact h0t
     ·rw [putSel_not (hL j hj) (by rw [all_key (p := fun z => !(z.2 == t) || z.1 == j) (inst_key (U := U) (U' := U0))]; exact ht)]; exact h0t
     ·have := hslot k _ (inst_inr (U := U) (m := 0) hk) hDe
      rw [Nat.zero_add] at this
      exact this
    have hbm2 : up b i m = false := by rw [up_ne (by omega)]; exact hbm
    unfold Step at hd
    rcases hdst : oi.dst with _ | t
    ·rw [hdst] at hd
     obtain ⟨hv, hd⟩ := hd
     refine hd (putSel a0 b (inst U 0 V)) w hS hK0 (fun a w => K a w) (fun w' hS' hG => ?_)
     refine hK (putSel a0 b (inst U 0 V)) w' (.inl ⟨hbm2, U, ?_, hS', fun k j t q hk hbj => ?_⟩)
     ·exact putSel_none (a := a0) (b := b) (v := undef) (i := i) (L := inst U 0 V) (by rw [all_key (p := fun z => !(z.1 == i)) (inst_key (U := U) (U' := U0))]; exact hv)
     ·have hji : j ≠ i := fun hji => by
       subst hji
       obtain ⟨v, hg⟩ := inst_get (U := U0) hk
       have := List.all_eq_true.1 hv _ (List.mem_of_getElem? hg)
       simp at this
      rw [up_ne hji] at hbj
      exact hst k j t q hk _ _ _ hG (hU k j t q hk hbj)
    ·rw [hdst] at hd
     obtain ⟨k, e, hk, hd⟩ := hd
     refine hd (putSel a0 b (inst U 0 V)) w hS hK0 K (fun v w' hS' hG hv => ?_)
     cases e with
     | inl c =>
      obtain rfl : v = c := hv
      have hk1 := inst_inl (U := U) (m := 0) hk
      obtain ⟨h1, _⟩ := okV_at (hVU U) hk1
      refine hK _ w' (.inl ⟨hbm2, U, ?_, hS', fun k' j t' q hk' hbj => ?_⟩)
      ·refine putSel_upk (L := inst U 0 V) (L' := inst U 0 V) k hb hk1 ?_ h1
       obtain ⟨hk3, hk4⟩ := List.getElem?_eq_some_iff.1 hk1
       rw [← hk4, List.set_getElem_self]
      ·have hji : j ≠ i := fun hji => by
        subst hji
        have hkk : k' ≠ k := by
         rintro rfl
         rw [hk] at hk'
         simp at hk'
        exact okV_ne (hVU U) hk1 (inst_inr (U := U) (m := 0) hk') (fun h => hkk h)
       rw [up_ne hji] at hbj
       exact hst k' j t' q hk' _ _ _ hG (hU k' j t' q hk' hbj)
     | inr q =>
      have hk1 := inst_inr (U := U) (m := 0) hk
      obtain ⟨h1, _⟩ := okV_at (hVU U) hk1
      refine hK _ w' (.inl ⟨hbm2, fun j => if j = 0 + k then v else U j, ?_, hS', fun k' j t' q' hk' hbj => ?_⟩)
      ·exact putSel_upk (L := inst U 0 V) k hb hk1 (inst_set hk) h1
      ·rw [Nat.zero_add]
       by_cases hkk : k' = k
       ·subst hkk
        rw [hk] at hk'
        simp only [Option.some.injEq, Prod.mk.injEq, Sum.inr.injEq] at hk'
        obtain ⟨rfl, rfl, rfl⟩ := hk'
        simp only [if_true]
        exact hv
       ·simp only [if_neg hkk]
        have hji : j ≠ i := fun hji => by
         subst hji
         exact okV_ne (hVU U) hk1 (inst_inr (U := U) (m := 0) hk') (fun h => hkk h)
        rw [up_ne hji] at hbj
        exact hst k' j t' q' hk' _ _ _ hG (hU k' j t' q' hk' hbj)
   ·rw [h1 m ht] at hbm
    cases hbm
  ·have hall : ∀ j, j < i → b j = true := fun j hj => hdep j (by rw [hin j (by omega), htb i hin0 (by omega) j hj]; rfl)
   have hno : ∀ j, i ≤ j → j < n → b j = false := fun j hij hj => by
    rcases Nat.lt_or_ge i j with h | h
    ·exact hlat j (by rw [hin j hj, htb j hj (by omega) i h]; rfl)
    ·rw [show j = i by omega]; exact hb
   have hget : ops.toList.drop i = ops[i]'(by omega) :: ops.toList.drop (i + 1) := by rw [List.drop_eq_getElem_cons (by simpa [hn] using hin0)]; simp
   have htw : wpTail P ops Q (ops.toList.drop i) a w := by
    rcases hI with ⟨hbm, U, rfl, hS, hU⟩ | ⟨t, ht, htn, h1, h2, h3⟩
    ·have hi2 : i = m := by
      rcases Nat.lt_or_ge m i with h | h
      ·rw [hall m h] at hbm; cases hbm
      ·omega
     subst hi2
     rw [putSel_all (fun e he => hall e.1 (by
      have h2 : (inst U 0 V).all (fun e => decide (e.1 < i)) = true := by rw [all_key (p := fun z => decide (z.1 < i)) (inst_key (U := U) (U' := U0))]; exact hlt
      have := List.all_eq_true.1 h2 e he
      simpa using this))]
     refine hend U w hS (fun k j t q hk => hU k j t q hk (hall j ?_))
     obtain ⟨v, hg⟩ := inst_get (U := U0) hk
     have := List.all_eq_true.1 hlt _ (List.mem_of_getElem? hg)
     simpa using this
    ·have hti : t = i := by
      rcases Nat.lt_trichotomy t i with h | h | h
      ·have := h2 t (Nat.le_refl _) (by omega); rw [hall t h] at this; cases this
      ·exact h
      ·rw [h1 i h] at hb; cases hb
     subst hti
     exact h3
   rw [hget] at htw
   refine ⟨ops[i]'(by omega), by simp [hin0, hn], fun K hK => ?_⟩
   refine htw K (fun a' w' h' => hK a' w' (.inr ⟨i + 1, by omega, by omega, fun j hj => ?_, fun j hj hjn => ?_, h'⟩))
   ·by_cases hji : j = i
    ·subst hji; exact up_self b j
    ·rw [up_ne hji]; exact hall j (by omega)
   ·rw [up_ne (by omega)]; exact hno j (by omega) hjn
 ·intro b a w hb hI
  have hb2 : ∀ j, j < n → b j = true := fun j hj => hb j (by simp [hj])
  rcases hI with ⟨hbm, _⟩ | ⟨t, ht, htn, h1, h2, h3⟩
  ·rw [hb2 m hmn] at hbm; cases hbm
  ·have : t = n := by
    rcases Nat.lt_or_ge t n with h | h
    ·have := h2 t (Nat.le_refl _) h; rw [hb2 t h] at this; cases this
    ·omega
   subst this
   rw [List.drop_eq_nil_of_le (by simp [hn])] at h3
   exact h3
theorem tail {id n m : Nat} {a0 : Act} {w0 : World} (V : List Ent) (S : World → Prop) (G : World → World → Prop) (hm : P.follows .mixedOrders = true) (hn : ops.size = n) (hmn : Nat.blt m n = true) (hc : regOk ops n = true)
  (htl : ((List.range n).all fun j => decide (j < m) || (List.range j).all fun i => ((Reg.bits ops).getD j 0).testBit i) = true)
  (h0 : S w0.drew) (hst : ∀ (k : Nat) (i : Nat) (t : Tmp) (q : Value → World → Prop), V[k]? = some (i, t, .inr q) → ∀ v w w', G w w' → q v w → q v w')
  (hs : From P ops Q (Reg.bits ops) n a0 V S G 0 (ops.toList.take m)) (hV : okV (inst U0 0 V) a0.tmps.size = true) (hlt : (inst U0 0 V).all (fun e => decide (e.1 < m)) = true)
  (hend : ∀ U w, S w → (∀ (k : Nat) (i : Nat) (t : Tmp) (q : Value → World → Prop), V[k]? = some (i, t, .inr q) → q (U k) w) → wpTail P ops Q (ops.toList.drop m) (putV a0 (inst U 0 V)) w) : (Code.region id ops true).wp P Q a0 w0 := by
 unfold regOk at hc
 rw [Bool.and_eq_true, Bool.and_eq_true, beq_iff_eq] at hc
 have hmn2 : m + 1 ≤ n := by simpa [Nat.blt] using hmn
 refine tail_region V S G hm hn hmn2 rfl hc.1.1 hc.1.2 hc.2 htl h0 hst (fun i hi => ?_) hV hlt hend
 have hlen : (ops.toList.take m).length = m := by rw [List.length_take, Array.length_toList, hn]; omega
 have h2 := from_getn m ops.toList (ops.toList.take m) 0 hs (fun j hj => by rw [List.getElem?_take, if_pos (by omega), Nat.zero_add]) i (by rw [hlen]; exact hi) (by omega)
 rw [Nat.zero_add] at h2
 obtain ⟨oi, ho, hd⟩ := h2
 exact ⟨oi, by rw [← ho]; simp, hd⟩
theorem tail_nil {a : Act} {w : World} (h : Q .normal a w) : wpTail P ops Q [] a w := h
theorem tail_cons {o : Oper} {r : List Oper} {a : Act} {w : World} (h : ∀ K : Act → World → Prop, (∀ a' w', wpTail P ops Q r a' w' → K a' w') → if Region.wanted o (yielded ops a.tmps) = true then Oper.wp P o a w K Q else K (a.put o.dst undef) w) : wpTail P ops Q (o :: r) a w := h
end
end Go.Proofs.YtdlimghdimkadaaDoor.Rel
namespace Go.Proofs.YtdlimghdimkadaaDoor.PAll
open Go.RowKit Go.Proofs.YtdlimghdimkadaaDoorW.PrintWords Go.Proofs.YtdlimghdimkadaaDoorW.PrintLast Go.Proofs.YtdlimghdimkadaaDoorW.PrintMore
set_option linter.unusedSimpArgs false
set_option linter.unusedVariables false
attribute [local go_sem] max2_int min2_int max_two min_two max_three min_three max_four min_four
variable {w0 W : World} {gc gb : Nat} {gp : Nat → Nat} {m : Ch} {D : Nat → Nat → List Int}
theorem add0 (g n : Nat) : (⟨g, 0, none⟩ : Addr).add n = ⟨g, n, none⟩ := by
 by_cases h : n = 0
 ·subst h; simp [Addr.add]
 ·simp [Addr.add, h]
theorem info5' : (Tryd.prog.info? 5).map (fun i => (i.zero, i.size, i.bytes)) = some (some (.int .u8 0), 1, 1) := by kernel_rfl
theorem setPg_twice (b : Bk) (j : Nat) (p q : Pg) : (b.setPg j p).setPg j q = b.setPg j q := by
 unfold Bk.setPg
 congr 1
 funext x
 by_cases h : x = j <;> simp [h]
theorem setPg_self (b : Bk) (j : Nat) (p : Pg) : (b.setPg j p).pg j = p := by simp [Bk.setPg]
theorem setBk_self (m : Ch) (i : Nat) (b : Bk) : (m.setBk i b).bk i = b := by simp [Ch.setBk]
theorem setBk_twice (m : Ch) (i : Nat) (b c : Bk) : (m.setBk i b).setBk i c = m.setBk i c := by
 unfold Ch.setBk
 congr 1
 funext x
 by_cases h : x = i <;> simp [h]
theorem setBk_other (m : Ch) (i x : Nat) (b : Bk) (h : x ≠ i) : (m.setBk i b).bk x = m.bk x := by simp [Ch.setBk, h]
def updD (D : Nat → Nat → List Int) (i j : Nat) (xs : List Int) : Nat → Nat → List Int := fun x y => if x = i ∧ y = j then xs else D x y
theorem cB_pg (gp : Nat → Nat) (m : Ch) (i : Nat) (b : Bk) (h1 : b.bad = (m.bk i).bad) (h2 : b.er = (m.bk i).er) (h3 : b.nx = (m.bk i).nx) : cB gp (m.setBk i b) = cB gp m := by
 unfold cB
 congr 1
 funext k
 unfold bcell Ch.setBk
 by_cases h : k.val / 4 = i <;> simp [h, h1, h2, h3]
theorem St.page (h : St w0 W gc gb gp m D) (i : Nat) (hi : i < m.g.B) (j : Nat) (hj : j < m.g.P) (st : Int) (v : Value) (xs : List Int) (hv : Kd.R kB 5 W w0.heap.size (fun _ => True) v xs) :
  St w0 ((W.setCell ⟨gp i, j * 2, none⟩ (.int .i64 st)).setCell ⟨gp i, j * 2 + 1, none⟩ v) gc gb gp (m.setBk i ((m.bk i).setPg j ⟨st, v⟩)) (updD D i j xs) := by
 have h1 : St w0 (W.setCell ⟨gp i, j * 2, none⟩ (.int .i64 st)) gc gb gp (m.setBk i ((m.bk i).setPg j { (m.bk i).pg j with st := st })) D := by
  refine h.setP (m' := m.setBk i ((m.bk i).setPg j { (m.bk i).pg j with st := st })) i hi (j * 2) (.int .i64 st) ?_ rfl rfl (cB_pg gp m i _ rfl rfl rfl) (fun x _ hx => setBk_other m i x _ hx) (fun x y hx hy => ?_) ⟨rfl, rfl⟩
  ·rw [setBk_self]; exact cP_st _ _ _ _
  ·have hd := h.d x y hx hy
   by_cases hxi : x = i
   ·subst hxi
    rw [setBk_self]
    by_cases hyj : y = j
    ·subst hyj; rw [setPg_self]; exact hd
    ·simp only [Bk.setPg, hyj, if_false]; exact hd
   ·rw [setBk_other m i x _ hxi]; exact hd
 have h2 := h1.setP (m' := (m.setBk i ((m.bk i).setPg j { (m.bk i).pg j with st := st })).setBk i (((m.bk i).setPg j { (m.bk i).pg j with st := st }).setPg j ⟨st, v⟩)) (D' := updD D i j xs) i hi (j * 2 + 1) v ?_ rfl rfl (cB_pg gp _ i _ (by rw [setBk_self]; rfl) (by rw [setBk_self]; rfl) (by rw [setBk_self]; rfl)) (fun x _ hx => setBk_other _ i x _ hx) (fun x y hx hy => ?_) ⟨rfl, rfl⟩
 ·rw [setBk_twice, setPg_twice] at h2
  exact h2
 ·rw [setBk_self, setBk_self, cP_d, setPg_self]
 ·have hp := h.p i hi
  by_cases hxi : x = i
  ·subst hxi
   rw [setBk_self]
   by_cases hyj : y = j
   ·subst hyj
    rw [setPg_self]
    unfold updD
    rw [if_pos ⟨rfl, rfl⟩]
    exact Kd.R_set hv hp (by decide) _ _
   ·have e : updD D x j xs x y = D x y := by unfold updD; rw [if_neg (fun h => hyj h.2)]
    rw [e]
    simp only [Bk.setPg, hyj, if_false]
    exact Kd.R_set (h.d x y hx hy) hp (by decide) _ _
  ·have e : updD D i j xs x y = D x y := by unfold updD; rw [if_neg (fun h => hxi h.1)]
   rw [e, setBk_other _ i x _ hxi, setBk_other _ i x _ hxi]
   exact Kd.R_set (h.d x y hx hy) hp (by decide) _ _
theorem St.pageD (h : St w0 W gc gb gp m D) (i : Nat) (hi : i < m.g.B) (j : Nat) (hj : j < m.g.P) (v : Value) (xs : List Int) (hv : Kd.R kB 5 W w0.heap.size (fun _ => True) v xs) :
  St w0 (W.setCell ⟨gp i, j * 2 + 1, none⟩ v) gc gb gp (m.setBk i ((m.bk i).setPg j ⟨((m.bk i).pg j).st, v⟩)) (updD D i j xs) := by
 refine h.setP (m' := m.setBk i ((m.bk i).setPg j ⟨((m.bk i).pg j).st, v⟩)) (D' := updD D i j xs) i hi (j * 2 + 1) v ?_ rfl rfl (cB_pg gp _ i _ rfl rfl rfl) (fun x _ hx => setBk_other _ i x _ hx) (fun x y hx hy => ?_) ⟨rfl, rfl⟩
 ·rw [setBk_self, cP_d]
 ·by_cases hxi : x = i
  ·subst hxi
   rw [setBk_self]
   by_cases hyj : y = j
   ·subst hyj
    rw [setPg_self]
    unfold updD
    rw [if_pos ⟨rfl, rfl⟩]
    exact hv
   ·have e : updD D x j xs x y = D x y := by unfold updD; rw [if_neg (fun h => hyj h.2)]
    rw [e]
    simp only [Bk.setPg, hyj, if_false]
    exact h.d x y hx hy
  ·have e : updD D i j xs x y = D x y := by unfold updD; rw [if_neg (fun h => hxi h.1)]
   rw [e, setBk_other _ i x _ hxi]
   exact h.d x y hx hy
theorem updD_twice (D : Nat → Nat → List Int) (i j : Nat) (xs ys : List Int) : updD (updD D i j xs) i j ys = updD D i j ys := by
 funext x y
 unfold updD
 by_cases h : x = i ∧ y = j <;> simp [h]
theorem St.nx (h : St w0 W gc gb gp m D) (i : Nat) (x : Int) : St w0 (W.setCell ⟨gb, i * 4 + 3, none⟩ (.int .i64 x)) gc gb gp (m.setBk i { m.bk i with nx := x }) D :=
 h.setB _ _ (cB_nx gp m i x) rfl rfl (fun k _ => by by_cases hk : k = i <;> simp [Ch.setBk, hk]) ⟨rfl, rfl⟩
theorem St.er (h : St w0 W gc gb gp m D) (i : Nat) (x : Int) : St w0 (W.setCell ⟨gb, i * 4 + 1, none⟩ (.int .i64 x)) gc gb gp (m.setBk i { m.bk i with er := x }) D :=
 h.setB _ _ (cB_er gp m i x) rfl rfl (fun k _ => by by_cases hk : k = i <;> simp [Ch.setBk, hk]) ⟨rfl, rfl⟩
theorem St.badS (h : St w0 W gc gb gp m D) (i : Nat) (x : Bool) : St w0 (W.setCell ⟨gb, i * 4, none⟩ (.bool x)) gc gb gp (m.setBk i { m.bk i with bad := x }) D :=
 h.setB _ _ (cB_bad gp m i x) rfl rfl (fun k _ => by by_cases hk : k = i <;> simp [Ch.setBk, hk]) ⟨rfl, rfl⟩
theorem St.ops (h : St w0 W gc gb gp m D) (x : Int) : St w0 (W.setCell ⟨gc, 8, none⟩ (.int .i64 x)) gc gb gp { m with ops := x } D := h.setC 8 _ rfl rfl rfl h.pln
theorem St.wrong (h : St w0 W gc gb gp m D) (x : Int) : St w0 (W.setCell ⟨gc, 9, none⟩ (.int .i64 x)) gc gb gp { m with wrong := x } D := h.setC 9 _ rfl rfl rfl h.pln
theorem St.other (h : St w0 W gc gb gp m D) {g : Nat} {cs : Array Value} (hg : W.heap[g]? = some (.cells cs 71 (0, 0))) (hge : w0.heap.size ≤ g) (k : Nat) (v : Value) (hpl : Kd.R kF 71 (W.setCell ⟨g, k, none⟩ v) w0.heap.size (fun _ => True) m.plan m.pl) : St w0 (W.setCell ⟨g, k, none⟩ v) gc gb gp m D :=
 ⟨blk_far h.c (ne_of_type h.c hg (by decide)) _, blk_far h.b (ne_of_type h.b hg (by decide)) _, fun i hi => blk_far (h.p i hi) (ne_of_type (h.p i hi) hg (by decide)) _, h.inj, h.ec, h.eb, h.ep, fun i j hi hj => Kd.R_set (h.d i j hi hj) hg (by decide) _ _, hpl, below_set h.below hge, h.gok⟩
theorem set44 {g : Nat} {a b c : Value} (h : W.heap[g]? = some (.cells #[a, b, c] 71 (0, 0))) (x y z : Value) : (((W.setCell ⟨g, 0, none⟩ x).setCell ⟨g, 1, none⟩ y).setCell ⟨g, 2, none⟩ z).heap[g]? = some (.cells #[x, y, z] 71 (0, 0)) :=
 blk_put (blk_put (blk_put h 0 x (cs' := #[x, b, c]) rfl) 1 y (cs' := #[x, y, c]) rfl) 2 z rfl
theorem St.other3 (h : St w0 W gc gb gp m D) {g : Nat} {a b c : Value} (hg : W.heap[g]? = some (.cells #[a, b, c] 71 (0, 0))) (hge : w0.heap.size ≤ g) {ok : Nat → Prop} (hok : ∀ k, ok k → k ≠ g) (hpl : Kd.R kF 71 W w0.heap.size ok m.plan m.pl) (x y z : Value) : St w0 (((W.setCell ⟨g, 0, none⟩ x).setCell ⟨g, 1, none⟩ y).setCell ⟨g, 2, none⟩ z) gc gb gp m D := by
 have p1 := Kd.R_far hpl (p := ⟨g, 0, none⟩) hok x
 have p2 := Kd.R_far p1 (p := ⟨g, 1, none⟩) hok y
 have p3 := Kd.R_far p2 (p := ⟨g, 2, none⟩) hok z
 exact ((h.other hg hge 0 x (Kd.R_mono p1 (fun _ _ => trivial))).other (blk_put hg 0 x (cs' := #[x, b, c]) rfl) hge 1 y (Kd.R_mono p2 (fun _ _ => trivial))).other (blk_put (blk_put hg 0 x (cs' := #[x, b, c]) rfl) 1 y (cs' := #[x, y, c]) rfl) hge 2 z (Kd.R_mono p3 (fun _ _ => trivial))
theorem Keeps.set3 {W W1 : World} (h : Keeps W W1) {g : Nat} (hg : W.heap.size ≤ g) (x y z : Value) : Keeps W (((W1.setCell ⟨g, 0, none⟩ x).setCell ⟨g, 1, none⟩ y).setCell ⟨g, 2, none⟩ z) :=
 ((h.fresh (p := ⟨g, 0, none⟩) hg x).fresh (p := ⟨g, 1, none⟩) hg y).fresh (p := ⟨g, 2, none⟩) hg z
theorem St.lower {w1 : World} (h : St w1 W gc gb gp m D) (hb : Below w0.heap.size w0 w1) : St w0 W gc gb gp m D :=
 ⟨h.c, h.b, h.p, h.inj, Nat.le_trans (below_size hb) h.ec, Nat.le_trans (below_size hb) h.eb, fun i hi => Nat.le_trans (below_size hb) (h.ep i hi), fun i j hi hj => Kd.R_lower (h.d i j hi hj) (below_size hb), Kd.R_lower h.pln (below_size hb), below_step hb h.below, h.gok⟩
set_option maxRecDepth 100000 in
theorem clone_bytes (A : Option Addr) (c : Nat) (l : List Int) (w : World) (hr : Kd.C kB w A l.length l) (hc : l.length ≤ c) (hb : l.length ≤ 140737488355328) :
  Calls Tryd.prog 35 #[.slice A l.length c] w fun e w' => ∃ v0_ : Value, e = .returned (v0_) ∧ Kd.R kB 5 w' w.heap.size (fun _ => True) v0_ l ∧ Below w.heap.size w w' := by
 have HR := Aside0.mk hr
 have HC := Aside0.mk hc
 have HBs := Aside0.mk hb
 clear hc hb
 rcases A with _ | ad
 ·have h0 : l = [] := by
   rcases Nat.eq_zero_or_pos l.length with h0 | h0
   ·exact List.eq_nil_of_length_eq_zero h0
   ·obtain ⟨ad, h, _⟩ := hr.2.2 h0
    cases h
  subst h0
  clear hr
  have hnil := fun W : World => Lib.run_eql_slice_nil (P := Tryd.prog) W 39 5 none 0 c 0 0 Tryd.underlying39
  go_enter Tryd.func35, Tryd.ntmps35
  go_wp2
  go_ret
  exact ⟨_, rfl, Kd.R_nil _ _ _ _ _, Below.refl _ _⟩
 ·clear hr
  have hnil := fun W : World => Lib.run_eql_slice_nil (P := Tryd.prog) W 39 5 (some ad) l.length c 0 0 Tryd.underlying39
  go_enter Tryd.func35, Tryd.ntmps35
  go_wp2_with (first
   | ((with_reducible refine gate_dst (N := 5) rfl ?_); refine Kd.R_lit kB w.heap.size 5 ?hg (N := 5) ?hd (xs := ([] : List Int)) (inner := []) (ok := fun _ => True) (okp := fun _ => True) ?hr ?hp (fun _ hk => hk) trivial (Below.refl _ _) (Nat.le_refl _) (by simp) ?_; (case hd => rfl); (case hg => rfl); (case hr => first | (go_simp; done) | (go_simp; rfl)); (case hp => exact (Reps.none _ _)); intro v1 w1 ho hb _ _; have HO := Aside0.mk ho; have HB := Aside0.mk hb; clear ho hb)
   | ((with_reducible refine gate_builtin (b := .append) (xs := #[.tmp 5, .tmp 6]) rfl ?_); at_builtin; refine Kd.R_append_rows kB (w0 := w) w.heap.size rfl (.tmp 5) (.tmp 6) 39 5 (.int .u8 0) 1 rfl Tryd.underlying39 info5' rfl Nat.zero_lt_one Nat.zero_lt_one v1 [] l _ _ _ (fun _ => True) (fun _ => False) rfl rfl ?aO ?aR (fun _ _ h => h) (fun _ h => h.elim) ?aF ?aB ?aS ?aL ?_; (case aO => exact HO.out); (case aR => exact Kd.C_below HR.out HB.out); (case aF => exact fun _ _ => trivial); (case aB => exact HB.out); (case aS => exact below_size HB.out); (case aL => have := HBs.out; simp; exact this); intro v2 w2 ho2 hb2 _ _; have HO2 := Aside0.mk ho2; have HB2 := Aside0.mk hb2; clear ho2 hb2))
  go_ret
  exact ⟨_, rfl, HO2.out, HB2.out⟩
def hitOf (pl : List F3) (t : Int) : Option F3 := pl.find? (fun f => decide (f.f0 = t))
def bgV (o : Option F3) : Value := .tuple #[.agg #[.int .i64 (o.getD zF).f0, .int .i64 (o.getD zF).f1, .int .i64 (o.getD zF).f2], .bool o.isSome]
theorem hitOf_hit {pl : List F3} {t : Int} {i : Nat} {f : F3} (h : hitOf (pl.take i) t = none) (hg : pl[i]? = some f) (hf : f.f0 = t) : hitOf pl t = some f := by
 obtain ⟨hlt, he⟩ := List.getElem?_eq_some_iff.1 hg
 have e : pl = pl.take i ++ f :: pl.drop (i + 1) := by rw [← he, List.getElem_cons_drop, List.take_append_drop]
 unfold hitOf at h ⊢
 rw [e, List.find?_append, h]
 simp [hf]
theorem hitOf_next {pl : List F3} {t : Int} {i : Nat} {f : F3} (h : hitOf (pl.take i) t = none) (hg : pl[i]? = some f) (hf : f.f0 ≠ t) : hitOf (pl.take (i + 1)) t = none := by
 obtain ⟨hlt, rfl⟩ := List.getElem?_eq_some_iff.1 hg
 unfold hitOf at h ⊢
 rw [List.take_add_one, List.getElem?_eq_getElem hlt, List.find?_append, h]
 simp [hf]
set_option maxRecDepth 100000 in
set_option maxHeartbeats 4000000 in
theorem begin_any (h : St w0 W gc gb gp m D) :
  Calls Tryd.prog 34 #[cp gc] W fun e w' => e = .returned (bgV (hitOf m.pl (wrap64 (wrap64 (m.ops + 1) - m.frm)))) ∧ St w0 w' gc gb gp { m with ops := wrap64 (m.ops + 1) } D ∧ Keeps W w' := by
 have c8 : ∀ o, (W.alloc o).cell? ⟨gc, 8, none⟩ = some (.int .i64 m.ops) := fun o => (h.grow (below_alloc (Below.refl _ _) o)).cellC 8
 have f8 : ∀ o, (W.alloc o).frozen? ⟨gc, 8, none⟩ = false := fun o => blk_frozen (h.grow (below_alloc (Below.refl _ _) o)).c 8
 have H := Aside0.mk h
 have hu44 := Tryd.underlying71
 obtain ⟨A5, c5, e5⟩ := Kd.R_slice h.pln
 have hform : 0 < m.pl.length → ∃ g5, A5 = some ⟨g5, 0, none⟩ := fun hpos => by
  obtain ⟨g5, c, e, _⟩ := Kd.R_form h.pln hpos
  rw [e5] at e
  simp only [Value.slice.injEq] at e
  exact ⟨g5, e.1⟩
 have HF5 := Aside0.mk hform
 have HPV := Aside0.mk e5
 have hpb : Kd.R kF 71 W w0.heap.size (fun k => k < W.heap.size) m.plan m.pl := Kd.R_mono (Kd.R_bound h.pln) (fun k hk => hk.2.2.1)
 have HPB0 := Aside0.mk hpb
 have hmx : m.pl.length ≤ 9223372036854775807 := by
  have h7 := h.pln
  rw [e5] at h7
  exact Kd.C_max (Kd.R_reads' h7).2.2
 clear h e5 hform hpb
 go_enter Tryd.func34, Tryd.ntmps34
 go_upto_region 2 with (fail)
 generalize hW : (W.alloc (.cells #[.int .i64 0, .int .i64 0, .int .i64 0] 71)).setCell ⟨gc, 8, none⟩ (.int .i64 (wrap64 (m.ops + 1))) = W1
 have h1 : St w0 W1 gc gb gp { m with ops := wrap64 (m.ops + 1) } D := by rw [← hW]; exact (H.out.grow (below_alloc (Below.refl _ _) _)).ops _
 have hk : Keeps W W1 := by rw [← hW]; exact (Keeps.of_below (below_alloc (Below.refl _ _) _)).set (H.out.grow (below_alloc (Below.refl _ _) _)).c (by decide) _ _
 have hx : W1.heap[W.heap.size]? = some (.cells #[.int .i64 0, .int .i64 0, .int .i64 0] 71 (0, 0)) := by rw [← hW]; exact blk_far (new_blk _ _ _) (ne_of_type (new_blk W #[.int .i64 0, .int .i64 0, .int .i64 0] 71) (H.out.grow (below_alloc (Below.refl _ _) (.cells #[.int .i64 0, .int .i64 0, .int .i64 0] 71))).c (by decide)) _
 have hpb1 : Kd.R kF 71 W1 w0.heap.size (fun k => k < W.heap.size) m.plan m.pl := by rw [← hW]; exact Kd.R_set (Kd.R_below HPB0.out (below_alloc (Below.refl _ _) _)) (H.out.grow (below_alloc (Below.refl _ _) _)).c (by decide) _ _
 have cc5 : W1.cell? ⟨gc, 5, none⟩ = some (.slice A5 m.pl.length c5) := by rw [h1.cellC 5]; simp [cC, HPV.out]
 have x0 := Joins.cell_of_block hx 0
 have x1 := Joins.cell_of_block hx 1
 have x2 := Joins.cell_of_block hx 2
 have fx0 := blk_frozen hx 0
 have fx1 := blk_frozen hx 1
 have fx2 := blk_frozen hx 2
 have H1 := Aside0.mk h1
 have HK := Aside0.mk hk
 have HX := Aside0.mk hx
 have HPB := Aside0.mk hpb1
 clear hW h1 hk hx c8 f8 hpb1
 go_upto_region 3 with (fail)
 go_loopw [18] (fun v18 wr => ∃ i : Nat, i ≤ m.pl.length ∧ v18 = .int .i64 i ∧ Aside0 (hitOf (m.pl.take i) (wrap64 (wrap64 (m.ops + 1) - m.frm)) = none) ∧ Aside0 (Below W1.heap.size W1 wr)) (fun i _ => m.pl.length - (intOf i).toNat)
 case atStart => exact ⟨0, Nat.zero_le _, rfl, ⟨rfl⟩, ⟨Below.refl _ _⟩⟩
 case round =>
  obtain ⟨i, hi, rfl, HM, HBr⟩ := hrel
  clear cc5 x0 x1 x2 fx0 fx1 fx2
  have HXr := Aside0.mk (keep_below HX.out HBr.out)
  have x0 := Joins.cell_of_block HXr.out 0
  have x1 := Joins.cell_of_block HXr.out 1
  have x2 := Joins.cell_of_block HXr.out 2
  have fx0 := blk_frozen HXr.out 0
  have fx1 := blk_frozen HXr.out 1
  have fx2 := blk_frozen HXr.out 2
  by_cases hlt : i < m.pl.length
  ·have d0 : decide ((i : Int) < (m.pl.length : Int)) = true := decide_eq_true (by omega)
   have hq : (i < m.pl.length) = True := eq_true hlt
   have hqi : ((i : Int) < (m.pl.length : Int)) = True := eq_true (by omega)
   have hqm : (m.pl.length ≤ i) = False := eq_false (by omega)
   have hr5 := Kd.R_below (H1.out.pln) HBr.out
   have hf5 := HF5.out (Nat.lt_of_le_of_lt (Nat.zero_le _) hlt)
   obtain ⟨g5, rfl⟩ := hf5
   have hr6 := hr5
   rw [show ({ m with ops := wrap64 (m.ops + 1) } : Ch).plan = m.plan from rfl, show ({ m with ops := wrap64 (m.ops + 1) } : Ch).pl = m.pl from rfl, HPV.out] at hr6
   obtain ⟨ad, ead, y0, y1, y2⟩ := at_F (Kd.R_reads' hr6).2.2 (i : Int) (by omega) (by omega)
   obtain rfl : (⟨g5, 0, none⟩ : Addr) = ad := by simpa using ead
   rw [add0, Int.toNat_natCast] at y0 y1 y2
   have hget : m.pl[i]? = some (rd_F m.pl (i : Int)) := by
    unfold rd_F
    rw [Int.toNat_natCast, List.getD_eq_getElem?_getD, List.getElem?_eq_getElem hlt]
    rfl
   generalize rd_F m.pl (i : Int) = f at y0 y1 y2 hget
   have HGT := Aside0.mk hget
   have HQ9 := Aside0.mk (fun o => below_step HBr.out (below_alloc (Below.refl wr.heap.size wr) o))
   clear ead hget hr5 hr6
   by_cases hf : f.f0 = wrap64 (wrap64 (m.ops + 1) - m.frm)
   ·have e1 : (f.f0 == IntKind.i64.wrap (wrap64 (m.ops + 1) - m.frm)) = true := by rw [i64_w, ← hf]; simp
    have HE := Aside0.mk (hitOf_hit HM.out HGT.out hf)
    clear hf
    go_upto_region 5 with (fail)
    generalize hW6 : wr.alloc (.cells #[.int .i64 f.f0, .int .i64 f.f1, .int .i64 f.f2] 71) = W6
    have HF6 := Aside0.mk (show W6.heap[wr.heap.size]? = some (.cells #[.int .i64 f.f0, .int .i64 f.f1, .int .i64 f.f2] 71 (0, 0)) by rw [← hW6]; exact new_blk _ _ _)
    have HB6 := Aside0.mk (show Below W1.heap.size W1 W6 by rw [← hW6]; exact HQ9.out _)
    have H6 := Aside0.mk (H1.out.grow HB6.out)
    clear hW6 y0 y1 y2
    refine Reg.det [(0, 22, ?r1v0), (1, 23, ?r1v1), (2, 24, ?r1v2), (3, 25, ?r1v3), (4, 26, ?r1v4), (5, 27, ?r1v5), (6, 28, ?r1v6), (7, 29, ?r1v7), (8, 30, ?r1v8), (9, 31, ?r1v9), (10, 32, ?r1v10), (11, 33, ?r1v11)] (fun w' => Below W6.heap.size W6 w') (by rfl) rfl (by kernel_rfl) ?r1S ?r1steps ?r1okv ?r1hlt ?r1fin
    case r1S => exact below_drew (Below.refl _ _)
    case r1steps =>
     refine Reg.from_some 0 rfl rfl (fun a w hS hK K hC => ?_) ?_
     ·refine Reg.step_on (by rfl) ?_
      have e5 := hK.off 5 _ rfl rfl
      clear hK
      go_simp
      exact hC _ hS
     refine Reg.from_some 1 rfl rfl (fun a w hS hK K hC => ?_) ?_
     ·refine Reg.step_on (by rfl) ?_
      have e22 := hK.slot 0 _ _ _ rfl (by kernel_rfl)
      have k8 := (H6.out.grow hS).cellC 8
      change _ = some (Value.int .i64 (wrap64 (m.ops + 1))) at k8
      have k6 := (H6.out.grow hS).cellC 6
      change _ = some (Value.int .i64 m.frm) at k6
      have kf := Joins.cell_of_block (keep_below HF6.out hS) 0
      clear hK
      go_simp
      exact hC _ hS
     refine Reg.from_some 2 rfl rfl (fun a w hS hK K hC => ?_) ?_
     ·refine Reg.step_on (by rfl) ?_
      have e0 := hK.off 0 _ rfl rfl
      clear hK
      go_simp
      exact hC _ hS
     refine Reg.from_some 3 rfl rfl (fun a w hS hK K hC => ?_) ?_
     ·refine Reg.step_on (by rfl) ?_
      have e24 := hK.slot 2 _ _ _ rfl (by kernel_rfl)
      clear hK
      go_simp
      exact hC _ hS
     refine Reg.from_some 4 rfl rfl (fun a w hS hK K hC => ?_) ?_
     ·refine Reg.step_on (by rfl) ?_
      have e25 := hK.slot 3 _ _ _ rfl (by kernel_rfl)
      clear hK
      go_simp
      exact hC _ hS
     refine Reg.from_some 5 rfl rfl (fun a w hS hK K hC => ?_) ?_
     ·refine Reg.step_on (by rfl) ?_
      have e26 := hK.slot 4 _ _ _ rfl (by kernel_rfl)
      have k8 := (H6.out.grow hS).cellC 8
      change _ = some (Value.int .i64 (wrap64 (m.ops + 1))) at k8
      have k6 := (H6.out.grow hS).cellC 6
      change _ = some (Value.int .i64 m.frm) at k6
      have kf := Joins.cell_of_block (keep_below HF6.out hS) 0
      clear hK
      go_simp
      exact hC _ hS
     refine Reg.from_some 6 rfl rfl (fun a w hS hK K hC => ?_) ?_
     ·refine Reg.step_on (by rfl) ?_
      have e0 := hK.off 0 _ rfl rfl
      clear hK
      go_simp
      exact hC _ hS
     refine Reg.from_some 7 rfl rfl (fun a w hS hK K hC => ?_) ?_
     ·refine Reg.step_on (by rfl) ?_
      have e28 := hK.slot 6 _ _ _ rfl (by kernel_rfl)
      clear hK
      go_simp
      exact hC _ hS
     refine Reg.from_some 8 rfl rfl (fun a w hS hK K hC => ?_) ?_
     ·refine Reg.step_on (by rfl) ?_
      have e29 := hK.slot 7 _ _ _ rfl (by kernel_rfl)
      clear hK
      go_simp
      exact hC _ hS
     refine Reg.from_some 9 rfl rfl (fun a w hS hK K hC => ?_) ?_
     ·refine Reg.step_on (by rfl) ?_
      have e30 := hK.slot 8 _ _ _ rfl (by kernel_rfl)
      have k8 := (H6.out.grow hS).cellC 8
      change _ = some (Value.int .i64 (wrap64 (m.ops + 1))) at k8
      have k6 := (H6.out.grow hS).cellC 6
      change _ = some (Value.int .i64 m.frm) at k6
      have kf := Joins.cell_of_block (keep_below HF6.out hS) 0
      clear hK
      go_simp
      exact hC _ hS
     refine Reg.from_some 10 rfl rfl (fun a w hS hK K hC => ?_) ?_
     ·refine Reg.step_on (by rfl) ?_
      have e27 := hK.slot 5 _ _ _ rfl (by kernel_rfl)
      have e31 := hK.slot 9 _ _ _ rfl (by kernel_rfl)
      clear hK
      go_simp
      exact hC _ hS
     refine Reg.from_some 11 rfl rfl (fun a w hS hK K hC => ?_) ?_
     ·refine Reg.step_on (by rfl) ?_
      have e23 := hK.slot 1 _ _ _ rfl (by kernel_rfl)
      have e32 := hK.slot 10 _ _ _ rfl (by kernel_rfl)
      clear hK
      go_simp
      exact hC _ hS
     exact Reg.from_nil
    case r1okv => rfl
    case r1hlt => rfl
    case r1fin =>
     intro wz hS
     simp only [Reg.putV, List.foldl_cons, List.foldl_nil, Act.put, List.setIfInBounds_toArray, List.set_cons_zero, List.set_cons_succ]
     have HBz := Aside0.mk (below_step HB6.out hS)
     have HXz := Aside0.mk (keep_below HX.out HBz.out)
     have HFz := Aside0.mk (keep_below HF6.out hS)
     have HB1z := Aside0.mk (H1.out.grow HBr.out)
     clear x0 x1 x2 fx0 fx1 fx2
     have x0 := Joins.cell_of_block HXz.out 0
     have x1 := Joins.cell_of_block HXz.out 1
     have x2 := Joins.cell_of_block HXz.out 2
     have fx0 := blk_frozen HXz.out 0
     have fx1 := blk_frozen HXz.out 1
     have fx2 := blk_frozen HXz.out 2
     have k0 := Joins.cell_of_block HFz.out 0
     have k1 := Joins.cell_of_block HFz.out 1
     have k2 := Joins.cell_of_block HFz.out 2
     clear hS
     go_wp2
     refine bodyPost_ret (results_ct rfl _ _ W.heap.size 71 #[.int .i64 f.f0, .int .i64 f.f1, .int .i64 f.f2] (0, 0) _ rfl (set44 HXz.out _ _ _) Tryd.underlying71 rfl (by kernel_rfl)) rfl ?_
     rw [HE.out]
     exact ⟨rfl, (H1.out.grow HBz.out).other3 HXz.out (below_size H.out.below) (fun k hk => Nat.ne_of_lt hk) (Kd.R_below HPB.out HBz.out) _ _ _, (HK.out.trans (Keeps.of_below HBz.out)).set3 (Nat.le_refl _) _ _ _⟩
   ·have e1 : (f.f0 == IntKind.i64.wrap (wrap64 (m.ops + 1) - m.frm)) = false := by simp only [beq_eq_false_iff_ne]; rw [i64_w]; exact hf
    have HM2 := Aside0.mk (hitOf_next HM.out HGT.out hf)
    clear hf
    go_upto_region 5 with (fail)
    generalize hW6 : wr.alloc (.cells #[.int .i64 f.f0, .int .i64 f.f1, .int .i64 f.f2] 71) = W6
    have HF6 := Aside0.mk (show W6.heap[wr.heap.size]? = some (.cells #[.int .i64 f.f0, .int .i64 f.f1, .int .i64 f.f2] 71 (0, 0)) by rw [← hW6]; exact new_blk _ _ _)
    have HB6 := Aside0.mk (show Below W1.heap.size W1 W6 by rw [← hW6]; exact HQ9.out _)
    have H6 := Aside0.mk (H1.out.grow HB6.out)
    clear hW6 y0 y1 y2
    refine Reg.det [(0, 22, ?r2v0), (1, 23, ?r2v1), (2, 24, ?r2v2), (3, 25, ?r2v3), (4, 26, ?r2v4), (5, 27, ?r2v5), (6, 28, ?r2v6), (7, 29, ?r2v7), (8, 30, ?r2v8), (9, 31, ?r2v9), (10, 32, ?r2v10), (11, 33, ?r2v11)] (fun w' => Below W6.heap.size W6 w') (by rfl) rfl (by kernel_rfl) ?r2S ?r2steps ?r2okv ?r2hlt ?r2fin
    case r2S => exact below_drew (Below.refl _ _)
    case r2steps =>
     refine Reg.from_some 0 rfl rfl (fun a w hS hK K hC => ?_) ?_
     ·refine Reg.step_on (by rfl) ?_
      have e5 := hK.off 5 _ rfl rfl
      clear hK
      go_simp
      exact hC _ hS
     refine Reg.from_some 1 rfl rfl (fun a w hS hK K hC => ?_) ?_
     ·refine Reg.step_on (by rfl) ?_
      have e22 := hK.slot 0 _ _ _ rfl (by kernel_rfl)
      have k8 := (H6.out.grow hS).cellC 8
      change _ = some (Value.int .i64 (wrap64 (m.ops + 1))) at k8
      have k6 := (H6.out.grow hS).cellC 6
      change _ = some (Value.int .i64 m.frm) at k6
      have kf := Joins.cell_of_block (keep_below HF6.out hS) 0
      clear hK
      go_simp
      exact hC _ hS
     refine Reg.from_some 2 rfl rfl (fun a w hS hK K hC => ?_) ?_
     ·refine Reg.step_on (by rfl) ?_
      have e0 := hK.off 0 _ rfl rfl
      clear hK
      go_simp
      exact hC _ hS
     refine Reg.from_some 3 rfl rfl (fun a w hS hK K hC => ?_) ?_
     ·refine Reg.step_on (by rfl) ?_
      have e24 := hK.slot 2 _ _ _ rfl (by kernel_rfl)
      clear hK
      go_simp
      exact hC _ hS
     refine Reg.from_some 4 rfl rfl (fun a w hS hK K hC => ?_) ?_
     ·refine Reg.step_on (by rfl) ?_
      have e25 := hK.slot 3 _ _ _ rfl (by kernel_rfl)
      clear hK
      go_simp
      exact hC _ hS
     refine Reg.from_some 5 rfl rfl (fun a w hS hK K hC => ?_) ?_
     ·refine Reg.step_on (by rfl) ?_
      have e26 := hK.slot 4 _ _ _ rfl (by kernel_rfl)
      have k8 := (H6.out.grow hS).cellC 8
      change _ = some (Value.int .i64 (wrap64 (m.ops + 1))) at k8
      have k6 := (H6.out.grow hS).cellC 6
      change _ = some (Value.int .i64 m.frm) at k6
      have kf := Joins.cell_of_block (keep_below HF6.out hS) 0
      clear hK
      go_simp
      exact hC _ hS
     refine Reg.from_some 6 rfl rfl (fun a w hS hK K hC => ?_) ?_
     ·refine Reg.step_on (by rfl) ?_
      have e0 := hK.off 0 _ rfl rfl
      clear hK
      go_simp
      exact hC _ hS
     refine Reg.from_some 7 rfl rfl (fun a w hS hK K hC => ?_) ?_
     ·refine Reg.step_on (by rfl) ?_
      have e28 := hK.slot 6 _ _ _ rfl (by kernel_rfl)
      clear hK
      go_simp
      exact hC _ hS
     refine Reg.from_some 8 rfl rfl (fun a w hS hK K hC => ?_) ?_
     ·refine Reg.step_on (by rfl) ?_
      have e29 := hK.slot 7 _ _ _ rfl (by kernel_rfl)
      clear hK
      go_simp
      exact hC _ hS
     refine Reg.from_some 9 rfl rfl (fun a w hS hK K hC => ?_) ?_
     ·refine Reg.step_on (by rfl) ?_
      have e30 := hK.slot 8 _ _ _ rfl (by kernel_rfl)
      have k8 := (H6.out.grow hS).cellC 8
      change _ = some (Value.int .i64 (wrap64 (m.ops + 1))) at k8
      have k6 := (H6.out.grow hS).cellC 6
      change _ = some (Value.int .i64 m.frm) at k6
      have kf := Joins.cell_of_block (keep_below HF6.out hS) 0
      clear hK
      go_simp
      exact hC _ hS
     refine Reg.from_some 10 rfl rfl (fun a w hS hK K hC => ?_) ?_
     ·refine Reg.step_on (by rfl) ?_
      have e27 := hK.slot 5 _ _ _ rfl (by kernel_rfl)
      have e31 := hK.slot 9 _ _ _ rfl (by kernel_rfl)
      clear hK
      go_simp
      exact hC _ hS
     refine Reg.from_some 11 rfl rfl (fun a w hS hK K hC => ?_) ?_
     ·refine Reg.step_on (by rfl) ?_
      have e23 := hK.slot 1 _ _ _ rfl (by kernel_rfl)
      have e32 := hK.slot 10 _ _ _ rfl (by kernel_rfl)
      clear hK
      go_simp
      exact hC _ hS
     exact Reg.from_nil
    case r2okv => rfl
    case r2hlt => rfl
    case r2fin =>
     intro wz hS
     simp only [Reg.putV, List.foldl_cons, List.foldl_nil, Act.put, List.setIfInBounds_toArray, List.set_cons_zero, List.set_cons_succ]
     have HBz := Aside0.mk (below_step HB6.out hS)
     clear hS
     go_wp2
     go_roundw
     case rel => exact ⟨i + 1, by omega, by push_cast; rfl, HM2, HBz⟩
     case measure => simp [intOf]; omega
  ·obtain rfl : i = m.pl.length := by omega
   go_wp2
   refine bodyPost_ret (results_ct rfl _ _ W.heap.size 71 #[.int .i64 0, .int .i64 0, .int .i64 0] (0, 0) _ rfl (set44 HXr.out _ _ _) Tryd.underlying71 rfl (by kernel_rfl)) rfl ?_
   have HM3 := HM.out
   rw [List.take_length] at HM3
   rw [HM3]
   exact ⟨rfl, (H1.out.grow HBr.out).other3 HXr.out (below_size H.out.below) (fun k hk => Nat.ne_of_lt hk) (Kd.R_below HPB.out HBr.out) _ _ _, (HK.out.trans (Keeps.of_below HBr.out)).set3 (Nat.le_refl _) _ _ _⟩
end Go.Proofs.YtdlimghdimkadaaDoor.PAll
namespace Go.Proofs.YtdlimghdimkadaaDoor.PAll
open Go.RowKit Go.Proofs.YtdlimghdimkadaaDoorW.PrintWords Go.Proofs.YtdlimghdimkadaaDoorW.PrintLast Go.Proofs.YtdlimghdimkadaaDoorW.PrintMore
set_option linter.unusedSimpArgs false
set_option linter.unusedVariables false
attribute [local go_sem] max2_int min2_int max_two min_two max_three min_three max_four min_four
variable {w0 W : World} {gc gb : Nat} {gp : Nat → Nat} {m : Ch} {D : Nat → Nat → List Int}
abbrev tgt (m : Ch) : Int := wrap64 (wrap64 (m.ops + 1) - m.frm)
set_option maxRecDepth 100000 in
set_option maxHeartbeats 8000000 in
theorem program_ok (h : St w0 W gc gb gp m D) (hoff : m.off = false) (hplan : hitOf m.pl (tgt m) = none) (n p : Nat) (hn : n < m.g.B) (hp : p < m.g.P) (hbad : (m.bk n).bad = false) (hnx : (m.bk n).nx = p) (A : Option Addr) (c : Nat) (l : List Int) (hr : ∀ w', Below w0.heap.size w0 w' → Keeps W w' → Kd.C kB w' A l.length l) (hc : l.length ≤ c) (hl : l.length ≤ m.g.Z) :
  Calls Tryd.prog 18 #[cp gc, .int .i64 n, .int .i64 p, .slice A l.length c] W fun e w' => e = .returned (.int .i64 0) ∧ (∃ v : Value, St w0 w' gc gb gp (({ m with ops := wrap64 (m.ops + 1) } : Ch).setBk n { ((m.bk n).setPg p ⟨1, v⟩) with nx := wrap64 ((p : Int) + 1) }) (updD D n p l)) ∧ Keeps W w' := by
 have HRY := Aside0.mk (ready_yes h hoff n hn)
 have H := Aside0.mk h
 have HPL := Aside0.mk hplan
 have HBD := Aside0.mk hbad
 have HNX := Aside0.mk hnx
 have HRD := Aside0.mk hr
 have HCC := Aside0.mk hc
 have hzz := h.gok.2.2
 have HLZ := Aside0.mk (show l.length ≤ 140737488355328 by omega)
 clear hzz
 have d1 : decide ((p : Int) < 0) = false := decide_eq_false (by omega)
 have d2 : decide ((m.g.P : Int) ≤ (p : Int)) = false := decide_eq_false (by omega)
 have d3 : decide (m.g.P ≤ p) = false := decide_eq_false (by omega)
 have d4 : decide ((m.g.Z : Int) < (l.length : Int)) = false := decide_eq_false (by omega)
 have d5 : decide (m.g.Z < l.length) = false := decide_eq_false (by omega)
 have hqp : ((p : Int) < (m.g.P : Int)) = True := eq_true (by omega)
 have hqp2 : (p < m.g.P) = True := eq_true hp
 have hu44 := Tryd.underlying71
 have hu65 := Tryd.underlying88
 clear h hoff hplan hbad hnx hr hc
 go_enter Tryd.func18, Tryd.ntmps18
 go_upto_region 9 with (first
  | (go_at_call 33; (with_reducible refine HRY.out.mono ?_); rintro e w1 ⟨rfl, hb1⟩; have h1 := H.out.grow hb1; have H1 := Aside0.mk h1; have HB1 := Aside0.mk hb1; obtain ⟨z0, z1, z2, z3⟩ := h1.cellB n hn; rw [HBD.out] at z0; rw [HNX.out] at z3; have y2 : w1.cell? ⟨gc, 2, none⟩ = some (.int .i64 m.g.Z) := h1.cellC 2; clear hb1 h1))
 clear z0 z1 z2 z3 y2
 have hbn := begin_any H1.out
 rw [show hitOf m.pl (wrap64 (wrap64 (m.ops + 1) - m.frm)) = none from HPL.out, show bgV none = .tuple #[.agg #[.int .i64 0, .int .i64 0, .int .i64 0], .bool false] from rfl] at hbn
 have HBN := Aside0.mk hbn
 clear hbn
 go_upto_region 21 with (first
  | (go_at_call 34; (with_reducible refine HBN.out.mono ?_); rintro e w2 ⟨rfl, h2, hk2⟩; have H2 := Aside0.mk h2; have HK2 := Aside0.mk ((Keeps.of_below HB1.out).trans hk2); clear h2 hk2))
 generalize hW : w2.alloc (.cells #[.int .i64 0, .int .i64 0, .int .i64 0] 71) = W3
 have hb3 : Below w2.heap.size w2 W3 := by rw [← hW]; exact below_alloc (Below.refl _ _) _
 have h3 := H2.out.grow hb3
 have HK3 := Aside0.mk (HK2.out.trans (Keeps.of_below hb3))
 clear hW hb3
 obtain ⟨z0, z1, z2, z3⟩ := h3.cellB n hn
 obtain ⟨q0, q1⟩ := h3.cellP n hn p hp
 have fq0 := blk_frozen (h3.p n hn) (p * 2)
 have fq1 := blk_frozen (h3.p n hn) (p * 2 + 1)
 have H3 := Aside0.mk h3
 clear h3
 go_upto_region 22 with (fail)
 generalize hW : (W3.setCell ⟨gp n, p * 2, none⟩ (.int .i64 1)).setCell ⟨gp n, p * 2 + 1, none⟩ (.slice none 0 0) = W4
 have h4 := H3.out.page n hn p hp 1 (.slice none 0 0) [] (Kd.R_nil _ _ _ _ _)
 have hk4 := (HK3.out.set (H3.out.p n hn) (by decide) (p * 2) (.int .i64 1)).set (blk_set (H3.out.p n hn) (p * 2) (.int .i64 1)) (by decide) (p * 2 + 1) (.slice none 0 0)
 rw [hW] at h4 hk4
 clear z0 z1 z2 z3 q0 q1 fq0 fq1
 have H4 := Aside0.mk h4
 have HK4 := Aside0.mk hk4
 clear hW h4 hk4
 go_upto_region 23 with (fail)
 refine Rel.tail (m := 9) [(0, 96, .inl ?r1v0), (1, 97, .inl ?r1v1), (2, 98, .inl ?r1v2), (3, 99, .inl ?r1v3), (4, 100, .inl ?r1v4), (5, 101, .inl ?r1v5), (6, 102, .inr (fun v w' => Kd.R kB 5 w' w0.heap.size (fun _ => True) v l)), (7, 103, .inl ?r1v7), (8, 104, .inl ?r1v8)] (fun w' => Below W4.heap.size W4 w') (fun w' w'' => Below w'.heap.size w' w'') (by rfl) rfl (by kernel_rfl) (by kernel_rfl) (by kernel_rfl) ?r1S (Rel.stable_inl (Rel.stable_inl (Rel.stable_inl (Rel.stable_inl (Rel.stable_inl (Rel.stable_inl (Rel.stable_inr (fun v w w' hb h => Kd.R_below h hb) (Rel.stable_inl (Rel.stable_inl Rel.stable_nil))))))))) ?r1steps ?r1okv ?r1hlt ?r1fin
 case r1S => exact below_drew (Below.refl _ _)
 case r1steps =>
  refine Rel.from_some 0 rfl rfl (fun a wq hS hK K hC => ?_) ?_
  ·refine Reg.step_on (by rfl) ?_
   have e9 := hK.off 9 _ rfl rfl
   clear hK
   go_simp
   exact hC _ hS (Below.refl _ _)
  refine Rel.from_some 1 rfl rfl (fun a wq hS hK K hC => ?_) ?_
  ·refine Reg.step_on (by rfl) ?_
   have e96 := hK.slot 0 _ _ _ rfl (by kernel_rfl)
   clear hK
   go_simp
   exact hC _ hS (Below.refl _ _)
  refine Rel.from_some 2 rfl rfl (fun a wq hS hK K hC => ?_) ?_
  ·refine Reg.step_on (by rfl) ?_
   have e97 := hK.slot 1 _ _ _ rfl (by kernel_rfl)
   clear hK
   go_simp
   exact hC _ hS (Below.refl _ _)
  refine Rel.from_some 3 rfl rfl (fun a wq hS hK K hC => ?_) ?_
  ·refine Reg.step_on (by rfl) ?_
   have e98 := hK.slot 2 _ _ _ rfl (by kernel_rfl)
   have zz := ((H4.out.grow hS).cellB n hn).2.2.1
   change _ = some (Value.slice (some ⟨gp n, 0, none⟩) m.g.P m.g.P) at zz
   clear hK
   go_simp
   exact hC _ hS (Below.refl _ _)
  refine Rel.from_some 4 rfl rfl (fun a wq hS hK K hC => ?_) ?_
  ·refine Reg.step_on (by rfl) ?_
   have e2 := hK.off 2 _ rfl rfl
   clear hK
   go_simp
   exact hC _ hS (Below.refl _ _)
  refine Rel.from_some 5 rfl rfl (fun a wq hS hK K hC => ?_) ?_
  ·refine Reg.step_on (by rfl) ?_
   have e3 := hK.off 3 _ rfl rfl
   clear hK
   go_simp
   exact hC _ hS (Below.refl _ _)
  refine Rel.from_rel 6 rfl rfl (fun a wq hS hK K hC => ?_) ?_
  ·refine Reg.step_on (by rfl) ?_
   have e101 := hK.slot 5 _ _ _ rfl (by kernel_rfl)
   clear hK
   go_simp
   go_at_call 35; (with_reducible refine (clone_bytes A c l wq (HRD.out wq (H4.out.grow hS).below (HK4.out.trans (Keeps.of_below hS))) HCC.out ?cb).mono ?_)
   case cb => exact HLZ.out
   rintro e w' ⟨v, rfl, ho, hb⟩
   exact hC v w' (below_step hS hb) hb (Kd.R_lower ho (below_size (H4.out.grow hS).below))
  refine Rel.from_some 7 rfl rfl (fun a wq hS hK K hC => ?_) ?_
  ·refine Reg.step_on (by rfl) ?_
   have e99 := hK.slot 3 _ _ _ rfl (by kernel_rfl)
   have e100 := hK.slot 4 _ _ _ rfl (by kernel_rfl)
   clear hK
   go_simp
   exact hC _ hS (Below.refl _ _)
  refine Rel.from_some 8 rfl rfl (fun a wq hS hK K hC => ?_) ?_
  ·refine Reg.step_on (by rfl) ?_
   have e103 := hK.slot 7 _ _ _ rfl (by kernel_rfl)
   clear hK
   go_simp
   exact hC _ hS (Below.refl _ _)
  exact Rel.from_nil
 case r1okv => rfl
 case r1hlt => rfl
 case r1fin =>
  intro U wz hS hU
  have q6 := hU 6 _ _ _ rfl
  clear hU
  simp only [Rel.inst, Nat.zero_add, Nat.reduceAdd, Reg.putV, List.foldl_cons, List.foldl_nil, Act.put, List.setIfInBounds_toArray, List.set_cons_zero, List.set_cons_succ]
  have h5 := H4.out.grow hS
  have HQ := Aside0.mk q6
  obtain ⟨r0, r1⟩ := h5.cellP n hn p hp
  have fr1 := blk_frozen (h5.p n hn) (p * 2 + 1)
  have H5 := Aside0.mk h5
  have HK5 := Aside0.mk (HK4.out.trans (Keeps.of_below hS))
  obtain ⟨A6, c6, e6⟩ := Kd.R_slice q6
  rw [e6] at HQ ⊢
  clear hS h5 q6 e6
  refine Rel.tail_cons (fun K hK => ?_)
  refine Reg.step_on (by rfl) ?_
  go_simp
  refine hK _ _ ?_
  clear hK r0 r1 fr1
  refine Rel.tail_nil ?_
  have h6 := H5.out.pageD n hn p hp (.slice A6 l.length c6) l HQ.out
  have hk6 := HK5.out.set (H5.out.p n hn) (by decide) (p * 2 + 1) (.slice A6 l.length c6)
  rw [setBk_self, setBk_twice, setPg_self, setPg_twice, updD_twice] at h6
  generalize wz.setCell ⟨gp n, p * 2 + 1, none⟩ (.slice A6 l.length c6) = W6 at h6 hk6 ⊢
  obtain ⟨z0, z1, z2, z3⟩ := h6.cellB n hn
  rw [setBk_self] at z3
  change W6.cell? ⟨gb, n * 4 + 3, none⟩ = some (.int .i64 (m.bk n).nx) at z3
  rw [HNX.out] at z3
  have f3 := blk_frozen h6.b (n * 4 + 3)
  have H6 := Aside0.mk h6
  have HK6 := Aside0.mk hk6
  clear h6 hk6 z0 z1 z2
  go_wp2
  go_ret
  have h7 := H6.out.nx n (wrap64 ((p : Int) + 1))
  rw [setBk_self, setBk_twice] at h7
  exact ⟨rfl, ⟨_, h7⟩, HK6.out.set H6.out.b (by decide) _ _⟩
set_option maxRecDepth 100000 in
set_option maxHeartbeats 8000000 in
theorem program_fail (h : St w0 W gc gb gp m D) (hoff : m.off = false) (f : F3) (hplan : hitOf m.pl (tgt m) = some f) (hf1 : f.f1 = 2) (n p : Nat) (hn : n < m.g.B) (hp : p < m.g.P) (hbad : (m.bk n).bad = false) (hnx : (m.bk n).nx = p) (A : Option Addr) (c : Nat) (l : List Int) (hr : ∀ w', Below w0.heap.size w0 w' → Keeps W w' → Kd.C kB w' A l.length l) (hc : l.length ≤ c) (hl : l.length ≤ m.g.Z) :
  Calls Tryd.prog 18 #[cp gc, .int .i64 n, .int .i64 p, .slice A l.length c] W fun e w' => e = .returned (.int .i64 5) ∧ St w0 w' gc gb gp (({ m with ops := wrap64 (m.ops + 1) } : Ch).setBk n { ((m.bk n).setPg p ⟨2, .slice none 0 0⟩) with nx := wrap64 ((p : Int) + 1) }) (updD D n p []) ∧ Keeps W w' := by
 have HRY := Aside0.mk (ready_yes h hoff n hn)
 have H := Aside0.mk h
 have HPL := Aside0.mk hplan
 have HBD := Aside0.mk hbad
 have HNX := Aside0.mk hnx
 have HRD := Aside0.mk hr
 have HCC := Aside0.mk hc
 have hzz := h.gok.2.2
 have HLZ := Aside0.mk (show l.length ≤ 140737488355328 by omega)
 clear hzz
 have d1 : decide ((p : Int) < 0) = false := decide_eq_false (by omega)
 have d2 : decide ((m.g.P : Int) ≤ (p : Int)) = false := decide_eq_false (by omega)
 have d3 : decide (m.g.P ≤ p) = false := decide_eq_false (by omega)
 have d4 : decide ((m.g.Z : Int) < (l.length : Int)) = false := decide_eq_false (by omega)
 have d5 : decide (m.g.Z < l.length) = false := decide_eq_false (by omega)
 have hqp : ((p : Int) < (m.g.P : Int)) = True := eq_true (by omega)
 have hqp2 : (p < m.g.P) = True := eq_true hp
 have hu44 := Tryd.underlying71
 have hu65 := Tryd.underlying88
 have HF1 := Aside0.mk hf1
 clear h hoff hplan hbad hnx hr hc hf1
 go_enter Tryd.func18, Tryd.ntmps18
 go_upto_region 9 with (first
  | (go_at_call 33; (with_reducible refine HRY.out.mono ?_); rintro e w1 ⟨rfl, hb1⟩; have h1 := H.out.grow hb1; have H1 := Aside0.mk h1; have HB1 := Aside0.mk hb1; obtain ⟨z0, z1, z2, z3⟩ := h1.cellB n hn; rw [HBD.out] at z0; rw [HNX.out] at z3; have y2 : w1.cell? ⟨gc, 2, none⟩ = some (.int .i64 m.g.Z) := h1.cellC 2; clear hb1 h1))
 clear z0 z1 z2 z3 y2
 have hbn := begin_any H1.out
 rw [show hitOf m.pl (wrap64 (wrap64 (m.ops + 1) - m.frm)) = some f from HPL.out, show bgV (some f) = .tuple #[.agg #[.int .i64 f.f0, .int .i64 f.f1, .int .i64 f.f2], .bool true] from rfl] at hbn
 have HBN := Aside0.mk hbn
 clear hbn
 go_upto_region 10 with (first
  | (go_at_call 34; (with_reducible refine HBN.out.mono ?_); rintro e w2 ⟨rfl, h2, hk2⟩; have H2 := Aside0.mk h2; have HK2 := Aside0.mk ((Keeps.of_below HB1.out).trans hk2); clear h2 hk2))
 go_upto_block 0 with (fail)
 generalize hW : w2.alloc (.cells #[.int .i64 f.f0, .int .i64 f.f1, .int .i64 f.f2] 71) = W3
 have hb3 : Below w2.heap.size w2 W3 := by rw [← hW]; exact below_alloc (Below.refl _ _) _
 have hx3 : W3.heap[w2.heap.size]? = some (.cells #[.int .i64 f.f0, .int .i64 f.f1, .int .i64 f.f2] 71 (0, 0)) := by rw [← hW]; exact new_blk _ _ _
 rw [HF1.out] at hx3
 have h3 := H2.out.grow hb3
 have x1 := Joins.cell_of_block hx3 1
 have HK3 := Aside0.mk (HK2.out.trans (Keeps.of_below hb3))
 clear hW hb3 hx3
 obtain ⟨z0, z1, z2, z3⟩ := h3.cellB n hn
 obtain ⟨q0, q1⟩ := h3.cellP n hn p hp
 have fq0 := blk_frozen (h3.p n hn) (p * 2)
 have fq1 := blk_frozen (h3.p n hn) (p * 2 + 1)
 have H3 := Aside0.mk h3
 clear h3
 go_upto_region 22 with (fail)
 generalize hW : (W3.setCell ⟨gp n, p * 2, none⟩ (.int .i64 2)).setCell ⟨gp n, p * 2 + 1, none⟩ (.slice none 0 0) = W4
 have h4 := H3.out.page n hn p hp 2 (.slice none 0 0) [] (Kd.R_nil _ _ _ _ _)
 have hk4 := (HK3.out.set (H3.out.p n hn) (by decide) (p * 2) (.int .i64 2)).set (blk_set (H3.out.p n hn) (p * 2) (.int .i64 2)) (by decide) (p * 2 + 1) (.slice none 0 0)
 rw [hW] at h4 hk4
 clear z0 z1 z2 z3 q0 q1 fq0 fq1 x1
 have z3 := (h4.cellB n hn).2.2.2
 rw [setBk_self] at z3
 change W4.cell? ⟨gb, n * 4 + 3, none⟩ = some (.int .i64 (m.bk n).nx) at z3
 rw [HNX.out] at z3
 have f3 := blk_frozen h4.b (n * 4 + 3)
 have H4 := Aside0.mk h4
 have HK4 := Aside0.mk hk4
 clear hW h4 hk4
 go_wp2
 go_ret
 have h7 := H4.out.nx n (wrap64 ((p : Int) + 1))
 rw [setBk_self, setBk_twice] at h7
 exact ⟨rfl, h7, HK4.out.set H4.out.b (by decide) _ _⟩
set_option maxRecDepth 100000 in
set_option maxHeartbeats 8000000 in
theorem program_cut0 (h : St w0 W gc gb gp m D) (hoff : m.off = false) (f : F3) (hplan : hitOf m.pl (tgt m) = some f) (hf1 : f.f1 ≠ 2) (hf2 : f.f2 = 0) (n p : Nat) (hn : n < m.g.B) (hp : p < m.g.P) (hbad : (m.bk n).bad = false) (hnx : (m.bk n).nx = p) (A : Option Addr) (c : Nat) (l : List Int) (hr : ∀ w', Below w0.heap.size w0 w' → Keeps W w' → Kd.C kB w' A l.length l) (hc : l.length ≤ c) (hl : l.length ≤ m.g.Z) :
  Calls Tryd.prog 18 #[cp gc, .int .i64 n, .int .i64 p, .slice A l.length c] W fun e w' => e = .returned (.int .i64 6) ∧ St w0 w' gc gb gp ({ m with ops := wrap64 (m.ops + 1), off := true } : Ch) D ∧ Keeps W w' := by
 have HRY := Aside0.mk (ready_yes h hoff n hn)
 have H := Aside0.mk h
 have HPL := Aside0.mk hplan
 have HBD := Aside0.mk hbad
 have HNX := Aside0.mk hnx
 have HRD := Aside0.mk hr
 have HCC := Aside0.mk hc
 have hzz := h.gok.2.2
 have HLZ := Aside0.mk (show l.length ≤ 140737488355328 by omega)
 clear hzz
 have d1 : decide ((p : Int) < 0) = false := decide_eq_false (by omega)
 have d2 : decide ((m.g.P : Int) ≤ (p : Int)) = false := decide_eq_false (by omega)
 have d3 : decide (m.g.P ≤ p) = false := decide_eq_false (by omega)
 have d4 : decide ((m.g.Z : Int) < (l.length : Int)) = false := decide_eq_false (by omega)
 have d5 : decide (m.g.Z < l.length) = false := decide_eq_false (by omega)
 have hqp : ((p : Int) < (m.g.P : Int)) = True := eq_true (by omega)
 have hqp2 : (p < m.g.P) = True := eq_true hp
 have hu44 := Tryd.underlying71
 have hu65 := Tryd.underlying88
 have HF1 := Aside0.mk hf1
 have e1 : (f.f1 == (2 : Int)) = false := by simp only [beq_eq_false_iff_ne]; exact hf1
 have HF2 := Aside0.mk hf2
 clear h hoff hplan hbad hnx hr hc hf1 hf2
 go_enter Tryd.func18, Tryd.ntmps18
 go_upto_region 9 with (first
  | (go_at_call 33; (with_reducible refine HRY.out.mono ?_); rintro e w1 ⟨rfl, hb1⟩; have h1 := H.out.grow hb1; have H1 := Aside0.mk h1; have HB1 := Aside0.mk hb1; obtain ⟨z0, z1, z2, z3⟩ := h1.cellB n hn; rw [HBD.out] at z0; rw [HNX.out] at z3; have y2 : w1.cell? ⟨gc, 2, none⟩ = some (.int .i64 m.g.Z) := h1.cellC 2; clear hb1 h1))
 clear z0 z1 z2 z3 y2
 have hbn := begin_any H1.out
 rw [show hitOf m.pl (wrap64 (wrap64 (m.ops + 1) - m.frm)) = some f from HPL.out, show bgV (some f) = .tuple #[.agg #[.int .i64 f.f0, .int .i64 f.f1, .int .i64 f.f2], .bool true] from rfl] at hbn
 have HBN := Aside0.mk hbn
 clear hbn
 go_upto_region 10 with (first
  | (go_at_call 34; (with_reducible refine HBN.out.mono ?_); rintro e w2 ⟨rfl, h2, hk2⟩; have H2 := Aside0.mk h2; have HK2 := Aside0.mk ((Keeps.of_below HB1.out).trans hk2); clear h2 hk2))
 go_upto_block 0 with (fail)
 generalize hW : w2.alloc (.cells #[.int .i64 f.f0, .int .i64 f.f1, .int .i64 f.f2] 71) = W2a
 have hb3a : Below w2.heap.size w2 W2a := by rw [← hW]; exact below_alloc (Below.refl _ _) _
 have hx3 : W2a.heap[w2.heap.size]? = some (.cells #[.int .i64 f.f0, .int .i64 f.f1, .int .i64 f.f2] 71 (0, 0)) := by rw [← hW]; exact new_blk _ _ _
 rw [HF2.out] at hx3
 have h3a := H2.out.grow hb3a
 have x1 := Joins.cell_of_block hx3 1
 have fo := blk_frozen h3a.c 7
 have co := h3a.cellC 7
 have H3a := Aside0.mk h3a
 have HX3 := Aside0.mk hx3
 have HK3a := Aside0.mk (HK2.out.trans (Keeps.of_below hb3a))
 clear hW hb3a h3a hx3
 go_upto_region 12 with (fail)
 generalize hW : W2a.setCell ⟨gc, 7, none⟩ (.bool true) = W3
 have h3 : St w0 W3 gc gb gp { m with ops := wrap64 (m.ops + 1), off := true } D := by rw [← hW]; exact H3a.out.setC 7 _ rfl rfl rfl H3a.out.pln
 have hk3 : Keeps W W3 := by rw [← hW]; exact HK3a.out.set H3a.out.c (by decide) _ _
 have hx3 : W3.heap[w2.heap.size]? = some (.cells #[.int .i64 f.f0, .int .i64 f.f1, .int .i64 0] 71 (0, 0)) := by rw [← hW]; exact blk_far HX3.out (ne_of_type HX3.out H3a.out.c (by decide)) _
 have x2 := Joins.cell_of_block hx3 2
 have HK3 := Aside0.mk hk3
 clear hW hk3 hx3 x1 fo co
 have H3 := Aside0.mk h3
 clear h3
 go_wp2
 go_ret
 exact ⟨rfl, H3.out, HK3.out⟩
set_option maxRecDepth 100000 in
set_option maxHeartbeats 8000000 in
theorem program_cut1 (h : St w0 W gc gb gp m D) (hoff : m.off = false) (f : F3) (hplan : hitOf m.pl (tgt m) = some f) (hf1 : f.f1 ≠ 2) (hf2 : f.f2 = 1) (n p : Nat) (hn : n < m.g.B) (hp : p < m.g.P) (hbad : (m.bk n).bad = false) (hnx : (m.bk n).nx = p) (A : Option Addr) (c : Nat) (l : List Int) (hr : ∀ w', Below w0.heap.size w0 w' → Keeps W w' → Kd.C kB w' A l.length l) (hc : l.length ≤ c) (hl : l.length ≤ m.g.Z) :
  Calls Tryd.prog 18 #[cp gc, .int .i64 n, .int .i64 p, .slice A l.length c] W fun e w' => e = .returned (.int .i64 6) ∧ St w0 w' gc gb gp (({ m with ops := wrap64 (m.ops + 1), off := true } : Ch).setBk n { ((m.bk n).setPg p ⟨2, .slice none 0 0⟩) with nx := wrap64 ((p : Int) + 1) }) (updD D n p []) ∧ Keeps W w' := by
 have HRY := Aside0.mk (ready_yes h hoff n hn)
 have H := Aside0.mk h
 have HPL := Aside0.mk hplan
 have HBD := Aside0.mk hbad
 have HNX := Aside0.mk hnx
 have HRD := Aside0.mk hr
 have HCC := Aside0.mk hc
 have hzz := h.gok.2.2
 have HLZ := Aside0.mk (show l.length ≤ 140737488355328 by omega)
 clear hzz
 have d1 : decide ((p : Int) < 0) = false := decide_eq_false (by omega)
 have d2 : decide ((m.g.P : Int) ≤ (p : Int)) = false := decide_eq_false (by omega)
 have d3 : decide (m.g.P ≤ p) = false := decide_eq_false (by omega)
 have d4 : decide ((m.g.Z : Int) < (l.length : Int)) = false := decide_eq_false (by omega)
 have d5 : decide (m.g.Z < l.length) = false := decide_eq_false (by omega)
 have hqp : ((p : Int) < (m.g.P : Int)) = True := eq_true (by omega)
 have hqp2 : (p < m.g.P) = True := eq_true hp
 have hu44 := Tryd.underlying71
 have hu65 := Tryd.underlying88
 have HF1 := Aside0.mk hf1
 have e1 : (f.f1 == (2 : Int)) = false := by simp only [beq_eq_false_iff_ne]; exact hf1
 have HF2 := Aside0.mk hf2
 clear h hoff hplan hbad hnx hr hc hf1 hf2
 go_enter Tryd.func18, Tryd.ntmps18
 go_upto_region 9 with (first
  | (go_at_call 33; (with_reducible refine HRY.out.mono ?_); rintro e w1 ⟨rfl, hb1⟩; have h1 := H.out.grow hb1; have H1 := Aside0.mk h1; have HB1 := Aside0.mk hb1; obtain ⟨z0, z1, z2, z3⟩ := h1.cellB n hn; rw [HBD.out] at z0; rw [HNX.out] at z3; have y2 : w1.cell? ⟨gc, 2, none⟩ = some (.int .i64 m.g.Z) := h1.cellC 2; clear hb1 h1))
 clear z0 z1 z2 z3 y2
 have hbn := begin_any H1.out
 rw [show hitOf m.pl (wrap64 (wrap64 (m.ops + 1) - m.frm)) = some f from HPL.out, show bgV (some f) = .tuple #[.agg #[.int .i64 f.f0, .int .i64 f.f1, .int .i64 f.f2], .bool true] from rfl] at hbn
 have HBN := Aside0.mk hbn
 clear hbn
 go_upto_region 10 with (first
  | (go_at_call 34; (with_reducible refine HBN.out.mono ?_); rintro e w2 ⟨rfl, h2, hk2⟩; have H2 := Aside0.mk h2; have HK2 := Aside0.mk ((Keeps.of_below HB1.out).trans hk2); clear h2 hk2))
 go_upto_block 0 with (fail)
 generalize hW : w2.alloc (.cells #[.int .i64 f.f0, .int .i64 f.f1, .int .i64 f.f2] 71) = W2a
 have hb3a : Below w2.heap.size w2 W2a := by rw [← hW]; exact below_alloc (Below.refl _ _) _
 have hx3 : W2a.heap[w2.heap.size]? = some (.cells #[.int .i64 f.f0, .int .i64 f.f1, .int .i64 f.f2] 71 (0, 0)) := by rw [← hW]; exact new_blk _ _ _
 rw [HF2.out] at hx3
 have h3a := H2.out.grow hb3a
 have x1 := Joins.cell_of_block hx3 1
 have fo := blk_frozen h3a.c 7
 have co := h3a.cellC 7
 have H3a := Aside0.mk h3a
 have HX3 := Aside0.mk hx3
 have HK3a := Aside0.mk (HK2.out.trans (Keeps.of_below hb3a))
 clear hW hb3a h3a hx3
 go_upto_region 12 with (fail)
 generalize hW : W2a.setCell ⟨gc, 7, none⟩ (.bool true) = W3
 have h3 : St w0 W3 gc gb gp { m with ops := wrap64 (m.ops + 1), off := true } D := by rw [← hW]; exact H3a.out.setC 7 _ rfl rfl rfl H3a.out.pln
 have hk3 : Keeps W W3 := by rw [← hW]; exact HK3a.out.set H3a.out.c (by decide) _ _
 have hx3 : W3.heap[w2.heap.size]? = some (.cells #[.int .i64 f.f0, .int .i64 f.f1, .int .i64 1] 71 (0, 0)) := by rw [← hW]; exact blk_far HX3.out (ne_of_type HX3.out H3a.out.c (by decide)) _
 have x2 := Joins.cell_of_block hx3 2
 have HK3 := Aside0.mk hk3
 clear hW hk3 hx3 x1 fo co
 obtain ⟨z0, z1, z2, z3⟩ := h3.cellB n hn
 obtain ⟨q0, q1⟩ := h3.cellP n hn p hp
 have fq0 := blk_frozen (h3.p n hn) (p * 2)
 have fq1 := blk_frozen (h3.p n hn) (p * 2 + 1)
 have H3 := Aside0.mk h3
 clear h3
 go_upto_region 22 with (fail)
 generalize hW : (W3.setCell ⟨gp n, p * 2, none⟩ (.int .i64 2)).setCell ⟨gp n, p * 2 + 1, none⟩ (.slice none 0 0) = W4
 have h4 := H3.out.page n hn p hp 2 (.slice none 0 0) [] (Kd.R_nil _ _ _ _ _)
 have hk4 := (HK3.out.set (H3.out.p n hn) (by decide) (p * 2) (.int .i64 2)).set (blk_set (H3.out.p n hn) (p * 2) (.int .i64 2)) (by decide) (p * 2 + 1) (.slice none 0 0)
 rw [hW] at h4 hk4
 clear z0 z1 z2 z3 q0 q1 fq0 fq1 x2
 have z3 := (h4.cellB n hn).2.2.2
 rw [setBk_self] at z3
 change W4.cell? ⟨gb, n * 4 + 3, none⟩ = some (.int .i64 (m.bk n).nx) at z3
 rw [HNX.out] at z3
 have f3 := blk_frozen h4.b (n * 4 + 3)
 have H4 := Aside0.mk h4
 have HK4 := Aside0.mk hk4
 clear hW h4 hk4
 go_wp2
 go_ret
 have h7 := H4.out.nx n (wrap64 ((p : Int) + 1))
 rw [setBk_self, setBk_twice] at h7
 exact ⟨rfl, h7, HK4.out.set H4.out.b (by decide) _ _⟩
set_option maxRecDepth 100000 in
set_option maxHeartbeats 8000000 in
theorem program_cut2 (h : St w0 W gc gb gp m D) (hoff : m.off = false) (f : F3) (hplan : hitOf m.pl (tgt m) = some f) (hf1 : f.f1 ≠ 2) (hf2 : f.f2 ≠ 0) (hf3 : f.f2 ≠ 1) (n p : Nat) (hn : n < m.g.B) (hp : p < m.g.P) (hbad : (m.bk n).bad = false) (hnx : (m.bk n).nx = p) (A : Option Addr) (c : Nat) (l : List Int) (hr : ∀ w', Below w0.heap.size w0 w' → Keeps W w' → Kd.C kB w' A l.length l) (hc : l.length ≤ c) (hl : l.length ≤ m.g.Z) :
  Calls Tryd.prog 18 #[cp gc, .int .i64 n, .int .i64 p, .slice A l.length c] W fun e w' => e = .returned (.int .i64 6) ∧ (∃ v : Value, St w0 w' gc gb gp (({ m with ops := wrap64 (m.ops + 1), off := true } : Ch).setBk n { ((m.bk n).setPg p ⟨1, v⟩) with nx := wrap64 ((p : Int) + 1) }) (updD D n p l)) ∧ Keeps W w' := by
 have HRY := Aside0.mk (ready_yes h hoff n hn)
 have H := Aside0.mk h
 have HPL := Aside0.mk hplan
 have HBD := Aside0.mk hbad
 have HNX := Aside0.mk hnx
 have HRD := Aside0.mk hr
 have HCC := Aside0.mk hc
 have hzz := h.gok.2.2
 have HLZ := Aside0.mk (show l.length ≤ 140737488355328 by omega)
 clear hzz
 have d1 : decide ((p : Int) < 0) = false := decide_eq_false (by omega)
 have d2 : decide ((m.g.P : Int) ≤ (p : Int)) = false := decide_eq_false (by omega)
 have d3 : decide (m.g.P ≤ p) = false := decide_eq_false (by omega)
 have d4 : decide ((m.g.Z : Int) < (l.length : Int)) = false := decide_eq_false (by omega)
 have d5 : decide (m.g.Z < l.length) = false := decide_eq_false (by omega)
 have hqp : ((p : Int) < (m.g.P : Int)) = True := eq_true (by omega)
 have hqp2 : (p < m.g.P) = True := eq_true hp
 have hu44 := Tryd.underlying71
 have hu65 := Tryd.underlying88
 have HF1 := Aside0.mk hf1
 have e1 : (f.f1 == (2 : Int)) = false := by simp only [beq_eq_false_iff_ne]; exact hf1
 have e2 : (f.f2 == (0 : Int)) = false := by simp only [beq_eq_false_iff_ne]; exact hf2
 have e3 : (f.f2 == (1 : Int)) = false := by simp only [beq_eq_false_iff_ne]; exact hf3
 clear h hoff hplan hbad hnx hr hc hf1 hf2 hf3
 go_enter Tryd.func18, Tryd.ntmps18
 go_upto_region 9 with (first
  | (go_at_call 33; (with_reducible refine HRY.out.mono ?_); rintro e w1 ⟨rfl, hb1⟩; have h1 := H.out.grow hb1; have H1 := Aside0.mk h1; have HB1 := Aside0.mk hb1; obtain ⟨z0, z1, z2, z3⟩ := h1.cellB n hn; rw [HBD.out] at z0; rw [HNX.out] at z3; have y2 : w1.cell? ⟨gc, 2, none⟩ = some (.int .i64 m.g.Z) := h1.cellC 2; clear hb1 h1))
 clear z0 z1 z2 z3 y2
 have hbn := begin_any H1.out
 rw [show hitOf m.pl (wrap64 (wrap64 (m.ops + 1) - m.frm)) = some f from HPL.out, show bgV (some f) = .tuple #[.agg #[.int .i64 f.f0, .int .i64 f.f1, .int .i64 f.f2], .bool true] from rfl] at hbn
 have HBN := Aside0.mk hbn
 clear hbn
 go_upto_region 10 with (first
  | (go_at_call 34; (with_reducible refine HBN.out.mono ?_); rintro e w2 ⟨rfl, h2, hk2⟩; have H2 := Aside0.mk h2; have HK2 := Aside0.mk ((Keeps.of_below HB1.out).trans hk2); clear h2 hk2))
 go_upto_block 0 with (fail)
 generalize hW : w2.alloc (.cells #[.int .i64 f.f0, .int .i64 f.f1, .int .i64 f.f2] 71) = W2a
 have hb3a : Below w2.heap.size w2 W2a := by rw [← hW]; exact below_alloc (Below.refl _ _) _
 have hx3 : W2a.heap[w2.heap.size]? = some (.cells #[.int .i64 f.f0, .int .i64 f.f1, .int .i64 f.f2] 71 (0, 0)) := by rw [← hW]; exact new_blk _ _ _
 have h3a := H2.out.grow hb3a
 have x1 := Joins.cell_of_block hx3 1
 have fo := blk_frozen h3a.c 7
 have co := h3a.cellC 7
 have H3a := Aside0.mk h3a
 have HX3 := Aside0.mk hx3
 have HK3a := Aside0.mk (HK2.out.trans (Keeps.of_below hb3a))
 clear hW hb3a h3a hx3
 go_upto_region 12 with (fail)
 generalize hW : W2a.setCell ⟨gc, 7, none⟩ (.bool true) = W3
 have h3 : St w0 W3 gc gb gp { m with ops := wrap64 (m.ops + 1), off := true } D := by rw [← hW]; exact H3a.out.setC 7 _ rfl rfl rfl H3a.out.pln
 have hk3 : Keeps W W3 := by rw [← hW]; exact HK3a.out.set H3a.out.c (by decide) _ _
 have hx3 : W3.heap[w2.heap.size]? = some (.cells #[.int .i64 f.f0, .int .i64 f.f1, .int .i64 f.f2] 71 (0, 0)) := by rw [← hW]; exact blk_far HX3.out (ne_of_type HX3.out H3a.out.c (by decide)) _
 have x2 := Joins.cell_of_block hx3 2
 have HK3 := Aside0.mk hk3
 clear hW hk3 hx3 x1 fo co
 obtain ⟨z0, z1, z2, z3⟩ := h3.cellB n hn
 obtain ⟨q0, q1⟩ := h3.cellP n hn p hp
 have fq0 := blk_frozen (h3.p n hn) (p * 2)
 have fq1 := blk_frozen (h3.p n hn) (p * 2 + 1)
 have H3 := Aside0.mk h3
 clear h3
 go_upto_region 22 with (fail)
 generalize hW : (W3.setCell ⟨gp n, p * 2, none⟩ (.int .i64 1)).setCell ⟨gp n, p * 2 + 1, none⟩ (.slice none 0 0) = W4
 have h4 := H3.out.page n hn p hp 1 (.slice none 0 0) [] (Kd.R_nil _ _ _ _ _)
 have hk4 := (HK3.out.set (H3.out.p n hn) (by decide) (p * 2) (.int .i64 1)).set (blk_set (H3.out.p n hn) (p * 2) (.int .i64 1)) (by decide) (p * 2 + 1) (.slice none 0 0)
 rw [hW] at h4 hk4
 clear z0 z1 z2 z3 q0 q1 fq0 fq1 x2
 have H4 := Aside0.mk h4
 have HK4 := Aside0.mk hk4
 clear hW h4 hk4
 go_upto_region 23 with (fail)
 refine Rel.tail (m := 9) [(0, 96, .inl ?r2v0), (1, 97, .inl ?r2v1), (2, 98, .inl ?r2v2), (3, 99, .inl ?r2v3), (4, 100, .inl ?r2v4), (5, 101, .inl ?r2v5), (6, 102, .inr (fun v w' => Kd.R kB 5 w' w0.heap.size (fun _ => True) v l)), (7, 103, .inl ?r2v7), (8, 104, .inl ?r2v8)] (fun w' => Below W4.heap.size W4 w') (fun w' w'' => Below w'.heap.size w' w'') (by rfl) rfl (by kernel_rfl) (by kernel_rfl) (by kernel_rfl) ?r2S (Rel.stable_inl (Rel.stable_inl (Rel.stable_inl (Rel.stable_inl (Rel.stable_inl (Rel.stable_inl (Rel.stable_inr (fun v w w' hb h => Kd.R_below h hb) (Rel.stable_inl (Rel.stable_inl Rel.stable_nil))))))))) ?r2steps ?r2okv ?r2hlt ?r2fin
 case r2S => exact below_drew (Below.refl _ _)
 case r2steps =>
  refine Rel.from_some 0 rfl rfl (fun a wq hS hK K hC => ?_) ?_
  ·refine Reg.step_on (by rfl) ?_
   have e9 := hK.off 9 _ rfl rfl
   clear hK
   go_simp
   exact hC _ hS (Below.refl _ _)
  refine Rel.from_some 1 rfl rfl (fun a wq hS hK K hC => ?_) ?_
  ·refine Reg.step_on (by rfl) ?_
   have e96 := hK.slot 0 _ _ _ rfl (by kernel_rfl)
   clear hK
   go_simp
   exact hC _ hS (Below.refl _ _)
  refine Rel.from_some 2 rfl rfl (fun a wq hS hK K hC => ?_) ?_
  ·refine Reg.step_on (by rfl) ?_
   have e97 := hK.slot 1 _ _ _ rfl (by kernel_rfl)
   clear hK
   go_simp
   exact hC _ hS (Below.refl _ _)
  refine Rel.from_some 3 rfl rfl (fun a wq hS hK K hC => ?_) ?_
  ·refine Reg.step_on (by rfl) ?_
   have e98 := hK.slot 2 _ _ _ rfl (by kernel_rfl)
   have zz := ((H4.out.grow hS).cellB n hn).2.2.1
   change _ = some (Value.slice (some ⟨gp n, 0, none⟩) m.g.P m.g.P) at zz
   clear hK
   go_simp
   exact hC _ hS (Below.refl _ _)
  refine Rel.from_some 4 rfl rfl (fun a wq hS hK K hC => ?_) ?_
  ·refine Reg.step_on (by rfl) ?_
   have e2 := hK.off 2 _ rfl rfl
   clear hK
   go_simp
   exact hC _ hS (Below.refl _ _)
  refine Rel.from_some 5 rfl rfl (fun a wq hS hK K hC => ?_) ?_
  ·refine Reg.step_on (by rfl) ?_
   have e3 := hK.off 3 _ rfl rfl
   clear hK
   go_simp
   exact hC _ hS (Below.refl _ _)
  refine Rel.from_rel 6 rfl rfl (fun a wq hS hK K hC => ?_) ?_
  ·refine Reg.step_on (by rfl) ?_
   have e101 := hK.slot 5 _ _ _ rfl (by kernel_rfl)
   clear hK
   go_simp
   go_at_call 35; (with_reducible refine (clone_bytes A c l wq (HRD.out wq (H4.out.grow hS).below (HK4.out.trans (Keeps.of_below hS))) HCC.out ?cb).mono ?_)
   case cb => exact HLZ.out
   rintro e w' ⟨v, rfl, ho, hb⟩
   exact hC v w' (below_step hS hb) hb (Kd.R_lower ho (below_size (H4.out.grow hS).below))
  refine Rel.from_some 7 rfl rfl (fun a wq hS hK K hC => ?_) ?_
  ·refine Reg.step_on (by rfl) ?_
   have e99 := hK.slot 3 _ _ _ rfl (by kernel_rfl)
   have e100 := hK.slot 4 _ _ _ rfl (by kernel_rfl)
   clear hK
   go_simp
   exact hC _ hS (Below.refl _ _)
  refine Rel.from_some 8 rfl rfl (fun a wq hS hK K hC => ?_) ?_
  ·refine Reg.step_on (by rfl) ?_
   have e103 := hK.slot 7 _ _ _ rfl (by kernel_rfl)
   clear hK
   go_simp
   exact hC _ hS (Below.refl _ _)
  exact Rel.from_nil
 case r2okv => rfl
 case r2hlt => rfl
 case r2fin =>
  intro U wz hS hU
  have q6 := hU 6 _ _ _ rfl
  clear hU
  simp only [Rel.inst, Nat.zero_add, Nat.reduceAdd, Reg.putV, List.foldl_cons, List.foldl_nil, Act.put, List.setIfInBounds_toArray, List.set_cons_zero, List.set_cons_succ]
  have h5 := H4.out.grow hS
  have HQ := Aside0.mk q6
  obtain ⟨r0, r1⟩ := h5.cellP n hn p hp
  have fr1 := blk_frozen (h5.p n hn) (p * 2 + 1)
  have H5 := Aside0.mk h5
  have HK5 := Aside0.mk (HK4.out.trans (Keeps.of_below hS))
  obtain ⟨A6, c6, e6⟩ := Kd.R_slice q6
  rw [e6] at HQ ⊢
  clear hS h5 q6 e6
  refine Rel.tail_cons (fun K hK => ?_)
  refine Reg.step_on (by rfl) ?_
  go_simp
  refine hK _ _ ?_
  clear hK r0 r1 fr1
  refine Rel.tail_nil ?_
  have h6 := H5.out.pageD n hn p hp (.slice A6 l.length c6) l HQ.out
  have hk6 := HK5.out.set (H5.out.p n hn) (by decide) (p * 2 + 1) (.slice A6 l.length c6)
  rw [setBk_self, setBk_twice, setPg_self, setPg_twice, updD_twice] at h6
  generalize wz.setCell ⟨gp n, p * 2 + 1, none⟩ (.slice A6 l.length c6) = W6 at h6 hk6 ⊢
  obtain ⟨z0, z1, z2, z3⟩ := h6.cellB n hn
  rw [setBk_self] at z3
  change W6.cell? ⟨gb, n * 4 + 3, none⟩ = some (.int .i64 (m.bk n).nx) at z3
  rw [HNX.out] at z3
  have f3 := blk_frozen h6.b (n * 4 + 3)
  have H6 := Aside0.mk h6
  have HK6 := Aside0.mk hk6
  clear h6 hk6 z0 z1 z2
  go_wp2
  go_ret
  have h7 := H6.out.nx n (wrap64 ((p : Int) + 1))
  rw [setBk_self, setBk_twice] at h7
  exact ⟨rfl, ⟨_, h7⟩, HK6.out.set H6.out.b (by decide) _ _⟩
set_option maxRecDepth 100000 in
set_option maxHeartbeats 8000000 in
theorem program_perm (h : St w0 W gc gb gp m D) (hoff : m.off = false) (n p : Nat) (hn : n < m.g.B) (hp : p < m.g.P) (hbad : (m.bk n).bad = true ∨ (m.bk n).nx ≠ p) (A : Option Addr) (len c : Nat) (hl : len ≤ m.g.Z) :
  Calls Tryd.prog 18 #[cp gc, .int .i64 n, .int .i64 p, .slice A len c] W fun e w' => e = .returned (.int .i64 1) ∧ St w0 w' gc gb gp { m with wrong := wrap64 (m.wrong + 1) } D ∧ Keeps W w' := by
 have HRY := Aside0.mk (ready_yes h hoff n hn)
 have H := Aside0.mk h
 have HBD := Aside0.mk hbad
 have d1 : decide ((p : Int) < 0) = false := decide_eq_false (by omega)
 have d2 : decide ((m.g.P : Int) ≤ (p : Int)) = false := decide_eq_false (by omega)
 have d3 : decide (m.g.P ≤ p) = false := decide_eq_false (by omega)
 have d4 : decide ((m.g.Z : Int) < (len : Int)) = false := decide_eq_false (by omega)
 have d5 : decide (m.g.Z < len) = false := decide_eq_false (by omega)
 clear h hoff hbad
 cases hb : (m.bk n).bad with
 | true =>
  have HB := Aside0.mk hb
  clear hb
  go_enter Tryd.func18, Tryd.ntmps18
  go_wp2_with (first
   | (go_at_call 33; (with_reducible refine HRY.out.mono ?_); rintro e w1 ⟨rfl, hb1⟩; have h1 := H.out.grow hb1; have H1 := Aside0.mk h1; have HB1 := Aside0.mk hb1; obtain ⟨z0, z1, z2, z3⟩ := h1.cellB n hn; rw [HB.out] at z0; have y2 : w1.cell? ⟨gc, 2, none⟩ = some (.int .i64 m.g.Z) := h1.cellC 2; have y9 : w1.cell? ⟨gc, 9, none⟩ = some (.int .i64 m.wrong) := h1.cellC 9; have f9 := blk_frozen h1.c 9; clear hb1 h1))
  go_ret
  exact ⟨rfl, H1.out.wrong _, (Keeps.of_below HB1.out).set H1.out.c (by decide) _ _⟩
 | false =>
  have hne : (m.bk n).nx ≠ p := by
   rcases HBD.out with h | h
   ·rw [hb] at h; cases h
   ·exact h
  have e1 : ((p : Int) == (m.bk n).nx) = false := by simp only [beq_eq_false_iff_ne]; exact fun h => hne h.symm
  have e2 : ((p : Int) != (m.bk n).nx) = true := by simp only [bne_iff_ne]; exact fun h => hne h.symm
  have HB := Aside0.mk hb
  clear hb hne
  go_enter Tryd.func18, Tryd.ntmps18
  go_wp2_with (first
   | (go_at_call 33; (with_reducible refine HRY.out.mono ?_); rintro e w1 ⟨rfl, hb1⟩; have h1 := H.out.grow hb1; have H1 := Aside0.mk h1; have HB1 := Aside0.mk hb1; obtain ⟨z0, z1, z2, z3⟩ := h1.cellB n hn; rw [HB.out] at z0; have y2 : w1.cell? ⟨gc, 2, none⟩ = some (.int .i64 m.g.Z) := h1.cellC 2; have y9 : w1.cell? ⟨gc, 9, none⟩ = some (.int .i64 m.wrong) := h1.cellC 9; have f9 := blk_frozen h1.c 9; clear hb1 h1))
  go_ret
  exact ⟨rfl, H1.out.wrong _, (Keeps.of_below HB1.out).set H1.out.c (by decide) _ _⟩
end Go.Proofs.YtdlimghdimkadaaDoor.PAll

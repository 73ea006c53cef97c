/- A region that draws its order: each operation is shown once; a value is fixed (inl), or known by a relation to the world (inr). -/
import Derived.Test.YtdlimghdimkadaaDoorReg
namespace Go.Proofs.YtdlimghdimkadaaDoor.Rel
open Go Go.RowKit Go.Proofs.YtdlimghdimkadaaDoorW.PrintLast Go.Proofs.YtdlimghdimkadaaDoorW.PrintWords Go.Proofs.YtdlimghdimkadaaDoor.Reg
abbrev Ent := Nat × Tmp × (Value ⊕ (Value → World → Prop))
def inst (U : Nat → Value) : Nat → List Ent → List (Nat × Tmp × Value)
  | _, [] => []
  | m, (i, t, .inl c) :: r => (i, t, c) :: inst U (m + 1) r
  | m, (i, t, .inr _) :: r => (i, t, U m) :: inst U (m + 1) r
theorem inst_inl {U : Nat → Value} : ∀ {V : List Ent} {m k : Nat} {i : Nat} {t : Tmp} {c : Value}, V[k]? = some (i, t, .inl c) → (inst U m V)[k]? = some (i, t, c)
  | [], _, _, _, _, _, h => by simp at h
  | (_, _, .inl _) :: r, m, 0, i, t, c, h => by simpa [inst] using h
  | (_, _, .inr _) :: r, m, 0, i, t, c, h => by simp at h
  | (_, _, .inl _) :: r, m, k + 1, i, t, c, h => by simpa [inst] using inst_inl (V := r) (m := m + 1) (k := k) (by simpa using h)
  | (_, _, .inr _) :: r, m, k + 1, i, t, c, h => by simpa [inst] using inst_inl (V := r) (m := m + 1) (k := k) (by simpa using h)
theorem inst_inr {U : Nat → Value} : ∀ {V : List Ent} {m k : Nat} {i : Nat} {t : Tmp} {Q : Value → World → Prop}, V[k]? = some (i, t, .inr Q) → (inst U m V)[k]? = some (i, t, U (m + k))
  | [], _, _, _, _, _, h => by simp at h
  | (_, _, .inl _) :: r, m, 0, i, t, c, h => by simp at h
  | (_, _, .inr _) :: r, m, 0, i, t, c, h => by
    simp at h
    simp [inst, h.1, h.2.1]
  | (_, _, .inl _) :: r, m, k + 1, i, t, c, h => by
    have := inst_inr (U := U) (V := r) (m := m + 1) (k := k) (by simpa using h)
    simpa [inst, show m + 1 + k = m + (k + 1) by omega] using this
  | (_, _, .inr _) :: r, m, k + 1, i, t, c, h => by
    have := inst_inr (U := U) (V := r) (m := m + 1) (k := k) (by simpa using h)
    simpa [inst, show m + 1 + k = m + (k + 1) by omega] using this
theorem inst_get {U : Nat → Value} {V : List Ent} {k : Nat} {e : Ent} (h : V[k]? = some e) : ∃ v, (inst U 0 V)[k]? = some (e.1, e.2.1, v) := by
  obtain ⟨i, t, x⟩ := e
  cases x with
  | inl c => exact ⟨c, inst_inl h⟩
  | inr Q => exact ⟨_, inst_inr h⟩
theorem inst_same {U U' : Nat → Value} : ∀ {V : List Ent} {m : Nat}, (∀ j, m ≤ j → U' j = U j) → inst U' m V = inst U m V
  | [], _, _ => rfl
  | (_, _, .inl _) :: r, m, h => by simp only [inst]; rw [inst_same (V := r) (m := m + 1) (fun j hj => h j (by omega))]
  | (_, _, .inr _) :: r, m, h => by simp only [inst]; rw [inst_same (V := r) (m := m + 1) (fun j hj => h j (by omega)), h m (Nat.le_refl _)]
theorem inst_set {U : Nat → Value} {v : Value} : ∀ {V : List Ent} {m k : Nat} {i : Nat} {t : Tmp} {Q : Value → World → Prop}, V[k]? = some (i, t, .inr Q) → (inst U m V).set k (i, t, v) = inst (fun j => if j = m + k then v else U j) m V
  | [], _, _, _, _, _, h => by simp at h
  | (_, _, .inl _) :: r, m, 0, i, t, c, h => by simp at h
  | (_, _, .inr _) :: r, m, 0, i, t, c, h => by
    simp at h
    simp only [inst, List.set_cons_zero, Nat.add_zero, if_true, h.1, h.2.1]
    rw [inst_same (U := U) (U' := fun j => if j = m then v else U j) (V := r) (m := m + 1) (fun j hj => by simp; omega)]
  | (_, _, .inl _) :: r, m, k + 1, i, t, c, h => by
    have := inst_set (U := U) (v := v) (V := r) (m := m + 1) (k := k) (by simpa using h)
    simp only [inst, List.set_cons_succ, this, show m + 1 + k = m + (k + 1) by omega]
  | (_, _, .inr _) :: r, m, k + 1, i, t, c, h => by
    have := inst_set (U := U) (v := v) (V := r) (m := m + 1) (k := k) (by simpa using h)
    simp only [inst, List.set_cons_succ, this, show m + 1 + k = m + (k + 1) by omega]
    rw [if_neg (by omega)]
def key (e : Nat × Tmp × Value) : Nat × Tmp := (e.1, e.2.1)
theorem inst_key {U U' : Nat → Value} : ∀ {V : List Ent} {m : Nat}, (inst U m V).map key = (inst U' m V).map key
  | [], _ => rfl
  | (_, _, .inl _) :: r, m => by simp only [inst, List.map_cons]; rw [inst_key (U := U) (U' := U') (V := r)]
  | (_, _, .inr _) :: r, m => by simp only [inst, List.map_cons]; rw [inst_key (U := U) (U' := U') (V := r)]; rfl
theorem all_key {p : Nat × Tmp → Bool} {L L' : List (Nat × Tmp × Value)} (h : L.map key = L'.map key) : (L.all fun e => p (e.1, e.2.1)) = (L'.all fun e => p (e.1, e.2.1)) := by
  have h1 : ∀ L : List (Nat × Tmp × Value), (L.all fun e => p (e.1, e.2.1)) = (L.map key).all p := fun L => by rw [List.all_map]; rfl
  rw [h1, h1, h]
theorem okV_key {L L' : List (Nat × Tmp × Value)} {size : Nat} (h : L.map key = L'.map key) : okV L size = okV L' size := by
  unfold okV
  have hl : L.length = L'.length := by simpa using congrArg List.length h
  rw [hl]
  congr 1
  funext k
  have hk : (L.map key)[k]? = (L'.map key)[k]? := by rw [h]
  rw [List.getElem?_map, List.getElem?_map] at hk
  cases e : L[k]? with
  | none =>
    rw [e] at hk
    cases e' : L'[k]? with
    | none => rfl
    | some y => rw [e'] at hk; simp at hk
  | some x =>
    rw [e] at hk
    cases e' : L'[k]? with
    | none => rw [e'] at hk; simp at hk
    | some y =>
      rw [e'] at hk
      simp only [Option.map_some, Option.some.injEq] at hk
      have h1 : x.1 = y.1 := (Prod.mk.inj (show (x.1, x.2.1) = (y.1, y.2.1) from hk)).1
      have h2 : x.2.1 = y.2.1 := (Prod.mk.inj (show (x.1, x.2.1) = (y.1, y.2.1) from hk)).2
      simp only [h1, h2]
      congr 1
      refine all_key (p := fun z => !(z.1 == y.1) && !(z.2 == y.2.1)) ?_
      rw [List.map_append, List.map_append, List.map_take, List.map_drop, List.map_take, List.map_drop, h]
theorem okV_ne {L : List (Nat × Tmp × Value)} {size k k' : Nat} {i : Nat} {t t' : Tmp} {v v' : Value} (h : okV L size = true) (hk : L[k]? = some (i, t, v)) (hk' : L[k']? = some (i, t', v')) (hne : k' ≠ k) : False := by
  obtain ⟨h1, _⟩ := okV_at h hk
  have hm : (i, t', v') ∈ L.take k ++ L.drop (k + 1) := by
    rw [List.mem_append]
    rcases Nat.lt_or_ge k' k with h2 | h2
    · left
      exact List.mem_of_getElem? (i := k') (by rw [List.getElem?_take, if_pos h2]; exact hk')
    · right
      exact List.mem_of_getElem? (i := k' - (k + 1)) (by rw [List.getElem?_drop, show k + 1 + (k' - (k + 1)) = k' by omega]; exact hk')
  have := List.all_eq_true.1 h1 _ hm
  simp at this
def U0 : Nat → Value := fun _ => undef
structure Knows (a0 : Act) (V : List Ent) (D L : List Nat) (a : Act) (w : World) : Prop where
  off : ∀ t v, ((inst U0 0 V).all fun e => !(e.2.1 == t)) = true → a0.tmps[t]? = some v → a.tmps[t]? = some v
  pre : ∀ t v j, L.contains j = true → ((inst U0 0 V).all fun e => !(e.2.1 == t) || e.1 == j) = true → a0.tmps[t]? = some v → a.tmps[t]? = some v
  slot : ∀ (k : Nat) (i : Nat) (t : Tmp) (v : Value), V[k]? = some (i, t, .inl v) → D.contains i = true → a.tmps[t]? = some v
  rel : ∀ (k : Nat) (i : Nat) (t : Tmp) (Q : Value → World → Prop), V[k]? = some (i, t, .inr Q) → D.contains i = true → ∃ v, a.tmps[t]? = some v ∧ Q v w
/-- One operation: told by K's premise. -/
def Step (P : Program) (ops : Array Oper) (Q : Exit → Act → World → Prop) (B : List Nat) (n : Nat) (a0 : Act) (V : List Ent) (S : World → Prop) (G : World → World → Prop) (i : Nat) (oi : Oper) : Prop :=
  (match oi.dst with
      | some t => ∃ (k : Nat) (e : Value ⊕ (Value → World → Prop)), V[k]? = some (i, t, e) ∧ ∀ a w, S w → Knows a0 V (deps B n i) (laters B n i) a w → ∀ K : Act → World → Prop,
          (∀ v w', S w' → G w w' → (match e with | .inl c => v = c | .inr q => q v w') → K (a.put (some t) v) w') →
          if Region.wanted oi (yielded ops a.tmps) = true then Oper.wp P oi a w K Q else K (a.put (some t) undef) w
      | none => ((inst U0 0 V).all fun e => !(e.1 == i)) = true ∧ ∀ a w, S w → Knows a0 V (deps B n i) (laters B n i) a w → ∀ K : Act → World → Prop, (∀ w', S w' → G w w' → K a w') →
          if Region.wanted oi (yielded ops a.tmps) = true then Oper.wp P oi a w K Q else K a w)
section
variable {P : Program} {ops : Array Oper} {Q : Exit → Act → World → Prop} {T : Bool × List (List Nat × List Nat)} {B : List Nat}
theorem rel_region {id n : Nat} {a0 : Act} {w0 : World} (V : List Ent) (S : World → Prop) (G : World → World → Prop) (hm : P.follows .mixedOrders = true) (hn : ops.size = n)
    (hT : rtab .any ops = T) (hw : waitsOk T.2 B = true) (hk : baseOk T.2 (List.range n) = true) (hl : T.2.length = n)
    (h0 : S w0.drew) (hst : ∀ (k : Nat) (i : Nat) (t : Tmp) (q : Value → World → Prop), V[k]? = some (i, t, .inr q) → ∀ v w w', G w w' → q v w → q v w')
    (hs : ∀ i ∈ List.range n, ∃ oi, ops[i]? = some oi ∧ Step P ops Q B n a0 V S G i oi) (hV : okV (inst U0 0 V) a0.tmps.size = true) (hlt : (inst U0 0 V).all (fun e => decide (e.1 < n)) = true)
    (hend : ∀ U w, S w → (∀ (k : Nat) (i : Nat) (t : Tmp) (q : Value → World → Prop), V[k]? = some (i, t, .inr q) → q (U k) w) → Q .normal (putV a0 (inst U 0 V)) w) : (Code.region id ops true).wp P Q a0 w0 := by
  have hVU : ∀ U, okV (inst U 0 V) a0.tmps.size = true := fun U => by rw [okV_key (inst_key (U := U) (U' := U0))]; exact hV
  refine start_ (n := n) (S := fun _ => True) (ds := []) (Array.replicate n false) hm hn rfl trivial (fun _ => ?_)
  refine inv_ (T := T) (B := B) (md := .any) (List.range n) (fun b a w => ∃ U, a = putSel a0 b (inst U 0 V) ∧ S w ∧ ∀ (k : Nat) (i : Nat) (t : Tmp) (q : Value → World → Prop), V[k]? = some (i, t, .inr q) → b i = true → q (U k) w) hT hw hk ?_ ?_ ?_ ?_
  · rw [Bool.and_eq_true, beq_iff_eq, beq_iff_eq]
    refine ⟨?_, by simp⟩
    apply List.ext_getElem?
    intro j
    simp only [lof, hl]
    by_cases hj : j < n
    · simp [hj]
    · simp [hj]
  · refine ⟨U0, ?_, h0, fun _ _ _ _ _ hb => by cases hb⟩
    have : ∀ (V : List (Nat × Tmp × Value)) (a : Act), putSel a (fun _ => false) V = a := by
      intro V
      induction V with
      | nil => intro a; rfl
      | cons e r ih => intro a; unfold putSel; simpa using ih a
    exact (this _ a0).symm
  · intro i hi b a w hI hb hdep hlat
    obtain ⟨U, rfl, hS, hU⟩ := hI
    obtain ⟨oi, ho, hd⟩ := hs i hi
    refine ⟨oi, ho, fun K hK => ?_⟩
    have hin : ∀ j, j < n → (List.range n).contains j = true := fun j hj => by simp [hj]
    have hD : ∀ j, (deps B n i).contains j = true → b j = true := fun j hj => by
      have h1 := List.contains_iff_mem.1 hj
      obtain ⟨h2, h3⟩ := List.mem_filter.1 h1
      exact hdep j (by rw [hin j (List.mem_range.1 h2), h3]; rfl)
    have hL : ∀ j, (laters B n i).contains j = true → b j = false := fun j hj => by
      have h1 := List.contains_iff_mem.1 hj
      obtain ⟨h2, h3⟩ := List.mem_filter.1 h1
      exact hlat j (by rw [hin j (List.mem_range.1 h2), h3]; rfl)
    have hslot : ∀ (k : Nat) (e : Nat × Tmp × Value), (inst U 0 V)[k]? = some e → (deps B n i).contains e.1 = true → (putSel a0 b (inst U 0 V)).tmps[e.2.1]? = some e.2.2 := by
      intro k e hk hDe
      obtain ⟨h1, h2⟩ := okV_at (hVU U) hk
      refine putSel_on k hk ?_ (hD _ hDe) h2
      rw [List.all_append, Bool.and_eq_true] at h1
      refine List.all_eq_true.2 (fun x hx => ?_)
      have := List.all_eq_true.1 h1.2 x hx
      rw [Bool.and_eq_true] at this
      exact this.2
    have hK0 : Knows a0 V (deps B n i) (laters B n i) (putSel a0 b (inst U 0 V)) w := by
      refine ⟨fun t v ht h0t => ?_, fun t v j hj ht h0t => ?_, fun k i t v hk hDe => hslot k (i, t, v) (inst_inl hk) hDe, fun k i t q hk hDe => ⟨U k, ?_, hU k i t q hk (hD _ hDe)⟩⟩
      · rw [putSel_off (by rw [all_key (p := fun z => !(z.2 == t)) (inst_key (U := U) (U' := U0))]; exact ht)]; exact h0t
      · rw [putSel_not (hL j hj) (by rw [all_key (p := fun z => !(z.2 == t) || z.1 == j) (inst_key (U := U) (U' := U0))]; exact ht)]; exact h0t
      · have := hslot k _ (inst_inr (U := U) (m := 0) hk) hDe
        rw [Nat.zero_add] at this
        exact this
    unfold Step at hd
    rcases hdst : oi.dst with _ | t
    · rw [hdst] at hd
      obtain ⟨hv, hd⟩ := hd
      have := hd (putSel a0 b (inst U 0 V)) w hS hK0 (fun a w => K a w) (fun w' hS' hG => ?_)
      · exact this
      · have h9 := hK (putSel a0 b (inst U 0 V)) w' ⟨U, ?_, hS', fun k j t q hk hbj => ?_⟩
        · exact h9
        · have := putSel_none (a := a0) (b := b) (v := undef) (i := i) (L := inst U 0 V) (by rw [all_key (p := fun z => !(z.1 == i)) (inst_key (U := U) (U' := U0))]; exact hv)
          exact this
        · refine hst k j t q hk _ _ _ hG (hU k j t q hk ?_)
          by_cases hji : j = i
          · exfalso
            subst hji
            obtain ⟨v, hg⟩ := inst_get (U := U0) hk
            have := List.all_eq_true.1 hv _ (List.mem_of_getElem? hg)
            simp at this
          · rwa [up_ne hji] at hbj
    · rw [hdst] at hd
      obtain ⟨k, e, hk, hd⟩ := hd
      refine hd (putSel a0 b (inst U 0 V)) w hS hK0 K (fun v w' hS' hG hv => ?_)
      cases e with
      | inl c =>
        obtain rfl : v = c := hv
        have hk1 := inst_inl (U := U) (m := 0) hk
        obtain ⟨h1, _⟩ := okV_at (hVU U) hk1
        refine hK _ w' ⟨U, ?_, hS', fun k' j t' q hk' hbj => ?_⟩
        · refine putSel_upk (L := inst U 0 V) (L' := inst U 0 V) k hb hk1 ?_ h1
          obtain ⟨hk3, hk4⟩ := List.getElem?_eq_some_iff.1 hk1
          rw [← hk4, List.set_getElem_self]
        · refine hst k' j t' q hk' _ _ _ hG (hU k' j t' q hk' ?_)
          by_cases hji : j = i
          · exfalso
            subst hji
            have hkk : k' ≠ k := by
              rintro rfl
              rw [hk] at hk'
              simp at hk'
            exact okV_ne (hVU U) hk1 (inst_inr (U := U) (m := 0) hk') (fun h => hkk h)
          · rwa [up_ne hji] at hbj
      | inr q =>
        have hk1 := inst_inr (U := U) (m := 0) hk
        obtain ⟨h1, _⟩ := okV_at (hVU U) hk1
        refine hK _ w' ⟨fun j => if j = 0 + k then v else U j, ?_, hS', fun k' j t' q' hk' hbj => ?_⟩
        · exact putSel_upk (L := inst U 0 V) k hb hk1 (inst_set hk) h1
        · rw [Nat.zero_add]
          by_cases hkk : k' = k
          · subst hkk
            rw [hk] at hk'
            simp only [Option.some.injEq, Prod.mk.injEq, Sum.inr.injEq] at hk'
            obtain ⟨rfl, rfl, rfl⟩ := hk'
            simp only [if_true]
            exact hv
          · simp only [if_neg hkk]
            refine hst k' j t' q' hk' _ _ _ hG (hU k' j t' q' hk' ?_)
            by_cases hji : j = i
            · exfalso
              subst hji
              exact okV_ne (hVU U) hk1 (inst_inr (U := U) (m := 0) hk') (fun h => hkk h)
            · rwa [up_ne hji] at hbj
  · intro b a w hb hI
    obtain ⟨U, rfl, hS, hU⟩ := hI
    rw [putSel_all (fun e he => hb e.1 (by
      have h2 : (inst U 0 V).all (fun e => decide (e.1 < n)) = true := by rw [all_key (p := fun z => decide (z.1 < n)) (inst_key (U := U) (U' := U0))]; exact hlt
      have := List.all_eq_true.1 h2 e he
      simp only [decide_eq_true_eq] at this
      simp [this]))]
    refine hend U w hS (fun k i t q hk => hU k i t q hk (hb i ?_))
    obtain ⟨v, hg⟩ := inst_get (U := U0) hk
    have := List.all_eq_true.1 hlt _ (List.mem_of_getElem? hg)
    simp only [decide_eq_true_eq] at this
    simp [this]
def From (P : Program) (ops : Array Oper) (Q : Exit → Act → World → Prop) (B : List Nat) (n : Nat) (a0 : Act) (V : List Ent) (S : World → Prop) (G : World → World → Prop) : Nat → List Oper → Prop
  | _, [] => True
  | i, o :: r => Step P ops Q B n a0 V S G i o ∧ From P ops Q B n a0 V S G (i + 1) r
theorem from_get {n : Nat} {a0 : Act} {V : List Ent} {S : World → Prop} {G : World → World → Prop} : ∀ (l : List Oper) (i : Nat), From P ops Q B n a0 V S G i l → (∀ j, l[j]? = ops[i + j]?) → ∀ j, j < l.length → ∃ oi, ops[i + j]? = some oi ∧ Step P ops Q B n a0 V S G (i + j) oi
  | [], _, _, _, j, hj => by simp at hj
  | o :: r, i, h, hg, 0, _ => by
    have h0 := hg 0
    simp only [List.getElem?_cons_zero, Nat.add_zero] at h0
    exact ⟨o, h0.symm, h.1⟩
  | o :: r, i, h, hg, j + 1, hj => by
    have h2 := from_get r (i + 1) h.2 (fun m => by
      have := hg (m + 1)
      simp only [List.getElem?_cons_succ] at this
      rw [this, show i + (m + 1) = i + 1 + m by omega]) j (by simp at hj; omega)
    rwa [show i + 1 + j = i + (j + 1) by omega] at h2
theorem from_nil {n i : Nat} {a0 : Act} {V : List Ent} {S : World → Prop} {G : World → World → Prop} : From P ops Q B n a0 V S G i [] := trivial
theorem from_some {n i : Nat} {a0 : Act} {V : List Ent} {S : World → Prop} {G : World → World → Prop} {o : Oper} {r : List Oper} {t : Tmp} {v : Value} (k : Nat) (ht : o.dst = some t) (hk : V[k]? = some (i, t, .inl v))
    (h : ∀ a w, S w → Knows a0 V (deps B n i) (laters B n i) a w → ∀ K : Act → World → Prop, (∀ w', S w' → G w w' → K (a.put (some t) v) w') → if Region.wanted o (yielded ops a.tmps) = true then Oper.wp P o a w K Q else K (a.put (some t) undef) w)
    (hr : From P ops Q B n a0 V S G (i + 1) r) : From P ops Q B n a0 V S G i (o :: r) := by
  refine ⟨?_, hr⟩
  unfold Step
  rw [ht]
  exact ⟨k, _, hk, fun a w hS hK K hC => h a w hS hK K (fun w' hS' hG => hC v w' hS' hG rfl)⟩
theorem from_rel {n i : Nat} {a0 : Act} {V : List Ent} {S : World → Prop} {G : World → World → Prop} {o : Oper} {r : List Oper} {t : Tmp} {q : Value → World → Prop} (k : Nat) (ht : o.dst = some t) (hk : V[k]? = some (i, t, .inr q))
    (h : ∀ a w, S w → Knows a0 V (deps B n i) (laters B n i) a w → ∀ K : Act → World → Prop, (∀ v w', S w' → G w w' → q v w' → K (a.put (some t) v) w') → if Region.wanted o (yielded ops a.tmps) = true then Oper.wp P o a w K Q else K (a.put (some t) undef) w)
    (hr : From P ops Q B n a0 V S G (i + 1) r) : From P ops Q B n a0 V S G i (o :: r) := by
  refine ⟨?_, hr⟩
  unfold Step
  rw [ht]
  exact ⟨k, _, hk, h⟩
theorem from_none {n i : Nat} {a0 : Act} {V : List Ent} {S : World → Prop} {G : World → World → Prop} {o : Oper} {r : List Oper} (ht : o.dst = none) (hk : ((inst U0 0 V).all fun e => !(e.1 == i)) = true)
    (h : ∀ a w, S w → Knows a0 V (deps B n i) (laters B n i) a w → ∀ K : Act → World → Prop, (∀ w', S w' → G w w' → K a w') → if Region.wanted o (yielded ops a.tmps) = true then Oper.wp P o a w K Q else K a w)
    (hr : From P ops Q B n a0 V S G (i + 1) r) : From P ops Q B n a0 V S G i (o :: r) := by
  refine ⟨?_, hr⟩
  unfold Step
  rw [ht]
  exact ⟨hk, h⟩
theorem rel {id n : Nat} {a0 : Act} {w0 : World} (V : List Ent) (S : World → Prop) (G : World → World → Prop) (hm : P.follows .mixedOrders = true) (hn : ops.size = n) (hc : regOk ops n = true)
    (h0 : S w0.drew) (hst : ∀ (k : Nat) (i : Nat) (t : Tmp) (q : Value → World → Prop), V[k]? = some (i, t, .inr q) → ∀ v w w', G w w' → q v w → q v w')
    (hs : From P ops Q (Reg.bits ops) n a0 V S G 0 ops.toList) (hV : okV (inst U0 0 V) a0.tmps.size = true) (hlt : (inst U0 0 V).all (fun e => decide (e.1 < n)) = true)
    (hend : ∀ U w, S w → (∀ (k : Nat) (i : Nat) (t : Tmp) (q : Value → World → Prop), V[k]? = some (i, t, .inr q) → q (U k) w) → Q .normal (putV a0 (inst U 0 V)) w) : (Code.region id ops true).wp P Q a0 w0 := by
  unfold regOk at hc
  rw [Bool.and_eq_true, Bool.and_eq_true, beq_iff_eq] at hc
  refine rel_region V S G hm hn rfl hc.1.1 hc.1.2 hc.2 h0 hst (fun i hi => ?_) hV hlt hend
  have h2 := from_get ops.toList 0 hs (fun j => by simp) i (by simpa [hn] using hi)
  rwa [Nat.zero_add] at h2
/-- Stability, one entry after the other. -/
theorem stable_nil {G : World → World → Prop} : ∀ (k : Nat) (i : Nat) (t : Tmp) (q : Value → World → Prop), ([] : List Ent)[k]? = some (i, t, .inr q) → ∀ v w w', G w w' → q v w → q v w' := fun k i t q h => by simp at h
theorem stable_inl {V : List Ent} {G : World → World → Prop} {i0 : Nat} {t0 : Tmp} {c : Value} (h : ∀ (k : Nat) (i : Nat) (t : Tmp) (q : Value → World → Prop), V[k]? = some (i, t, .inr q) → ∀ v w w', G w w' → q v w → q v w') :
    ∀ (k : Nat) (i : Nat) (t : Tmp) (q : Value → World → Prop), ((i0, t0, .inl c) :: V : List Ent)[k]? = some (i, t, .inr q) → ∀ v w w', G w w' → q v w → q v w'
  | 0, i, t, q, hk => by simp at hk
  | k + 1, i, t, q, hk => h k i t q (by simpa using hk)
theorem stable_inr {V : List Ent} {G : World → World → Prop} {i0 : Nat} {t0 : Tmp} {q0 : Value → World → Prop} (h0 : ∀ v w w', G w w' → q0 v w → q0 v w') (h : ∀ (k : Nat) (i : Nat) (t : Tmp) (q : Value → World → Prop), V[k]? = some (i, t, .inr q) → ∀ v w w', G w w' → q v w → q v w') :
    ∀ (k : Nat) (i : Nat) (t : Tmp) (q : Value → World → Prop), ((i0, t0, .inr q0) :: V : List Ent)[k]? = some (i, t, .inr q) → ∀ v w w', G w w' → q v w → q v w'
  | 0, i, t, q, hk => by
    simp only [List.getElem?_cons_zero, Option.some.injEq, Prod.mk.injEq, Sum.inr.injEq] at hk
    obtain ⟨_, _, rfl⟩ := hk
    exact h0
  | k + 1, i, t, q, hk => h k i t q (by simpa using hk)
end
end Go.Proofs.YtdlimghdimkadaaDoor.Rel

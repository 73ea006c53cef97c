/- As Rel, where some operations (Z: stores, each behind the one ahead of it) move the worlds' kind on: S k holds when k of them are done. -/
import Derived.Test.YtdlimghdimkadaaDoorRel
namespace Go.Proofs.YtdlimghdimkadaaDoor.RelS
open Go Go.RowKit Go.Proofs.YtdlimghdimkadaaDoorW.PrintLast Go.Proofs.YtdlimghdimkadaaDoorW.PrintWords Go.Proofs.YtdlimghdimkadaaDoor.Reg Go.Proofs.YtdlimghdimkadaaDoor.Rel
def cnt (Z : List Nat) (b : Nat → Bool) : Nat := Z.countP b
def loZ (Z B : List Nat) (n i : Nat) : Nat := Z.countP fun z => (deps B n i).contains z
def hiZ (Z B : List Nat) (n i : Nat) : Nat := Z.countP fun z => !(laters B n i).contains z && !(z == i)
def nxZ (Z : List Nat) (i s : Nat) : Nat := if Z.contains i then s + 1 else s
theorem cnt_up (b : Nat → Bool) (i : Nat) (hb : b i = false) : ∀ (Z : List Nat), Z.Nodup → cnt Z (up b i) = nxZ Z i (cnt Z b)
  | [], _ => by simp [cnt, nxZ]
  | z :: r, h => by
    obtain ⟨h1, h2⟩ := List.nodup_cons.1 h
    have ih := cnt_up b i hb r h2
    unfold cnt nxZ at ih ⊢
    rw [List.countP_cons, List.countP_cons, ih]
    by_cases hz : z = i
    · subst hz
      rw [up_self, hb]
      have h3 : r.contains z = false := by simpa using h1
      have h4 : (z :: r).contains z = true := by simp
      rw [h3, h4]
      simp
    · rw [up_ne hz]
      have h4 : (z :: r).contains i = r.contains i := by
        rw [List.contains_cons]
        have : (i == z) = false := by simpa using fun h => hz h.symm
        rw [this, Bool.false_or]
      rw [h4]
      cases r.contains i <;> simp <;> omega
/-- One operation: told by K's premise. -/
def StepS (P : Program) (ops : Array Oper) (Q : Exit → Act → World → Prop) (B : List Nat) (n : Nat) (a0 : Act) (V : List Ent) (Z : List Nat) (S : Nat → World → Prop) (G : World → World → Prop) (i : Nat) (oi : Oper) : Prop :=
  (match oi.dst with
      | some t => ∃ (k : Nat) (e : Value ⊕ (Value → World → Prop)), V[k]? = some (i, t, e) ∧ ∀ s a w, loZ Z B n i ≤ s → s ≤ hiZ Z B n i → S s w → Knows a0 V (deps B n i) (laters B n i) a w → ∀ K : Act → World → Prop,
          (∀ v w', S (nxZ Z i s) w' → G w w' → (match e with | .inl c => v = c | .inr q => q v w') → K (a.put (some t) v) w') →
          if Region.wanted oi (yielded ops a.tmps) = true then Oper.wp P oi a w K Q else K (a.put (some t) undef) w
      | none => ((inst U0 0 V).all fun e => !(e.1 == i)) = true ∧ ∀ s a w, loZ Z B n i ≤ s → s ≤ hiZ Z B n i → S s w → Knows a0 V (deps B n i) (laters B n i) a w → ∀ K : Act → World → Prop, (∀ w', S (nxZ Z i s) w' → G w w' → K a w') →
          if Region.wanted oi (yielded ops a.tmps) = true then Oper.wp P oi a w K Q else K a w)
section
variable {P : Program} {ops : Array Oper} {Q : Exit → Act → World → Prop} {T : Bool × List (List Nat × List Nat)} {B : List Nat}
theorem relS_region {id n : Nat} {a0 : Act} {w0 : World} (V : List Ent) (Z : List Nat) (S : Nat → World → Prop) (G : World → World → Prop) (hm : P.follows .mixedOrders = true) (hn : ops.size = n)
    (hT : rtab .any ops = T) (hw : waitsOk T.2 B = true) (hk : baseOk T.2 (List.range n) = true) (hl : T.2.length = n)
    (hZ : Z.Nodup) (hZn : Z.all (fun z => decide (z < n)) = true) (h0 : S 0 w0.drew) (hst : ∀ (k : Nat) (i : Nat) (t : Tmp) (q : Value → World → Prop), V[k]? = some (i, t, .inr q) → ∀ v w w', G w w' → q v w → q v w')
    (hs : ∀ i ∈ List.range n, ∃ oi, ops[i]? = some oi ∧ StepS P ops Q B n a0 V Z S G i oi) (hV : okV (inst U0 0 V) a0.tmps.size = true) (hlt : (inst U0 0 V).all (fun e => decide (e.1 < n)) = true)
    (hend : ∀ U w, S Z.length w → (∀ (k : Nat) (i : Nat) (t : Tmp) (q : Value → World → Prop), V[k]? = some (i, t, .inr q) → q (U k) w) → Q .normal (putV a0 (inst U 0 V)) w) : (Code.region id ops true).wp P Q a0 w0 := by
  have hVU : ∀ U, okV (inst U 0 V) a0.tmps.size = true := fun U => by rw [okV_key (inst_key (U := U) (U' := U0))]; exact hV
  refine start_ (n := n) (S := fun _ => True) (ds := []) (Array.replicate n false) hm hn rfl trivial (fun _ => ?_)
  refine inv_ (T := T) (B := B) (md := .any) (List.range n) (fun b a w => ∃ U, a = putSel a0 b (inst U 0 V) ∧ S (cnt Z b) w ∧ ∀ (k : Nat) (i : Nat) (t : Tmp) (q : Value → World → Prop), V[k]? = some (i, t, .inr q) → b i = true → q (U k) w) hT hw hk ?_ ?_ ?_ ?_
  · rw [Bool.and_eq_true, beq_iff_eq, beq_iff_eq]
    refine ⟨?_, by simp⟩
    apply List.ext_getElem?
    intro j
    simp only [lof, hl]
    by_cases hj : j < n
    · simp [hj]
    · simp [hj]
  · refine ⟨U0, ?_, by rw [show cnt Z (fun _ => false) = 0 by simp [cnt]]; exact h0, fun _ _ _ _ _ hb => by cases hb⟩
    have : ∀ (V : List (Nat × Tmp × Value)) (a : Act), putSel a (fun _ => false) V = a := by
      intro V
      induction V with
      | nil => intro a; rfl
      | cons e r ih => intro a; unfold putSel; simpa using ih a
    exact (this _ a0).symm
  · intro i hi b a w hI hb hdep hlat
    obtain ⟨U, rfl, hS, hU⟩ := hI
    obtain ⟨oi, ho, hd⟩ := hs i hi
    refine ⟨oi, ho, fun K hK => ?_⟩
    have hin : ∀ j, j < n → (List.range n).contains j = true := fun j hj => by simp [hj]
    have hD : ∀ j, (deps B n i).contains j = true → b j = true := fun j hj => by
      have h1 := List.contains_iff_mem.1 hj
      obtain ⟨h2, h3⟩ := List.mem_filter.1 h1
      exact hdep j (by rw [hin j (List.mem_range.1 h2), h3]; rfl)
    have hL : ∀ j, (laters B n i).contains j = true → b j = false := fun j hj => by
      have h1 := List.contains_iff_mem.1 hj
      obtain ⟨h2, h3⟩ := List.mem_filter.1 h1
      exact hlat j (by rw [hin j (List.mem_range.1 h2), h3]; rfl)
    have hslot : ∀ (k : Nat) (e : Nat × Tmp × Value), (inst U 0 V)[k]? = some e → (deps B n i).contains e.1 = true → (putSel a0 b (inst U 0 V)).tmps[e.2.1]? = some e.2.2 := by
      intro k e hk hDe
      obtain ⟨h1, h2⟩ := okV_at (hVU U) hk
      refine putSel_on k hk ?_ (hD _ hDe) h2
      rw [List.all_append, Bool.and_eq_true] at h1
      refine List.all_eq_true.2 (fun x hx => ?_)
      have := List.all_eq_true.1 h1.2 x hx
      rw [Bool.and_eq_true] at this
      exact this.2
    have hK0 : Knows a0 V (deps B n i) (laters B n i) (putSel a0 b (inst U 0 V)) w := by
      refine ⟨fun t v ht h0t => ?_, fun t v j hj ht h0t => ?_, fun k i t v hk hDe => hslot k (i, t, v) (inst_inl hk) hDe, fun k i t q hk hDe => ⟨U k, ?_, hU k i t q hk (hD _ hDe)⟩⟩
      · rw [putSel_off (by rw [all_key (p := fun z => !(z.2 == t)) (inst_key (U := U) (U' := U0))]; exact ht)]; exact h0t
      · rw [putSel_not (hL j hj) (by rw [all_key (p := fun z => !(z.2 == t) || z.1 == j) (inst_key (U := U) (U' := U0))]; exact ht)]; exact h0t
      · have := hslot k _ (inst_inr (U := U) (m := 0) hk) hDe
        rw [Nat.zero_add] at this
        exact this
    have hlo : loZ Z B n i ≤ cnt Z b := List.countP_mono_left (fun z _ hz => hD z hz)
    have hhi : cnt Z b ≤ hiZ Z B n i := List.countP_mono_left (fun z _ hz => by
      have h1 : (laters B n i).contains z = false := by
        cases hc : (laters B n i).contains z with
        | false => rfl
        | true => rw [hL z hc] at hz; cases hz
      have h2 : (z == i) = false := by
        simp only [beq_eq_false_iff_ne]
        rintro rfl
        rw [hb] at hz
        cases hz
      rw [h1, h2]
      rfl)
    have hcu := cnt_up b i hb Z hZ
    unfold StepS at hd
    rcases hdst : oi.dst with _ | t
    · rw [hdst] at hd
      obtain ⟨hv, hd⟩ := hd
      have := hd (cnt Z b) (putSel a0 b (inst U 0 V)) w hlo hhi hS hK0 (fun a w => K a w) (fun w' hS' hG => ?_)
      · exact this
      · have h9 := hK (putSel a0 b (inst U 0 V)) w' ⟨U, ?_, by rw [hcu]; exact hS', fun k j t q hk hbj => ?_⟩
        · exact h9
        · have := putSel_none (a := a0) (b := b) (v := undef) (i := i) (L := inst U 0 V) (by rw [all_key (p := fun z => !(z.1 == i)) (inst_key (U := U) (U' := U0))]; exact hv)
          exact this
        · refine hst k j t q hk _ _ _ hG (hU k j t q hk ?_)
          by_cases hji : j = i
          · exfalso
            subst hji
            obtain ⟨v, hg⟩ := inst_get (U := U0) hk
            have := List.all_eq_true.1 hv _ (List.mem_of_getElem? hg)
            simp at this
          · rwa [up_ne hji] at hbj
    · rw [hdst] at hd
      obtain ⟨k, e, hk, hd⟩ := hd
      refine hd (cnt Z b) (putSel a0 b (inst U 0 V)) w hlo hhi hS hK0 K (fun v w' hS' hG hv => ?_)
      cases e with
      | inl c =>
        obtain rfl : v = c := hv
        have hk1 := inst_inl (U := U) (m := 0) hk
        obtain ⟨h1, _⟩ := okV_at (hVU U) hk1
        refine hK _ w' ⟨U, ?_, by rw [hcu]; exact hS', fun k' j t' q hk' hbj => ?_⟩
        · refine putSel_upk (L := inst U 0 V) (L' := inst U 0 V) k hb hk1 ?_ h1
          obtain ⟨hk3, hk4⟩ := List.getElem?_eq_some_iff.1 hk1
          rw [← hk4, List.set_getElem_self]
        · refine hst k' j t' q hk' _ _ _ hG (hU k' j t' q hk' ?_)
          by_cases hji : j = i
          · exfalso
            subst hji
            have hkk : k' ≠ k := by
              rintro rfl
              rw [hk] at hk'
              simp at hk'
            exact okV_ne (hVU U) hk1 (inst_inr (U := U) (m := 0) hk') (fun h => hkk h)
          · rwa [up_ne hji] at hbj
      | inr q =>
        have hk1 := inst_inr (U := U) (m := 0) hk
        obtain ⟨h1, _⟩ := okV_at (hVU U) hk1
        refine hK _ w' ⟨fun j => if j = 0 + k then v else U j, ?_, by rw [hcu]; exact hS', fun k' j t' q' hk' hbj => ?_⟩
        · exact putSel_upk (L := inst U 0 V) k hb hk1 (inst_set hk) h1
        · rw [Nat.zero_add]
          by_cases hkk : k' = k
          · subst hkk
            rw [hk] at hk'
            simp only [Option.some.injEq, Prod.mk.injEq, Sum.inr.injEq] at hk'
            obtain ⟨rfl, rfl, rfl⟩ := hk'
            simp only [if_true]
            exact hv
          · simp only [if_neg hkk]
            refine hst k' j t' q' hk' _ _ _ hG (hU k' j t' q' hk' ?_)
            by_cases hji : j = i
            · exfalso
              subst hji
              exact okV_ne (hVU U) hk1 (inst_inr (U := U) (m := 0) hk') (fun h => hkk h)
            · rwa [up_ne hji] at hbj
  · intro b a w hb hI
    obtain ⟨U, rfl, hS, hU⟩ := hI
    rw [putSel_all (fun e he => hb e.1 (by
      have h2 : (inst U 0 V).all (fun e => decide (e.1 < n)) = true := by rw [all_key (p := fun z => decide (z.1 < n)) (inst_key (U := U) (U' := U0))]; exact hlt
      have := List.all_eq_true.1 h2 e he
      simp only [decide_eq_true_eq] at this
      simp [this]))]
    refine hend U w (by
      have h9 : cnt Z b = Z.length := List.countP_eq_length.2 (fun z hz => hb z (by
        have := List.all_eq_true.1 hZn z hz
        simp only [decide_eq_true_eq] at this
        simp [this]))
      rw [← h9]; exact hS) (fun k i t q hk => hU k i t q hk (hb i ?_))
    obtain ⟨v, hg⟩ := inst_get (U := U0) hk
    have := List.all_eq_true.1 hlt _ (List.mem_of_getElem? hg)
    simp only [decide_eq_true_eq] at this
    simp [this]
def FromS (P : Program) (ops : Array Oper) (Q : Exit → Act → World → Prop) (B : List Nat) (n : Nat) (a0 : Act) (V : List Ent) (Z : List Nat) (S : Nat → World → Prop) (G : World → World → Prop) : Nat → List Oper → Prop
  | _, [] => True
  | i, o :: r => StepS P ops Q B n a0 V Z S G i o ∧ FromS P ops Q B n a0 V Z S G (i + 1) r
theorem fromS_get {n : Nat} {a0 : Act} {V : List Ent} {Z : List Nat} {S : Nat → World → Prop} {G : World → World → Prop} : ∀ (l : List Oper) (i : Nat), FromS P ops Q B n a0 V Z S G i l → (∀ j, l[j]? = ops[i + j]?) → ∀ j, j < l.length → ∃ oi, ops[i + j]? = some oi ∧ StepS P ops Q B n a0 V Z S G (i + j) oi
  | [], _, _, _, j, hj => by simp at hj
  | o :: r, i, h, hg, 0, _ => by
    have h0 := hg 0
    simp only [List.getElem?_cons_zero, Nat.add_zero] at h0
    exact ⟨o, h0.symm, h.1⟩
  | o :: r, i, h, hg, j + 1, hj => by
    have h2 := fromS_get r (i + 1) h.2 (fun m => by
      have := hg (m + 1)
      simp only [List.getElem?_cons_succ] at this
      rw [this, show i + (m + 1) = i + 1 + m by omega]) j (by simp at hj; omega)
    rwa [show i + 1 + j = i + (j + 1) by omega] at h2
theorem fromS_nil {n i : Nat} {a0 : Act} {V : List Ent} {Z : List Nat} {S : Nat → World → Prop} {G : World → World → Prop} : FromS P ops Q B n a0 V Z S G i [] := trivial
theorem fromS_some {n i : Nat} {a0 : Act} {V : List Ent} {Z : List Nat} {S : Nat → World → Prop} {G : World → World → Prop} {o : Oper} {r : List Oper} {t : Tmp} {v : Value} (k : Nat) (ht : o.dst = some t) (hk : V[k]? = some (i, t, .inl v))
    (h : ∀ s a w, loZ Z B n i ≤ s → s ≤ hiZ Z B n i → S s w → Knows a0 V (deps B n i) (laters B n i) a w → ∀ K : Act → World → Prop, (∀ w', S (nxZ Z i s) w' → G w w' → K (a.put (some t) v) w') → if Region.wanted o (yielded ops a.tmps) = true then Oper.wp P o a w K Q else K (a.put (some t) undef) w)
    (hr : FromS P ops Q B n a0 V Z S G (i + 1) r) : FromS P ops Q B n a0 V Z S G i (o :: r) := by
  refine ⟨?_, hr⟩
  unfold StepS
  rw [ht]
  exact ⟨k, _, hk, fun s a w hlo hhi hS hK K hC => h s a w hlo hhi hS hK K (fun w' hS' hG => hC v w' hS' hG rfl)⟩
theorem fromS_rel {n i : Nat} {a0 : Act} {V : List Ent} {Z : List Nat} {S : Nat → World → Prop} {G : World → World → Prop} {o : Oper} {r : List Oper} {t : Tmp} {q : Value → World → Prop} (k : Nat) (ht : o.dst = some t) (hk : V[k]? = some (i, t, .inr q))
    (h : ∀ s a w, loZ Z B n i ≤ s → s ≤ hiZ Z B n i → S s w → Knows a0 V (deps B n i) (laters B n i) a w → ∀ K : Act → World → Prop, (∀ v w', S (nxZ Z i s) w' → G w w' → q v w' → K (a.put (some t) v) w') → if Region.wanted o (yielded ops a.tmps) = true then Oper.wp P o a w K Q else K (a.put (some t) undef) w)
    (hr : FromS P ops Q B n a0 V Z S G (i + 1) r) : FromS P ops Q B n a0 V Z S G i (o :: r) := by
  refine ⟨?_, hr⟩
  unfold StepS
  rw [ht]
  exact ⟨k, _, hk, h⟩
theorem fromS_none {n i : Nat} {a0 : Act} {V : List Ent} {Z : List Nat} {S : Nat → World → Prop} {G : World → World → Prop} {o : Oper} {r : List Oper} (ht : o.dst = none) (hk : ((inst U0 0 V).all fun e => !(e.1 == i)) = true)
    (h : ∀ s a w, loZ Z B n i ≤ s → s ≤ hiZ Z B n i → S s w → Knows a0 V (deps B n i) (laters B n i) a w → ∀ K : Act → World → Prop, (∀ w', S (nxZ Z i s) w' → G w w' → K a w') → if Region.wanted o (yielded ops a.tmps) = true then Oper.wp P o a w K Q else K a w)
    (hr : FromS P ops Q B n a0 V Z S G (i + 1) r) : FromS P ops Q B n a0 V Z S G i (o :: r) := by
  refine ⟨?_, hr⟩
  unfold StepS
  rw [ht]
  exact ⟨hk, h⟩
theorem relS {id n : Nat} {a0 : Act} {w0 : World} (V : List Ent) (Z : List Nat) (S : Nat → World → Prop) (G : World → World → Prop) (hm : P.follows .mixedOrders = true) (hn : ops.size = n) (hc : regOk ops n = true)
    (hZ : Z.Nodup) (hZn : Z.all (fun z => decide (z < n)) = true) (h0 : S 0 w0.drew) (hst : ∀ (k : Nat) (i : Nat) (t : Tmp) (q : Value → World → Prop), V[k]? = some (i, t, .inr q) → ∀ v w w', G w w' → q v w → q v w')
    (hs : FromS P ops Q (Reg.bits ops) n a0 V Z S G 0 ops.toList) (hV : okV (inst U0 0 V) a0.tmps.size = true) (hlt : (inst U0 0 V).all (fun e => decide (e.1 < n)) = true)
    (hend : ∀ U w, S Z.length w → (∀ (k : Nat) (i : Nat) (t : Tmp) (q : Value → World → Prop), V[k]? = some (i, t, .inr q) → q (U k) w) → Q .normal (putV a0 (inst U 0 V)) w) : (Code.region id ops true).wp P Q a0 w0 := by
  unfold regOk at hc
  rw [Bool.and_eq_true, Bool.and_eq_true, beq_iff_eq] at hc
  refine relS_region V Z S G hm hn rfl hc.1.1 hc.1.2 hc.2 hZ hZn h0 hst (fun i hi => ?_) hV hlt hend
  have h2 := fromS_get ops.toList 0 hs (fun j => by simp) i (by simpa [hn] using hi)
  rwa [Nat.zero_add] at h2
end
end Go.Proofs.YtdlimghdimkadaaDoor.RelS

/- What the law ScanOnce rests on, part 11: texts of the session and what the print wrote for it, one behind the other; only what the proof names is kept. -/
import Derived.Test.YtdlimghdimkadaaDoorQ4
import Derived.Test.YtdlimghdimkadaaDoorQ10
import Derived.Test.YtdlimghdimkadaaDoorQ1
import Derived.RowKit
namespace Go.Proofs.YtdlimghdimkadaaDoor.RelU
open Go Go.RowKit Go.Proofs.YtdlimghdimkadaaDoorW.PrintLast Go.Proofs.YtdlimghdimkadaaDoorW.PrintWords Go.Proofs.YtdlimghdimkadaaDoor.Reg Go.Proofs.YtdlimghdimkadaaDoor.Rel Go.Proofs.YtdlimghdimkadaaDoor.RelS
def upd (U : Nat → Value) (k : Nat) (v : Value) : Nat → Value := fun j => if j = k then v else U j
theorem upd_self (U : Nat → Value) (k : Nat) (v : Value) : upd U k v k = v := if_pos rfl
structure KnowsU (a0 : Act) (V : List Ent) (D L : List Nat) (U : Nat → Value) (a : Act) (w : World) : Prop where
 off : ∀ t v, ((inst U0 0 V).all fun e => !(e.2.1 == t)) = true → a0.tmps[t]? = some v → a.tmps[t]? = some v
 pre : ∀ t v j, L.contains j = true → ((inst U0 0 V).all fun e => !(e.2.1 == t) || e.1 == j) = true → a0.tmps[t]? = some v → a.tmps[t]? = some v
 slot : ∀ (k : Nat) (i : Nat) (t : Tmp) (v : Value), V[k]? = some (i, t, .inl v) → D.contains i = true → a.tmps[t]? = some v
 rel : ∀ (k : Nat) (i : Nat) (t : Tmp) (Q : Value → World → Prop), V[k]? = some (i, t, .inr Q) → D.contains i = true → a.tmps[t]? = some (U k) ∧ Q (U k) w
def StepU (P : Program) (ops : Array Oper) (Q : Exit → Act → World → Prop) (B : List Nat) (n : Nat) (a0 : Act) (V : List Ent) (Z : List Nat) (S : Nat → (Nat → Value) → World → Prop) (G : World → World → Prop) (i : Nat) (oi : Oper) : Prop :=
 (match oi.dst with
   | some t => ∃ (k : Nat) (e : Value ⊕ (Value → World → Prop)), V[k]? = some (i, t, e) ∧ ∀ s U a w, loZ Z B n i ≤ s → s ≤ hiZ Z B n i → S s U w → KnowsU a0 V (deps B n i) (laters B n i) U a w → ∀ K : Act → World → Prop,
     (∀ v w', S (nxZ Z i s) (match e with | .inl _ => U | .inr _ => upd U k v) w' → G w w' → (match e with | .inl c => v = c | .inr q => q v w') → K (a.put (some t) v) w') →
     if Region.wanted oi (yielded ops a.tmps) = true then Oper.wp P oi a w K Q else K (a.put (some t) undef) w
   | none => ((inst U0 0 V).all fun e => !(e.1 == i)) = true ∧ ∀ s U a w, loZ Z B n i ≤ s → s ≤ hiZ Z B n i → S s U w → KnowsU a0 V (deps B n i) (laters B n i) U a w → ∀ K : Act → World → Prop, (∀ w', S (nxZ Z i s) U w' → G w w' → K a w') →
     if Region.wanted oi (yielded ops a.tmps) = true then Oper.wp P oi a w K Q else K a w)
section
variable {P : Program} {ops : Array Oper} {Q : Exit → Act → World → Prop} {T : Bool × List (List Nat × List Nat)} {B : List Nat}
theorem relU_region {id n : Nat} {a0 : Act} {w0 : World} (V : List Ent) (Z : List Nat) (S : Nat → (Nat → Value) → World → Prop) (G : World → World → Prop) (hm : P.follows .mixedOrders = true) (hn : ops.size = n)
  (hT : rtab .any ops = T) (hw : waitsOk T.2 B = true) (hk : baseOk T.2 (List.range n) = true) (hl : T.2.length = n)
  (hZ : Z.Nodup) (hZn : Z.all (fun z => decide (z < n)) = true) (h0 : S 0 U0 w0.drew) (hst : ∀ (k : Nat) (i : Nat) (t : Tmp) (q : Value → World → Prop), V[k]? = some (i, t, .inr q) → ∀ v w w', G w w' → q v w → q v w')
  (hs : ∀ i ∈ List.range n, ∃ oi, ops[i]? = some oi ∧ StepU P ops Q B n a0 V Z S G i oi) (hV : okV (inst U0 0 V) a0.tmps.size = true) (hlt : (inst U0 0 V).all (fun e => decide (e.1 < n)) = true)
  (hend : ∀ U w, S Z.length U w → (∀ (k : Nat) (i : Nat) (t : Tmp) (q : Value → World → Prop), V[k]? = some (i, t, .inr q) → q (U k) w) → Q .normal (putV a0 (inst U 0 V)) w) : (Code.region id ops true).wp P Q a0 w0 := by
 have hVU : ∀ U, okV (inst U 0 V) a0.tmps.size = true := fun U => by rw [okV_key (inst_key (U := U) (U' := U0))]; exact hV
 refine start_ (n := n) (S := fun _ => True) (ds := []) (Array.replicate n false) hm hn rfl trivial (fun _ => ?_)
 refine inv_ (T := T) (B := B) (md := .any) (List.range n) (fun b a w => ∃ U, a = putSel a0 b (inst U 0 V) ∧ S (cnt Z b) U w ∧ ∀ (k : Nat) (i : Nat) (t : Tmp) (q : Value → World → Prop), V[k]? = some (i, t, .inr q) → b i = true → q (U k) w) hT hw hk ?_ ?_ ?_ ?_
 ·rw [Bool.and_eq_true, beq_iff_eq, beq_iff_eq]
  refine ⟨?_, by simp⟩
  apply List.ext_getElem?
  intro j
  simp only [lof, hl]
  by_cases hj : j < n
  ·simp [hj]
  ·simp [hj]
 ·refine ⟨U0, ?_, by rw [show cnt Z (fun _ => false) = 0 by simp [cnt]]; exact h0, fun _ _ _ _ _ hb => by cases hb⟩
  have : ∀ (V : List (Nat × Tmp × Value)) (a : Act), putSel a (fun _ => false) V = a := by
   intro V
   induction V with
   | nil => intro a; rfl
   | cons e r ih => intro a; unfold putSel; simpa using ih a
  exact (this _ a0).symm
 ·intro i hi b a w hI hb hdep hlat
  obtain ⟨U, rfl, hS, hU⟩ := hI
  obtain ⟨oi, ho, hd⟩ := hs i hi
  refine ⟨oi, ho, fun K hK => ?_⟩
  have hin : ∀ j, j < n → (List.range n).contains j = true := fun j hj => by simp [hj]
  have hD : ∀ j, (deps B n i).contains j = true → b j = true := fun j hj => by
   have h1 := List.contains_iff_mem.1 hj
   obtain ⟨h2, h3⟩ := List.mem_filter.1 h1
   exact hdep j (by rw [hin j (List.mem_range.1 h2), h3]; rfl)
  have hL : ∀ j, (laters B n i).contains j = true → b j = false := fun j hj => by
   have h1 := List.contains_iff_mem.1 hj
   obtain ⟨h2, h3⟩ := List.mem_filter.1 h1
   exact hlat j (by rw [hin j (List.mem_range.1 h2), h3]; rfl)
  have hslot : ∀ (k : Nat) (e : Nat × Tmp × Value), (inst U 0 V)[k]? = some e → (deps B n i).contains e.1 = true → (putSel a0 b (inst U 0 V)).tmps[e.2.1]? = some e.2.2 := by
   intro k e hk hDe
   obtain ⟨h1, h2⟩ := okV_at (hVU U) hk
   refine putSel_on k hk ?_ (hD _ hDe) h2
   rw [List.all_append, Bool.and_eq_true] at h1
   refine List.all_eq_true.2 (fun x hx => ?_)
   have := List.all_eq_true.1 h1.2 x hx
   rw [Bool.and_eq_true] at this
   exact this.2
  have hK0 : KnowsU a0 V (deps B n i) (laters B n i) U (putSel a0 b (inst U 0 V)) w := by
   refine ⟨fun t v ht h0t => ?_, fun t v j hj ht h0t => ?_, fun k i t v hk hDe => hslot k (i, t, v) (inst_inl hk) hDe, fun k i t q hk hDe => ⟨?_, hU k i t q hk (hD _ hDe)⟩⟩
   ·rw [putSel_off (by rw [all_key (p := fun z => !(z.2 == t)) (inst_key (U := U) (U' := U0))]; exact ht)]; exact h0t
   ·rw [putSel_not (hL j hj) (by rw [all_key (p := fun z => !(z.2 == t) || z.1 == j) (inst_key (U := U) (U' := U0))]; exact ht)]; exact h0t
   ·have := hslot k _ (inst_inr (U := U) (m := 0) hk) hDe
    rw [Nat.zero_add] at this
    exact this
  have hlo : loZ Z B n i ≤ cnt Z b := List.countP_mono_left (fun z _ hz => hD z hz)
  have hhi : cnt Z b ≤ hiZ Z B n i := List.countP_mono_left (fun z _ hz => by
   have h1 : (laters B n i).contains z = false := by
    cases hc : (laters B n i).contains z with
    | false => rfl
    | true => rw [hL z hc] at hz; cases hz
   have h2 : (z == i) = false := by
    simp only [beq_eq_false_iff_ne]
    rintro rfl
    rw [hb] at hz
    cases hz
   rw [h1, h2]
   rfl)
  have hcu := cnt_up b i hb Z hZ
  unfold StepU at hd
  rcases hdst : oi.dst with _ | t
  ·rw [hdst] at hd
   obtain ⟨hv, hd⟩ := hd
   have := hd (cnt Z b) U (putSel a0 b (inst U 0 V)) w hlo hhi hS hK0 (fun a w => K a w) (fun w' hS' hG => ?_)
   ·exact this
   ·have h9 := hK (putSel a0 b (inst U 0 V)) w' ⟨U, ?_, by rw [hcu]; exact hS', fun k j t q hk hbj => ?_⟩
    ·exact h9
    ·have := putSel_none (a := a0) (b := b) (v := undef) (i := i) (L := inst U 0 V) (by rw [all_key (p := fun z => !(z.1 == i)) (inst_key (U := U) (U' := U0))]; exact hv)
     exact this
    ·refine hst k j t q hk _ _ _ hG (hU k j t q hk ?_)
     by_cases hji : j = i
     ·exfalso
      subst hji
      obtain ⟨v, hg⟩ := inst_get (U := U0) hk
      have := List.all_eq_true.1 hv _ (List.mem_of_getElem? hg)
      simp at this
     ·rwa [up_ne hji] at hbj
  ·rw [hdst] at hd
   obtain ⟨k, e, hk, hd⟩ := hd
   refine hd (cnt Z b) U (putSel a0 b (inst U 0 V)) w hlo hhi hS hK0 K (fun v w' hS' hG hv => ?_)
   cases e with
   | inl c =>
    obtain rfl : v = c := hv
    have hk1 := inst_inl (U := U) (m := 0) hk
    obtain ⟨h1, _⟩ := okV_at (hVU U) hk1
    refine hK _ w' ⟨U, ?_, by rw [hcu]; exact hS', fun k' j t' q hk' hbj => ?_⟩
    ·refine putSel_upk (L := inst U 0 V) (L' := inst U 0 V) k hb hk1 ?_ h1
     obtain ⟨hk3, hk4⟩ := List.getElem?_eq_some_iff.1 hk1
     rw [← hk4, List.set_getElem_self]
    ·refine hst k' j t' q hk' _ _ _ hG (hU k' j t' q hk' ?_)
     by_cases hji : j = i
     ·exfalso
      subst hji
      have hkk : k' ≠ k := by
       rintro rfl
       rw [hk] at hk'
       simp at hk'
      exact okV_ne (hVU U) hk1 (inst_inr (U := U) (m := 0) hk') (fun h => hkk h)
     ·rwa [up_ne hji] at hbj
   | inr q =>
    have hk1 := inst_inr (U := U) (m := 0) hk
    obtain ⟨h1, _⟩ := okV_at (hVU U) hk1
    have h0k : (fun j => if j = 0 + k then v else U j) = upd U k v := by funext j; unfold upd; rw [Nat.zero_add]
    refine hK _ w' ⟨fun j => if j = 0 + k then v else U j, ?_, by rw [hcu, h0k]; exact hS', fun k' j t' q' hk' hbj => ?_⟩
    ·exact putSel_upk (L := inst U 0 V) k hb hk1 (inst_set hk) h1
    ·rw [Nat.zero_add]
     by_cases hkk : k' = k
     ·subst hkk
      rw [hk] at hk'
      simp only [Option.some.injEq, Prod.mk.injEq, Sum.inr.injEq] at hk'
      obtain ⟨rfl, rfl, rfl⟩ := hk'
      simp only [if_true]
      exact hv
     ·simp only [if_neg hkk]
      refine hst k' j t' q' hk' _ _ _ hG (hU k' j t' q' hk' ?_)
      by_cases hji : j = i
      ·exfalso
       subst hji
       exact okV_ne (hVU U) hk1 (inst_inr (U := U) (m := 0) hk') (fun h => hkk h)
      ·rwa [up_ne hji] at hbj
 ·intro b a w hb hI
  obtain ⟨U, rfl, hS, hU⟩ := hI
  rw [putSel_all (fun e he => hb e.1 (by
   have h2 : (inst U 0 V).all (fun e => decide (e.1 < n)) = true := by rw [all_key (p := fun z => decide (z.1 < n)) (inst_key (U := U) (U' := U0))]; exact hlt
   have := List.all_eq_true.1 h2 e he
   simp only [decide_eq_true_eq] at this
   simp [this]))]
  refine hend U w (by
   have h9 : cnt Z b = Z.length := List.countP_eq_length.2 (fun z hz => hb z (by
    have := List.all_eq_true.1 hZn z hz
    simp only [decide_eq_true_eq] at this
    simp [this]))
   rw [← h9]; exact hS) (fun k i t q hk => hU k i t q hk (hb i ?_))
  obtain ⟨v, hg⟩ := inst_get (U := U0) hk
  have := List.all_eq_true.1 hlt _ (List.mem_of_getElem? hg)
  simp only [decide_eq_true_eq] at this
  simp [this]
def FromU (P : Program) (ops : Array Oper) (Q : Exit → Act → World → Prop) (B : List Nat) (n : Nat) (a0 : Act) (V : List Ent) (Z : List Nat) (S : Nat → (Nat → Value) → World → Prop) (G : World → World → Prop) : Nat → List Oper → Prop
 | _, [] => True
 | i, o :: r => StepU P ops Q B n a0 V Z S G i o ∧ FromU P ops Q B n a0 V Z S G (i + 1) r
theorem fromU_get {n : Nat} {a0 : Act} {V : List Ent} {Z : List Nat} {S : Nat → (Nat → Value) → World → Prop} {G : World → World → Prop} : ∀ (l : List Oper) (i : Nat), FromU P ops Q B n a0 V Z S G i l → (∀ j, l[j]? = ops[i + j]?) → ∀ j, j < l.length → ∃ oi, ops[i + j]? = some oi ∧ StepU P ops Q B n a0 V Z S G (i + j) oi
 | [], _, _, _, j, hj => by simp at hj
 | o :: r, i, h, hg, 0, _ => by
  have h0 := hg 0
  simp only [List.getElem?_cons_zero, Nat.add_zero] at h0
  exact ⟨o, h0.symm, h.1⟩
 | o :: r, i, h, hg, j + 1, hj => by
  have h2 := fromU_get r (i + 1) h.2 (fun m => by
   have := hg (m + 1)
   simp only [List.getElem?_cons_succ] at this
   rw [this, show i + (m + 1) = i + 1 + m by omega]) j (by simp at hj; omega)
  rwa [show i + 1 + j = i + (j + 1) by omega] at h2
theorem fromU_nil {n i : Nat} {a0 : Act} {V : List Ent} {Z : List Nat} {S : Nat → (Nat → Value) → World → Prop} {G : World → World → Prop} : FromU P ops Q B n a0 V Z S G i [] := trivial
theorem fromU_some {n i : Nat} {a0 : Act} {V : List Ent} {Z : List Nat} {S : Nat → (Nat → Value) → World → Prop} {G : World → World → Prop} {o : Oper} {r : List Oper} {t : Tmp} {v : Value} (k : Nat) (ht : o.dst = some t) (hk : V[k]? = some (i, t, .inl v))
  (h : ∀ s U a w, loZ Z B n i ≤ s → s ≤ hiZ Z B n i → S s U w → KnowsU a0 V (deps B n i) (laters B n i) U a w → ∀ K : Act → World → Prop, (∀ w', S (nxZ Z i s) U w' → G w w' → K (a.put (some t) v) w') → if Region.wanted o (yielded ops a.tmps) = true then Oper.wp P o a w K Q else K (a.put (some t) undef) w)
  (hr : FromU P ops Q B n a0 V Z S G (i + 1) r) : FromU P ops Q B n a0 V Z S G i (o :: r) := by
 refine ⟨?_, hr⟩
 unfold StepU
 rw [ht]
 exact ⟨k, _, hk, fun s U a w hlo hhi hS hK K hC => h s U a w hlo hhi hS hK K (fun w' hS' hG => hC v w' hS' hG rfl)⟩
theorem fromU_rel {n i : Nat} {a0 : Act} {V : List Ent} {Z : List Nat} {S : Nat → (Nat → Value) → World → Prop} {G : World → World → Prop} {o : Oper} {r : List Oper} {t : Tmp} {q : Value → World → Prop} (k : Nat) (ht : o.dst = some t) (hk : V[k]? = some (i, t, .inr q))
  (h : ∀ s U a w, loZ Z B n i ≤ s → s ≤ hiZ Z B n i → S s U w → KnowsU a0 V (deps B n i) (laters B n i) U a w → ∀ K : Act → World → Prop, (∀ v w', S (nxZ Z i s) (upd U k v) w' → G w w' → q v w' → K (a.put (some t) v) w') → if Region.wanted o (yielded ops a.tmps) = true then Oper.wp P o a w K Q else K (a.put (some t) undef) w)
  (hr : FromU P ops Q B n a0 V Z S G (i + 1) r) : FromU P ops Q B n a0 V Z S G i (o :: r) := by
 refine ⟨?_, hr⟩
 unfold StepU
 rw [ht]
 exact ⟨k, _, hk, h⟩
theorem fromU_none {n i : Nat} {a0 : Act} {V : List Ent} {Z : List Nat} {S : Nat → (Nat → Value) → World → Prop} {G : World → World → Prop} {o : Oper} {r : List Oper} (ht : o.dst = none) (hk : ((inst U0 0 V).all fun e => !(e.1 == i)) = true)
  (h : ∀ s U a w, loZ Z B n i ≤ s → s ≤ hiZ Z B n i → S s U w → KnowsU a0 V (deps B n i) (laters B n i) U a w → ∀ K : Act → World → Prop, (∀ w', S (nxZ Z i s) U w' → G w w' → K a w') → if Region.wanted o (yielded ops a.tmps) = true then Oper.wp P o a w K Q else K a w)
  (hr : FromU P ops Q B n a0 V Z S G (i + 1) r) : FromU P ops Q B n a0 V Z S G i (o :: r) := by
 refine ⟨?_, hr⟩
 unfold StepU
 rw [ht]
 exact ⟨hk, h⟩
theorem relU {id n : Nat} {a0 : Act} {w0 : World} (V : List Ent) (Z : List Nat) (S : Nat → (Nat → Value) → World → Prop) (G : World → World → Prop) (hm : P.follows .mixedOrders = true) (hn : ops.size = n) (hc : regOk ops n = true)
  (hZ : Z.Nodup) (hZn : Z.all (fun z => decide (z < n)) = true) (h0 : S 0 U0 w0.drew) (hst : ∀ (k : Nat) (i : Nat) (t : Tmp) (q : Value → World → Prop), V[k]? = some (i, t, .inr q) → ∀ v w w', G w w' → q v w → q v w')
  (hs : FromU P ops Q (Reg.bits ops) n a0 V Z S G 0 ops.toList) (hV : okV (inst U0 0 V) a0.tmps.size = true) (hlt : (inst U0 0 V).all (fun e => decide (e.1 < n)) = true)
  (hend : ∀ U w, S Z.length U w → (∀ (k : Nat) (i : Nat) (t : Tmp) (q : Value → World → Prop), V[k]? = some (i, t, .inr q) → q (U k) w) → Q .normal (putV a0 (inst U 0 V)) w) : (Code.region id ops true).wp P Q a0 w0 := by
 unfold regOk at hc
 rw [Bool.and_eq_true, Bool.and_eq_true, beq_iff_eq] at hc
 refine relU_region V Z S G hm hn rfl hc.1.1 hc.1.2 hc.2 hZ hZn h0 hst (fun i hi => ?_) hV hlt hend
 have h2 := fromU_get ops.toList 0 hs (fun j => by simp) i (by simpa [hn] using hi)
 rwa [Nat.zero_add] at h2
end
end Go.Proofs.YtdlimghdimkadaaDoor.RelU
namespace Go.Proofs.YtdlimghdimkadaaDoor.PAll
open Go.RowKit Go.Proofs.YtdlimghdimkadaaDoorW.PrintWords Go.Proofs.YtdlimghdimkadaaDoorW.PrintLast Go.Proofs.YtdlimghdimkadaaDoorW.PrintMore
set_option linter.unusedSimpArgs false
set_option linter.unusedVariables false
attribute [local go_sem] max2_int min2_int max_two min_two max_three min_three max_four min_four
def rawK : Kd (List Value) where
 sz := 4
 E := []
 K := fun _ x cs => cs = x ∧ cs.length = 4 ∧ ∀ u ∈ cs, u.oneCell' = true
 M := fun _ _ _ x cs => cs = x ∧ cs.length = 4 ∧ ∀ u ∈ cs, u.oneCell' = true
 K_len := fun h => h.2.1
 K_one := fun h => h.2.2
 K_below := fun _ h => h
 K_of_M := fun h => h
 M_mono := fun _ h => h
 M_bound := fun h => h
 M_move := fun _ h => h
 M_lower := fun _ h => h
def rowB (x P : Nat) : List Value := [.slice (some ⟨x, 0, none⟩) P P, .int .i64 0, .bool false, .int .i64 0]
def rowsB (gp : Nat → Nat) (P i : Nat) : List (List Value) := (List.range i).map fun x => rowB (gp x) P
theorem rowsB_len (gp : Nat → Nat) (P i : Nat) : (rowsB gp P i).length = i := by simp [rowsB]
theorem rowsB_snoc (gp : Nat → Nat) (P i x : Nat) : rowsB gp P i ++ [rowB x P] = rowsB (fun y => if y = i then x else gp y) P (i + 1) := by
 unfold rowsB
 rw [List.range_succ, List.map_append]
 congr 1
 ·refine List.map_congr_left (fun y hy => ?_)
  have : y ≠ i := by have := List.mem_range.1 hy; omega
  simp [this]
 ·simp
theorem reps_row (x P : Nat) (W : World) (b : Nat) (ok : Nat → Prop) : Reps (rawK.M W b ok) rawK.sz [rowB x P] (rowB x P) := by
 refine ⟨rfl, fun j p hj => ?_⟩
 obtain rfl : j = 0 := by
  rcases j with _ | j
  ·rfl
  ·simp at hj
 simp only [List.getElem?_cons_zero, Option.some.injEq] at hj
 subst hj
 refine ⟨rfl, rfl, fun u hu => ?_⟩
 change u ∈ rowB x P at hu
 simp only [rowB, List.mem_cons, List.not_mem_nil, or_false] at hu
 rcases hu with rfl | rfl | rfl | rfl <;> rfl
theorem info_dblock : (Tryd.prog.info? 103).map (fun i => (i.zero, i.size, i.bytes)) = some (some (.agg #[.slice none 0 0, .int .i64 0, .bool false, .int .i64 0]), 4, 48) := by kernel_rfl
theorem rows_at {W : World} {base : Nat} {ok : Nat → Prop} {v : Value} {gp : Nat → Nat} {g : Geo} (h : Kd.R rawK 103 W base ok v (rowsB gp g.P g.B)) (hB : 0 < g.B) : ∃ gb cap, v = .slice (some ⟨gb, 0, none⟩) g.B cap ∧ base ≤ gb ∧ g.B ≤ cap ∧ At W gb 103 (dB gp (newA g [])) := by
 obtain ⟨-, inner, ⟨hl, ho⟩, hr⟩ := h
 rw [rowsB_len] at hl ho
 rcases ho with ⟨-, h0⟩ | ⟨gb, cap, cur, hv, hb, hg, hc, -, hs, ht⟩
 ·omega
 refine ⟨gb, cap, hv, hb, hc, cur, hg, fun o w hw => ?_⟩
 unfold dB at hw
 change (if o / 4 < g.B then _ else _) = _ at hw
 by_cases ho : o / 4 < g.B
 ·rw [if_pos ho] at hw
  have h1 := hr.2 (o / 4) (rowB (gp (o / 4)) g.P) (by unfold rowsB; rw [List.getElem?_map, List.getElem?_range ho]; rfl)
  have h2 : ((inner.drop (o / 4 * 4)).take 4)[o % 4]? = (rowB (gp (o / 4)) g.P)[o % 4]? := by
   have e : (inner.drop (o / 4 * rawK.sz)).take rawK.sz = rowB (gp (o / 4)) g.P := h1.1
   change (inner.drop (o / 4 * 4)).take 4 = _ at e
   rw [e]
  rw [List.getElem?_take, if_pos (by omega), List.getElem?_drop, show o / 4 * 4 + o % 4 = o by omega, ← ht, List.getElem?_take, if_pos (by show o < g.B * 4; omega), Array.getElem?_toList] at h2
  rw [h2, ← hw]
  have h3 : o % 4 = 0 ∨ o % 4 = 1 ∨ o % 4 = 2 ∨ o % 4 = 3 := by omega
  rcases h3 with h3 | h3 | h3 | h3 <;> simp [h3, rowB, newA]
 ·rw [if_neg ho] at hw; cases hw
theorem own_neT {α : Type} {d : Kd α} {e base : Nat} {W : World} {ok : Nat → Prop} {v : Value} {xs : List α} (h : d.R e W base ok v xs) {g t : Nat} {cs : Array Value} {fr : Nat × Nat} (hg : W.heap[g]? = some (.cells cs t fr)) (ht : t ≠ e) : some g ≠ v.ownBlock := fun hk => by
 obtain ⟨-, inner, ho, -⟩ := h
 obtain ⟨cells, hc⟩ := own_typed ho g hk.symm
 rw [hg] at hc
 simp only [Option.some.injEq, Obj.cells.injEq] at hc
 exact ht hc.2.1
def KeepR (W w : World) (o : Option Nat) : Prop := W.heap.size ≤ w.heap.size ∧ ∀ k, k < W.heap.size → some k ≠ o → w.heap[k]? = W.heap[k]?
def dnewS (w0 wr : World) (g : Geo) (gp : Nat → Nat) (i : Nat) (A5 : Option Addr) (c5 gd : Nat) : Nat → (Nat → Value) → World → Prop
 | 0, _, w => Below wr.heap.size wr w
 | 1, U, w => KeepR wr w (Value.slice A5 i c5).ownBlock ∧ Below w0.heap.size w0 w ∧ ∃ x0, wr.heap.size ≤ x0 ∧ w.heap[x0]? = some (.cells (dpg g.P) 122 (0, 0)) ∧ Kd.R rawK 103 w w0.heap.size (fun _ => True) (U 10) (rowsB gp g.P i ++ [rowB x0 g.P])
 | _, U, w => ∃ W5 A6 c6, (KeepR wr W5 (Value.slice A5 i c5).ownBlock ∧ Below w0.heap.size w0 W5 ∧ ∃ x0, wr.heap.size ≤ x0 ∧ W5.heap[x0]? = some (.cells (dpg g.P) 122 (0, 0)) ∧ Kd.R rawK 103 W5 w0.heap.size (fun _ => True) (U 10) (rowsB gp g.P i ++ [rowB x0 g.P])) ∧ U 10 = .slice A6 (i + 1) c6 ∧ w = W5.setCell ⟨gd, 4, none⟩ (.slice A6 (i + 1) c6)
def dN (g : Geo) (v : Value) : Array Value := #[.int .i64 g.B, .int .i64 g.P, .int .i64 g.Z, .int .i64 g.R, v, .bool false, .slice none 0 0, .int .i64 0, .int .i64 0, .int .i64 0]
set_option maxRecDepth 100000 in
set_option maxHeartbeats 8000000 in
theorem dnew_ok (g : Geo) (w : World) (hg : rightG g.B g.P g.Z g.R = true) :
  Calls Tryd.prog 20 #[gV g.B g.P g.Z g.R, .slice none 0 0] w fun e w' => ∃ gd : Nat, e = .returned (.tuple #[cp gd, .int .i64 0]) ∧ DChip w w' gd (newA g []) ∧ Below w.heap.size w w' := by
 have hgok := rightG_ok hg
 have HGO := Aside0.mk hgok
 have HRG := Aside0.mk (fun W => rright_is g.B g.P g.Z g.R W)
 rw [hg] at HRG
 have HRP := Aside0.mk (fun (W : World) => show Calls Tryd.prog 40 #[.slice none 0 0] W fun e w' => e = .returned (.bool true) ∧ Below W.heap.size W w' from rplan_is none 0 [] W ⟨rfl, by decide, fun h => absurd h (by decide)⟩ (Nat.le_refl _))
 clear hg
 obtain ⟨⟨hB1, hB2⟩, ⟨hP1, hP2⟩, ⟨hZ1, hZ2⟩⟩ := hgok
 have HMK := Aside0.mk (show ∀ w, (Instr.makeSlice 101 (.int .i64 g.P) (.int .i64 g.P)).run Tryd.prog w = .ok (.slice (some ⟨w.heap.size, 0, none⟩) g.P g.P) (w.alloc (.cells (dpg g.P) 122)) from fun w => make_rows _ _ _ 3 32 g.P Tryd.underlying101 info_dpage (by omega) (by omega) w)
 have hu28 := Tryd.underlying37
 have hu103 := Tryd.underlying103
 have hu122 := Tryd.underlying122
 have hu100 := Tryd.underlying100
 go_enter Tryd.func20, Tryd.ntmps20
 go_upto_region 1 with (fail)
 obtain ⟨gx, hgx⟩ : ∃ gx, gx = w.heap.size := ⟨_, rfl⟩
 generalize hW : w.alloc (.cells #[.int .i64 g.B, .int .i64 g.P, .int .i64 g.Z, .int .i64 g.R] 37) = W1
 have hb : Below w.heap.size w W1 := by rw [← hW]; exact below_alloc (Below.refl _ _) _
 have hx : W1.heap[gx]? = some (.cells #[.int .i64 g.B, .int .i64 g.P, .int .i64 g.Z, .int .i64 g.R] 37 (0, 0)) := by rw [← hW, hgx]; exact new_blk _ _ _
 have HB := Aside0.mk hb
 have HG := Aside0.mk hx
 have a0 := Joins.cell_of_block hx 0
 have a1 := Joins.cell_of_block hx 1
 have a2 := Joins.cell_of_block hx 2
 have a3 := Joins.cell_of_block hx 3
 rw [← hgx]
 clear hW hb hx hgx
 go_upto_region 3 with (first
  | (go_at_call 39; (with_reducible refine (HRG.out _).mono ?_); rintro e w2 ⟨rfl, hb2⟩; have HB2 := Aside0.mk hb2; clear hb2)
  | (go_at_call 40; (with_reducible refine (HRP.out _).mono ?_); rintro e w3 ⟨rfl, hb3⟩; have HB3 := Aside0.mk (below_step HB2.out hb3); have hg3 := keep_below HG.out HB3.out; have HG3 := Aside0.mk hg3; have b0 := Joins.cell_of_block hg3 0; have b1 := Joins.cell_of_block hg3 1; have b2 := Joins.cell_of_block hg3 2; have b3 := Joins.cell_of_block hg3 3; clear hb3 hg3))
 have HBw := Aside0.mk (below_step HB.out HB3.out)
 clear a0 a1 a2 a3
 go_upto_region 5 with (fail)
 obtain ⟨gd, hgd⟩ : ∃ gd, gd = w3.heap.size := ⟨_, rfl⟩
 generalize hW : w3.alloc (.cells #[.int .i64 g.B, .int .i64 g.P, .int .i64 g.Z, .int .i64 g.R, .slice none 0 0, .bool false, .slice none 0 0, .int .i64 0, .int .i64 0, .int .i64 0] 100) = W4
 have hb4 : Below w3.heap.size w3 W4 := by rw [← hW]; exact below_alloc (Below.refl _ _) _
 have HC4 := Aside0.mk (show W4.heap[gd]? = some (.cells (dN g (.slice none 0 0)) 100 (0, 0)) by rw [← hW, hgd]; exact new_blk _ _ _)
 have HB4 := Aside0.mk (below_step HBw.out hb4)
 have HG4 := Aside0.mk (keep_below HG3.out hb4)
 have HGD := Aside0.mk (show w.heap.size ≤ gd by rw [hgd]; exact below_size HBw.out)
 rw [← hgd]
 clear hW hb4 hgd b0 b1 b2 b3
 go_loopw [7] (fun v7 wr => ∃ (i : Nat) (gp : Nat → Nat) (A5 : Option Addr) (c5 : Nat), i ≤ g.B ∧ v7 = .int .i64 i ∧ Aside0 (wr.heap[gd]? = some (.cells (dN g (.slice A5 i c5)) 100 (0, 0))) ∧ Aside0 (Kd.R rawK 103 wr w.heap.size (fun _ => True) (.slice A5 i c5) (rowsB gp g.P i)) ∧ Aside0 (∀ x, x < i → wr.heap[gp x]? = some (.cells (dpg g.P) 122 (0, 0))) ∧ Aside0 (∀ x y, x < i → y < i → gp x = gp y → x = y) ∧ Aside0 (∀ x, x < i → w.heap.size ≤ gp x) ∧ Aside0 (wr.heap[gx]? = some (.cells #[.int .i64 g.B, .int .i64 g.P, .int .i64 g.Z, .int .i64 g.R] 37 (0, 0))) ∧ Aside0 (Below w.heap.size w wr)) (fun i _ => g.B - (intOf i).toNat)
 case atStart => exact ⟨0, fun _ => 0, none, 0, Nat.zero_le _, rfl, HC4, ⟨Kd.R_nil _ _ _ _ _⟩, ⟨fun x h => absurd h (Nat.not_lt_zero _)⟩, ⟨fun x y h => absurd h (Nat.not_lt_zero _)⟩, ⟨fun x h => absurd h (Nat.not_lt_zero _)⟩, HG4, HB4⟩
 case round =>
  obtain ⟨i, gp, A5, c5, hi, rfl, HC5, HN5, HP5, HI5, HE5, HG5, HB5⟩ := hrel
  have a0 := Joins.cell_of_block HG5.out 0
  by_cases hlt : i < g.B
  ·have d0 : decide ((i : Int) < (g.B : Int)) = true := decide_eq_true (by omega)
   have hq : (i < g.B) = True := eq_true hlt
   have hqi : ((i : Int) < (g.B : Int)) = True := eq_true (by omega)
   have HIL := Aside0.mk hlt
   have HGL := Aside0.mk (blk_lt HC5.out)
   have HCN := Aside0.mk (own_neT HN5.out HC5.out (by decide))
   have HVO := Aside0.mk (show ∀ k, some k = (Value.slice A5 i c5).ownBlock → k < wr.heap.size from fun k hk => Kd.R_lt HN5.out k hk.symm)
   go_upto_region 7 with (fail)
   refine RelU.relU [(0, 26, .inl ?r1v0), (1, 27, .inl ?r1v1), (2, 28, .inl ?r1v2), (3, 29, .inl ?r1v3), (4, 30, .inl ?r1v4), (5, 31, .inl ?r1v5), (6, 32, .inl ?r1v6), (7, 33, .inr (fun v w' => ∃ x0, v = .slice (some ⟨x0, 0, none⟩) g.P g.P ∧ w'.heap[x0]? = some (.cells (dpg g.P) 122 (0, 0)) ∧ wr.heap.size ≤ x0)), (8, 34, .inr (fun v w' => ∃ x0, v = .agg #[.slice (some ⟨x0, 0, none⟩) g.P g.P, .int .i64 0, .bool false, .int .i64 0] ∧ w'.heap[x0]? = some (.cells (dpg g.P) 122 (0, 0)) ∧ wr.heap.size ≤ x0)), (9, 35, .inr (fun v w' => ∃ x0, Kd.R rawK 103 w' w.heap.size (fun k => wr.heap.size ≤ k) v [rowB x0 g.P] ∧ w'.heap[x0]? = some (.cells (dpg g.P) 122 (0, 0)) ∧ wr.heap.size ≤ x0)), (10, 36, .inr (fun _ _ => True)), (11, 37, .inl ?r1v11), (12, 38, .inl ?r1v12)] [10, 13] (dnewS w wr g gp i A5 c5 gd) (fun w' w'' => ∀ k, wr.heap.size ≤ k → k < w'.heap.size → w''.heap[k]? = w'.heap[k]?) (by rfl) rfl (by kernel_rfl) (by decide) (by decide) ?r1S (Rel.stable_inl (Rel.stable_inl (Rel.stable_inl (Rel.stable_inl (Rel.stable_inl (Rel.stable_inl (Rel.stable_inl (Rel.stable_inr (fun v w w' hb ⟨x0, h1, h2, h3⟩ => ⟨x0, h1, (hb x0 h3 (blk_lt h2)).trans h2, h3⟩) (Rel.stable_inr (fun v w w' hb ⟨x0, h1, h2, h3⟩ => ⟨x0, h1, (hb x0 h3 (blk_lt h2)).trans h2, h3⟩) (Rel.stable_inr (fun v w w' hb ⟨x0, h1, h2, h3⟩ => ⟨x0, Kd.R_mono (Kd.R_move (Kd.R_bound h1) (fun k hk => hb k hk.1 hk.2.2.1)) (fun k hk => hk.1), (hb x0 h3 (blk_lt h2)).trans h2, h3⟩) (Rel.stable_inr (fun _ _ _ _ _ => trivial) (Rel.stable_inl (Rel.stable_inl Rel.stable_nil))))))))))))) ?r1steps ?r1okv ?r1hlt ?r1fin
   case r1S => exact below_drew (Below.refl _ _)
   case r1steps =>
    refine RelU.fromU_some 0 rfl rfl (fun s U a wq hlo hhi hS hK K hC => ?_) ?_
    ·refine Reg.step_on (by rfl) ?_
     clear hlo hhi
     have e6 := hK.off 6 _ rfl rfl
     clear hK
     go_simp
     exact hC _ hS (fun _ _ _ => rfl)
    refine RelU.fromU_some 1 rfl rfl (fun s U a wq hlo hhi hS hK K hC => ?_) ?_
    ·refine Reg.step_on (by rfl) ?_
     clear hlo hhi
     have e6 := hK.off 6 _ rfl rfl
     clear hK
     go_simp
     exact hC _ hS (fun _ _ _ => rfl)
    refine RelU.fromU_some 2 rfl rfl (fun s U a wq hlo hhi hS hK K hC => ?_) ?_
    ·refine Reg.step_on (by rfl) ?_
     clear hlo hhi
     have e27 := hK.slot 1 _ _ _ rfl (by kernel_rfl)
     clear hK
     go_simp
     exact hC _ hS (fun _ _ _ => rfl)
    refine RelU.fromU_some 3 rfl rfl (fun s U a wq hlo hhi hS hK K hC => ?_) ?_
    ·refine Reg.step_on (by rfl) ?_
     clear hlo hhi
     have e28 := hK.slot 2 _ _ _ rfl (by kernel_rfl)
     clear hK
     go_simp
     exact hC _ hS (fun _ _ _ => rfl)
    refine RelU.fromU_some 4 rfl rfl (fun s U a wq hlo hhi hS hK K hC => ?_) ?_
    ·refine Reg.step_on (by rfl) ?_
     obtain rfl : s = 0 := Nat.le_antisymm (Nat.le_trans hhi (Nat.le_of_eq (by kernel_rfl))) (Nat.le_trans (Nat.le_of_eq (by kernel_rfl)) hlo)
     clear hlo hhi
     have e29 := hK.slot 3 _ _ _ rfl (by kernel_rfl)
     change Below wr.heap.size wr wq at hS
     have zz : wq.cell? ⟨gd, 4, none⟩ = some (.slice A5 i c5) := Joins.cell_of_block (keep_below HC5.out hS) 4
     clear hK
     go_simp
     exact hC _ hS (fun _ _ _ => rfl)
    refine RelU.fromU_some 5 rfl rfl (fun s U a wq hlo hhi hS hK K hC => ?_) ?_
    ·refine Reg.step_on (by rfl) ?_
     clear hlo hhi
     have e2 := hK.off 2 _ rfl rfl
     clear hK
     go_simp
     exact hC _ hS (fun _ _ _ => rfl)
    refine RelU.fromU_some 6 rfl rfl (fun s U a wq hlo hhi hS hK K hC => ?_) ?_
    ·refine Reg.step_on (by rfl) ?_
     obtain rfl : s = 0 := Nat.le_antisymm (Nat.le_trans hhi (Nat.le_of_eq (by kernel_rfl))) (Nat.le_trans (Nat.le_of_eq (by kernel_rfl)) hlo)
     clear hlo hhi
     have e31 := hK.slot 5 _ _ _ rfl (by kernel_rfl)
     change Below wr.heap.size wr wq at hS
     have zz := Joins.cell_of_block (keep_below HG5.out hS) 1
     clear hK
     go_simp
     exact hC _ hS (fun _ _ _ => rfl)
    refine RelU.fromU_rel 7 rfl rfl (fun s U a wq hlo hhi hS hK K hC => ?_) ?_
    ·refine Reg.step_on (by rfl) ?_
     obtain rfl : s = 0 := Nat.le_antisymm (Nat.le_trans hhi (Nat.le_of_eq (by kernel_rfl))) (Nat.le_trans (Nat.le_of_eq (by kernel_rfl)) hlo)
     clear hlo hhi
     have e32 := hK.slot 6 _ _ _ rfl (by kernel_rfl)
     change Below wr.heap.size wr wq at hS
     have hm := HMK.out wq
     clear hK
     go_simp
     exact hC _ _ (below_alloc hS _) (fun k _ hk => (below_alloc (Below.refl wq.heap.size wq) _).block k hk) ⟨_, rfl, new_blk _ _ _, below_size hS⟩
    refine RelU.fromU_rel 8 rfl rfl (fun s U a wq hlo hhi hS hK K hC => ?_) ?_
    ·refine Reg.step_on (by rfl) ?_
     obtain rfl : s = 0 := Nat.le_antisymm (Nat.le_trans hhi (Nat.le_of_eq (by kernel_rfl))) (Nat.le_trans (Nat.le_of_eq (by kernel_rfl)) hlo)
     clear hlo hhi
     obtain ⟨e33, q33⟩ := hK.rel 7 _ _ _ rfl (by kernel_rfl)
     obtain ⟨x0, ex, hx, hxl⟩ := q33
     rw [ex] at e33
     clear hK
     go_simp
     exact hC _ _ hS (fun _ _ _ => rfl) ⟨x0, rfl, hx, hxl⟩
    refine RelU.fromU_rel 9 rfl rfl (fun s U a wq hlo hhi hS hK K hC => ?_) ?_
    ·refine Reg.step_on (by rfl) ?_
     obtain rfl : s = 0 := Nat.le_antisymm (Nat.le_trans hhi (Nat.le_of_eq (by kernel_rfl))) (Nat.le_trans (Nat.le_of_eq (by kernel_rfl)) hlo)
     clear hlo hhi
     obtain ⟨e34, q34⟩ := hK.rel 8 _ _ _ rfl (by kernel_rfl)
     change Below wr.heap.size wr wq at hS
     obtain ⟨x0, ex, hx, hxl⟩ := q34
     rw [ex] at e34
     refine un_on (y := yielded #[] a.tmps) (by rfl) (Kd.R_lit_step rawK (w0 := w) w.heap.size 103 (by rfl) (N := 35) rfl (xs := [rowB x0 g.P]) (inner := rowB x0 g.P) (ok := fun k => wr.heap.size ≤ k) (okp := fun _ => False) ?hrun (reps_row x0 g.P _ _ _) (fun _ h => h.elim) (below_size hS) (below_step HB5.out hS) (below_size (below_step HB5.out hS)) (by simp) (fun v1 w1 ho hb hg _ => ?_))
     case hrun => clear hK; first | (go_simp; done) | (go_simp; rfl)
     have hbb := below_of_none hg
     exact hC _ _ (below_step hS hbb) (fun k _ hk => hbb.block k hk) ⟨x0, ho, keep_below hx hbb, hxl⟩
    refine RelU.fromU_rel 10 rfl rfl (fun s U a wq hlo hhi hS hK K hC => ?_) ?_
    ·refine Reg.step_on (by rfl) ?_
     obtain rfl : s = 0 := Nat.le_antisymm (Nat.le_trans hhi (Nat.le_of_eq (by kernel_rfl))) (Nat.le_trans (Nat.le_of_eq (by kernel_rfl)) hlo)
     clear hlo hhi
     have e30 := hK.slot 4 _ _ _ rfl (by kernel_rfl)
     obtain ⟨e35, q35⟩ := hK.rel 9 _ _ _ rfl (by kernel_rfl)
     change Below wr.heap.size wr wq at hS
     obtain ⟨x0, q35', hx, hxl⟩ := q35
     obtain ⟨A7, c7, e7⟩ := (show ∃ A7 c7, U 9 = Value.slice A7 1 c7 from Kd.R_slice q35')
     rw [e7] at q35' e35
     refine un_on (y := yielded #[] a.tmps) (by rfl) (Kd.R_append_rows_step rawK (Rr := rawK.K wq) (w0 := w) w.heap.size (by rfl) (.tmp 30) (.tmp 35) 98 103 (.agg #[.slice none 0 0, .int .i64 0, .bool false, .int .i64 0]) 48 rfl Tryd.underlying98 info_dblock rfl (by decide) (by decide) (.slice A5 i c5) (rowsB gp g.P i) [rowB x0 g.P] A7 1 c7 (fun _ => True) (fun _ => False) (by first | (go_simp; done) | (go_simp; rfl)) (by first | (go_simp; done) | (go_simp; rfl)) (Kd.R_below HN5.out hS) (Kd.R_reads' q35').2.2 (fun _ _ h => h) (fun _ h => h.elim) (fun _ _ => trivial) (below_step HB5.out hS) (below_size (below_step HB5.out hS)) ?hl (fun v1 w1 ho hb hg _ => ?_))
     case hl => have := HGO.out; have := HIL.out; rw [rowsB_len]; unfold GOK at this; omega
     have hkr := HVO.out
     refine hC v1 w1 ⟨⟨Nat.le_trans (below_size hS) hg.size, fun k hk hne => (hg.block k (Nat.lt_of_lt_of_le hk (below_size hS)) hne).trans (hS.block k hk)⟩, hb, x0, hxl, (hg.block x0 (blk_lt hx) (fun e => Nat.not_lt.2 hxl (hkr x0 e))).trans hx, ?_⟩ (fun k hk1 hk2 => hg.block k hk2 (fun e => Nat.not_lt.2 hk1 (hkr k e))) trivial
     rw [RelU.upd_self]
     exact ho
    refine RelU.fromU_some 11 rfl rfl (fun s U a wq hlo hhi hS hK K hC => ?_) ?_
    ·refine Reg.step_on (by rfl) ?_
     clear hlo hhi
     have e26 := hK.slot 0 _ _ _ rfl (by kernel_rfl)
     clear hK
     go_simp
     exact hC _ hS (fun _ _ _ => rfl)
    refine RelU.fromU_some 12 rfl rfl (fun s U a wq hlo hhi hS hK K hC => ?_) ?_
    ·refine Reg.step_on (by rfl) ?_
     clear hlo hhi
     have e37 := hK.slot 11 _ _ _ rfl (by kernel_rfl)
     clear hK
     go_simp
     exact hC _ hS (fun _ _ _ => rfl)
    refine RelU.fromU_none rfl rfl (fun s U a wq hlo hhi hS hK K hC => ?_) ?_
    ·refine Reg.step_on (by rfl) ?_
     obtain rfl : s = 1 := Nat.le_antisymm (Nat.le_trans hhi (Nat.le_of_eq (by kernel_rfl))) (Nat.le_trans (Nat.le_of_eq (by kernel_rfl)) hlo)
     clear hlo hhi
     have e38 := hK.slot 12 _ _ _ rfl (by kernel_rfl)
     obtain ⟨e36, q36⟩ := hK.rel 10 _ _ _ rfl (by kernel_rfl)
     obtain ⟨hk1, hb1, x0, hxl, hx, ho⟩ := hS
     obtain ⟨A6, c6, e6⟩ := (show ∃ A6 c6, U 10 = Value.slice A6 (rowsB gp g.P i ++ [rowB x0 g.P]).length c6 from Kd.R_slice ho)
     rw [List.length_append, rowsB_len] at e6
     change U 10 = Value.slice A6 (i + 1) c6 at e6
     rw [e6] at e36
     have hgc := (hk1.2 gd HGL.out HCN.out).trans HC5.out
     have zz : wq.cell? ⟨gd, 4, none⟩ = some (.slice A5 i c5) := Joins.cell_of_block hgc 4
     have zf := blk_frozen hgc 4
     have HS := Aside0.mk (show dnewS w wr g gp i A5 c5 gd 1 U wq from ⟨hk1, hb1, x0, hxl, hx, ho⟩)
     clear hk1 hb1 hx ho hgc
     clear hK
     go_simp
     exact hC _ ⟨_, A6, c6, HS.out, e6, rfl⟩ (fun k hk1 _ => Below.heap_setCell _ _ _ k (Nat.ne_of_gt (Nat.lt_of_lt_of_le HGL.out hk1)))
    exact RelU.fromU_nil
   case r1okv => rfl
   case r1hlt => rfl
   case r1fin =>
    intro U wz hS hU
    have q7 := hU 7 _ _ _ rfl
    have q8 := hU 8 _ _ _ rfl
    have q9 := hU 9 _ _ _ rfl
    have q10 := hU 10 _ _ _ rfl
    clear hU
    simp only [Rel.inst, Nat.zero_add, Nat.reduceAdd, Reg.putV, List.foldl_cons, List.foldl_nil, Act.put, List.setIfInBounds_toArray, List.set_cons_zero, List.set_cons_succ]
    obtain ⟨W5, A6, c6, ⟨hk1, hb1, x0, hxl, hx, ho⟩, e6, rfl⟩ : dnewS w wr g gp i A5 c5 gd 2 U wz := hS
    rw [e6, rowsB_snoc] at ho
    have hC1 := (hk1.2 gd HGL.out HCN.out).trans HC5.out
    have hG1 := (hk1.2 gx (blk_lt HG5.out) (own_neT HN5.out HG5.out (by decide))).trans HG5.out
    generalize hW : W5.setCell ⟨gd, 4, none⟩ (.slice A6 (i + 1) c6) = W6
    have H1 := Aside0.mk (show W6.heap[gd]? = some (.cells (dN g (.slice A6 (i + 1) c6)) 100 (0, 0)) by rw [← hW]; exact blk_put hC1 4 _ rfl)
    have H2 := Aside0.mk (show Kd.R rawK 103 W6 w.heap.size (fun _ => True) (.slice A6 (i + 1) c6) (rowsB (fun x => if x = i then x0 else gp x) g.P (i + 1)) by rw [← hW]; exact Kd.R_set ho hC1 (by decide) _ _)
    have H3 := Aside0.mk (show ∀ x, x < i + 1 → W6.heap[(fun x => if x = i then x0 else gp x) x]? = some (.cells (dpg g.P) 122 (0, 0)) from fun x hx1 => by
     rw [← hW]
     by_cases hxi : x = i
     ·subst hxi
      simp only [if_true]
      exact blk_far hx (ne_of_type hx hC1 (by decide)) _
     ·simp only [hxi, if_false]
      have hp := HP5.out x (by omega)
      have hp1 := (hk1.2 (gp x) (blk_lt hp) (own_neT HN5.out hp (by decide))).trans hp
      exact blk_far hp1 (ne_of_type hp1 hC1 (by decide)) _)
    have H4 := Aside0.mk (show ∀ x y, x < i + 1 → y < i + 1 → (fun x => if x = i then x0 else gp x) x = (fun x => if x = i then x0 else gp x) y → x = y from fun x y hx hy e => by
     have hlt2 : ∀ z, z < i → gp z < x0 := fun z hz => Nat.lt_of_lt_of_le (blk_lt (HP5.out z hz)) hxl
     by_cases hxi : x = i
     ·by_cases hyi : y = i
      ·omega
      ·simp only [hxi, hyi, if_true, if_false] at e
       have := hlt2 y (by omega)
       omega
     ·by_cases hyi : y = i
      ·simp only [hxi, hyi, if_true, if_false] at e
       have := hlt2 x (by omega)
       omega
      ·simp only [hxi, hyi, if_false] at e
       exact HI5.out x y (by omega) (by omega) e)
    have H5 := Aside0.mk (show ∀ x, x < i + 1 → w.heap.size ≤ (fun x => if x = i then x0 else gp x) x from fun x hx => by
     by_cases hxi : x = i
     ·simp only [hxi, if_true]; exact Nat.le_trans (below_size HB5.out) hxl
     ·simp only [hxi, if_false]; exact HE5.out x (by omega))
    have H6 := Aside0.mk (show W6.heap[gx]? = some (.cells #[.int .i64 g.B, .int .i64 g.P, .int .i64 g.Z, .int .i64 g.R] 37 (0, 0)) by rw [← hW]; exact blk_far hG1 (ne_of_type hG1 hC1 (by decide)) _)
    have H7 := Aside0.mk (show Below w.heap.size w W6 by rw [← hW]; exact below_set hb1 HGD.out)
    clear hW hk1 hb1 hx ho hC1 hG1 a0 e6 q7 q8 q9 q10
    go_wp2
    go_roundw
    case rel => exact ⟨i + 1, _, A6, c6, by omega, by push_cast; rfl, H1, H2, H3, H4, H5, H6, H7⟩
    case measure => simp [intOf]; omega
  ·obtain hiB : i = g.B := by omega
   subst hiB
   have d0 : decide ((g.B : Int) < (g.B : Int)) = false := decide_eq_false (by omega)
   go_wp2
   go_ret2
   obtain ⟨gb, cap, ev, hb, hc, hat⟩ := rows_at HN5.out (by omega)
   simp only [Value.slice.injEq, true_and] at ev
   obtain ⟨rfl, rfl⟩ := ev
   refine ⟨gd, rfl, ⟨⟨gb, c5, .slice none 0 0, gp, fun _ _ => .slice none 0 0⟩, HC5.out, hat, fun x hx => ?_, HI5.out, HGD.out, hb, HE5.out, fun x y _ _ => Kd.R_nil _ _ _ _ _, Kd.R_nil _ _ _ _ _, HB5.out, HGO.out, hc⟩, HB5.out⟩
   exact dpg_at (HP5.out x hx) _ _ (fun _ _ => rfl) (fun _ _ => rfl)
end Go.Proofs.YtdlimghdimkadaaDoor.PAll
namespace Go.Proofs.YtdlimghdimkadaaDoor.PAll
open Go.RowKit Go.Proofs.YtdlimghdimkadaaDoorW.PrintWords Go.Proofs.YtdlimghdimkadaaDoorW.PrintLast Go.Proofs.YtdlimghdimkadaaDoorW.PrintMore
set_option linter.unusedSimpArgs false
set_option linter.unusedVariables false
variable {w0 W W' : World} {gc gd : Nat} {a : AC}
theorem R_kept {α : Type} {d : Kd α} {e base : Nat} {ok : Nat → Prop} {v : Value} {xs : List α} (hk : ∀ (k : Nat) (cs : Array Value) (t : Nat), t ∈ e :: d.E → W.heap[k]? = some (.cells cs t (0, 0)) → W'.heap[k]? = some (.cells cs t (0, 0))) (h : d.R e W base ok v xs) : d.R e W' base ok v xs := by
 have h2 := Kd.R_move (Kd.R_bound h) (w1 := W') (fun k hb => by
  obtain ⟨_, _, _, q, hq, cells, hc⟩ := hb
  rw [hk k cells q hq hc, hc])
 exact Kd.R_mono h2 (fun _ hk => hk.1)
theorem DS.kept {m : DM} (h : DS w0 W gd m a) (hk : Keeps W W') (hb : Below w0.heap.size w0 W') : DS w0 W' gd m a :=
  ⟨hk _ _ _ _ (by decide) (by decide) (by decide) h.c, h.b.keep (fun _ hx => hk _ _ _ _ (by decide) (by decide) (by decide) hx), fun i hi => (h.p i hi).keep (fun _ hx => hk _ _ _ _ (by decide) (by decide) (by decide) hx), h.inj, h.ec, h.eb, h.ep,
   fun i j hi hj => R_kept (fun k cs t ht hx => by
    rcases List.mem_cons.1 ht with rfl | ht
    · exact hk _ _ _ _ (by decide) (by decide) (by decide) hx
    · cases ht) (h.d i j hi hj), R_kept (fun k cs t ht hx => by
    rcases List.mem_cons.1 ht with rfl | ht
    · exact hk _ _ _ _ (by decide) (by decide) (by decide) hx
    · cases ht) h.pln, hb, h.gok, h.cap⟩
theorem DChip.kept (h : DChip w0 W gd a) (hk : Keeps W W') (hb : Below w0.heap.size w0 W') : DChip w0 W' gd a := by
 obtain ⟨m, h⟩ := h
 exact ⟨m, h.kept hk hb⟩
theorem St.kept {gb : Nat} {gp : Nat → Nat} {m : Ch} {D : Nat → Nat → List Int} (h : St w0 W gc gb gp m D) (hk : DKeeps W W') (hb : Below w0.heap.size w0 W') : St w0 W' gc gb gp m D :=
  ⟨hk _ _ _ _ (by decide) (by decide) (by decide) h.c, hk _ _ _ _ (by decide) (by decide) (by decide) h.b, fun i hi => hk _ _ _ _ (by decide) (by decide) (by decide) (h.p i hi), h.inj, h.ec, h.eb, h.ep,
   fun i j hi hj => R_kept (fun k cs t ht hx => by
    rcases List.mem_cons.1 ht with rfl | ht
    · exact hk _ _ _ _ (by decide) (by decide) (by decide) hx
    · cases ht) (h.d i j hi hj), R_kept (fun k cs t ht hx => by
    rcases List.mem_cons.1 ht with rfl | ht
    · exact hk _ _ _ _ (by decide) (by decide) (by decide) hx
    · cases ht) h.pln, hb, h.gok⟩
theorem Chip.kept (h : Chip w0 W gc a) (hk : DKeeps W W') (hb : Below w0.heap.size w0 W') : Chip w0 W' gc a := by
 obtain ⟨gb, gp, m, D, hs, ha, hl⟩ := h
 exact ⟨gb, gp, m, D, hs.kept hk hb, ha, hl⟩
theorem DChip.below (h : DChip w0 W gd a) : Below w0.heap.size w0 W := by
 obtain ⟨m, h⟩ := h
 exact h.below
theorem DS.lower {m : DM} {w1 : World} (h : DS w1 W gd m a) (hb : Below w0.heap.size w0 w1) : DS w0 W gd m a := by
 have hs := below_size hb
 exact ⟨h.c, h.b, h.p, h.inj, Nat.le_trans hs h.ec, Nat.le_trans hs h.eb, fun i hi => Nat.le_trans hs (h.ep i hi), fun i j hi hj => Kd.R_lower (h.d i j hi hj) hs, Kd.R_lower h.pln hs, below_step hb h.below, h.gok, h.cap⟩
theorem DChip.lower {w1 : World} (h : DChip w1 W gd a) (hb : Below w0.heap.size w0 w1) : DChip w0 W gd a := by
 obtain ⟨m, h⟩ := h
 exact ⟨m, h.lower hb⟩
def KK (W w' : World) : Prop := ∀ (k : Nat) (cs : Array Value) (t : Nat) (fr : Nat × Nat), t ≠ 74 → t ≠ 79 → t ≠ 88 → t ≠ 100 → t ≠ 103 → t ≠ 122 → W.heap[k]? = some (.cells cs t fr) → w'.heap[k]? = some (.cells cs t fr)
theorem KK.refl (W : World) : KK W W := fun _ _ _ _ _ _ _ _ _ _ h => h
theorem KK.trans {W w1 w2 : World} (h : KK W w1) (h2 : KK w1 w2) : KK W w2 := fun k cs t fr a b c d e f hk => h2 k cs t fr a b c d e f (h k cs t fr a b c d e f hk)
theorem KK.of_below (h : Below W.heap.size W W') : KK W W' := fun k cs t fr _ _ _ _ _ _ hk => by rw [h.block k (blk_lt hk)]; exact hk
theorem KK.of_keeps (h : Keeps W W') : KK W W' := fun k cs t fr a b c _ _ _ hk => h k cs t fr a b c hk
theorem KK.of_dkeeps (h : DKeeps W W') : KK W W' := fun k cs t fr _ _ _ a b c hk => h k cs t fr a b c hk
structure SOp where
 k : Int
 b : Int
 p : Int
 d : List Int
 pl : List F3
def zOp : SOp := ⟨0, 0, 0, [], []⟩
def kOp : Kd SOp := Kd.iso (Kd.pair (Kd.int .i64) (Kd.pair (Kd.int .i64) (Kd.pair (Kd.int .i64) (Kd.pair (Kd.slice 5 kB) (Kd.slice 71 kF))))) (fun x : SOp => (x.k, x.b, x.p, x.d, x.pl))
theorem kOp_open {w : World} {x : SOp} {cs : List Value} (h : kOp.K w x cs) : ∃ A3 c3 A4 c4, cs = [.int .i64 x.k, .int .i64 x.b, .int .i64 x.p, .slice A3 x.d.length c3, .slice A4 x.pl.length c4] ∧ x.d.length ≤ c3 ∧ kB.C w A3 x.d.length x.d ∧ x.pl.length ≤ c4 ∧ kF.C w A4 x.pl.length x.pl := by
 obtain ⟨_, _, rfl, rfl, ⟨_, _, rfl, rfl, ⟨_, _, rfl, rfl, ⟨_, _, rfl, ⟨A3, c3, rfl, l3, g3⟩, ⟨A4, c4, rfl, l4, g4⟩⟩⟩⟩⟩ := h
 exact ⟨A3, c3, A4, c4, rfl, l3, g3, l4, g4⟩
theorem at_Op {w : World} {A : Option Addr} {n : Nat} {xs : List SOp} (h : Kd.C kOp w A n xs) (i : Int) (h0 : 0 ≤ i) (h1 : i < n) : ∃ ad A3 c3 A4 c4, A = some ad ∧ w.cell? (ad.add (i.toNat * 5)) = some (.int .i64 (xs.getD i.toNat zOp).k) ∧ w.cell? ⟨(ad.add (i.toNat * 5)).block, (ad.add (i.toNat * 5)).off + 1, none⟩ = some (.int .i64 (xs.getD i.toNat zOp).b) ∧ w.cell? ⟨(ad.add (i.toNat * 5)).block, (ad.add (i.toNat * 5)).off + 2, none⟩ = some (.int .i64 (xs.getD i.toNat zOp).p) ∧ w.cell? ⟨(ad.add (i.toNat * 5)).block, (ad.add (i.toNat * 5)).off + 3, none⟩ = some (.slice A3 (xs.getD i.toNat zOp).d.length c3) ∧ w.cell? ⟨(ad.add (i.toNat * 5)).block, (ad.add (i.toNat * 5)).off + 4, none⟩ = some (.slice A4 (xs.getD i.toNat zOp).pl.length c4) ∧ (xs.getD i.toNat zOp).d.length ≤ c3 ∧ kB.C w A3 (xs.getD i.toNat zOp).d.length (xs.getD i.toNat zOp).d ∧ (xs.getD i.toNat zOp).pl.length ≤ c4 ∧ kF.C w A4 (xs.getD i.toNat zOp).pl.length (xs.getD i.toNat zOp).pl := by
 obtain ⟨ad, c, e, _, hK, hc0⟩ := Kd.C_get h zOp i h0 h1
 have hc : ∀ j u, c[j]? = some u → w.cell? (ad.add (i.toNat * 5 + j)) = some u := hc0
 obtain ⟨A3, c3, A4, c4, rfl, l3, g3, l4, g4⟩ := kOp_open hK
 exact ⟨ad, A3, c3, A4, c4, e, hc 0 _ rfl, by rw [← add_field _ _ 1 (by omega)]; exact hc 1 _ rfl, by rw [← add_field _ _ 2 (by omega)]; exact hc 2 _ rfl, by rw [← add_field _ _ 3 (by omega)]; exact hc 3 _ rfl, by rw [← add_field _ _ 4 (by omega)]; exact hc 4 _ rfl, l3, g3, l4, g4⟩
def stepA (a : AC) (o : SOp) : AC := if o.k = 1 then (progA a o.b o.p o.d).2 else if o.k = 2 then (eraseA a o.b).2 else if o.k = 3 then (markA a o.b).2 else if o.k = 4 then { a with off := false } else if o.k = 5 then (armA a o.pl).2 else a
theorem prog_pl (a : AC) (n p : Int) (l : List Int) : (progA a n p l).2.pl = a.pl := by
 unfold progA
 repeat' split
 all_goals rfl
theorem erase_pl (a : AC) (n : Int) : (eraseA a n).2.pl = a.pl := by
 unfold eraseA
 repeat' split
 all_goals rfl
theorem mark_pl (a : AC) (n : Int) : (markA a n).2.pl = a.pl := by
 unfold markA
 repeat' split
 all_goals rfl
theorem step_ok {a : AC} (h : planOK a.pl = true) (o : SOp) : planOK (stepA a o).pl = true := by
 unfold stepA
 split
 ·rw [prog_pl]; exact h
 split
 ·rw [erase_pl]; exact h
 split
 ·rw [mark_pl]; exact h
 split
 ·exact h
 split
 ·unfold armA
  split
  ·assumption
  ·exact h
 ·exact h
def twoS (w0 W : World) (gc gd : Nat) (a a' : AC) : Nat → World → Prop
 | 0, w' => Chip w0 w' gc a ∧ DChip w0 w' gd a ∧ KK W w'
 | 1, w' => Chip w0 w' gc a' ∧ DChip w0 w' gd a ∧ KK W w'
 | _, w' => Chip w0 w' gc a' ∧ DChip w0 w' gd a' ∧ KK W w'
theorem twoS.kk {a a' : AC} {k : Nat} {w' : World} (h : twoS w0 W gc gd a a' k w') : KK W w' := by
 match k, h with
 | 0, h => exact h.2.2
 | 1, h => exact h.2.2
 | _ + 2, h => exact h.2.2
end Go.Proofs.YtdlimghdimkadaaDoor.PAll
namespace Go.Proofs.YtdlimghdimkadaaDoor.PAll
open Go.RowKit Go.Proofs.YtdlimghdimkadaaDoorW.PrintWords Go.Proofs.YtdlimghdimkadaaDoorW.PrintLast Go.Proofs.YtdlimghdimkadaaDoorW.PrintMore
set_option linter.unusedSimpArgs false
set_option linter.unusedVariables false
attribute [local go_sem] max2_int min2_int max_two min_two max_three min_three max_four min_four
variable {w0 W : World} {gc gd : Nat} {a : AC}
set_option maxRecDepth 100000 in
set_option maxHeartbeats 16000000 in
theorem does_is (h : Chip w0 W gc a) (h2 : DChip w0 W gd a) (hp : planOK a.pl = true) (o : SOp) (A3 : Option Addr) (c3 : Nat) (A4 : Option Addr) (c4 : Nat) (l3 : o.d.length ≤ c3) (g3 : kB.C w0 A3 o.d.length o.d) (l4 : o.pl.length ≤ c4) (g4 : kF.C w0 A4 o.pl.length o.pl) :
  Calls Tryd.prog 21 #[cp gc, cp gd, .agg #[.int .i64 o.k, .int .i64 o.b, .int .i64 o.p, .slice A3 o.d.length c3, .slice A4 o.pl.length c4]] W fun e w' => e = .returned (.bool true) ∧ Chip w0 w' gc (stepA a o) ∧ DChip w0 w' gd (stepA a o) ∧ KK W w' := by
 have H := Aside0.mk h
 have HD := Aside0.mk h2
 have HPL := Aside0.mk hp
 have L3 := Aside0.mk l3
 have G3 := Aside0.mk g3
 have L4 := Aside0.mk l4
 have G4 := Aside0.mk g4
 have hu58 := Tryd.underlying58
 clear h h2 hp l3 g3 l4 g4
 go_enter Tryd.func21, Tryd.ntmps21
 go_upto_region 1 with (fail)
 obtain ⟨go, hgo⟩ : ∃ go, go = W.heap.size := ⟨_, rfl⟩
 generalize hW : W.alloc (.cells #[.int .i64 o.k, .int .i64 o.b, .int .i64 o.p, .slice A3 o.d.length c3, .slice A4 o.pl.length c4] 58) = W1
 have hb1 : Below W.heap.size W W1 := by rw [← hW]; exact below_alloc (Below.refl _ _) _
 have HO := Aside0.mk (show W1.heap[go]? = some (.cells #[.int .i64 o.k, .int .i64 o.b, .int .i64 o.p, .slice A3 o.d.length c3, .slice A4 o.pl.length c4] 58 (0, 0)) by rw [← hW, hgo]; exact new_blk _ _ _)
 have H1 := Aside0.mk (H.out.grow hb1)
 have H2 := Aside0.mk (HD.out.grow hb1)
 have HKB := Aside0.mk (KK.of_below hb1)
 rw [← hgo]
 clear hW hb1 hgo
 have k0 := Joins.cell_of_block HO.out 0
 by_cases h1 : o.k = 1
 ·have e1 : (o.k == 1) = true := by simp [h1]
  have e1b : (o.k = 1) = True := eq_true h1
  obtain ⟨a', ha'⟩ : ∃ a', a' = (progA a o.b o.p o.d).2 := ⟨_, rfl⟩
  have HE := Aside0.mk (show stepA a o = a' by unfold stepA; simp [h1, ha'])
  have HP := Aside0.mk (show ∀ wq, Chip w0 wq gc a → Calls Tryd.prog 18 #[cp gc, .int .i64 o.b, .int .i64 o.p, .slice A3 o.d.length c3] wq (fun e w' => e = .returned (.int .i64 (progA a o.b o.p o.d).1) ∧ Chip w0 w' gc a' ∧ Keeps wq w') by rw [ha']; exact fun wq hq => hq.program o.b o.p A3 c3 o.d (fun w' hb _ => Kd.C_below G3.out hb) L3.out)
  have HQ := Aside0.mk (show ∀ wq, DChip w0 wq gd a → Calls Tryd.prog 41 #[cp gd, .int .i64 o.b, .int .i64 o.p, .slice A3 o.d.length c3] wq (fun e w' => e = .returned (.int .i64 (progA a o.b o.p o.d).1) ∧ DChip w0 w' gd a' ∧ DKeeps wq w') by rw [ha']; exact fun wq hq => hq.program HPL.out o.b o.p A3 c3 o.d (fun w' hb _ => Kd.C_below G3.out hb) L3.out)
  clear h1 ha'
  go_upto_region 3 with (fail)
  refine RelS.relS [(0, 11, .inl ?r1v0), (1, 12, .inl ?r1v1), (2, 13, .inl ?r1v2), (3, 14, .inl ?r1v3), (4, 15, .inl ?r1v4), (5, 16, .inl ?r1v5), (6, 17, .inl ?r1v6), (7, 18, .inl ?r1v7), (8, 19, .inl ?r1v8), (9, 20, .inl ?r1v9), (10, 21, .inl ?r1v10), (11, 22, .inl ?r1v11), (12, 23, .inl ?r1v12), (13, 24, .inl ?r1v13), (14, 25, .inl ?r1v14), (15, 26, .inl ?r1v15), (16, 27, .inl ?r1v16), (17, 6, .inl ?r1v17)] [7, 15] (twoS w0 W1 gc gd a a') (fun _ _ => True) (by rfl) rfl (by kernel_rfl) (by decide) (by decide) ?r1S (Rel.stable_inl (Rel.stable_inl (Rel.stable_inl (Rel.stable_inl (Rel.stable_inl (Rel.stable_inl (Rel.stable_inl (Rel.stable_inl (Rel.stable_inl (Rel.stable_inl (Rel.stable_inl (Rel.stable_inl (Rel.stable_inl (Rel.stable_inl (Rel.stable_inl (Rel.stable_inl (Rel.stable_inl (Rel.stable_inl Rel.stable_nil)))))))))))))))))) ?r1steps ?r1okv ?r1hlt ?r1fin
  case r1S => exact ⟨H1.out.grow (below_drew (Below.refl _ _)), H2.out.grow (below_drew (Below.refl _ _)), KK.of_below (below_drew (Below.refl _ _))⟩
  case r1steps =>
   refine RelS.fromS_some 0 rfl rfl (fun s a wq hlo hhi hS hK K hC => ?_) ?_
   ·refine Reg.step_on (by rfl) ?_
    clear hlo hhi
    have e0 := hK.off 0 _ rfl rfl
    clear hK
    go_simp
    exact hC _ hS trivial
   refine RelS.fromS_some 1 rfl rfl (fun s a wq hlo hhi hS hK K hC => ?_) ?_
   ·refine Reg.step_on (by rfl) ?_
    clear hlo hhi
    have e5 := hK.off 5 _ rfl rfl
    clear hK
    go_simp
    exact hC _ hS trivial
   refine RelS.fromS_some 2 rfl rfl (fun s a wq hlo hhi hS hK K hC => ?_) ?_
   ·refine Reg.step_on (by rfl) ?_
    clear hlo hhi
    have e12 := hK.slot 1 _ _ _ rfl (by kernel_rfl)
    have zz := Joins.cell_of_block (hS.kk _ _ _ _ (by decide) (by decide) (by decide) (by decide) (by decide) (by decide) HO.out) 1
    clear hK
    go_simp
    exact hC _ hS trivial
   refine RelS.fromS_some 3 rfl rfl (fun s a wq hlo hhi hS hK K hC => ?_) ?_
   ·refine Reg.step_on (by rfl) ?_
    clear hlo hhi
    have e5 := hK.off 5 _ rfl rfl
    clear hK
    go_simp
    exact hC _ hS trivial
   refine RelS.fromS_some 4 rfl rfl (fun s a wq hlo hhi hS hK K hC => ?_) ?_
   ·refine Reg.step_on (by rfl) ?_
    clear hlo hhi
    have e14 := hK.slot 3 _ _ _ rfl (by kernel_rfl)
    have zz := Joins.cell_of_block (hS.kk _ _ _ _ (by decide) (by decide) (by decide) (by decide) (by decide) (by decide) HO.out) 2
    clear hK
    go_simp
    exact hC _ hS trivial
   refine RelS.fromS_some 5 rfl rfl (fun s a wq hlo hhi hS hK K hC => ?_) ?_
   ·refine Reg.step_on (by rfl) ?_
    clear hlo hhi
    have e5 := hK.off 5 _ rfl rfl
    clear hK
    go_simp
    exact hC _ hS trivial
   refine RelS.fromS_some 6 rfl rfl (fun s a wq hlo hhi hS hK K hC => ?_) ?_
   ·refine Reg.step_on (by rfl) ?_
    clear hlo hhi
    have e16 := hK.slot 5 _ _ _ rfl (by kernel_rfl)
    have zz := Joins.cell_of_block (hS.kk _ _ _ _ (by decide) (by decide) (by decide) (by decide) (by decide) (by decide) HO.out) 3
    clear hK
    go_simp
    exact hC _ hS trivial
   refine RelS.fromS_some 7 rfl rfl (fun s a wq hlo hhi hS hK K hC => ?_) ?_
   ·refine Reg.step_on (by rfl) ?_
    obtain rfl : s = 0 := Nat.le_antisymm (Nat.le_trans hhi (Nat.le_of_eq (by kernel_rfl))) (Nat.le_trans (Nat.le_of_eq (by kernel_rfl)) hlo)
    clear hlo hhi
    have e11 := hK.slot 0 _ _ _ rfl (by kernel_rfl)
    have e13 := hK.slot 2 _ _ _ rfl (by kernel_rfl)
    have e15 := hK.slot 4 _ _ _ rfl (by kernel_rfl)
    have e17 := hK.slot 6 _ _ _ rfl (by kernel_rfl)
    clear hK
    go_simp
    obtain ⟨s1, s2, s3⟩ := hS
    go_at_call 18; (with_reducible refine (HP.out wq s1).mono ?_)
    rintro e w' ⟨rfl, h2, hk⟩
    exact hC _ ⟨h2, s2.kept hk h2.below, s3.trans (KK.of_keeps hk)⟩ trivial
   refine RelS.fromS_some 8 rfl rfl (fun s a wq hlo hhi hS hK K hC => ?_) ?_
   ·refine Reg.step_on (by rfl) ?_
    clear hlo hhi
    have e1 := hK.off 1 _ rfl rfl
    clear hK
    go_simp
    exact hC _ hS trivial
   refine RelS.fromS_some 9 rfl rfl (fun s a wq hlo hhi hS hK K hC => ?_) ?_
   ·refine Reg.step_on (by rfl) ?_
    clear hlo hhi
    have e5 := hK.off 5 _ rfl rfl
    clear hK
    go_simp
    exact hC _ hS trivial
   refine RelS.fromS_some 10 rfl rfl (fun s a wq hlo hhi hS hK K hC => ?_) ?_
   ·refine Reg.step_on (by rfl) ?_
    clear hlo hhi
    have e20 := hK.slot 9 _ _ _ rfl (by kernel_rfl)
    have zz := Joins.cell_of_block (hS.kk _ _ _ _ (by decide) (by decide) (by decide) (by decide) (by decide) (by decide) HO.out) 1
    clear hK
    go_simp
    exact hC _ hS trivial
   refine RelS.fromS_some 11 rfl rfl (fun s a wq hlo hhi hS hK K hC => ?_) ?_
   ·refine Reg.step_on (by rfl) ?_
    clear hlo hhi
    have e5 := hK.off 5 _ rfl rfl
    clear hK
    go_simp
    exact hC _ hS trivial
   refine RelS.fromS_some 12 rfl rfl (fun s a wq hlo hhi hS hK K hC => ?_) ?_
   ·refine Reg.step_on (by rfl) ?_
    clear hlo hhi
    have e22 := hK.slot 11 _ _ _ rfl (by kernel_rfl)
    have zz := Joins.cell_of_block (hS.kk _ _ _ _ (by decide) (by decide) (by decide) (by decide) (by decide) (by decide) HO.out) 2
    clear hK
    go_simp
    exact hC _ hS trivial
   refine RelS.fromS_some 13 rfl rfl (fun s a wq hlo hhi hS hK K hC => ?_) ?_
   ·refine Reg.step_on (by rfl) ?_
    clear hlo hhi
    have e5 := hK.off 5 _ rfl rfl
    clear hK
    go_simp
    exact hC _ hS trivial
   refine RelS.fromS_some 14 rfl rfl (fun s a wq hlo hhi hS hK K hC => ?_) ?_
   ·refine Reg.step_on (by rfl) ?_
    clear hlo hhi
    have e24 := hK.slot 13 _ _ _ rfl (by kernel_rfl)
    have zz := Joins.cell_of_block (hS.kk _ _ _ _ (by decide) (by decide) (by decide) (by decide) (by decide) (by decide) HO.out) 3
    clear hK
    go_simp
    exact hC _ hS trivial
   refine RelS.fromS_some 15 rfl rfl (fun s a wq hlo hhi hS hK K hC => ?_) ?_
   ·refine Reg.step_on (by rfl) ?_
    obtain rfl : s = 1 := Nat.le_antisymm (Nat.le_trans hhi (Nat.le_of_eq (by kernel_rfl))) (Nat.le_trans (Nat.le_of_eq (by kernel_rfl)) hlo)
    clear hlo hhi
    have e19 := hK.slot 8 _ _ _ rfl (by kernel_rfl)
    have e21 := hK.slot 10 _ _ _ rfl (by kernel_rfl)
    have e23 := hK.slot 12 _ _ _ rfl (by kernel_rfl)
    have e25 := hK.slot 14 _ _ _ rfl (by kernel_rfl)
    clear hK
    go_simp
    obtain ⟨s1, s2, s3⟩ := hS
    go_at_call 41; (with_reducible refine (HQ.out wq s2).mono ?_)
    rintro e w' ⟨rfl, h2, hk⟩
    exact hC _ ⟨s1.kept hk h2.below, h2, s3.trans (KK.of_dkeeps hk)⟩ trivial
   refine RelS.fromS_some 16 rfl rfl (fun s a wq hlo hhi hS hK K hC => ?_) ?_
   ·refine Reg.step_on (by rfl) ?_
    clear hlo hhi
    have e18 := hK.slot 7 _ _ _ rfl (by kernel_rfl)
    have e26 := hK.slot 15 _ _ _ rfl (by kernel_rfl)
    clear hK
    go_simp
    exact hC _ hS trivial
   refine RelS.fromS_some 17 rfl rfl (fun s a wq hlo hhi hS hK K hC => ?_) ?_
   ·refine Reg.step_on (by rfl) ?_
    clear hlo hhi
    have e27 := hK.slot 16 _ _ _ rfl (by kernel_rfl)
    clear hK
    go_simp
    exact hC _ hS trivial
   exact RelS.fromS_nil
  case r1okv => rfl
  case r1hlt => rfl
  case r1fin =>
   intro U wz hS hU
   clear hU
   simp only [Rel.inst, Nat.zero_add, Reg.putV, List.foldl_cons, List.foldl_nil, Act.put, List.setIfInBounds_toArray, List.set_cons_zero, List.set_cons_succ]
   have HS := Aside0.mk (show twoS w0 W1 gc gd a a' 2 wz from hS)
   clear hS
   go_wp2
   go_ret
   rw [HE.out]
   exact ⟨by first | rfl | (simp; done), HS.out.1, HS.out.2.1, HKB.out.trans HS.out.2.2⟩
 have e1 : (o.k == 1) = false := by simp [h1]
 have e1b : (o.k = 1) = False := eq_false h1
 by_cases h2 : o.k = 2
 ·have e2 : (o.k == 2) = true := by simp [h2]
  have e2b : (o.k = 2) = True := eq_true h2
  obtain ⟨a', ha'⟩ : ∃ a', a' = (eraseA a o.b).2 := ⟨_, rfl⟩
  have HE := Aside0.mk (show stepA a o = a' by unfold stepA; simp [h2, ha'])
  have HP := Aside0.mk (show ∀ wq, Chip w0 wq gc a → Calls Tryd.prog 42 #[cp gc, .int .i64 o.b] wq (fun e w' => e = .returned (.int .i64 (eraseA a o.b).1) ∧ Chip w0 w' gc a' ∧ Keeps wq w') by rw [ha']; exact fun wq hq => hq.erase o.b)
  have HQ := Aside0.mk (show ∀ wq, DChip w0 wq gd a → Calls Tryd.prog 43 #[cp gd, .int .i64 o.b] wq (fun e w' => e = .returned (.int .i64 (eraseA a o.b).1) ∧ DChip w0 w' gd a' ∧ DKeeps wq w') by rw [ha']; exact fun wq hq => hq.erase HPL.out o.b)
  clear h2 ha'
  go_upto_region 5 with (fail)
  refine RelS.relS [(0, 30, .inl ?r2v0), (1, 31, .inl ?r2v1), (2, 32, .inl ?r2v2), (3, 33, .inl ?r2v3), (4, 34, .inl ?r2v4), (5, 35, .inl ?r2v5), (6, 36, .inl ?r2v6), (7, 37, .inl ?r2v7), (8, 38, .inl ?r2v8), (9, 6, .inl ?r2v9)] [3, 7] (twoS w0 W1 gc gd a a') (fun _ _ => True) (by rfl) rfl (by kernel_rfl) (by decide) (by decide) ?r2S (Rel.stable_inl (Rel.stable_inl (Rel.stable_inl (Rel.stable_inl (Rel.stable_inl (Rel.stable_inl (Rel.stable_inl (Rel.stable_inl (Rel.stable_inl (Rel.stable_inl Rel.stable_nil)))))))))) ?r2steps ?r2okv ?r2hlt ?r2fin
  case r2S => exact ⟨H1.out.grow (below_drew (Below.refl _ _)), H2.out.grow (below_drew (Below.refl _ _)), KK.of_below (below_drew (Below.refl _ _))⟩
  case r2steps =>
   refine RelS.fromS_some 0 rfl rfl (fun s a wq hlo hhi hS hK K hC => ?_) ?_
   ·refine Reg.step_on (by rfl) ?_
    clear hlo hhi
    have e0 := hK.off 0 _ rfl rfl
    clear hK
    go_simp
    exact hC _ hS trivial
   refine RelS.fromS_some 1 rfl rfl (fun s a wq hlo hhi hS hK K hC => ?_) ?_
   ·refine Reg.step_on (by rfl) ?_
    clear hlo hhi
    have e5 := hK.off 5 _ rfl rfl
    clear hK
    go_simp
    exact hC _ hS trivial
   refine RelS.fromS_some 2 rfl rfl (fun s a wq hlo hhi hS hK K hC => ?_) ?_
   ·refine Reg.step_on (by rfl) ?_
    clear hlo hhi
    have e31 := hK.slot 1 _ _ _ rfl (by kernel_rfl)
    have zz := Joins.cell_of_block (hS.kk _ _ _ _ (by decide) (by decide) (by decide) (by decide) (by decide) (by decide) HO.out) 1
    clear hK
    go_simp
    exact hC _ hS trivial
   refine RelS.fromS_some 3 rfl rfl (fun s a wq hlo hhi hS hK K hC => ?_) ?_
   ·refine Reg.step_on (by rfl) ?_
    obtain rfl : s = 0 := Nat.le_antisymm (Nat.le_trans hhi (Nat.le_of_eq (by kernel_rfl))) (Nat.le_trans (Nat.le_of_eq (by kernel_rfl)) hlo)
    clear hlo hhi
    have e30 := hK.slot 0 _ _ _ rfl (by kernel_rfl)
    have e32 := hK.slot 2 _ _ _ rfl (by kernel_rfl)
    clear hK
    go_simp
    obtain ⟨s1, s2, s3⟩ := hS
    go_at_call 42; (with_reducible refine (HP.out wq s1).mono ?_)
    rintro e w' ⟨rfl, h2, hk⟩
    exact hC _ ⟨h2, s2.kept hk h2.below, s3.trans (KK.of_keeps hk)⟩ trivial
   refine RelS.fromS_some 4 rfl rfl (fun s a wq hlo hhi hS hK K hC => ?_) ?_
   ·refine Reg.step_on (by rfl) ?_
    clear hlo hhi
    have e1 := hK.off 1 _ rfl rfl
    clear hK
    go_simp
    exact hC _ hS trivial
   refine RelS.fromS_some 5 rfl rfl (fun s a wq hlo hhi hS hK K hC => ?_) ?_
   ·refine Reg.step_on (by rfl) ?_
    clear hlo hhi
    have e5 := hK.off 5 _ rfl rfl
    clear hK
    go_simp
    exact hC _ hS trivial
   refine RelS.fromS_some 6 rfl rfl (fun s a wq hlo hhi hS hK K hC => ?_) ?_
   ·refine Reg.step_on (by rfl) ?_
    clear hlo hhi
    have e35 := hK.slot 5 _ _ _ rfl (by kernel_rfl)
    have zz := Joins.cell_of_block (hS.kk _ _ _ _ (by decide) (by decide) (by decide) (by decide) (by decide) (by decide) HO.out) 1
    clear hK
    go_simp
    exact hC _ hS trivial
   refine RelS.fromS_some 7 rfl rfl (fun s a wq hlo hhi hS hK K hC => ?_) ?_
   ·refine Reg.step_on (by rfl) ?_
    obtain rfl : s = 1 := Nat.le_antisymm (Nat.le_trans hhi (Nat.le_of_eq (by kernel_rfl))) (Nat.le_trans (Nat.le_of_eq (by kernel_rfl)) hlo)
    clear hlo hhi
    have e34 := hK.slot 4 _ _ _ rfl (by kernel_rfl)
    have e36 := hK.slot 6 _ _ _ rfl (by kernel_rfl)
    clear hK
    go_simp
    obtain ⟨s1, s2, s3⟩ := hS
    go_at_call 43; (with_reducible refine (HQ.out wq s2).mono ?_)
    rintro e w' ⟨rfl, h2, hk⟩
    exact hC _ ⟨s1.kept hk h2.below, h2, s3.trans (KK.of_dkeeps hk)⟩ trivial
   refine RelS.fromS_some 8 rfl rfl (fun s a wq hlo hhi hS hK K hC => ?_) ?_
   ·refine Reg.step_on (by rfl) ?_
    clear hlo hhi
    have e33 := hK.slot 3 _ _ _ rfl (by kernel_rfl)
    have e37 := hK.slot 7 _ _ _ rfl (by kernel_rfl)
    clear hK
    go_simp
    exact hC _ hS trivial
   refine RelS.fromS_some 9 rfl rfl (fun s a wq hlo hhi hS hK K hC => ?_) ?_
   ·refine Reg.step_on (by rfl) ?_
    clear hlo hhi
    have e38 := hK.slot 8 _ _ _ rfl (by kernel_rfl)
    clear hK
    go_simp
    exact hC _ hS trivial
   exact RelS.fromS_nil
  case r2okv => rfl
  case r2hlt => rfl
  case r2fin =>
   intro U wz hS hU
   clear hU
   simp only [Rel.inst, Nat.zero_add, Reg.putV, List.foldl_cons, List.foldl_nil, Act.put, List.setIfInBounds_toArray, List.set_cons_zero, List.set_cons_succ]
   have HS := Aside0.mk (show twoS w0 W1 gc gd a a' 2 wz from hS)
   clear hS
   go_wp2
   go_ret
   rw [HE.out]
   exact ⟨by first | rfl | (simp; done), HS.out.1, HS.out.2.1, HKB.out.trans HS.out.2.2⟩
 have e2 : (o.k == 2) = false := by simp [h2]
 have e2b : (o.k = 2) = False := eq_false h2
 by_cases h3 : o.k = 3
 ·have e3 : (o.k == 3) = true := by simp [h3]
  have e3b : (o.k = 3) = True := eq_true h3
  obtain ⟨a', ha'⟩ : ∃ a', a' = (markA a o.b).2 := ⟨_, rfl⟩
  have HE := Aside0.mk (show stepA a o = a' by unfold stepA; simp [h3, ha'])
  have HP := Aside0.mk (show ∀ wq, Chip w0 wq gc a → Calls Tryd.prog 44 #[cp gc, .int .i64 o.b] wq (fun e w' => e = .returned (.int .i64 (markA a o.b).1) ∧ Chip w0 w' gc a' ∧ Keeps wq w') by rw [ha']; exact fun wq hq => hq.mark o.b)
  have HQ := Aside0.mk (show ∀ wq, DChip w0 wq gd a → Calls Tryd.prog 45 #[cp gd, .int .i64 o.b] wq (fun e w' => e = .returned (.int .i64 (markA a o.b).1) ∧ DChip w0 w' gd a' ∧ DKeeps wq w') by rw [ha']; exact fun wq hq => hq.mark o.b)
  clear h3 ha'
  go_upto_region 7 with (fail)
  refine RelS.relS [(0, 41, .inl ?r3v0), (1, 42, .inl ?r3v1), (2, 43, .inl ?r3v2), (3, 44, .inl ?r3v3), (4, 45, .inl ?r3v4), (5, 46, .inl ?r3v5), (6, 47, .inl ?r3v6), (7, 48, .inl ?r3v7), (8, 49, .inl ?r3v8), (9, 6, .inl ?r3v9)] [3, 7] (twoS w0 W1 gc gd a a') (fun _ _ => True) (by rfl) rfl (by kernel_rfl) (by decide) (by decide) ?r3S (Rel.stable_inl (Rel.stable_inl (Rel.stable_inl (Rel.stable_inl (Rel.stable_inl (Rel.stable_inl (Rel.stable_inl (Rel.stable_inl (Rel.stable_inl (Rel.stable_inl Rel.stable_nil)))))))))) ?r3steps ?r3okv ?r3hlt ?r3fin
  case r3S => exact ⟨H1.out.grow (below_drew (Below.refl _ _)), H2.out.grow (below_drew (Below.refl _ _)), KK.of_below (below_drew (Below.refl _ _))⟩
  case r3steps =>
   refine RelS.fromS_some 0 rfl rfl (fun s a wq hlo hhi hS hK K hC => ?_) ?_
   ·refine Reg.step_on (by rfl) ?_
    clear hlo hhi
    have e0 := hK.off 0 _ rfl rfl
    clear hK
    go_simp
    exact hC _ hS trivial
   refine RelS.fromS_some 1 rfl rfl (fun s a wq hlo hhi hS hK K hC => ?_) ?_
   ·refine Reg.step_on (by rfl) ?_
    clear hlo hhi
    have e5 := hK.off 5 _ rfl rfl
    clear hK
    go_simp
    exact hC _ hS trivial
   refine RelS.fromS_some 2 rfl rfl (fun s a wq hlo hhi hS hK K hC => ?_) ?_
   ·refine Reg.step_on (by rfl) ?_
    clear hlo hhi
    have e42 := hK.slot 1 _ _ _ rfl (by kernel_rfl)
    have zz := Joins.cell_of_block (hS.kk _ _ _ _ (by decide) (by decide) (by decide) (by decide) (by decide) (by decide) HO.out) 1
    clear hK
    go_simp
    exact hC _ hS trivial
   refine RelS.fromS_some 3 rfl rfl (fun s a wq hlo hhi hS hK K hC => ?_) ?_
   ·refine Reg.step_on (by rfl) ?_
    obtain rfl : s = 0 := Nat.le_antisymm (Nat.le_trans hhi (Nat.le_of_eq (by kernel_rfl))) (Nat.le_trans (Nat.le_of_eq (by kernel_rfl)) hlo)
    clear hlo hhi
    have e41 := hK.slot 0 _ _ _ rfl (by kernel_rfl)
    have e43 := hK.slot 2 _ _ _ rfl (by kernel_rfl)
    clear hK
    go_simp
    obtain ⟨s1, s2, s3⟩ := hS
    go_at_call 44; (with_reducible refine (HP.out wq s1).mono ?_)
    rintro e w' ⟨rfl, h2, hk⟩
    exact hC _ ⟨h2, s2.kept hk h2.below, s3.trans (KK.of_keeps hk)⟩ trivial
   refine RelS.fromS_some 4 rfl rfl (fun s a wq hlo hhi hS hK K hC => ?_) ?_
   ·refine Reg.step_on (by rfl) ?_
    clear hlo hhi
    have e1 := hK.off 1 _ rfl rfl
    clear hK
    go_simp
    exact hC _ hS trivial
   refine RelS.fromS_some 5 rfl rfl (fun s a wq hlo hhi hS hK K hC => ?_) ?_
   ·refine Reg.step_on (by rfl) ?_
    clear hlo hhi
    have e5 := hK.off 5 _ rfl rfl
    clear hK
    go_simp
    exact hC _ hS trivial
   refine RelS.fromS_some 6 rfl rfl (fun s a wq hlo hhi hS hK K hC => ?_) ?_
   ·refine Reg.step_on (by rfl) ?_
    clear hlo hhi
    have e46 := hK.slot 5 _ _ _ rfl (by kernel_rfl)
    have zz := Joins.cell_of_block (hS.kk _ _ _ _ (by decide) (by decide) (by decide) (by decide) (by decide) (by decide) HO.out) 1
    clear hK
    go_simp
    exact hC _ hS trivial
   refine RelS.fromS_some 7 rfl rfl (fun s a wq hlo hhi hS hK K hC => ?_) ?_
   ·refine Reg.step_on (by rfl) ?_
    obtain rfl : s = 1 := Nat.le_antisymm (Nat.le_trans hhi (Nat.le_of_eq (by kernel_rfl))) (Nat.le_trans (Nat.le_of_eq (by kernel_rfl)) hlo)
    clear hlo hhi
    have e45 := hK.slot 4 _ _ _ rfl (by kernel_rfl)
    have e47 := hK.slot 6 _ _ _ rfl (by kernel_rfl)
    clear hK
    go_simp
    obtain ⟨s1, s2, s3⟩ := hS
    go_at_call 45; (with_reducible refine (HQ.out wq s2).mono ?_)
    rintro e w' ⟨rfl, h2, hk⟩
    exact hC _ ⟨s1.kept hk h2.below, h2, s3.trans (KK.of_dkeeps hk)⟩ trivial
   refine RelS.fromS_some 8 rfl rfl (fun s a wq hlo hhi hS hK K hC => ?_) ?_
   ·refine Reg.step_on (by rfl) ?_
    clear hlo hhi
    have e44 := hK.slot 3 _ _ _ rfl (by kernel_rfl)
    have e48 := hK.slot 7 _ _ _ rfl (by kernel_rfl)
    clear hK
    go_simp
    exact hC _ hS trivial
   refine RelS.fromS_some 9 rfl rfl (fun s a wq hlo hhi hS hK K hC => ?_) ?_
   ·refine Reg.step_on (by rfl) ?_
    clear hlo hhi
    have e49 := hK.slot 8 _ _ _ rfl (by kernel_rfl)
    clear hK
    go_simp
    exact hC _ hS trivial
   exact RelS.fromS_nil
  case r3okv => rfl
  case r3hlt => rfl
  case r3fin =>
   intro U wz hS hU
   clear hU
   simp only [Rel.inst, Nat.zero_add, Reg.putV, List.foldl_cons, List.foldl_nil, Act.put, List.setIfInBounds_toArray, List.set_cons_zero, List.set_cons_succ]
   have HS := Aside0.mk (show twoS w0 W1 gc gd a a' 2 wz from hS)
   clear hS
   go_wp2
   go_ret
   rw [HE.out]
   exact ⟨by first | rfl | (simp; done), HS.out.1, HS.out.2.1, HKB.out.trans HS.out.2.2⟩
 have e3 : (o.k == 3) = false := by simp [h3]
 have e3b : (o.k = 3) = False := eq_false h3
 by_cases h4 : o.k = 4
 ·have e4 : (o.k == 4) = true := by simp [h4]
  have e4b : (o.k = 4) = True := eq_true h4
  have HE := Aside0.mk (show stepA a o = { a with off := false } by unfold stepA; simp [h4])
  clear h4
  go_wp2_with (first
   | (go_at_call 22; (with_reducible refine H1.out.power.mono ?_); rintro e w2 ⟨rfl, h3, hk3⟩; have H3 := Aside0.mk h3; have HD3 := Aside0.mk (H2.out.kept hk3 h3.below); have HK3 := Aside0.mk (HKB.out.trans (KK.of_keeps hk3)); clear h3 hk3)
   | (go_at_call 46; (with_reducible refine HD3.out.power.mono ?_); rintro e w3 ⟨rfl, h4, hk4⟩; have HD4 := Aside0.mk h4; have H4 := Aside0.mk (H3.out.kept hk4 h4.below); have HK4 := Aside0.mk (HK3.out.trans (KK.of_dkeeps hk4)); clear h4 hk4))
  go_ret
  rw [HE.out]
  exact ⟨rfl, H4.out, HD4.out, HK4.out⟩
 have e4 : (o.k == 4) = false := by simp [h4]
 have e4b : (o.k = 4) = False := eq_false h4
 by_cases h5 : o.k = 5
 ·have e5 : (o.k == 5) = true := by simp [h5]
  have e5b : (o.k = 5) = True := eq_true h5
  obtain ⟨a', ha'⟩ : ∃ a', a' = (armA a o.pl).2 := ⟨_, rfl⟩
  have HE := Aside0.mk (show stepA a o = a' by unfold stepA; simp [h5, ha'])
  have HP := Aside0.mk (show ∀ wq, Chip w0 wq gc a → Calls Tryd.prog 47 #[cp gc, .slice A4 o.pl.length c4] wq (fun e w' => e = .returned (.int .i64 (armA a o.pl).1) ∧ Chip w0 w' gc a' ∧ Keeps wq w') by rw [ha']; exact fun wq hq => hq.arm A4 c4 o.pl (Kd.C_below G4.out hq.below) L4.out)
  have HQ := Aside0.mk (show ∀ wq, DChip w0 wq gd a → Calls Tryd.prog 48 #[cp gd, .slice A4 o.pl.length c4] wq (fun e w' => e = .returned (.int .i64 (armA a o.pl).1) ∧ DChip w0 w' gd a' ∧ DKeeps wq w') by rw [ha']; exact fun wq hq => hq.arm A4 c4 o.pl (Kd.C_below G4.out hq.below) L4.out)
  clear h5 ha'
  go_upto_region 12 with (fail)
  refine RelS.relS [(0, 58, .inl ?r4v0), (1, 59, .inl ?r4v1), (2, 60, .inl ?r4v2), (3, 61, .inl ?r4v3), (4, 62, .inl ?r4v4), (5, 63, .inl ?r4v5), (6, 64, .inl ?r4v6), (7, 65, .inl ?r4v7), (8, 66, .inl ?r4v8), (9, 6, .inl ?r4v9)] [3, 7] (twoS w0 W1 gc gd a a') (fun _ _ => True) (by rfl) rfl (by kernel_rfl) (by decide) (by decide) ?r4S (Rel.stable_inl (Rel.stable_inl (Rel.stable_inl (Rel.stable_inl (Rel.stable_inl (Rel.stable_inl (Rel.stable_inl (Rel.stable_inl (Rel.stable_inl (Rel.stable_inl Rel.stable_nil)))))))))) ?r4steps ?r4okv ?r4hlt ?r4fin
  case r4S => exact ⟨H1.out.grow (below_drew (Below.refl _ _)), H2.out.grow (below_drew (Below.refl _ _)), KK.of_below (below_drew (Below.refl _ _))⟩
  case r4steps =>
   refine RelS.fromS_some 0 rfl rfl (fun s a wq hlo hhi hS hK K hC => ?_) ?_
   ·refine Reg.step_on (by rfl) ?_
    clear hlo hhi
    have e0 := hK.off 0 _ rfl rfl
    clear hK
    go_simp
    exact hC _ hS trivial
   refine RelS.fromS_some 1 rfl rfl (fun s a wq hlo hhi hS hK K hC => ?_) ?_
   ·refine Reg.step_on (by rfl) ?_
    clear hlo hhi
    have e5 := hK.off 5 _ rfl rfl
    clear hK
    go_simp
    exact hC _ hS trivial
   refine RelS.fromS_some 2 rfl rfl (fun s a wq hlo hhi hS hK K hC => ?_) ?_
   ·refine Reg.step_on (by rfl) ?_
    clear hlo hhi
    have e59 := hK.slot 1 _ _ _ rfl (by kernel_rfl)
    have zz := Joins.cell_of_block (hS.kk _ _ _ _ (by decide) (by decide) (by decide) (by decide) (by decide) (by decide) HO.out) 4
    clear hK
    go_simp
    exact hC _ hS trivial
   refine RelS.fromS_some 3 rfl rfl (fun s a wq hlo hhi hS hK K hC => ?_) ?_
   ·refine Reg.step_on (by rfl) ?_
    obtain rfl : s = 0 := Nat.le_antisymm (Nat.le_trans hhi (Nat.le_of_eq (by kernel_rfl))) (Nat.le_trans (Nat.le_of_eq (by kernel_rfl)) hlo)
    clear hlo hhi
    have e58 := hK.slot 0 _ _ _ rfl (by kernel_rfl)
    have e60 := hK.slot 2 _ _ _ rfl (by kernel_rfl)
    clear hK
    go_simp
    obtain ⟨s1, s2, s3⟩ := hS
    go_at_call 47; (with_reducible refine (HP.out wq s1).mono ?_)
    rintro e w' ⟨rfl, h2, hk⟩
    exact hC _ ⟨h2, s2.kept hk h2.below, s3.trans (KK.of_keeps hk)⟩ trivial
   refine RelS.fromS_some 4 rfl rfl (fun s a wq hlo hhi hS hK K hC => ?_) ?_
   ·refine Reg.step_on (by rfl) ?_
    clear hlo hhi
    have e1 := hK.off 1 _ rfl rfl
    clear hK
    go_simp
    exact hC _ hS trivial
   refine RelS.fromS_some 5 rfl rfl (fun s a wq hlo hhi hS hK K hC => ?_) ?_
   ·refine Reg.step_on (by rfl) ?_
    clear hlo hhi
    have e5 := hK.off 5 _ rfl rfl
    clear hK
    go_simp
    exact hC _ hS trivial
   refine RelS.fromS_some 6 rfl rfl (fun s a wq hlo hhi hS hK K hC => ?_) ?_
   ·refine Reg.step_on (by rfl) ?_
    clear hlo hhi
    have e63 := hK.slot 5 _ _ _ rfl (by kernel_rfl)
    have zz := Joins.cell_of_block (hS.kk _ _ _ _ (by decide) (by decide) (by decide) (by decide) (by decide) (by decide) HO.out) 4
    clear hK
    go_simp
    exact hC _ hS trivial
   refine RelS.fromS_some 7 rfl rfl (fun s a wq hlo hhi hS hK K hC => ?_) ?_
   ·refine Reg.step_on (by rfl) ?_
    obtain rfl : s = 1 := Nat.le_antisymm (Nat.le_trans hhi (Nat.le_of_eq (by kernel_rfl))) (Nat.le_trans (Nat.le_of_eq (by kernel_rfl)) hlo)
    clear hlo hhi
    have e62 := hK.slot 4 _ _ _ rfl (by kernel_rfl)
    have e64 := hK.slot 6 _ _ _ rfl (by kernel_rfl)
    clear hK
    go_simp
    obtain ⟨s1, s2, s3⟩ := hS
    go_at_call 48; (with_reducible refine (HQ.out wq s2).mono ?_)
    rintro e w' ⟨rfl, h2, hk⟩
    exact hC _ ⟨s1.kept hk h2.below, h2, s3.trans (KK.of_dkeeps hk)⟩ trivial
   refine RelS.fromS_some 8 rfl rfl (fun s a wq hlo hhi hS hK K hC => ?_) ?_
   ·refine Reg.step_on (by rfl) ?_
    clear hlo hhi
    have e61 := hK.slot 3 _ _ _ rfl (by kernel_rfl)
    have e65 := hK.slot 7 _ _ _ rfl (by kernel_rfl)
    clear hK
    go_simp
    exact hC _ hS trivial
   refine RelS.fromS_some 9 rfl rfl (fun s a wq hlo hhi hS hK K hC => ?_) ?_
   ·refine Reg.step_on (by rfl) ?_
    clear hlo hhi
    have e66 := hK.slot 8 _ _ _ rfl (by kernel_rfl)
    clear hK
    go_simp
    exact hC _ hS trivial
   exact RelS.fromS_nil
  case r4okv => rfl
  case r4hlt => rfl
  case r4fin =>
   intro U wz hS hU
   clear hU
   simp only [Rel.inst, Nat.zero_add, Reg.putV, List.foldl_cons, List.foldl_nil, Act.put, List.setIfInBounds_toArray, List.set_cons_zero, List.set_cons_succ]
   have HS := Aside0.mk (show twoS w0 W1 gc gd a a' 2 wz from hS)
   clear hS
   go_wp2
   go_ret
   rw [HE.out]
   exact ⟨by first | rfl | (simp; done), HS.out.1, HS.out.2.1, HKB.out.trans HS.out.2.2⟩
 have e5 : (o.k == 5) = false := by simp [h5]
 have e5b : (o.k = 5) = False := eq_false h5
 have HE := Aside0.mk (show stepA a o = a by unfold stepA; simp [h1, h2, h3, h4, h5])
 clear h1 h2 h3 h4 h5
 go_wp2
 go_ret
 rw [HE.out]
 exact ⟨rfl, H1.out, H2.out, HKB.out⟩
end Go.Proofs.YtdlimghdimkadaaDoor.PAll
namespace Go.Proofs.YtdlimghdimkadaaDoor.PAll
open Go.RowKit Go.Proofs.YtdlimghdimkadaaDoorW.PrintWords Go.Proofs.YtdlimghdimkadaaDoorW.PrintLast Go.Proofs.YtdlimghdimkadaaDoorW.PrintMore
set_option linter.unusedSimpArgs false
set_option linter.unusedVariables false
attribute [local go_sem] max2_int min2_int max_two min_two max_three min_three max_four min_four
variable {w0 W : World} {gc : Nat} {a : AC}
def lebsG (B P Z R : Int) : Int := if rightG B P Z R = true then wrap64 (wrap64 (B - R) - 2) else 0
set_option maxRecDepth 100000 in
theorem lebs_is (B P Z R : Int) (W : World) : Calls Tryd.prog 25 #[gV B P Z R] W fun e w' => e = .returned (.int .i64 (lebsG B P Z R)) ∧ Below W.heap.size W w' := by
 have hu28 := Tryd.underlying37
 cases hg : rightG B P Z R with
 | false =>
  have HRG := Aside0.mk (fun W => right_is B P Z R W)
  rw [hg] at HRG
  have HE := Aside0.mk (show lebsG B P Z R = 0 by unfold lebsG; rw [hg]; rfl)
  clear hg
  go_enter Tryd.func25, Tryd.ntmps25
  go_upto_region 1 with (fail)
  generalize hW : W.alloc (.cells #[.int .i64 B, .int .i64 P, .int .i64 Z, .int .i64 R] 37) = W1
  have hb : Below W.heap.size W W1 := by rw [← hW]; exact below_alloc (Below.refl _ _) _
  have hg : W1.heap[W.heap.size]? = some (.cells #[.int .i64 B, .int .i64 P, .int .i64 Z, .int .i64 R] 37 (0, 0)) := by rw [← hW]; exact new_blk _ _ _
  have HB := Aside0.mk hb
  have a0 := Joins.cell_of_block hg 0
  have a1 := Joins.cell_of_block hg 1
  have a2 := Joins.cell_of_block hg 2
  have a3 := Joins.cell_of_block hg 3
  clear hW hb hg
  go_wp2_with (first
   | (go_at_call 28; (with_reducible refine (HRG.out _).mono ?_); rintro e w2 ⟨rfl, hb2⟩; have HB2 := Aside0.mk hb2; clear hb2))
  go_ret
  rw [HE.out]
  exact ⟨rfl, below_step HB.out HB2.out⟩
 | true =>
  have HRG := Aside0.mk (fun W => right_is B P Z R W)
  rw [hg] at HRG
  have HE := Aside0.mk (show lebsG B P Z R = wrap64 (wrap64 (B - R) - 2) by unfold lebsG; rw [hg]; rfl)
  clear hg
  go_enter Tryd.func25, Tryd.ntmps25
  go_upto_region 1 with (fail)
  generalize hW : W.alloc (.cells #[.int .i64 B, .int .i64 P, .int .i64 Z, .int .i64 R] 37) = W1
  have hb : Below W.heap.size W W1 := by rw [← hW]; exact below_alloc (Below.refl _ _) _
  have hg : W1.heap[W.heap.size]? = some (.cells #[.int .i64 B, .int .i64 P, .int .i64 Z, .int .i64 R] 37 (0, 0)) := by rw [← hW]; exact new_blk _ _ _
  have HB := Aside0.mk hb
  have HG := Aside0.mk hg
  have a0 := Joins.cell_of_block hg 0
  have a1 := Joins.cell_of_block hg 1
  have a2 := Joins.cell_of_block hg 2
  have a3 := Joins.cell_of_block hg 3
  clear hW hb hg
  go_wp2_with (first
   | (go_at_call 28; (with_reducible refine (HRG.out _).mono ?_); rintro e w2 ⟨rfl, hb2⟩; have HB2 := Aside0.mk hb2; have b0 := Joins.cell_of_block (keep_below HG.out hb2) 0; have b3 := Joins.cell_of_block (keep_below HG.out hb2) 3; clear hb2))
  go_ret
  rw [HE.out]
  exact ⟨rfl, below_step HB.out HB2.out⟩
def pageA (a : AC) (b n : Int) : List Int × Bool := if nextA a b ≤ n then ([], false) else ((readA a b n).1, (readA a b n).2 == 0)
abbrev lkC (gc : Nat) (g : Geo) : Array Value := #[cp gc, .int .i64 g.B, .int .i64 g.P, .int .i64 g.Z, .int .i64 g.R]
abbrev kp (gk : Nat) : Value := .pointer (some ⟨gk, 0, none⟩)
set_option maxRecDepth 100000 in
theorem page_is (h : Chip w0 W gc a) (gk : Nat) (hk : W.heap[gk]? = some (.cells (lkC gc a.g) 92 (0, 0))) (b n : Int) :
  Calls Tryd.prog 56 #[kp gk, .int .i64 b, .int .i64 n] W fun e w' => ∃ v : Value, e = .returned (.tuple #[v, .bool (pageA a b n).2]) ∧ Kd.R kB 5 w' W.heap.size (fun _ => True) v (pageA a b n).1 ∧ Below W.heap.size W w' := by
 have H := Aside0.mk h
 have HK := Aside0.mk hk
 have c0 := Joins.cell_of_block hk 0
 have HN := Aside0.mk (h.next b)
 clear h hk
 by_cases hn : nextA a b ≤ n
 ·have d0 : decide (nextA a b ≤ n) = true := decide_eq_true hn
  rw [show pageA a b n = ([], false) from if_pos hn]
  clear hn
  go_enter Tryd.func56, Tryd.ntmps56
  go_wp2_with (first
   | (go_at_call 24; (with_reducible refine HN.out.mono ?_); rintro e w1 ⟨rfl, hb1⟩; have HB1 := Aside0.mk hb1; clear hb1))
  go_ret2
  exact ⟨_, rfl, Kd.R_nil _ _ _ _ _, HB1.out⟩
 ·have d0 : decide (nextA a b ≤ n) = false := decide_eq_false hn
  rw [show pageA a b n = ((readA a b n).1, (readA a b n).2 == 0) from if_neg hn]
  clear hn
  have HR := Aside0.mk (fun (w1 : World) (hb : Below W.heap.size W w1) => (H.out.grow hb).read b n)
  generalize readA a b n = r at HR ⊢
  go_enter Tryd.func56, Tryd.ntmps56
  go_wp2_with (first
   | (go_at_call 24; (with_reducible refine HN.out.mono ?_); rintro e w1 ⟨rfl, hb1⟩; have HB1 := Aside0.mk hb1; have c1 := Joins.cell_of_block (keep_below HK.out hb1) 0; clear hb1)
   | (go_at_call 26; (with_reducible refine (HR.out _ HB1.out).mono ?_); rintro e w2 ⟨v, rfl, ho, hb2⟩; have HO := Aside0.mk (Kd.R_lower ho (below_size HB1.out)); have HB2 := Aside0.mk (below_step HB1.out hb2); clear ho hb2))
  go_ret2
  exact ⟨v, rfl, HO.out, HB2.out⟩
def usedA (a : AC) (b : Int) : Nat → Nat → Nat × Bool
 | 0, n => (n, false)
 | k + 1, n => if (pageA a b ((n : Int) + 2)).2 = true then usedA a b k (n + 1) else (n, (readA a b ((n : Int) + 2)).2 == 5)
set_option maxRecDepth 100000 in
set_option maxHeartbeats 4000000 in
theorem used_is (h : Chip w0 W gc a) (gk : Nat) (hk : W.heap[gk]? = some (.cells (lkC gc a.g) 92 (0, 0))) (b : Int) :
  Calls Tryd.prog 59 #[kp gk, .int .i64 b] W fun e w' => e = .returned (.tuple #[.int .i64 (usedA a b (a.g.P - 2) 0).1, .bool (usedA a b (a.g.P - 2) 0).2]) ∧ Below W.heap.size W w' := by
 have hgok := h.gok
 have H := Aside0.mk h
 have HK := Aside0.mk hk
 have HPG := Aside0.mk (fun (w1 : World) (hb : Below W.heap.size W w1) (n : Int) => page_is (H.out.grow hb) gk (keep_below HK.out hb) b n)
 have HRD := Aside0.mk (fun (w1 : World) (hb : Below W.heap.size W w1) (n : Int) => (H.out.grow hb).read b n)
 obtain ⟨_, ⟨hP1, hP2⟩, _⟩ := hgok
 have hwP : wrap64 ((a.g.P : Int) - 2) = ((a.g.P - 2 : Nat) : Int) := by unfold wrap64; omega
 have HW := Aside0.mk hwP
 obtain ⟨P2, hP⟩ : ∃ P2, a.g.P - 2 = P2 := ⟨_, rfl⟩
 have hPP : P2 ≤ 62 := by omega
 rw [hP] at HW ⊢
 have c2 : ∀ w1, Below W.heap.size W w1 → w1.cell? ⟨gk, 2, none⟩ = some (.int .i64 a.g.P) := fun w1 hb => Joins.cell_of_block (keep_below HK.out hb) 2
 have HC2 := Aside0.mk c2
 have c0 : ∀ w1, Below W.heap.size W w1 → w1.cell? ⟨gk, 0, none⟩ = some (cp gc) := fun w1 hb => Joins.cell_of_block (keep_below HK.out hb) 0
 have HC0 := Aside0.mk c0
 clear h hk hwP c2 c0
 go_enter Tryd.func59, Tryd.ntmps59
 go_upto_region 2 with (fail)
 go_loopw [6] (fun v6 wr => ∃ i : Nat, i ≤ P2 ∧ v6 = .int .i64 i ∧ Aside0 (usedA a b P2 0 = usedA a b (P2 - i) i) ∧ Aside0 (Below W.heap.size W wr)) (fun i _ => P2 - (intOf i).toNat)
 case atStart => exact ⟨0, Nat.zero_le _, rfl, ⟨rfl⟩, ⟨Below.refl _ _⟩⟩
 case round =>
  obtain ⟨i, hi, rfl, HM, HBr⟩ := hrel
  have z2 := HC2.out _ HBr.out
  have z0 := HC0.out _ HBr.out
  have hwp := HW.out
  by_cases hlt : i < P2
  ·have d0 : decide ((i : Int) < (P2 : Int)) = true := decide_eq_true (by omega)
   have hwi : wrap64 ((i : Int) + 2) = (i : Int) + 2 := by unfold wrap64; omega
   have HM2 := Aside0.mk (show usedA a b P2 0 = if (pageA a b ((i : Int) + 2)).2 = true then usedA a b (P2 - (i + 1)) (i + 1) else (i, (readA a b ((i : Int) + 2)).2 == 5) by
    rw [HM.out, show P2 - i = (P2 - (i + 1)) + 1 by omega]; rfl)
   have HP := Aside0.mk (HPG.out _ HBr.out ((i : Int) + 2))
   have HR := Aside0.mk (fun w1 hb => HRD.out w1 hb ((i : Int) + 2))
   cases hp : (pageA a b ((i : Int) + 2)).2 with
   | true =>
    have HM3 := Aside0.mk (HM2.out.trans (if_pos hp))
    rw [hp] at HP
    clear hp
    go_wp2_with (first
     | (go_at_call 56; (with_reducible refine HP.out.mono ?_); rintro e w1 ⟨v, rfl, -, hb1⟩; have HB1 := Aside0.mk (below_step HBr.out hb1); clear hb1))
    go_roundw
    case rel => exact ⟨i + 1, by omega, by push_cast; rfl, HM3, HB1⟩
    case measure => simp [intOf]; omega
   | false =>
    have HM3 := Aside0.mk (HM2.out.trans (if_neg (by rw [hp]; decide)))
    rw [hp] at HP
    clear hp
    generalize readA a b ((i : Int) + 2) = r at HR HM3
    go_wp2_with (first
     | (go_at_call 56; (with_reducible refine HP.out.mono ?_); rintro e w1 ⟨v, rfl, -, hb1⟩; have HB1 := Aside0.mk (below_step HBr.out hb1); have y0 := HC0.out _ HB1.out; clear hb1)
     | (go_at_call 26; (with_reducible refine (HR.out _ HB1.out).mono ?_); rintro e w2 ⟨v2, rfl, -, hb2⟩; have HB2 := Aside0.mk (below_step HB1.out hb2); clear hb2))
    go_ret2
    rw [HM3.out]
    exact ⟨rfl, HB2.out⟩
  ·obtain rfl : i = P2 := by omega
   have d0 : decide ((i : Int) < (i : Int)) = false := decide_eq_false (by omega)
   have hm := HM.out
   rw [Nat.sub_self] at hm
   have HM3 := Aside0.mk hm
   clear hm
   go_wp2
   go_ret2
   rw [HM3.out]
   exact ⟨rfl, HBr.out⟩
end Go.Proofs.YtdlimghdimkadaaDoor.PAll
namespace Go.Proofs.YtdlimghdimkadaaDoor.Plain
open Go Go.RowKit Go.Proofs.YtdlimghdimkadaaDoorW.PrintWords
theorem wrap64_of {n : Int} (h0 : -9223372036854775808 ≤ n) (h1 : n ≤ 9223372036854775807) : wrap64 n = n := by
 unfold wrap64; omega
theorem wrapU64_of {n : Int} (h0 : 0 ≤ n) (h1 : n < 18446744073709551616) : IntKind.u64.wrap n = n := by
 simp [IntKind.wrap, IntKind.signed, IntKind.bits]; omega
theorem wrapU32_of {n : Int} (h0 : 0 ≤ n) (h1 : n < 4294967296) : IntKind.u32.wrap n = n := by
 simp [IntKind.wrap, IntKind.signed, IntKind.bits]; omega
theorem rd_lt (l : List Int) (h : ∀ x ∈ l, 0 ≤ x ∧ x < 256) (i : Int) : 0 ≤ rd l i ∧ rd l i < 256 := by
 unfold rd
 rw [List.getD_eq_getElem?_getD]
 rcases hx : l[i.toNat]? with _ | x
 ·simp
 ·simp; exact h x (List.mem_of_getElem? hx)
theorem rd_at (l : List Int) (i : Nat) (h : i < l.length) : rd l (i : Int) = l[i] := by
 unfold rd; simp [h]
theorem xor32 (s t : BitVec 32) : Go.bits .xor .u32 (s.toNat : Int) (t.toNat : Int) = ((s ^^^ t).toNat : Int) := by
 unfold Go.bits
 have h := (s ^^^ t).isLt
 simp only [IntKind.bits, BitVec.ofInt_natCast, BitVec.ofNat_toNat, BitVec.setWidth_eq]
 exact wrapU32_of (by omega) (by omega)
theorem and32 (s t : BitVec 32) : Go.bits .and .u32 (s.toNat : Int) (t.toNat : Int) = ((s &&& t).toNat : Int) := by
 unfold Go.bits
 have h := (s &&& t).isLt
 simp only [IntKind.bits, BitVec.ofInt_natCast, BitVec.ofNat_toNat, BitVec.setWidth_eq]
 exact wrapU32_of (by omega) (by omega)
theorem odd32 (s : BitVec 32) : (Go.bits .and .u32 (s.toNat : Int) 1 = 1) ↔ s.getLsbD 0 = true := by
 have h := and32 s 1#32
 have e : ((1#32).toNat : Int) = 1 := rfl
 rw [e] at h
 rw [h, BitVec.toNat_and]
 simp [BitVec.getLsbD, Nat.testBit, Nat.and_one_is_mod]
 omega
theorem half32 (s : BitVec 32) : (Nat.cast s.toNat : Int) / (2 : Int) = (Nat.cast (s >>> 1).toNat : Int) := by
 simp [Nat.shiftRight_eq_div_pow]
theorem byte32 (x : Int) : x % 4294967296 = ((BitVec.ofInt 32 x).toNat : Int) := by
 rw [BitVec.toNat_ofInt]; simp; omega
theorem poly32 : (3988292384 : Int) = ((0xEDB88320#32).toNat : Int) := rfl
theorem ones32 : (4294967295 : Int) = ((0xFFFFFFFF#32).toNat : Int) := rfl
def crcStep (s : BitVec 32) : BitVec 32 := if s.getLsbD 0 then (s >>> 1) ^^^ 0xEDB88320#32 else s >>> 1
def steps : Nat → BitVec 32 → BitVec 32
 | 0, s => s
 | n + 1, s => steps n (crcStep s)
def feed (s : BitVec 32) (c : Int) : BitVec 32 := steps 8 (s ^^^ BitVec.ofInt 32 c)
def crc (l : List Int) : BitVec 32 := 0xFFFFFFFF#32 ^^^ l.foldl feed 0xFFFFFFFF#32
def putL (k : Nat) (n : Int) : List Int := (List.range k).map fun i => n / 256 ^ i % 256
def getN (l : List Int) : Nat → Int
 | 0 => 0
 | k + 1 => getN l k + l.getD k 0 * 256 ^ k
def getL (l : List Int) : Int := getN l (min l.length 8)
def Bytes (l : List Int) : Prop := ∀ x ∈ l, 0 ≤ x ∧ x < 256
theorem Bytes.getD {l : List Int} (h : Bytes l) (i : Nat) : 0 ≤ l.getD i 0 ∧ l.getD i 0 < 256 := by
 have := rd_lt l h i
 simpa [rd] using this
theorem Bytes.take {l : List Int} (h : Bytes l) (n : Nat) : Bytes (l.take n) := fun x hx => h x (List.mem_of_mem_take hx)
theorem Bytes.drop {l : List Int} (h : Bytes l) (n : Nat) : Bytes (l.drop n) := fun x hx => h x (List.mem_of_mem_drop hx)
theorem Bytes.append {l m : List Int} (h : Bytes l) (k : Bytes m) : Bytes (l ++ m) := fun x hx => (List.mem_append.1 hx).elim (h x) (k x)
theorem Bytes.putL (k : Nat) (n : Int) : Bytes (putL k n) := by
 intro x hx
 obtain ⟨i, _, rfl⟩ := List.mem_map.1 hx
 omega
theorem putL_length (k : Nat) (n : Int) : (putL k n).length = k := by simp [putL]
theorem putL_succ (k : Nat) (n : Int) : putL (k + 1) n = putL k n ++ [n / 256 ^ k % 256] := by simp [putL, List.range_succ]
theorem getN_bd {l : List Int} (h : Bytes l) : ∀ k, k ≤ 8 → 0 ≤ getN l k ∧ getN l k < 256 ^ k
 | 0, _ => by simp [getN]
 | k + 1, hk => by
  obtain ⟨h0, h1⟩ := getN_bd h k (by omega)
  obtain ⟨b0, b1⟩ := h.getD k
  simp only [getN]
  generalize l.getD k 0 = x at b0 b1 ⊢
  generalize getN l k = y at h0 h1 ⊢
  clear h
  have hk2 : k = 0 ∨ k = 1 ∨ k = 2 ∨ k = 3 ∨ k = 4 ∨ k = 5 ∨ k = 6 ∨ k = 7 := by omega
  rcases hk2 with rfl | rfl | rfl | rfl | rfl | rfl | rfl | rfl <;> simp at h1 ⊢ <;> omega
theorem getL_bd {l : List Int} (h : Bytes l) : 0 ≤ getL l ∧ getL l < 256 ^ (min l.length 8) := getN_bd h _ (by omega)
theorem getN_putL (n : Int) (m : Nat) : ∀ k, k ≤ m → k ≤ 8 → getN (putL m n) k = n % 256 ^ k
 | 0, _, _ => by simp [getN]
 | k + 1, hm, hk => by
  simp only [getN]
  rw [getN_putL n m k (by omega) (by omega)]
  have e : (putL m n).getD k 0 = n / 256 ^ k % 256 := by
   have hl : k < (List.range m).length := by simp; omega
   simp [putL, List.getD_eq_getElem?_getD, List.getElem?_map, List.getElem?_range (show k < m by omega)]
  rw [e]
  have hk2 : k = 0 ∨ k = 1 ∨ k = 2 ∨ k = 3 ∨ k = 4 ∨ k = 5 ∨ k = 6 ∨ k = 7 := by omega
  rcases hk2 with rfl | rfl | rfl | rfl | rfl | rfl | rfl | rfl <;> simp <;> omega
theorem getL_putL (n : Int) (k : Nat) (hk : k ≤ 8) : getL (putL k n) = n % 256 ^ k := by
 unfold getL
 rw [putL_length, Nat.min_eq_left hk, getN_putL n k k (Nat.le_refl _) hk]
theorem pow_is : ∀ i : Nat, i < 8 → (2 : Int) ^ (8 * i) = 256 ^ i := by
 intro i hi
 have hk2 : i = 0 ∨ i = 1 ∨ i = 2 ∨ i = 3 ∨ i = 4 ∨ i = 5 ∨ i = 6 ∨ i = 7 := by omega
 rcases hk2 with rfl | rfl | rfl | rfl | rfl | rfl | rfl | rfl <;> rfl
theorem or64 {a b : Int} (k : Nat) (hk : k < 8) (ha : 0 ≤ a ∧ a < 256 ^ k) (hb : 0 ≤ b ∧ b < 256) :
  Go.bits .or .u64 a (shl .u64 (IntKind.u64.wrap b) (8 * (k : Int))) = a + b * 256 ^ k := by
 have e1 : IntKind.u64.wrap b = b := wrapU64_of (by omega) (by omega)
 have e3 : min (8 * (k : Int)).toNat IntKind.u64.bits = 8 * k := by simp only [IntKind.bits]; omega
 have e4 : (2 : Int) ^ (8 * k) = 256 ^ k := by
  have hk2 : k = 0 ∨ k = 1 ∨ k = 2 ∨ k = 3 ∨ k = 4 ∨ k = 5 ∨ k = 6 ∨ k = 7 := by omega
  rcases hk2 with rfl | rfl | rfl | rfl | rfl | rfl | rfl | rfl <;> rfl
 have hb2 : 0 ≤ b * 256 ^ k ∧ b * 256 ^ k < 18446744073709551616 := by
  have hk2 : k = 0 ∨ k = 1 ∨ k = 2 ∨ k = 3 ∨ k = 4 ∨ k = 5 ∨ k = 6 ∨ k = 7 := by omega
  rcases hk2 with rfl | rfl | rfl | rfl | rfl | rfl | rfl | rfl <;> simp <;> omega
 have hs : a + b * 256 ^ k < 18446744073709551616 := by
  have hk2 : k = 0 ∨ k = 1 ∨ k = 2 ∨ k = 3 ∨ k = 4 ∨ k = 5 ∨ k = 6 ∨ k = 7 := by omega
  rcases hk2 with rfl | rfl | rfl | rfl | rfl | rfl | rfl | rfl <;> simp at ha ⊢ <;> omega
 unfold shl
 rw [e1, e3, e4, wrapU64_of hb2.1 hb2.2]
 obtain ⟨x, rfl⟩ : ∃ x : Nat, a = x := ⟨a.toNat, by omega⟩
 obtain ⟨y, rfl⟩ : ∃ y : Nat, b = y := ⟨b.toNat, by omega⟩
 have hx : x < 2 ^ (8 * k) := by
  have h2 := ha.2
  have hk2 : k = 0 ∨ k = 1 ∨ k = 2 ∨ k = 3 ∨ k = 4 ∨ k = 5 ∨ k = 6 ∨ k = 7 := by omega
  rcases hk2 with rfl | rfl | rfl | rfl | rfl | rfl | rfl | rfl <;> simp at h2 ⊢ <;> omega
 have hor : x ||| (y * 256 ^ k) = x + y * 256 ^ k := by
  have h2 := Nat.shiftLeft_add_eq_or_of_lt hx y
  have e5 : (256 : Nat) ^ k = 2 ^ (8 * k) := by
   have hk2 : k = 0 ∨ k = 1 ∨ k = 2 ∨ k = 3 ∨ k = 4 ∨ k = 5 ∨ k = 6 ∨ k = 7 := by omega
   rcases hk2 with rfl | rfl | rfl | rfl | rfl | rfl | rfl | rfl <;> rfl
  rw [Nat.shiftLeft_eq] at h2
  rw [e5, Nat.or_comm, ← h2, Nat.add_comm]
 have e6 : ((y : Int) * 256 ^ k) = ((y * 256 ^ k : Nat) : Int) := by simp
 rw [e6] at hb2 hs ⊢
 show IntKind.u64.wrap (((BitVec.ofInt 64 (x : Int)) ||| (BitVec.ofInt 64 ((y * 256 ^ k : Nat) : Int))).toNat : Int) = _
 rw [BitVec.ofInt_natCast, BitVec.ofInt_natCast, BitVec.toNat_or, BitVec.toNat_ofNat, BitVec.toNat_ofNat, Nat.mod_eq_of_lt (by omega), Nat.mod_eq_of_lt (by omega), hor, wrapU64_of (by omega) (by omega)]
 simp
def frameL (l : List Int) : List Int × Int :=
 if l.length = 0 ∨ 1024 < l.length then ([], 22) else (putL 2 l.length ++ putL 4 (crc l).toNat ++ l, 0)
def unframeL (l : List Int) : List Int × Int × Bool :=
 if l.length < 6 then ([], 0, false)
 else if getL (l.take 2) = 0 ∨ 1024 < getL (l.take 2) ∨ (l.length : Int) - 6 < getL (l.take 2) then ([], 0, false)
 else if ((crc ((l.take (6 + getL (l.take 2)).toNat).drop 6)).toNat : Int) = getL ((l.take 6).drop 2) then ((l.take (6 + getL (l.take 2)).toNat).drop 6, 6 + getL (l.take 2), true)
 else ([], 0, false)
theorem unframe_parts (A C p rest : List Int) (hA : A.length = 2) (hC : C.length = 4) (hn : getL A = (p.length : Int)) (h0 : p.length ≠ 0) (h1 : p.length ≤ 1024) :
  unframeL (A ++ C ++ p ++ rest) = if (((crc p).toNat : Nat) : Int) = getL C then (p, 6 + (p.length : Int), true) else ([], 0, false) := by
 have e1 : (A ++ C ++ p ++ rest).take 2 = A := by
  rw [List.append_assoc, List.append_assoc, List.take_left' hA]
 have e2 : ((A ++ C ++ p ++ rest).take 6).drop 2 = C := by
  rw [List.append_assoc, List.take_left' (by rw [List.length_append]; omega), List.drop_left' hA]
 have e3 : ((A ++ C ++ p ++ rest).take (6 + (p.length : Int)).toNat).drop 6 = p := by
  rw [List.take_left' (by simp only [List.length_append]; omega), List.drop_left' (by rw [List.length_append]; omega)]
 unfold unframeL
 rw [if_neg (by simp only [List.length_append]; omega), e1, hn, e2, e3, if_neg (by simp only [List.length_append]; omega)]
theorem frame_parts {l : List Int} (h0 : l.length ≠ 0) (h1 : l.length ≤ 1024) : frameL l = (putL 2 l.length ++ putL 4 (crc l).toNat ++ l, 0) := by
 unfold frameL; rw [if_neg (by omega)]
theorem getL_len {n : Nat} (h : n ≤ 1024) : getL (putL 2 (n : Int)) = (n : Int) := by
 rw [getL_putL _ _ (by omega)]; omega
theorem getL_crc (l : List Int) : getL (putL 4 (((crc l).toNat : Nat) : Int)) = (((crc l).toNat : Nat) : Int) := by
 rw [getL_putL _ _ (by omega)]
 have := (crc l).isLt
 omega
theorem unframe_frame {l : List Int} (rest : List Int) (h0 : l.length ≠ 0) (h1 : l.length ≤ 1024) : unframeL ((frameL l).1 ++ rest) = (l, 6 + (l.length : Int), true) := by
 rw [frame_parts h0 h1]
 rw [unframe_parts _ _ l rest (putL_length _ _) (putL_length _ _) (getL_len h1) h0 h1, getL_crc, if_pos rfl]
def blankL (l : List Int) : Bool := l.all (· == 255)
def fillL (l : List Int) (n : Nat) : List Int := l.take n ++ List.replicate (n - l.length) 255
theorem fillL_length (l : List Int) (n : Nat) : (fillL l n).length = n := by simp only [fillL, List.length_append, List.length_take, List.length_replicate]; omega
theorem fillL_succ (l : List Int) (n : Nat) : fillL l (n + 1) = fillL l n ++ [if n < l.length then rd l (n : Int) else 255] := by
 unfold fillL
 by_cases h : n < l.length
 ·rw [if_pos h, rd_at l n h, List.take_succ_eq_append_getElem h, show n + 1 - l.length = 0 by omega, show n - l.length = 0 by omega]
  simp
 ·rw [if_neg h, List.take_of_length_le (by omega), List.take_of_length_le (by omega), show n + 1 - l.length = (n - l.length) + 1 by omega, List.replicate_succ', List.append_assoc]
end Go.Proofs.YtdlimghdimkadaaDoor.Plain

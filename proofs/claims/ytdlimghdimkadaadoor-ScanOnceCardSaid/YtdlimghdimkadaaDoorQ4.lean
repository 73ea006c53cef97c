/- What the law ScanOnce rests on, part 4: texts of the session and what the print wrote for it, one behind the other; only what the proof names is kept. -/
import Derived.Test.YtdlimghdimkadaaDoorQ2
import Derived.Test.YtdlimghdimkadaaDoorQ3
namespace Go.Proofs.YtdlimghdimkadaaDoor.RelS
open Go Go.RowKit Go.Proofs.YtdlimghdimkadaaDoorW.PrintLast Go.Proofs.YtdlimghdimkadaaDoorW.PrintWords Go.Proofs.YtdlimghdimkadaaDoor.Reg Go.Proofs.YtdlimghdimkadaaDoor.Rel
def cnt (Z : List Nat) (b : Nat → Bool) : Nat := Z.countP b
def loZ (Z B : List Nat) (n i : Nat) : Nat := Z.countP fun z => (deps B n i).contains z
def hiZ (Z B : List Nat) (n i : Nat) : Nat := Z.countP fun z => !(laters B n i).contains z && !(z == i)
def nxZ (Z : List Nat) (i s : Nat) : Nat := if Z.contains i then s + 1 else s
theorem cnt_up (b : Nat → Bool) (i : Nat) (hb : b i = false) : ∀ (Z : List Nat), Z.Nodup → cnt Z (up b i) = nxZ Z i (cnt Z b)
 | [], _ => by simp [cnt, nxZ]
 | z :: r, h => by
  obtain ⟨h1, h2⟩ := List.nodup_cons.1 h
  have ih := cnt_up b i hb r h2
  unfold cnt nxZ at ih ⊢
  rw [List.countP_cons, List.countP_cons, ih]
  by_cases hz : z = i
  ·subst hz
   rw [up_self, hb]
   have h3 : r.contains z = false := by simpa using h1
   have h4 : (z :: r).contains z = true := by simp
   rw [h3, h4]
   simp
  ·rw [up_ne hz]
   have h4 : (z :: r).contains i = r.contains i := by
    rw [List.contains_cons]
    have : (i == z) = false := by simpa using fun h => hz h.symm
    rw [this, Bool.false_or]
   rw [h4]
   cases r.contains i <;> simp <;> omega
def StepS (P : Program) (ops : Array Oper) (Q : Exit → Act → World → Prop) (B : List Nat) (n : Nat) (a0 : Act) (V : List Ent) (Z : List Nat) (S : Nat → World → Prop) (G : World → World → Prop) (i : Nat) (oi : Oper) : Prop :=
 (match oi.dst with
   | some t => ∃ (k : Nat) (e : Value ⊕ (Value → World → Prop)), V[k]? = some (i, t, e) ∧ ∀ s a w, loZ Z B n i ≤ s → s ≤ hiZ Z B n i → S s w → Knows a0 V (deps B n i) (laters B n i) a w → ∀ K : Act → World → Prop,
     (∀ v w', S (nxZ Z i s) w' → G w w' → (match e with | .inl c => v = c | .inr q => q v w') → K (a.put (some t) v) w') →
     if Region.wanted oi (yielded ops a.tmps) = true then Oper.wp P oi a w K Q else K (a.put (some t) undef) w
   | none => ((inst U0 0 V).all fun e => !(e.1 == i)) = true ∧ ∀ s a w, loZ Z B n i ≤ s → s ≤ hiZ Z B n i → S s w → Knows a0 V (deps B n i) (laters B n i) a w → ∀ K : Act → World → Prop, (∀ w', S (nxZ Z i s) w' → G w w' → K a w') →
     if Region.wanted oi (yielded ops a.tmps) = true then Oper.wp P oi a w K Q else K a w)
section
variable {P : Program} {ops : Array Oper} {Q : Exit → Act → World → Prop} {T : Bool × List (List Nat × List Nat)} {B : List Nat}
theorem relS_region {id n : Nat} {a0 : Act} {w0 : World} (V : List Ent) (Z : List Nat) (S : Nat → World → Prop) (G : World → World → Prop) (hm : P.follows .mixedOrders = true) (hn : ops.size = n)
  (hT : rtab .any ops = T) (hw : waitsOk T.2 B = true) (hk : baseOk T.2 (List.range n) = true) (hl : T.2.length = n)
  (hZ : Z.Nodup) (hZn : Z.all (fun z => decide (z < n)) = true) (h0 : S 0 w0.drew) (hst : ∀ (k : Nat) (i : Nat) (t : Tmp) (q : Value → World → Prop), V[k]? = some (i, t, .inr q) → ∀ v w w', G w w' → q v w → q v w')
  (hs : ∀ i ∈ List.range n, ∃ oi, ops[i]? = some oi ∧ StepS P ops Q B n a0 V Z S G i oi) (hV : okV (inst U0 0 V) a0.tmps.size = true) (hlt : (inst U0 0 V).all (fun e => decide (e.1 < n)) = true)
  (hend : ∀ U w, S Z.length w → (∀ (k : Nat) (i : Nat) (t : Tmp) (q : Value → World → Prop), V[k]? = some (i, t, .inr q) → q (U k) w) → Q .normal (putV a0 (inst U 0 V)) w) : (Code.region id ops true).wp P Q a0 w0 := by
 have hVU : ∀ U, okV (inst U 0 V) a0.tmps.size = true := fun U => by rw [okV_key (inst_key (U := U) (U' := U0))]; exact hV
 refine start_ (n := n) (S := fun _ => True) (ds := []) (Array.replicate n false) hm hn rfl trivial (fun _ => ?_)
 refine inv_ (T := T) (B := B) (md := .any) (List.range n) (fun b a w => ∃ U, a = putSel a0 b (inst U 0 V) ∧ S (cnt Z b) w ∧ ∀ (k : Nat) (i : Nat) (t : Tmp) (q : Value → World → Prop), V[k]? = some (i, t, .inr q) → b i = true → q (U k) w) hT hw hk ?_ ?_ ?_ ?_
 ·rw [Bool.and_eq_true, beq_iff_eq, beq_iff_eq]
  refine ⟨?_, by simp⟩
  apply List.ext_getElem?
  intro j
  simp only [lof, hl]
  by_cases hj : j < n
  ·simp [hj]
  ·simp [hj]
 ·refine ⟨U0, ?_, by rw [show cnt Z (fun _ => false) = 0 by simp [cnt]]; exact h0, fun _ _ _ _ _ hb => by cases hb⟩
  have : ∀ (V : List (Nat × Tmp × Value)) (a : Act), putSel a (fun _ => false) V = a := by
   intro V
   induction V with
   | nil => intro a; rfl
   | cons e r ih => intro a; unfold putSel; simpa using ih a
  exact (this _ a0).symm
 ·intro i hi b a w hI hb hdep hlat
  obtain ⟨U, rfl, hS, hU⟩ := hI
  obtain ⟨oi, ho, hd⟩ := hs i hi
  refine ⟨oi, ho, fun K hK => ?_⟩
  have hin : ∀ j, j < n → (List.range n).contains j = true := fun j hj => by simp [hj]
  have hD : ∀ j, (deps B n i).contains j = true → b j = true := fun j hj => by
   have h1 := List.contains_iff_mem.1 hj
   obtain ⟨h2, h3⟩ := List.mem_filter.1 h1
   exact hdep j (by rw [hin j (List.mem_range.1 h2), h3]; rfl)
  have hL : ∀ j, (laters B n i).contains j = true → b j = false := fun j hj => by
   have h1 := List.contains_iff_mem.1 hj
   obtain ⟨h2, h3⟩ := List.mem_filter.1 h1
   exact hlat j (by rw [hin j (List.mem_range.1 h2), h3]; rfl)
  have hslot : ∀ (k : Nat) (e : Nat × Tmp × Value), (inst U 0 V)[k]? = some e → (deps B n i).contains e.1 = true → (putSel a0 b (inst U 0 V)).tmps[e.2.1]? = some e.2.2 := by
   intro k e hk hDe
   obtain ⟨h1, h2⟩ := okV_at (hVU U) hk
   refine putSel_on k hk ?_ (hD _ hDe) h2
   rw [List.all_append, Bool.and_eq_true] at h1
   refine List.all_eq_true.2 (fun x hx => ?_)
   have := List.all_eq_true.1 h1.2 x hx
   rw [Bool.and_eq_true] at this
   exact this.2
  have hK0 : Knows a0 V (deps B n i) (laters B n i) (putSel a0 b (inst U 0 V)) w := by
   refine ⟨fun t v ht h0t => ?_, fun t v j hj ht h0t => ?_, fun k i t v hk hDe => hslot k (i, t, v) (inst_inl hk) hDe, fun k i t q hk hDe => ⟨U k, ?_, hU k i t q hk (hD _ hDe)⟩⟩
   ·rw [putSel_off (by rw [all_key (p := fun z => !(z.2 == t)) (inst_key (U := U) (U' := U0))]; exact ht)]; exact h0t
   ·rw [putSel_not (hL j hj) (by rw [all_key (p := fun z => !(z.2 == t) || z.1 == j) (inst_key (U := U) (U' := U0))]; exact ht)]; exact h0t
   ·have := hslot k _ (inst_inr (U := U) (m := 0) hk) hDe
    rw [Nat.zero_add] at this
    exact this
  have hlo : loZ Z B n i ≤ cnt Z b := List.countP_mono_left (fun z _ hz => hD z hz)
  have hhi : cnt Z b ≤ hiZ Z B n i := List.countP_mono_left (fun z _ hz => by
   have h1 : (laters B n i).contains z = false := by
    cases hc : (laters B n i).contains z with
    | false => rfl
    | true => rw [hL z hc] at hz; cases hz
   have h2 : (z == i) = false := by
    simp only [beq_eq_false_iff_ne]
    rintro rfl
    rw [hb] at hz
    cases hz
   rw [h1, h2]
   rfl)
  have hcu := cnt_up b i hb Z hZ
  unfold StepS at hd
  rcases hdst : oi.dst with _ | t
  ·rw [hdst] at hd
   obtain ⟨hv, hd⟩ := hd
   have := hd (cnt Z b) (putSel a0 b (inst U 0 V)) w hlo hhi hS hK0 (fun a w => K a w) (fun w' hS' hG => ?_)
   ·exact this
   ·have h9 := hK (putSel a0 b (inst U 0 V)) w' ⟨U, ?_, by rw [hcu]; exact hS', fun k j t q hk hbj => ?_⟩
    ·exact h9
    ·have := putSel_none (a := a0) (b := b) (v := undef) (i := i) (L := inst U 0 V) (by rw [all_key (p := fun z => !(z.1 == i)) (inst_key (U := U) (U' := U0))]; exact hv)
     exact this
    ·refine hst k j t q hk _ _ _ hG (hU k j t q hk ?_)
     by_cases hji : j = i
     ·exfalso
      subst hji
      obtain ⟨v, hg⟩ := inst_get (U := U0) hk
      have := List.all_eq_true.1 hv _ (List.mem_of_getElem? hg)
      simp at this
     ·rwa [up_ne hji] at hbj
  ·rw [hdst] at hd
   obtain ⟨k, e, hk, hd⟩ := hd
   refine hd (cnt Z b) (putSel a0 b (inst U 0 V)) w hlo hhi hS hK0 K (fun v w' hS' hG hv => ?_)
   cases e with
   | inl c =>
    obtain rfl : v = c := hv
    have hk1 := inst_inl (U := U) (m := 0) hk
    obtain ⟨h1, _⟩ := okV_at (hVU U) hk1
    refine hK _ w' ⟨U, ?_, by rw [hcu]; exact hS', fun k' j t' q hk' hbj => ?_⟩
    ·refine putSel_upk (L := inst U 0 V) (L' := inst U 0 V) k hb hk1 ?_ h1
     obtain ⟨hk3, hk4⟩ := List.getElem?_eq_some_iff.1 hk1
     rw [← hk4, List.set_getElem_self]
    ·refine hst k' j t' q hk' _ _ _ hG (hU k' j t' q hk' ?_)
     by_cases hji : j = i
     ·exfalso
      subst hji
      have hkk : k' ≠ k := by
       rintro rfl
       rw [hk] at hk'
       simp at hk'
      exact okV_ne (hVU U) hk1 (inst_inr (U := U) (m := 0) hk') (fun h => hkk h)
     ·rwa [up_ne hji] at hbj
   | inr q =>
    have hk1 := inst_inr (U := U) (m := 0) hk
    obtain ⟨h1, _⟩ := okV_at (hVU U) hk1
    refine hK _ w' ⟨fun j => if j = 0 + k then v else U j, ?_, by rw [hcu]; exact hS', fun k' j t' q' hk' hbj => ?_⟩
    ·exact putSel_upk (L := inst U 0 V) k hb hk1 (inst_set hk) h1
    ·rw [Nat.zero_add]
     by_cases hkk : k' = k
     ·subst hkk
      rw [hk] at hk'
      simp only [Option.some.injEq, Prod.mk.injEq, Sum.inr.injEq] at hk'
      obtain ⟨rfl, rfl, rfl⟩ := hk'
      simp only [if_true]
      exact hv
     ·simp only [if_neg hkk]
      refine hst k' j t' q' hk' _ _ _ hG (hU k' j t' q' hk' ?_)
      by_cases hji : j = i
      ·exfalso
       subst hji
       exact okV_ne (hVU U) hk1 (inst_inr (U := U) (m := 0) hk') (fun h => hkk h)
      ·rwa [up_ne hji] at hbj
 ·intro b a w hb hI
  obtain ⟨U, rfl, hS, hU⟩ := hI
  rw [putSel_all (fun e he => hb e.1 (by
   have h2 : (inst U 0 V).all (fun e => decide (e.1 < n)) = true := by rw [all_key (p := fun z => decide (z.1 < n)) (inst_key (U := U) (U' := U0))]; exact hlt
   have := List.all_eq_true.1 h2 e he
   simp only [decide_eq_true_eq] at this
   simp [this]))]
  refine hend U w (by
   have h9 : cnt Z b = Z.length := List.countP_eq_length.2 (fun z hz => hb z (by
    have := List.all_eq_true.1 hZn z hz
    simp only [decide_eq_true_eq] at this
    simp [this]))
   rw [← h9]; exact hS) (fun k i t q hk => hU k i t q hk (hb i ?_))
  obtain ⟨v, hg⟩ := inst_get (U := U0) hk
  have := List.all_eq_true.1 hlt _ (List.mem_of_getElem? hg)
  simp only [decide_eq_true_eq] at this
  simp [this]
def FromS (P : Program) (ops : Array Oper) (Q : Exit → Act → World → Prop) (B : List Nat) (n : Nat) (a0 : Act) (V : List Ent) (Z : List Nat) (S : Nat → World → Prop) (G : World → World → Prop) : Nat → List Oper → Prop
 | _, [] => True
 | i, o :: r => StepS P ops Q B n a0 V Z S G i o ∧ FromS P ops Q B n a0 V Z S G (i + 1) r
theorem fromS_get {n : Nat} {a0 : Act} {V : List Ent} {Z : List Nat} {S : Nat → World → Prop} {G : World → World → Prop} : ∀ (l : List Oper) (i : Nat), FromS P ops Q B n a0 V Z S G i l → (∀ j, l[j]? = ops[i + j]?) → ∀ j, j < l.length → ∃ oi, ops[i + j]? = some oi ∧ StepS P ops Q B n a0 V Z S G (i + j) oi
 | [], _, _, _, j, hj => by simp at hj
 | o :: r, i, h, hg, 0, _ => by
  have h0 := hg 0
  simp only [List.getElem?_cons_zero, Nat.add_zero] at h0
  exact ⟨o, h0.symm, h.1⟩
 | o :: r, i, h, hg, j + 1, hj => by
  have h2 := fromS_get r (i + 1) h.2 (fun m => by
   have := hg (m + 1)
   simp only [List.getElem?_cons_succ] at this
   rw [this, show i + (m + 1) = i + 1 + m by omega]) j (by simp at hj; omega)
  rwa [show i + 1 + j = i + (j + 1) by omega] at h2
theorem fromS_nil {n i : Nat} {a0 : Act} {V : List Ent} {Z : List Nat} {S : Nat → World → Prop} {G : World → World → Prop} : FromS P ops Q B n a0 V Z S G i [] := trivial
theorem fromS_some {n i : Nat} {a0 : Act} {V : List Ent} {Z : List Nat} {S : Nat → World → Prop} {G : World → World → Prop} {o : Oper} {r : List Oper} {t : Tmp} {v : Value} (k : Nat) (ht : o.dst = some t) (hk : V[k]? = some (i, t, .inl v))
  (h : ∀ s a w, loZ Z B n i ≤ s → s ≤ hiZ Z B n i → S s w → Knows a0 V (deps B n i) (laters B n i) a w → ∀ K : Act → World → Prop, (∀ w', S (nxZ Z i s) w' → G w w' → K (a.put (some t) v) w') → if Region.wanted o (yielded ops a.tmps) = true then Oper.wp P o a w K Q else K (a.put (some t) undef) w)
  (hr : FromS P ops Q B n a0 V Z S G (i + 1) r) : FromS P ops Q B n a0 V Z S G i (o :: r) := by
 refine ⟨?_, hr⟩
 unfold StepS
 rw [ht]
 exact ⟨k, _, hk, fun s a w hlo hhi hS hK K hC => h s a w hlo hhi hS hK K (fun w' hS' hG => hC v w' hS' hG rfl)⟩
theorem fromS_rel {n i : Nat} {a0 : Act} {V : List Ent} {Z : List Nat} {S : Nat → World → Prop} {G : World → World → Prop} {o : Oper} {r : List Oper} {t : Tmp} {q : Value → World → Prop} (k : Nat) (ht : o.dst = some t) (hk : V[k]? = some (i, t, .inr q))
  (h : ∀ s a w, loZ Z B n i ≤ s → s ≤ hiZ Z B n i → S s w → Knows a0 V (deps B n i) (laters B n i) a w → ∀ K : Act → World → Prop, (∀ v w', S (nxZ Z i s) w' → G w w' → q v w' → K (a.put (some t) v) w') → if Region.wanted o (yielded ops a.tmps) = true then Oper.wp P o a w K Q else K (a.put (some t) undef) w)
  (hr : FromS P ops Q B n a0 V Z S G (i + 1) r) : FromS P ops Q B n a0 V Z S G i (o :: r) := by
 refine ⟨?_, hr⟩
 unfold StepS
 rw [ht]
 exact ⟨k, _, hk, h⟩
theorem fromS_none {n i : Nat} {a0 : Act} {V : List Ent} {Z : List Nat} {S : Nat → World → Prop} {G : World → World → Prop} {o : Oper} {r : List Oper} (ht : o.dst = none) (hk : ((inst U0 0 V).all fun e => !(e.1 == i)) = true)
  (h : ∀ s a w, loZ Z B n i ≤ s → s ≤ hiZ Z B n i → S s w → Knows a0 V (deps B n i) (laters B n i) a w → ∀ K : Act → World → Prop, (∀ w', S (nxZ Z i s) w' → G w w' → K a w') → if Region.wanted o (yielded ops a.tmps) = true then Oper.wp P o a w K Q else K a w)
  (hr : FromS P ops Q B n a0 V Z S G (i + 1) r) : FromS P ops Q B n a0 V Z S G i (o :: r) := by
 refine ⟨?_, hr⟩
 unfold StepS
 rw [ht]
 exact ⟨hk, h⟩
theorem relS {id n : Nat} {a0 : Act} {w0 : World} (V : List Ent) (Z : List Nat) (S : Nat → World → Prop) (G : World → World → Prop) (hm : P.follows .mixedOrders = true) (hn : ops.size = n) (hc : regOk ops n = true)
  (hZ : Z.Nodup) (hZn : Z.all (fun z => decide (z < n)) = true) (h0 : S 0 w0.drew) (hst : ∀ (k : Nat) (i : Nat) (t : Tmp) (q : Value → World → Prop), V[k]? = some (i, t, .inr q) → ∀ v w w', G w w' → q v w → q v w')
  (hs : FromS P ops Q (Reg.bits ops) n a0 V Z S G 0 ops.toList) (hV : okV (inst U0 0 V) a0.tmps.size = true) (hlt : (inst U0 0 V).all (fun e => decide (e.1 < n)) = true)
  (hend : ∀ U w, S Z.length w → (∀ (k : Nat) (i : Nat) (t : Tmp) (q : Value → World → Prop), V[k]? = some (i, t, .inr q) → q (U k) w) → Q .normal (putV a0 (inst U 0 V)) w) : (Code.region id ops true).wp P Q a0 w0 := by
 unfold regOk at hc
 rw [Bool.and_eq_true, Bool.and_eq_true, beq_iff_eq] at hc
 refine relS_region V Z S G hm hn rfl hc.1.1 hc.1.2 hc.2 hZ hZn h0 hst (fun i hi => ?_) hV hlt hend
 have h2 := fromS_get ops.toList 0 hs (fun j => by simp) i (by simpa [hn] using hi)
 rwa [Nat.zero_add] at h2
end
end Go.Proofs.YtdlimghdimkadaaDoor.RelS
namespace Go.Proofs.YtdlimghdimkadaaDoor.PAll
open Go.RowKit Go.Proofs.YtdlimghdimkadaaDoorW.PrintWords Go.Proofs.YtdlimghdimkadaaDoorW.PrintLast Go.Proofs.YtdlimghdimkadaaDoorW.PrintMore
set_option linter.unusedSimpArgs false
set_option linter.unusedVariables false
attribute [local go_sem] max2_int min2_int max_two min_two max_three min_three max_four min_four
variable {w0 W : World} {gc gb : Nat} {gp : Nat → Nat} {m : Ch} {D : Nat → Nat → List Int}
abbrev gV (B P Z R : Int) : Value := .agg #[.int .i64 B, .int .i64 P, .int .i64 Z, .int .i64 R]
theorem infoF' : (Tryd.prog.info? 71).map (fun i => (i.zero, i.size, i.bytes)) = some (some (.agg #[.int .i64 0, .int .i64 0, .int .i64 0]), 3, 24) := by kernel_rfl
set_option maxRecDepth 100000 in
set_option maxHeartbeats 4000000 in
theorem clone_faults (A : Option Addr) (c : Nat) (l : List F3) (w : World) (hr : Kd.C kF w A l.length l) (hc : l.length ≤ c) (hb : l.length ≤ 1000000) :
  Calls Tryd.prog 30 #[.slice A l.length c] w fun e w' => ∃ v0_ : Value, e = .returned (v0_) ∧ Kd.R kF 71 w' w.heap.size (fun _ => True) v0_ l ∧ Below w.heap.size w w' := by
 have HR := Aside0.mk hr
 have HC := Aside0.mk hc
 have HBs := Aside0.mk hb
 clear hc hb
 rcases A with _ | ad
 ·have h0 : l = [] := by
   rcases Nat.eq_zero_or_pos l.length with h0 | h0
   ·exact List.eq_nil_of_length_eq_zero h0
   ·obtain ⟨ad, h, _⟩ := hr.2.2 h0
    cases h
  subst h0
  clear hr
  have hnil := fun W : World => Lib.run_eql_slice_nil (P := Tryd.prog) W 56 71 none 0 c 0 0 Tryd.underlying56
  go_enter Tryd.func30, Tryd.ntmps30
  go_wp2
  go_ret
  exact ⟨_, rfl, Kd.R_nil _ _ _ _ _, Below.refl _ _⟩
 ·clear hr
  have hnil := fun W : World => Lib.run_eql_slice_nil (P := Tryd.prog) W 56 71 (some ad) l.length c 0 0 Tryd.underlying56
  go_enter Tryd.func30, Tryd.ntmps30
  go_wp2_with (first
   | ((with_reducible refine gate_dst (N := 5) rfl ?_); refine Kd.R_lit kF w.heap.size 71 ?hg (N := 5) ?hd (xs := ([] : List F3)) (inner := []) (ok := fun _ => True) (okp := fun _ => True) ?hr ?hp (fun _ hk => hk) trivial (Below.refl _ _) (Nat.le_refl _) (by simp) ?_; (case hd => rfl); (case hg => rfl); (case hr => first | (go_simp; done) | (go_simp; rfl)); (case hp => exact (Reps.none _ _)); intro v1 w1 ho hb _ _; have HO := Aside0.mk ho; have HB := Aside0.mk hb; clear ho hb)
   | ((with_reducible refine gate_builtin (b := .append) (xs := #[.tmp 5, .tmp 6]) rfl ?_); at_builtin; refine Kd.R_append_rows kF (w0 := w) w.heap.size rfl (.tmp 5) (.tmp 6) 56 71 (.agg #[.int .i64 0, .int .i64 0, .int .i64 0]) 24 rfl Tryd.underlying56 infoF' rfl (by decide) (by decide) v1 [] l _ _ _ (fun _ => True) (fun _ => False) rfl rfl ?aO ?aR (fun _ _ h => h) (fun _ h => h.elim) ?aF ?aB ?aS ?aL ?_; (case aO => exact HO.out); (case aR => exact Kd.C_below HR.out HB.out); (case aF => exact fun _ _ => trivial); (case aB => exact HB.out); (case aS => exact below_size HB.out); (case aL => have := HBs.out; simp; omega); intro v2 w2 ho2 hb2 _ _; have HO2 := Aside0.mk ho2; have HB2 := Aside0.mk hb2; clear ho2 hb2))
  go_ret
  exact ⟨_, rfl, HO2.out, HB2.out⟩
theorem planOK_len {l : List F3} (h : planOK l = true) : l.length ≤ 256 := by
 unfold planOK at h
 simp only [Bool.and_eq_true, Bool.not_eq_true', decide_eq_false_iff_not] at h
 omega
theorem rightG_ok {g : Geo} (h : rightG g.B g.P g.Z g.R = true) : GOK g := by
 unfold rightG at h
 simp only [Bool.and_eq_true, decide_eq_true_eq] at h
 unfold GOK
 omega
def b0 : Bk := ⟨false, 0, 0, fun _ => ⟨0, .slice none 0 0⟩⟩
def m0 (g : Geo) (pv : Value) (pl : List F3) : Ch := ⟨g, pv, pl, 0, false, 0, 0, fun _ => b0⟩
def ncell (P : Nat) (i : Nat) (gp : Nat → Nat) (k : Nat) : Value :=
 if k % 4 = 0 then .bool false else if k % 4 = 1 then .int .i64 0 else if k % 4 = 2 then (if k / 4 < i then .slice (some ⟨gp (k / 4), 0, none⟩) P P else .slice none 0 0) else .int .i64 0
def cN (g : Geo) (i : Nat) (gp : Nat → Nat) : Array Value := Array.ofFn fun k : Fin (g.B * 4) => ncell g.P i gp k.val
theorem made_get (z : Array Value) (n k : Nat) (h : k < n) : (madeCells z n)[k]? = some (z[k % z.size]!) := by
 unfold madeCells
 rw [Array.getElem?_map, Array.getElem?_range, if_pos h]
 rfl
theorem cN_0 (g : Geo) (gp : Nat → Nat) : cN g 0 gp = madeCells (#[.bool false, .int .i64 0, .slice none 0 0, .int .i64 0]) (g.B * 4) := by
 apply Array.ext_getElem?
 intro i
 by_cases h : i < g.B * 4
 ·unfold cN
  rw [made_get _ _ _ h, Array.getElem?_ofFn, dif_pos h]
  unfold ncell
  have h4 : i % 4 = 0 ∨ i % 4 = 1 ∨ i % 4 = 2 ∨ i % 4 = 3 := by omega
  rcases h4 with h4 | h4 | h4 | h4 <;> simp [h4]
 ·rw [Array.getElem?_eq_none (by unfold cN; simp; omega), Array.getElem?_eq_none (by rw [size_madeCells]; omega)]
theorem cP_0 (P : Nat) : cP P b0 = madeCells (#[.int .i64 0, .slice none 0 0]) (P * 2) := by
 apply Array.ext_getElem?
 intro i
 by_cases h : i < P * 2
 ·rw [made_get _ _ _ h, cP_get _ _ _ h]
  unfold pcell b0
  have h4 : i % 2 = 0 ∨ i % 2 = 1 := by omega
  rcases h4 with h4 | h4 <;> simp [h4]
 ·rw [Array.getElem?_eq_none (by unfold cP; simp; omega), Array.getElem?_eq_none (by rw [size_madeCells]; omega)]
theorem cN_end (g : Geo) (gp : Nat → Nat) (pv : Value) (pl : List F3) : cN g g.B gp = cB gp (m0 g pv pl) := by
 unfold cN cB
 change (Array.ofFn fun k : Fin (g.B * 4) => ncell g.P g.B gp k.val) = Array.ofFn fun k : Fin (g.B * 4) => bcell gp (m0 g pv pl) k.val
 congr 1
 funext k
 unfold ncell bcell
 have hk : k.val / 4 < g.B := by have := k.isLt; omega
 rw [if_pos hk]
 rfl
theorem cN_set (g : Geo) (i : Nat) (gp : Nat → Nat) (x : Nat) : (cN g i gp).setIfInBounds (i * 4 + 2) (.slice (some ⟨x, 0, none⟩) g.P g.P) = cN g (i + 1) (fun y => if y = i then x else gp y) := by
 refine ofFn_set (ncell g.P i gp) _ _ _ ?_ (fun k hk => ?_)
 ·unfold ncell
  rw [show (i * 4 + 2) % 4 = 2 by omega, show (i * 4 + 2) / 4 = i by omega]
  simp
 ·unfold ncell
  have h4 : k % 4 = 0 ∨ k % 4 = 1 ∨ k % 4 = 2 ∨ k % 4 = 3 := by omega
  rcases h4 with h4 | h4 | h4 | h4
  ·simp [h4]
  ·simp [h4]
  ·have hne : k / 4 ≠ i := fun h => hk (by omega)
   simp only [h4, hne]
   by_cases hlt : k / 4 < i
   ·simp [hlt, show k / 4 < i + 1 by omega]
   ·simp [hlt, show ¬ k / 4 < i + 1 by omega]
  ·simp [h4]
theorem cN_get (g : Geo) (i : Nat) (gp : Nat → Nat) (k : Nat) (h : k < g.B * 4) : (cN g i gp)[k]? = some (ncell g.P i gp k) := by
 unfold cN
 rw [Array.getElem?_ofFn, dif_pos h]
theorem info_blk : (Tryd.prog.info? 79).map (fun i => (i.zero.map Value.cells, i.size, i.bytes)) = some (some #[.bool false, .int .i64 0, .slice none 0 0, .int .i64 0], 4, 48) := by kernel_rfl
theorem info_pg : (Tryd.prog.info? 88).map (fun i => (i.zero.map Value.cells, i.size, i.bytes)) = some (some #[.int .i64 0, .slice none 0 0], 2, 32) := by kernel_rfl
theorem make_rows (t e : TypeId) (z : Array Value) (s b n : Nat) (hu : Tryd.prog.underlying t = some (.slice e)) (hi : (Tryd.prog.info? e).map (fun i => (i.zero.map Value.cells, i.size, i.bytes)) = some (some z, s, b)) (hb : b * n ≤ 281474976710656) (hn : n ≤ 1000000) (w : World) :
  (Instr.makeSlice t (.int .i64 n) (.int .i64 n)).run Tryd.prog w = .ok (.slice (some ⟨w.heap.size, 0, none⟩) n n) (w.alloc (.cells (madeCells z (n * s)) e)) := by
 obtain ⟨i, hi1, hi2⟩ := Option.map_eq_some_iff.1 hi
 simp only [Prod.mk.injEq] at hi2
 obtain ⟨h1, h2, h3⟩ := hi2
 obtain ⟨z0, hz0, hz1⟩ := Option.map_eq_some_iff.1 h1
 have h := run_make (P := Tryd.prog) w t e i z0 hu hi1 hz0 .i64 .i64 (n : Int) (n : Int) (by omega) (Int.le_refl _) (by rw [h3]; exact (by have h7 : ((b * n : Nat) : Int) ≤ 281474976710656 := (by omega); rwa [Int.natCast_mul] at h7)) (by omega)
 simp only [Int.toNat_natCast, h2, hz1] at h
 exact h
set_option maxRecDepth 100000 in
theorem new_bad (B P Z R : Int) (A : Option Addr) (c : Nat) (l : List F3) (w : World) (hr : Kd.C kF w A l.length l) (hc : l.length ≤ c) (hbad : (rightG B P Z R && planOK l) = false) :
  Calls Tryd.prog 14 #[gV B P Z R, .slice A l.length c] w fun e w' => e = .returned (.tuple #[.pointer none, .int .i64 22]) ∧ Below w.heap.size w w' := by
 have HR := Aside0.mk hr
 have HC := Aside0.mk hc
 have hu28 := Tryd.underlying37
 clear hr hc
 cases hg : rightG B P Z R with
 | false =>
  have HRG := Aside0.mk (fun W => right_is B P Z R W)
  rw [hg] at HRG
  clear hg hbad
  go_enter Tryd.func14, Tryd.ntmps14
  go_upto_region 1 with (fail)
  generalize hW : w.alloc (.cells #[.int .i64 B, .int .i64 P, .int .i64 Z, .int .i64 R] 37) = W1
  have hb : Below w.heap.size w W1 := by rw [← hW]; exact below_alloc (Below.refl _ _) _
  have hg : W1.heap[w.heap.size]? = some (.cells #[.int .i64 B, .int .i64 P, .int .i64 Z, .int .i64 R] 37 (0, 0)) := by rw [← hW]; exact new_blk _ _ _
  have HB := Aside0.mk hb
  have a0 := Joins.cell_of_block hg 0
  have a1 := Joins.cell_of_block hg 1
  have a2 := Joins.cell_of_block hg 2
  have a3 := Joins.cell_of_block hg 3
  clear hW hb hg
  go_wp2_with (first
   | (go_at_call 28; (with_reducible refine (HRG.out _).mono ?_); rintro e w2 ⟨rfl, hb2⟩; have HB2 := Aside0.mk hb2; clear hb2))
  go_ret2
  exact ⟨rfl, below_step HB.out HB2.out⟩
 | true =>
  have hp : planOK l = false := by rw [hg] at hbad; simpa using hbad
  have HRG := Aside0.mk (fun W => right_is B P Z R W)
  rw [hg] at HRG
  have HRP := Aside0.mk (fun (W : World) (hb : Below w.heap.size w W) => show Calls Tryd.prog 29 #[.slice A l.length c] W fun e w' => e = .returned (.bool false) ∧ Below W.heap.size W w' by rw [← hp]; exact rightPlan_is A c l W (Kd.C_below HR.out hb) HC.out)
  clear hg hbad hp
  go_enter Tryd.func14, Tryd.ntmps14
  go_upto_region 1 with (fail)
  generalize hW : w.alloc (.cells #[.int .i64 B, .int .i64 P, .int .i64 Z, .int .i64 R] 37) = W1
  have hb : Below w.heap.size w W1 := by rw [← hW]; exact below_alloc (Below.refl _ _) _
  have hg : W1.heap[w.heap.size]? = some (.cells #[.int .i64 B, .int .i64 P, .int .i64 Z, .int .i64 R] 37 (0, 0)) := by rw [← hW]; exact new_blk _ _ _
  have HB := Aside0.mk hb
  have a0 := Joins.cell_of_block hg 0
  have a1 := Joins.cell_of_block hg 1
  have a2 := Joins.cell_of_block hg 2
  have a3 := Joins.cell_of_block hg 3
  clear hW hb hg
  go_wp2_with (first
   | (go_at_call 28; (with_reducible refine (HRG.out _).mono ?_); rintro e w2 ⟨rfl, hb2⟩; have HB2 := Aside0.mk (below_step HB.out hb2); clear hb2)
   | (go_at_call 29; (with_reducible refine (HRP.out _ HB2.out).mono ?_); rintro e w3 ⟨rfl, hb3⟩; have HB3 := Aside0.mk (below_step HB2.out hb3); clear hb3))
  go_ret2
  exact ⟨rfl, HB3.out⟩
set_option maxRecDepth 100000 in
set_option maxHeartbeats 8000000 in
theorem new_ok (g : Geo) (A : Option Addr) (c : Nat) (l : List F3) (w : World) (hr : Kd.C kF w A l.length l) (hc : l.length ≤ c) (hg : rightG g.B g.P g.Z g.R = true) (hp : planOK l = true) :
  Calls Tryd.prog 14 #[gV g.B g.P g.Z g.R, .slice A l.length c] w fun e w' => ∃ (gc gb : Nat) (gp : Nat → Nat) (pv : Value), e = .returned (.tuple #[cp gc, .int .i64 0]) ∧ St w w' gc gb gp (m0 g pv l) (fun _ _ => []) := by
 have hgok := rightG_ok hg
 have hlen := planOK_len hp
 have HR := Aside0.mk hr
 have HC := Aside0.mk hc
 have HGO := Aside0.mk hgok
 have HRG := Aside0.mk (fun W => right_is g.B g.P g.Z g.R W)
 rw [hg] at HRG
 have HRP := Aside0.mk (fun (W : World) (hb : Below w.heap.size w W) => show Calls Tryd.prog 29 #[.slice A l.length c] W fun e w' => e = .returned (.bool true) ∧ Below W.heap.size W w' by rw [← hp]; exact rightPlan_is A c l W (Kd.C_below HR.out hb) HC.out)
 have HCL := Aside0.mk (fun (W : World) (hb : Below w.heap.size w W) => clone_faults A c l W (Kd.C_below HR.out hb) HC.out (by omega))
 clear hr hc hg hp hlen
 obtain ⟨⟨hB1, hB2⟩, ⟨hP1, hP2⟩, ⟨hZ1, hZ2⟩⟩ := hgok
 have hmk : ∀ w, (Instr.makeSlice 72 (.int .i64 g.B) (.int .i64 g.B)).run Tryd.prog w = .ok (.slice (some ⟨w.heap.size, 0, none⟩) g.B g.B) (w.alloc (.cells (cN g 0 (fun _ => 0)) 79)) := fun w => by rw [cN_0]; exact make_rows _ _ _ 4 48 g.B Tryd.underlying72 info_blk (by omega) (by omega) w
 have hmk2 : ∀ w, (Instr.makeSlice 75 (.int .i64 g.P) (.int .i64 g.P)).run Tryd.prog w = .ok (.slice (some ⟨w.heap.size, 0, none⟩) g.P g.P) (w.alloc (.cells (cP g.P b0) 88)) := fun w => by rw [cP_0]; exact make_rows _ _ _ 2 32 g.P Tryd.underlying75 info_pg (by omega) (by omega) w
 have HMK := Aside0.mk hmk
 have HMK2 := Aside0.mk hmk2
 have hu28 := Tryd.underlying37
 have hu55 := Tryd.underlying74
 have hu60 := Tryd.underlying79
 clear hmk hmk2
 go_enter Tryd.func14, Tryd.ntmps14
 go_upto_region 1 with (fail)
 generalize hW : w.alloc (.cells #[.int .i64 g.B, .int .i64 g.P, .int .i64 g.Z, .int .i64 g.R] 37) = W1
 have hb : Below w.heap.size w W1 := by rw [← hW]; exact below_alloc (Below.refl _ _) _
 have hg : W1.heap[w.heap.size]? = some (.cells #[.int .i64 g.B, .int .i64 g.P, .int .i64 g.Z, .int .i64 g.R] 37 (0, 0)) := by rw [← hW]; exact new_blk _ _ _
 have HB := Aside0.mk hb
 have HG := Aside0.mk hg
 have a0 := Joins.cell_of_block hg 0
 have a1 := Joins.cell_of_block hg 1
 have a2 := Joins.cell_of_block hg 2
 have a3 := Joins.cell_of_block hg 3
 clear hW hb hg
 go_upto_region 3 with (first
  | (go_at_call 28; (with_reducible refine (HRG.out _).mono ?_); rintro e w2 ⟨rfl, hb2⟩; have HB2 := Aside0.mk hb2; clear hb2)
  | (go_at_call 29; (with_reducible refine (HRP.out _ (below_step HB.out HB2.out)).mono ?_); rintro e w3 ⟨rfl, hb3⟩; have HB3 := Aside0.mk (below_step HB2.out hb3); clear hb3))
 have HBw := Aside0.mk (below_step HB.out HB3.out)
 have HG3 := Aside0.mk (keep_below HG.out HB3.out)
 clear a0 a1 a2 a3
 refine Rel.tail (m := 7) [(0, 16, .inl ?r1v0), (1, 17, .inl ?r1v1), (2, 18, .inr (fun v w' => Kd.R kF 71 w' w.heap.size (fun _ => True) v l)), (3, 19, .inl ?r1v3), (4, 20, .inl ?r1v4), (5, 21, .inr (fun v w' => ∃ gx, v = .slice (some ⟨gx, 0, none⟩) g.B g.B ∧ w'.heap[gx]? = some (.cells (cN g 0 (fun _ => 0)) 79 (0, 0)) ∧ w3.heap.size ≤ gx)), (6, 22, .inr (fun v w' => ∃ gx pv, v = .agg #[.int .i64 g.B, .int .i64 g.P, .int .i64 g.Z, .int .i64 g.R, .slice (some ⟨gx, 0, none⟩) g.B g.B, pv, .int .i64 0, .bool false, .int .i64 0, .int .i64 0] ∧ w'.heap[gx]? = some (.cells (cN g 0 (fun _ => 0)) 79 (0, 0)) ∧ w3.heap.size ≤ gx ∧ Kd.R kF 71 w' w.heap.size (fun _ => True) pv l))] (fun w' => Below w3.heap.size w3 w') (fun w' w'' => Below w'.heap.size w' w'') (by rfl) rfl (by kernel_rfl) (by kernel_rfl) (by kernel_rfl) ?r1S (Rel.stable_inl (Rel.stable_inl (Rel.stable_inr (fun v w w' hb h => Kd.R_below h hb) (Rel.stable_inl (Rel.stable_inl (Rel.stable_inr (fun v w w' hb ⟨gx, h1, h2, h3⟩ => ⟨gx, h1, keep_below h2 hb, h3⟩) (Rel.stable_inr (fun v w w' hb ⟨gx, pv, h1, h2, h3, h4⟩ => ⟨gx, pv, h1, keep_below h2 hb, h3, Kd.R_below h4 hb⟩) Rel.stable_nil))))))) ?r1steps ?r1okv ?r1hlt ?r1fin
 case r1S => exact below_drew (Below.refl _ _)
 case r1steps =>
  refine Rel.from_some 0 rfl rfl (fun a wq hS hK K hC => ?_) ?_
  ·refine Reg.step_on (by rfl) ?_
   have e2 := hK.off 2 _ rfl rfl
   have hx := keep_below HG3.out hS
   have f0 := Joins.cell_of_block hx 0
   have f1 := Joins.cell_of_block hx 1
   have f2 := Joins.cell_of_block hx 2
   have f3 := Joins.cell_of_block hx 3
   clear hx
   clear hK
   go_simp
   exact hC _ hS (Below.refl _ _)
  refine Rel.from_some 1 rfl rfl (fun a wq hS hK K hC => ?_) ?_
  ·refine Reg.step_on (by rfl) ?_
   have e1 := hK.off 1 _ rfl rfl
   clear hK
   go_simp
   exact hC _ hS (Below.refl _ _)
  refine Rel.from_rel 2 rfl rfl (fun a wq hS hK K hC => ?_) ?_
  ·refine Reg.step_on (by rfl) ?_
   have e17 := hK.slot 1 _ _ _ rfl (by kernel_rfl)
   clear hK
   go_simp
   go_at_call 30; (with_reducible refine (HCL.out wq (below_step HBw.out hS)).mono ?_)
   rintro e w' ⟨v, rfl, ho, hb⟩
   exact hC v w' (below_step hS hb) hb (Kd.R_lower ho (below_size (below_step HBw.out hS)))
  refine Rel.from_some 3 rfl rfl (fun a wq hS hK K hC => ?_) ?_
  ·refine Reg.step_on (by rfl) ?_
   have e2 := hK.off 2 _ rfl rfl
   clear hK
   go_simp
   exact hC _ hS (Below.refl _ _)
  refine Rel.from_some 4 rfl rfl (fun a wq hS hK K hC => ?_) ?_
  ·refine Reg.step_on (by rfl) ?_
   have e19 := hK.slot 3 _ _ _ rfl (by kernel_rfl)
   have hx := keep_below HG3.out hS
   have f0 := Joins.cell_of_block hx 0
   have f1 := Joins.cell_of_block hx 1
   have f2 := Joins.cell_of_block hx 2
   have f3 := Joins.cell_of_block hx 3
   clear hx
   clear hK
   go_simp
   exact hC _ hS (Below.refl _ _)
  refine Rel.from_rel 5 rfl rfl (fun a wq hS hK K hC => ?_) ?_
  ·refine Reg.step_on (by rfl) ?_
   have e20 := hK.slot 4 _ _ _ rfl (by kernel_rfl)
   have hm := HMK.out wq
   clear hK
   go_simp
   exact hC _ _ (below_alloc hS _) (below_alloc (Below.refl _ _) _) ⟨_, rfl, new_blk _ _ _, below_size hS⟩
  refine Rel.from_rel 6 rfl rfl (fun a wq hS hK K hC => ?_) ?_
  ·refine Reg.step_on (by rfl) ?_
   have e16 := hK.slot 0 _ _ _ rfl (by kernel_rfl)
   obtain ⟨u18, e18, q18⟩ := hK.rel 2 _ _ _ rfl (by kernel_rfl)
   obtain ⟨u21, e21, q21⟩ := hK.rel 5 _ _ _ rfl (by kernel_rfl)
   obtain ⟨gx, rfl, hg1, hg2⟩ := q21
   obtain ⟨A8, c8, e8⟩ := Kd.R_slice q18
   subst e8
   clear hK
   go_simp
   exact hC _ _ hS (Below.refl _ _) ⟨gx, _, rfl, hg1, hg2, q18⟩
  exact Rel.from_nil
 case r1okv => rfl
 case r1hlt => rfl
 case r1fin =>
  intro U wz hS hU
  have q2 := hU 2 _ _ _ rfl
  have q5 := hU 5 _ _ _ rfl
  have q6 := hU 6 _ _ _ rfl
  clear hU
  simp only [Rel.inst, Nat.zero_add, Nat.reduceAdd, Reg.putV, List.foldl_cons, List.foldl_nil, Act.put, List.setIfInBounds_toArray, List.set_cons_zero, List.set_cons_succ]
  obtain ⟨gb, pv, eb, hgb, hgl, hpv⟩ := q6
  rw [eb]
  have HSB := Aside0.mk hS
  have HGB := Aside0.mk hgb
  have HGL := Aside0.mk hgl
  have HPV := Aside0.mk hpv
  clear hS hgb hgl eb q5 q2 hpv
  refine Rel.tail_cons (fun K hK => ?_)
  refine Reg.step_on (by rfl) ?_
  go_simp
  refine hK _ _ ?_
  clear hK
  refine Rel.tail_cons (fun K hK => ?_)
  refine Reg.step_on (by rfl) ?_
  go_simp
  refine hK _ _ ?_
  clear hK
  refine Rel.tail_nil ?_
  generalize hW : wz.alloc (.cells #[.int .i64 g.B, .int .i64 g.P, .int .i64 g.Z, .int .i64 g.R, .slice (some ⟨gb, 0, none⟩) g.B g.B, pv, .int .i64 0, .bool false, .int .i64 0, .int .i64 0] 74) = W4
  have hb4 : Below wz.heap.size wz W4 := by rw [← hW]; exact below_alloc (Below.refl _ _) _
  have hc4 : W4.heap[wz.heap.size]? = some (.cells (cC gb (m0 g pv l)) 74 (0, 0)) := by rw [← hW]; exact new_blk _ _ _
  obtain ⟨gc, hgc⟩ : ∃ g, g = wz.heap.size := ⟨_, rfl⟩
  rw [← hgc] at hc4 ⊢
  have HC4 := Aside0.mk hc4
  have HB4 := Aside0.mk (below_step HBw.out (below_step HSB.out hb4))
  have HGB4 := Aside0.mk (keep_below HGB.out hb4)
  have HPV4 := Aside0.mk (Kd.R_below HPV.out hb4)
  have HG4 := Aside0.mk (keep_below HG3.out (below_step HSB.out hb4))
  have HGL4 := Aside0.mk (Nat.le_trans (below_size HBw.out) HGL.out)
  have HGC4 := Aside0.mk (show w.heap.size ≤ gc by rw [hgc]; exact below_size (below_step HBw.out HSB.out))
  have c4 := Joins.cell_of_block hc4 4
  clear hW hb4 hc4 hgc
  change W4.cell? ⟨gc, 4, none⟩ = some (.slice (some ⟨gb, 0, none⟩) g.B g.B) at c4
  go_wp2
  go_loopw [29] (fun v29 wr => ∃ (i : Nat) (gp : Nat → Nat), i ≤ g.B ∧ v29 = .int .i64 i ∧ Aside0 (wr.heap[gc]? = some (.cells (cC gb (m0 g pv l)) 74 (0, 0))) ∧ Aside0 (wr.heap[gb]? = some (.cells (cN g i gp) 79 (0, 0))) ∧ Aside0 (∀ x, x < i → wr.heap[gp x]? = some (.cells (cP g.P b0) 88 (0, 0))) ∧ Aside0 (∀ x y, x < i → y < i → gp x = gp y → x = y) ∧ Aside0 (∀ x, x < i → w.heap.size ≤ gp x) ∧ Aside0 (wr.heap[w.heap.size]? = some (.cells #[.int .i64 g.B, .int .i64 g.P, .int .i64 g.Z, .int .i64 g.R] 37 (0, 0))) ∧ Aside0 (Kd.R kF 71 wr w.heap.size (fun _ => True) pv l) ∧ Aside0 (Below w.heap.size w wr)) (fun i _ => g.B - (intOf i).toNat)
  case atStart => exact ⟨0, fun _ => 0, Nat.zero_le _, rfl, HC4, HGB4, ⟨fun x h => absurd h (Nat.not_lt_zero _)⟩, ⟨fun x y h => absurd h (Nat.not_lt_zero _)⟩, ⟨fun x h => absurd h (Nat.not_lt_zero _)⟩, HG4, HPV4, HB4⟩
  case round =>
   obtain ⟨i, gp, hi, rfl, HC5, HN5, HP5, HI5, HE5, HG5, HPV5, HB5⟩ := hrel
   clear c4
   by_cases hlt : i < g.B
   ·have d0 : decide ((i : Int) < (g.B : Int)) = true := decide_eq_true (by omega)
    have hq : (i < g.B) = True := eq_true hlt
    have hqi : ((i : Int) < (g.B : Int)) = True := eq_true (by omega)
    go_upto_region 7 with (fail)
    refine Rel.tail (m := 10) [(0, 32, .inl ?r2v0), (1, 33, .inl ?r2v1), (2, 34, .inl ?r2v2), (3, 35, .inl ?r2v3), (4, 36, .inl ?r2v4), (5, 37, .inl ?r2v5), (6, 38, .inl ?r2v6), (7, 39, .inr (fun v w' => ∃ gx, v = .slice (some ⟨gx, 0, none⟩) g.P g.P ∧ w'.heap[gx]? = some (.cells (cP g.P b0) 88 (0, 0)) ∧ wr.heap.size ≤ gx)), (8, 40, .inl ?r2v8), (9, 41, .inl ?r2v9)] (fun w' => Below wr.heap.size wr w') (fun w' w'' => Below w'.heap.size w' w'') (by rfl) rfl (by kernel_rfl) (by kernel_rfl) (by kernel_rfl) ?r2S (Rel.stable_inl (Rel.stable_inl (Rel.stable_inl (Rel.stable_inl (Rel.stable_inl (Rel.stable_inl (Rel.stable_inl (Rel.stable_inr (fun v w w' hb ⟨gx, h1, h2, h3⟩ => ⟨gx, h1, keep_below h2 hb, h3⟩) (Rel.stable_inl (Rel.stable_inl Rel.stable_nil)))))))))) ?r2steps ?r2okv ?r2hlt ?r2fin
    case r2S => exact below_drew (Below.refl _ _)
    case r2steps =>
     refine Rel.from_some 0 rfl rfl (fun a wq hS hK K hC => ?_) ?_
     ·refine Reg.step_on (by rfl) ?_
      have e6 := hK.off 6 _ rfl rfl
      clear hK
      go_simp
      exact hC _ hS (Below.refl _ _)
     refine Rel.from_some 1 rfl rfl (fun a wq hS hK K hC => ?_) ?_
     ·refine Reg.step_on (by rfl) ?_
      have e32 := hK.slot 0 _ _ _ rfl (by kernel_rfl)
      clear hK
      go_simp
      exact hC _ hS (Below.refl _ _)
     refine Rel.from_some 2 rfl rfl (fun a wq hS hK K hC => ?_) ?_
     ·refine Reg.step_on (by rfl) ?_
      have e33 := hK.slot 1 _ _ _ rfl (by kernel_rfl)
      clear hK
      go_simp
      exact hC _ hS (Below.refl _ _)
     refine Rel.from_some 3 rfl rfl (fun a wq hS hK K hC => ?_) ?_
     ·refine Reg.step_on (by rfl) ?_
      have e34 := hK.slot 2 _ _ _ rfl (by kernel_rfl)
      have hx := keep_below HG5.out hS
      have f1 := Joins.cell_of_block hx 1
      have k4 := Joins.cell_of_block (keep_below HC5.out hS) 4
      change _ = some (Value.slice (some ⟨gb, 0, none⟩) g.B g.B) at k4
      clear hx
      clear hK
      go_simp
      exact hC _ hS (Below.refl _ _)
     refine Rel.from_some 4 rfl rfl (fun a wq hS hK K hC => ?_) ?_
     ·refine Reg.step_on (by rfl) ?_
      have e7 := hK.off 7 _ rfl rfl
      clear hK
      go_simp
      exact hC _ hS (Below.refl _ _)
     refine Rel.from_some 5 rfl rfl (fun a wq hS hK K hC => ?_) ?_
     ·refine Reg.step_on (by rfl) ?_
      have e2 := hK.off 2 _ rfl rfl
      clear hK
      go_simp
      exact hC _ hS (Below.refl _ _)
     refine Rel.from_some 6 rfl rfl (fun a wq hS hK K hC => ?_) ?_
     ·refine Reg.step_on (by rfl) ?_
      have e37 := hK.slot 5 _ _ _ rfl (by kernel_rfl)
      have hx := keep_below HG5.out hS
      have f1 := Joins.cell_of_block hx 1
      have k4 := Joins.cell_of_block (keep_below HC5.out hS) 4
      change _ = some (Value.slice (some ⟨gb, 0, none⟩) g.B g.B) at k4
      clear hx
      clear hK
      go_simp
      exact hC _ hS (Below.refl _ _)
     refine Rel.from_rel 7 rfl rfl (fun a wq hS hK K hC => ?_) ?_
     ·refine Reg.step_on (by rfl) ?_
      have e38 := hK.slot 6 _ _ _ rfl (by kernel_rfl)
      have hm := HMK2.out wq
      clear hK
      go_simp
      exact hC _ _ (below_alloc hS _) (below_alloc (Below.refl _ _) _) ⟨_, rfl, new_blk _ _ _, below_size hS⟩
     refine Rel.from_some 8 rfl rfl (fun a wq hS hK K hC => ?_) ?_
     ·refine Reg.step_on (by rfl) ?_
      have e35 := hK.slot 3 _ _ _ rfl (by kernel_rfl)
      have e36 := hK.slot 4 _ _ _ rfl (by kernel_rfl)
      clear hK
      go_simp
      exact hC _ hS (Below.refl _ _)
     refine Rel.from_some 9 rfl rfl (fun a wq hS hK K hC => ?_) ?_
     ·refine Reg.step_on (by rfl) ?_
      have e40 := hK.slot 8 _ _ _ rfl (by kernel_rfl)
      clear hK
      go_simp
      exact hC _ hS (Below.refl _ _)
     exact Rel.from_nil
    case r2okv => rfl
    case r2hlt => rfl
    case r2fin =>
     intro U wz hS hU
     have q7 := hU 7 _ _ _ rfl
     clear hU
     simp only [Rel.inst, Nat.zero_add, Nat.reduceAdd, Reg.putV, List.foldl_cons, List.foldl_nil, Act.put, List.setIfInBounds_toArray, List.set_cons_zero, List.set_cons_succ]
     obtain ⟨x0, eg, hg, hgl⟩ := q7
     rw [eg]
     have hN := keep_below HN5.out hS
     have zb := blk_cell hN (i * 4 + 2)
     rw [cN_get _ _ _ _ (by omega), show ncell g.P i gp (i * 4 + 2) = .slice none 0 0 by unfold ncell; rw [if_neg (by omega), if_neg (by omega), if_pos (by omega), if_neg (by omega)]] at zb
     have zf := blk_frozen hN (i * 4 + 2)
     have HNz := Aside0.mk hN
     have HCz := Aside0.mk (keep_below HC5.out hS)
     have HGz := Aside0.mk hg
     have HLz := Aside0.mk hgl
     have HSz := Aside0.mk hS
     clear hS hg hgl hN eg
     refine Rel.tail_cons (fun K hK => ?_)
     refine Reg.step_on (by rfl) ?_
     go_simp
     refine hK _ _ ?_
     clear hK zb zf
     refine Rel.tail_nil ?_
     generalize hW : wz.setCell ⟨gb, i * 4 + 2, none⟩ (.slice (some ⟨x0, 0, none⟩) g.P g.P) = W6
     have h1 : W6.heap[gb]? = some (.cells (cN g (i + 1) (fun x => if x = i then x0 else gp x)) 79 (0, 0)) := by rw [← hW, ← cN_set]; exact blk_set HNz.out _ _
     have h2 : W6.heap[gc]? = some (.cells (cC gb (m0 g pv l)) 74 (0, 0)) := by rw [← hW]; exact blk_far HCz.out (ne_of_type HCz.out HNz.out (by decide)) _
     have h3 : ∀ x, x < i + 1 → W6.heap[(fun x => if x = i then x0 else gp x) x]? = some (.cells (cP g.P b0) 88 (0, 0)) := fun x hx => by
      rw [← hW]
      by_cases hxi : x = i
      ·subst hxi
       simp only [if_true]
       exact blk_far HGz.out (ne_of_type HGz.out HNz.out (by decide)) _
      ·simp only [hxi, if_false]
       have hp := keep_below (HP5.out x (by omega)) HSz.out
       exact blk_far hp (ne_of_type hp HNz.out (by decide)) _
     have h4 : ∀ x y, x < i + 1 → y < i + 1 → (fun x => if x = i then x0 else gp x) x = (fun x => if x = i then x0 else gp x) y → x = y := fun x y hx hy e => by
      have hlt2 : ∀ z, z < i → gp z < x0 := fun z hz => Nat.lt_of_lt_of_le (blk_lt (HP5.out z hz)) HLz.out
      by_cases hxi : x = i
      ·by_cases hyi : y = i
       ·omega
       ·simp only [hxi, hyi, if_true, if_false] at e
        have := hlt2 y (by omega)
        omega
      ·by_cases hyi : y = i
       ·simp only [hxi, hyi, if_true, if_false] at e
        have := hlt2 x (by omega)
        omega
       ·simp only [hxi, hyi, if_false] at e
        exact HI5.out x y (by omega) (by omega) e
     have h5 : ∀ x, x < i + 1 → w.heap.size ≤ (fun x => if x = i then x0 else gp x) x := fun x hx => by
      by_cases hxi : x = i
      ·simp only [hxi, if_true]; exact Nat.le_trans (below_size HB5.out) HLz.out
      ·simp only [hxi, if_false]; exact HE5.out x (by omega)
     have h6 : W6.heap[w.heap.size]? = some (.cells #[.int .i64 g.B, .int .i64 g.P, .int .i64 g.Z, .int .i64 g.R] 37 (0, 0)) := by rw [← hW]; exact blk_far (keep_below HG5.out HSz.out) (ne_of_type (keep_below HG5.out HSz.out) HNz.out (by decide)) _
     have h7 : Below w.heap.size w W6 := by rw [← hW]; exact below_set (below_step HB5.out HSz.out) HGL4.out
     have h8 : Kd.R kF 71 W6 w.heap.size (fun _ => True) pv l := by rw [← hW]; exact Kd.R_set (Kd.R_below HPV5.out HSz.out) HNz.out (by decide) _ _
     have H8 := Aside0.mk h8
     have H1 := Aside0.mk h1
     have H2 := Aside0.mk h2
     have H3 := Aside0.mk h3
     have H4 := Aside0.mk h4
     have H5 := Aside0.mk h5
     have H6 := Aside0.mk h6
     have H7 := Aside0.mk h7
     clear hW h1 h2 h3 h4 h5 h6 h7 h8
     go_wp2
     go_roundw
     case rel => exact ⟨i + 1, _, by omega, by push_cast; rfl, H2, H1, H3, H4, H5, H6, H8, H7⟩
     case measure => simp [intOf]; omega
   ·obtain hiB : i = g.B := by omega
    subst hiB
    have d0 : decide ((g.B : Int) < (g.B : Int)) = false := decide_eq_false (by omega)
    go_wp2
    go_ret2
    exact ⟨gc, gb, gp, pv, rfl, ⟨HC5.out, by rw [← cN_end]; exact HN5.out, fun x hx => HP5.out x hx, fun x y hx hy e => HI5.out x y hx hy e, HGC4.out, HGL4.out, fun x hx => HE5.out x hx, fun x y _ _ => Kd.R_nil _ _ _ _ _, HPV5.out, HB5.out, HGO.out⟩⟩
def KF (W w' : World) : Prop := ∀ (k : Nat) (cs : Array Value) (fr : Nat × Nat), W.heap[k]? = some (.cells cs 71 fr) → w'.heap[k]? = some (.cells cs 71 fr)
theorem KF.refl (W : World) : KF W W := fun _ _ _ h => h
theorem KF.of_below {W w' : World} (h : Below W.heap.size W w') : KF W w' := fun k cs fr hk => by rw [h.block k (blk_lt hk)]; exact hk
theorem KF.set {W : World} {g t : Nat} {cs : Array Value} (hg : W.heap[g]? = some (.cells cs t (0, 0))) (ht : t ≠ 71) (k : Nat) (v : Value) : KF W (W.setCell ⟨g, k, none⟩ v) := fun x cs2 fr hx => by
 have hne : x ≠ g := fun e => by
  subst e
  rw [hx] at hg
  simp only [Option.some.injEq, Obj.cells.injEq] at hg
  exact ht hg.2.1.symm
 exact (Below.heap_setCell W ⟨g, k, none⟩ v x hne).trans hx
theorem KF.R {W w' : World} (h : KF W w') {base : Nat} {ok : Nat → Prop} {v : Value} {xs : List F3} (hr : Kd.R kF 71 W base ok v xs) : Kd.R kF 71 w' base ok v xs := by
 have h2 := Kd.R_move (Kd.R_bound hr) (w1 := w') (fun k hk => by
  obtain ⟨_, _, _, q, hq, cells, hc⟩ := hk
  have hq5 : q = 71 := by
   rcases List.mem_cons.1 hq with h | h
   ·exact h
   ·cases h
  subst hq5
  rw [h k cells (0, 0) hc, hc])
 exact Kd.R_mono h2 (fun _ hk => hk.1)
def armS (w0 w1 : World) (gc gb : Nat) (gp : Nat → Nat) (m : Ch) (D : Nat → Nat → List Int) (l : List F3) : Nat → World → Prop
 | 0, w' => Below w1.heap.size w1 w'
 | 1, w' => ∃ v : Value, St w0 w' gc gb gp ({ m with plan := v, pl := l } : Ch) D ∧ Keeps w1 w'
 | _, w' => ∃ v : Value, St w0 w' gc gb gp ({ m with plan := v, pl := l, frm := m.ops } : Ch) D ∧ Keeps w1 w'
set_option maxRecDepth 100000 in
set_option maxHeartbeats 8000000 in
theorem arm_ok (h : St w0 W gc gb gp m D) (A : Option Addr) (c : Nat) (l : List F3) (hr : Kd.C kF W A l.length l) (hc : l.length ≤ c) (hp : planOK l = true) :
  Calls Tryd.prog 47 #[cp gc, .slice A l.length c] W fun e w' => e = .returned (.int .i64 0) ∧ (∃ v : Value, St w0 w' gc gb gp ({ m with plan := v, pl := l, frm := m.ops } : Ch) D) ∧ Keeps W w' := by
 have hlen := planOK_len hp
 have HRP := Aside0.mk (show Calls Tryd.prog 29 #[.slice A l.length c] W fun e w' => e = .returned (.bool true) ∧ Below W.heap.size W w' by rw [← hp]; exact rightPlan_is A c l W hr hc)
 have H := Aside0.mk h
 have HC := Aside0.mk hr
 have HCC := Aside0.mk hc
 have hu32 := Tryd.underlying56
 clear h hr hc hp
 go_enter Tryd.func47, Tryd.ntmps47
 go_upto_region 5 with (first
  | (go_at_call 29; (with_reducible refine HRP.out.mono ?_); rintro e w1 ⟨rfl, hb1⟩; have HB1 := Aside0.mk hb1; have H1 := Aside0.mk (H.out.grow hb1); clear hb1))
 have HCL := Aside0.mk (fun (wq : World) (hS : Below w1.heap.size w1 wq) => clone_faults A c l wq (Kd.C_below HC.out (below_step HB1.out hS)) HCC.out (by omega))
 clear hlen
 refine RelS.relS [(0, 10, .inl ?r3v0), (1, 11, .inl ?r3v1), (2, 12, .inl ?r3v2), (3, 13, .inr (fun v w' => Kd.R kF 71 w' w0.heap.size (fun _ => True) v l)), (4, 14, .inl ?r3v4), (5, 15, .inl ?r3v5), (6, 16, .inl ?r3v6), (7, 17, .inl ?r3v7), (8, 18, .inl ?r3v8), (9, 19, .inl ?r3v9), (11, 20, .inl ?r3v11), (12, 21, .inl ?r3v12)] [10, 13] (armS w0 w1 gc gb gp m D l) KF (by rfl) rfl (by kernel_rfl) (by decide) (by decide) ?r3S (Rel.stable_inl (Rel.stable_inl (Rel.stable_inl (Rel.stable_inr (fun v w w' hb h => KF.R hb h) (Rel.stable_inl (Rel.stable_inl (Rel.stable_inl (Rel.stable_inl (Rel.stable_inl (Rel.stable_inl (Rel.stable_inl (Rel.stable_inl Rel.stable_nil)))))))))))) ?r3steps ?r3okv ?r3hlt ?r3fin
 case r3S => exact below_drew (Below.refl _ _)
 case r3steps =>
  refine RelS.fromS_some 0 rfl rfl (fun s a wq hlo hhi hS hK K hC => ?_) ?_
  ·refine Reg.step_on (by rfl) ?_
   clear hlo hhi
   have e0 := hK.off 0 _ rfl rfl
   clear hK
   go_simp
   exact hC _ hS (KF.refl _)
  refine RelS.fromS_some 1 rfl rfl (fun s a wq hlo hhi hS hK K hC => ?_) ?_
  ·refine Reg.step_on (by rfl) ?_
   clear hlo hhi
   have e0 := hK.off 0 _ rfl rfl
   clear hK
   go_simp
   exact hC _ hS (KF.refl _)
  refine RelS.fromS_some 2 rfl rfl (fun s a wq hlo hhi hS hK K hC => ?_) ?_
  ·refine Reg.step_on (by rfl) ?_
   clear hlo hhi
   have e1 := hK.off 1 _ rfl rfl
   clear hK
   go_simp
   exact hC _ hS (KF.refl _)
  refine RelS.fromS_rel 3 rfl rfl (fun s a wq hlo hhi hS hK K hC => ?_) ?_
  ·refine Reg.step_on (by rfl) ?_
   obtain rfl : s = 0 := Nat.le_antisymm (Nat.le_trans hhi (Nat.le_of_eq (by kernel_rfl))) (Nat.le_trans (Nat.le_of_eq (by kernel_rfl)) hlo)
   clear hlo hhi
   have e12 := hK.slot 2 _ _ _ rfl (by kernel_rfl)
   clear hK
   go_simp
   change Below w1.heap.size w1 wq at hS
   go_at_call 30; (with_reducible refine (HCL.out wq hS).mono ?_)
   rintro e w' ⟨v, rfl, ho, hb⟩
   exact hC v w' (below_step hS hb) (KF.of_below hb) (Kd.R_lower ho (below_size (H1.out.grow hS).below))
  refine RelS.fromS_some 4 rfl rfl (fun s a wq hlo hhi hS hK K hC => ?_) ?_
  ·refine Reg.step_on (by rfl) ?_
   clear hlo hhi
   have e0 := hK.off 0 _ rfl rfl
   clear hK
   go_simp
   exact hC _ hS (KF.refl _)
  refine RelS.fromS_some 5 rfl rfl (fun s a wq hlo hhi hS hK K hC => ?_) ?_
  ·refine Reg.step_on (by rfl) ?_
   clear hlo hhi
   have e14 := hK.slot 4 _ _ _ rfl (by kernel_rfl)
   clear hK
   go_simp
   exact hC _ hS (KF.refl _)
  refine RelS.fromS_some 6 rfl rfl (fun s a wq hlo hhi hS hK K hC => ?_) ?_
  ·refine Reg.step_on (by rfl) ?_
   clear hlo hhi
   have e15 := hK.slot 5 _ _ _ rfl (by kernel_rfl)
   clear hK
   go_simp
   exact hC _ hS (KF.refl _)
  refine RelS.fromS_some 7 rfl rfl (fun s a wq hlo hhi hS hK K hC => ?_) ?_
  ·refine Reg.step_on (by rfl) ?_
   obtain rfl : s = 0 := Nat.le_antisymm (Nat.le_trans hhi (Nat.le_of_eq (by kernel_rfl))) (Nat.le_trans (Nat.le_of_eq (by kernel_rfl)) hlo)
   clear hlo hhi
   have e16 := hK.slot 6 _ _ _ rfl (by kernel_rfl)
   have zz : wq.cell? ⟨gc, 8, none⟩ = some (.int .i64 m.ops) := (H1.out.grow hS).cellC 8
   clear hK
   go_simp
   exact hC _ hS (KF.refl _)
  refine RelS.fromS_some 8 rfl rfl (fun s a wq hlo hhi hS hK K hC => ?_) ?_
  ·refine Reg.step_on (by rfl) ?_
   clear hlo hhi
   have e10 := hK.slot 0 _ _ _ rfl (by kernel_rfl)
   clear hK
   go_simp
   exact hC _ hS (KF.refl _)
  refine RelS.fromS_some 9 rfl rfl (fun s a wq hlo hhi hS hK K hC => ?_) ?_
  ·refine Reg.step_on (by rfl) ?_
   clear hlo hhi
   have e18 := hK.slot 8 _ _ _ rfl (by kernel_rfl)
   clear hK
   go_simp
   exact hC _ hS (KF.refl _)
  refine RelS.fromS_none rfl rfl (fun s a wq hlo hhi hS hK K hC => ?_) ?_
  ·refine Reg.step_on (by rfl) ?_
   obtain rfl : s = 0 := Nat.le_antisymm (Nat.le_trans hhi (Nat.le_of_eq (by kernel_rfl))) (Nat.le_trans (Nat.le_of_eq (by kernel_rfl)) hlo)
   clear hlo hhi
   have e19 := hK.slot 9 _ _ _ rfl (by kernel_rfl)
   obtain ⟨u13, e13, q13⟩ := hK.rel 3 _ _ _ rfl (by kernel_rfl)
   have h5 := H1.out.grow hS
   have c5 := h5.cellC 5
   have f5 := blk_frozen h5.c 5
   have H5 := Aside0.mk h5
   have HK5 := Aside0.mk (Keeps.of_below hS)
   have HQ := Aside0.mk q13
   obtain ⟨A6, c6, e6⟩ := Kd.R_slice q13
   subst e6
   clear hK hS h5 q13
   go_simp
   exact hC _ ⟨_, H5.out.setC 5 _ rfl rfl rfl HQ.out, HK5.out.set H5.out.c (by decide) _ _⟩ (KF.set H5.out.c (by decide) _ _)
  refine RelS.fromS_some 10 rfl rfl (fun s a wq hlo hhi hS hK K hC => ?_) ?_
  ·refine Reg.step_on (by rfl) ?_
   clear hlo hhi
   have e11 := hK.slot 1 _ _ _ rfl (by kernel_rfl)
   clear hK
   go_simp
   exact hC _ hS (KF.refl _)
  refine RelS.fromS_some 11 rfl rfl (fun s a wq hlo hhi hS hK K hC => ?_) ?_
  ·refine Reg.step_on (by rfl) ?_
   clear hlo hhi
   have e20 := hK.slot 10 _ _ _ rfl (by kernel_rfl)
   clear hK
   go_simp
   exact hC _ hS (KF.refl _)
  refine RelS.fromS_none rfl rfl (fun s a wq hlo hhi hS hK K hC => ?_) ?_
  ·refine Reg.step_on (by rfl) ?_
   obtain rfl : s = 1 := Nat.le_antisymm (Nat.le_trans hhi (Nat.le_of_eq (by kernel_rfl))) (Nat.le_trans (Nat.le_of_eq (by kernel_rfl)) hlo)
   clear hlo hhi
   have e21 := hK.slot 11 _ _ _ rfl (by kernel_rfl)
   have e17 := hK.slot 7 _ _ _ rfl (by kernel_rfl)
   obtain ⟨v5, h5, hk5⟩ := hS
   have c6 := h5.cellC 6
   have f6 := blk_frozen h5.c 6
   have H5 := Aside0.mk h5
   have HK5 := Aside0.mk hk5
   clear hK h5 hk5
   go_simp
   exact hC _ ⟨_, H5.out.setC 6 _ rfl rfl rfl H5.out.pln, HK5.out.set H5.out.c (by decide) _ _⟩ (KF.set H5.out.c (by decide) _ _)
  exact RelS.fromS_nil
 case r3okv => rfl
 case r3hlt => rfl
 case r3fin =>
  intro U wz hS hU
  have q3 := hU 3 _ _ _ rfl
  clear hU
  simp only [Rel.inst, Nat.zero_add, Nat.reduceAdd, Reg.putV, List.foldl_cons, List.foldl_nil, Act.put, List.setIfInBounds_toArray, List.set_cons_zero, List.set_cons_succ]
  obtain ⟨v, h5, hk5⟩ : ∃ v : Value, St w0 wz gc gb gp ({ m with plan := v, pl := l, frm := m.ops } : Ch) D ∧ Keeps w1 wz := hS
  have H5 := Aside0.mk h5
  have HK5 := Aside0.mk hk5
  clear q3 h5 hk5
  go_wp2
  go_ret
  exact ⟨rfl, ⟨v, H5.out⟩, (Keeps.of_below HB1.out).trans HK5.out⟩
set_option maxRecDepth 100000 in
theorem arm_bad (h : St w0 W gc gb gp m D) (A : Option Addr) (c : Nat) (l : List F3) (hr : Kd.C kF W A l.length l) (hc : l.length ≤ c) (hp : planOK l = false) :
  Calls Tryd.prog 47 #[cp gc, .slice A l.length c] W fun e w' => e = .returned (.int .i64 22) ∧ Below W.heap.size W w' := by
 have HRP := Aside0.mk (show Calls Tryd.prog 29 #[.slice A l.length c] W fun e w' => e = .returned (.bool false) ∧ Below W.heap.size W w' by rw [← hp]; exact rightPlan_is A c l W hr hc)
 clear h hr hc hp
 go_enter Tryd.func47, Tryd.ntmps47
 go_wp2_with (first
  | (go_at_call 29; (with_reducible refine HRP.out.mono ?_); rintro e w1 ⟨rfl, hb1⟩; have HB1 := Aside0.mk hb1; clear hb1))
 go_ret
 exact ⟨rfl, HB1.out⟩
theorem setG {g : Nat} {a b c d : Value} (h : W.heap[g]? = some (.cells #[a, b, c, d] 37 (0, 0))) (x y z u : Value) : ((((W.setCell ⟨g, 0, none⟩ x).setCell ⟨g, 1, none⟩ y).setCell ⟨g, 2, none⟩ z).setCell ⟨g, 3, none⟩ u).heap[g]? = some (.cells #[x, y, z, u] 37 (0, 0)) :=
 blk_put (blk_put (blk_put (blk_put h 0 x (cs' := #[x, b, c, d]) rfl) 1 y (cs' := #[x, y, c, d]) rfl) 2 z (cs' := #[x, y, z, d]) rfl) 3 u rfl
set_option maxRecDepth 100000 in
theorem geometry_is (h : St w0 W gc gb gp m D) : Calls Tryd.prog 37 #[cp gc] W fun e w' => e = .returned (gV m.g.B m.g.P m.g.Z m.g.R) ∧ Below W.heap.size W w' := by
 have H := Aside0.mk h.c
 have hu28 := Tryd.underlying37
 clear h
 go_enter Tryd.func37, Tryd.ntmps37
 go_upto_region 1 with (fail)
 generalize hW : W.alloc (.cells #[.int .i64 0, .int .i64 0, .int .i64 0, .int .i64 0] 37) = W1
 have hb : Below W.heap.size W W1 := by rw [← hW]; exact below_alloc (Below.refl _ _) _
 have hx : W1.heap[W.heap.size]? = some (.cells #[.int .i64 0, .int .i64 0, .int .i64 0, .int .i64 0] 37 (0, 0)) := by rw [← hW]; exact new_blk _ _ _
 have c0 : W1.cell? ⟨gc, 0, none⟩ = some (.int .i64 m.g.B) := Joins.cell_of_block (keep_below H.out hb) 0
 have c1 : W1.cell? ⟨gc, 1, none⟩ = some (.int .i64 m.g.P) := Joins.cell_of_block (keep_below H.out hb) 1
 have c2 : W1.cell? ⟨gc, 2, none⟩ = some (.int .i64 m.g.Z) := Joins.cell_of_block (keep_below H.out hb) 2
 have c3 : W1.cell? ⟨gc, 3, none⟩ = some (.int .i64 m.g.R) := Joins.cell_of_block (keep_below H.out hb) 3
 have x0 := Joins.cell_of_block hx 0
 have x1 := Joins.cell_of_block hx 1
 have x2 := Joins.cell_of_block hx 2
 have x3 := Joins.cell_of_block hx 3
 have fx0 := blk_frozen hx 0
 have fx1 := blk_frozen hx 1
 have fx2 := blk_frozen hx 2
 have fx3 := blk_frozen hx 3
 have HX := Aside0.mk hx
 have HB := Aside0.mk hb
 clear hW hx hb
 go_wp2
 refine bodyPost_ret (results_cell_row rfl _ _ W.heap.size 37 #[.int .i64 m.g.B, .int .i64 m.g.P, .int .i64 m.g.Z, .int .i64 m.g.R] (0, 0) _ rfl (setG HX.out _ _ _ _) Tryd.underlying37 rfl (by kernel_rfl)) rfl ?_
 exact ⟨rfl, below_set (below_set (below_set (below_set HB.out (Nat.le_refl _)) (Nat.le_refl _)) (Nat.le_refl _)) (Nat.le_refl _)⟩
end Go.Proofs.YtdlimghdimkadaaDoor.PAll
namespace Go.Proofs.YtdlimghdimkadaaDoor.PAll
open Go.RowKit Go.Proofs.YtdlimghdimkadaaDoorW.PrintWords Go.Proofs.YtdlimghdimkadaaDoorW.PrintLast Go.Proofs.YtdlimghdimkadaaDoorW.PrintMore
set_option linter.unusedSimpArgs false
set_option linter.unusedVariables false
structure APg where
 st : Int
 d : List Int
structure ABk where
 bad : Bool
 er : Int
 nx : Int
 pg : Nat → APg
structure AC where
 g : Geo
 pl : List F3
 frm : Int
 off : Bool
 ops : Int
 wrong : Int
 bk : Nat → ABk
def absB (b : Bk) (d : Nat → List Int) : ABk := ⟨b.bad, b.er, b.nx, fun j => ⟨(b.pg j).st, d j⟩⟩
def absC (m : Ch) (D : Nat → Nat → List Int) : AC := ⟨m.g, m.pl, m.frm, m.off, m.ops, m.wrong, fun i => absB (m.bk i) (D i)⟩
def AC.setBk (a : AC) (i : Nat) (b : ABk) : AC := { a with bk := fun x => if x = i then b else a.bk x }
def ABk.setPg (b : ABk) (j : Nat) (p : APg) : ABk := { b with pg := fun x => if x = j then p else b.pg x }
def ABk.clr (b : ABk) (st : Int) (P : Nat) : ABk := { b with pg := fun x => if x < P then ⟨st, []⟩ else b.pg x }
def Chip (w0 W : World) (gc : Nat) (a : AC) : Prop := ∃ (gb : Nat) (gp : Nat → Nat) (m : Ch) (D : Nat → Nat → List Int), St w0 W gc gb gp m D ∧ absC m D = a ∧ ∀ i j, (D i j).length ≤ m.g.Z
theorem Chip.grow {w0 W W' : World} {gc : Nat} {a : AC} (h : Chip w0 W gc a) (hb : Below W.heap.size W W') : Chip w0 W' gc a := by
 obtain ⟨gb, gp, m, D, hs, ha, hl⟩ := h
 exact ⟨gb, gp, m, D, hs.grow hb, ha, hl⟩
theorem Chip.gok {w0 W : World} {gc : Nat} {a : AC} (h : Chip w0 W gc a) : GOK a.g := by
 obtain ⟨gb, gp, m, D, hs, ha, hl⟩ := h
 subst ha
 exact hs.gok
theorem Chip.lower {w0 w1 W : World} {gc : Nat} {a : AC} (h : Chip w1 W gc a) (hb : Below w0.heap.size w0 w1) : Chip w0 W gc a := by
 obtain ⟨gb, gp, m, D, hs, ha, hl⟩ := h
 exact ⟨gb, gp, m, D, hs.lower hb, ha, hl⟩
theorem Chip.below {w0 W : World} {gc : Nat} {a : AC} (h : Chip w0 W gc a) : Below w0.heap.size w0 W := by
 obtain ⟨gb, gp, m, D, hs, ha, hl⟩ := h
 exact hs.below
def AC.put (a : AC) (n p : Nat) (st : Int) (d : List Int) : AC := a.setBk n { ((a.bk n).setPg p ⟨st, d⟩) with nx := wrap64 ((p : Int) + 1) }
def AC.hit (a : AC) : Option F3 := hitOf a.pl (wrap64 (wrap64 (a.ops + 1) - a.frm))
def AC.tick (a : AC) : AC := { a with ops := wrap64 (a.ops + 1) }
def AC.cut (a : AC) : AC := { a with off := true }
def AC.err (a : AC) : AC := { a with wrong := wrap64 (a.wrong + 1) }
def progA (a : AC) (n p : Int) (l : List Int) : Int × AC :=
 if a.off = true then (6, a) else if n < 0 ∨ a.g.B ≤ n then (22, a) else if p < 0 ∨ a.g.P ≤ p ∨ a.g.Z < l.length then (22, a)
 else if (a.bk n.toNat).bad = true ∨ (a.bk n.toNat).nx ≠ p then (1, a.err)
 else match a.hit with
  | none => (0, a.tick.put n.toNat p.toNat 1 l)
  | some f => if f.f1 = 2 then (5, a.tick.put n.toNat p.toNat 2 [])
   else if f.f2 = 0 then (6, a.tick.cut) else if f.f2 = 1 then (6, a.tick.cut.put n.toNat p.toNat 2 []) else (6, a.tick.cut.put n.toNat p.toNat 1 l)
def AC.erased (a : AC) (n : Nat) (st nx : Int) : AC := a.setBk n { ({ a.bk n with er := wrap64 ((a.bk n).er + 1) } : ABk).clr st a.g.P with nx := nx }
def eraseA (a : AC) (n : Int) : Int × AC :=
 if a.off = true then (6, a) else if n < 0 ∨ a.g.B ≤ n then (22, a) else if (a.bk n.toNat).bad = true then (1, a.err)
 else match a.hit with
  | none => (0, a.tick.erased n.toNat 0 0)
  | some f => if f.f1 = 2 then (5, a.tick.erased n.toNat 2 a.g.P)
   else if f.f2 = 1 then (6, a.tick.cut.erased n.toNat 2 a.g.P) else if f.f2 = 2 then (6, a.tick.cut.erased n.toNat 0 0)
   else (6, a.tick.cut.setBk n.toNat { a.bk n.toNat with er := wrap64 ((a.bk n.toNat).er + 1) })
def markA (a : AC) (n : Int) : Int × AC :=
 if a.off = true then (6, a) else if n < 0 ∨ a.g.B ≤ n then (22, a) else (0, a.setBk n.toNat { a.bk n.toNat with bad := true })
def readA (a : AC) (n p : Int) : List Int × Int :=
 if a.off = true then ([], 6) else if n < 0 ∨ a.g.B ≤ n then ([], 22) else if p < 0 ∨ a.g.P ≤ p then ([], 22)
 else if ((a.bk n.toNat).pg p.toNat).st = 2 then ([], 5)
 else if ((a.bk n.toNat).pg p.toNat).st = 1 then (((a.bk n.toNat).pg p.toNat).d ++ List.replicate (a.g.Z - ((a.bk n.toNat).pg p.toNat).d.length) 255, 0)
 else (List.replicate a.g.Z 255, 0)
def newA (g : Geo) (l : List F3) : AC := ⟨g, l, 0, false, 0, 0, fun _ => ⟨false, 0, 0, fun _ => ⟨0, []⟩⟩⟩
def armA (a : AC) (l : List F3) : Int × AC := if planOK l = true then (0, { a with pl := l, frm := a.ops }) else (22, a)
def nextA (a : AC) (n : Int) : Int := if n < 0 ∨ a.g.B ≤ n then 0 else (a.bk n.toNat).nx
def badA (a : AC) (n : Int) : Bool := if n < 0 ∨ a.g.B ≤ n then false else (a.bk n.toNat).bad
theorem absC_put (m : Ch) (D : Nat → Nat → List Int) (n p : Nat) (st : Int) (v : Value) (d : List Int) : absC (m.setBk n { ((m.bk n).setPg p ⟨st, v⟩) with nx := wrap64 ((p : Int) + 1) }) (updD D n p d) = (absC m D).put n p st d := by
 unfold absC AC.put Ch.setBk AC.setBk ABk.setPg Bk.setPg absB updD
 congr 1
 funext i
 by_cases hi : i = n
 ·subst hi
  simp only [if_true, true_and]
  congr 1
  funext j
  by_cases hj : j = p <;> simp [hj]
 ·simp [hi]
theorem absC_er (m : Ch) (D : Nat → Nat → List Int) (n : Nat) : absC (m.setBk n { m.bk n with er := wrap64 ((m.bk n).er + 1) }) D = (absC m D).setBk n { (absC m D).bk n with er := wrap64 (((absC m D).bk n).er + 1) } := by
 unfold absC Ch.setBk AC.setBk absB
 congr 1
 funext i
 by_cases hi : i = n
 ·subst hi; simp
 ·simp [hi]
theorem absC_clr (m : Ch) (D : Nat → Nat → List Int) (n : Nat) (st nx : Int) : absC (m.setBk n { clr st m.g.P { m.bk n with er := wrap64 ((m.bk n).er + 1) } with nx := nx }) (clrD D n m.g.P) = (absC m D).erased n st nx := by
 unfold absC AC.erased Ch.setBk AC.setBk ABk.clr clr absB clrD
 congr 1
 funext i
 by_cases hi : i = n
 ·subst hi
  simp only [if_true, true_and]
  congr 1
  funext j
  by_cases hj : j < m.g.P <;> simp [hj]
 ·simp [hi]
theorem absC_bad (m : Ch) (D : Nat → Nat → List Int) (n : Nat) : absC (m.setBk n { m.bk n with bad := true }) D = (absC m D).setBk n { (absC m D).bk n with bad := true } := by
 unfold absC Ch.setBk AC.setBk absB
 congr 1
 funext i
 by_cases hi : i = n
 ·subst hi; simp
 ·simp [hi]
theorem updD_len {D : Nat → Nat → List Int} {Z : Nat} (h : ∀ i j, (D i j).length ≤ Z) (n p : Nat) (d : List Int) (hd : d.length ≤ Z) (i j : Nat) : (updD D n p d i j).length ≤ Z := by
 unfold updD
 by_cases hh : i = n ∧ j = p
 ·rw [if_pos hh]; exact hd
 ·rw [if_neg hh]; exact h i j
theorem clrD_len {D : Nat → Nat → List Int} {Z : Nat} (h : ∀ i j, (D i j).length ≤ Z) (n k : Nat) (i j : Nat) : (clrD D n k i j).length ≤ Z := by
 unfold clrD
 by_cases hh : i = n ∧ j < k
 ·rw [if_pos hh]; exact Nat.zero_le _
 ·rw [if_neg hh]; exact h i j
section
variable {w0 W : World} {gc : Nat} {a : AC}
theorem Chip.next (h : Chip w0 W gc a) (n : Int) : Calls Tryd.prog 24 #[cp gc, .int .i64 n] W fun e w' => e = .returned (.int .i64 (nextA a n)) ∧ Below W.heap.size W w' := by
 obtain ⟨gb, gp, m, D, hs, rfl, hl⟩ := h
 by_cases hn : n < 0 ∨ m.g.B ≤ n
 ·rw [show nextA (absC m D) n = 0 from if_pos hn]
  exact next_no hs n hn
 ·rw [show nextA (absC m D) n = (m.bk n.toNat).nx from if_neg hn]
  have h2 := next_yes hs n.toNat (by omega)
  rw [show ((n.toNat : Nat) : Int) = n by omega] at h2
  exact h2
theorem Chip.bad (h : Chip w0 W gc a) (n : Int) : Calls Tryd.prog 23 #[cp gc, .int .i64 n] W fun e w' => e = .returned (.bool (badA a n)) ∧ Below W.heap.size W w' := by
 obtain ⟨gb, gp, m, D, hs, rfl, hl⟩ := h
 by_cases hn : n < 0 ∨ m.g.B ≤ n
 ·rw [show badA (absC m D) n = false from if_pos hn]
  exact bad_no hs n hn
 ·rw [show badA (absC m D) n = (m.bk n.toNat).bad from if_neg hn]
  have h2 := bad_yes hs n.toNat (by omega)
  rw [show ((n.toNat : Nat) : Int) = n by omega] at h2
  exact h2
theorem Chip.on (h : Chip w0 W gc a) : Calls Tryd.prog 36 #[cp gc] W fun e w' => e = .returned (.bool !a.off) ∧ Below W.heap.size W w' := by
 obtain ⟨gb, gp, m, D, hs, rfl, hl⟩ := h
 exact on_is hs
theorem Chip.geometry (h : Chip w0 W gc a) : Calls Tryd.prog 37 #[cp gc] W fun e w' => e = .returned (gV a.g.B a.g.P a.g.Z a.g.R) ∧ Below W.heap.size W w' := by
 obtain ⟨gb, gp, m, D, hs, rfl, hl⟩ := h
 exact geometry_is hs
theorem Chip.power (h : Chip w0 W gc a) : Calls Tryd.prog 22 #[cp gc] W fun e w' => e = .returned (.tuple #[]) ∧ Chip w0 w' gc { a with off := false } ∧ Keeps W w' := by
 obtain ⟨gb, gp, m, D, hs, rfl, hl⟩ := h
 refine (power_is hs).mono ?_
 rintro e w' ⟨rfl, h2, hk⟩
 exact ⟨rfl, ⟨gb, gp, _, D, h2, rfl, hl⟩, hk⟩
theorem Chip.mark (h : Chip w0 W gc a) (n : Int) : Calls Tryd.prog 44 #[cp gc, .int .i64 n] W fun e w' => e = .returned (.int .i64 (markA a n).1) ∧ Chip w0 w' gc (markA a n).2 ∧ Keeps W w' := by
 have h0 := h
 obtain ⟨gb, gp, m, D, hs, rfl, hl⟩ := h
 by_cases ho : m.off = true
 ·rw [show markA (absC m D) n = (6, absC m D) from if_pos ho]
  refine (mark_err (k := 6) (by decide) n (ready_off hs ho n)).mono ?_
  rintro e w' ⟨rfl, hb⟩
  exact ⟨rfl, h0.grow hb, Keeps.of_below hb⟩
 ·have hof : m.off = false := by simpa using ho
  by_cases hn : n < 0 ∨ m.g.B ≤ n
  ·rw [show markA (absC m D) n = (22, absC m D) from (if_neg ho).trans (if_pos hn)]
   refine (mark_err (k := 22) (by decide) n (ready_no hs hof n hn)).mono ?_
   rintro e w' ⟨rfl, hb⟩
   exact ⟨rfl, h0.grow hb, Keeps.of_below hb⟩
  ·rw [show markA (absC m D) n = (0, (absC m D).setBk n.toNat { (absC m D).bk n.toNat with bad := true }) from (if_neg ho).trans (if_neg hn)]
   have h2 := mark_ok hs hof n.toNat (by omega)
   rw [show ((n.toNat : Nat) : Int) = n by omega] at h2
   refine h2.mono ?_
   rintro e w' ⟨rfl, h3, hk⟩
   exact ⟨rfl, ⟨gb, gp, _, D, h3, absC_bad m D n.toNat, hl⟩, hk⟩
theorem Chip.read (h : Chip w0 W gc a) (n p : Int) : Calls Tryd.prog 26 #[cp gc, .int .i64 n, .int .i64 p] W fun e w' => ∃ v : Value, e = .returned (.tuple #[v, .int .i64 (readA a n p).2]) ∧ Kd.R kB 5 w' W.heap.size (fun _ => True) v (readA a n p).1 ∧ Below W.heap.size W w' := by
 obtain ⟨gb, gp, m, D, hs, rfl, hl⟩ := h
 by_cases ho : m.off = true
 ·rw [show readA (absC m D) n p = ([], 6) from if_pos ho]
  refine (read_err (k := 6) (by decide) n p (ready_off hs ho n)).mono ?_
  rintro e w' ⟨rfl, hb⟩
  exact ⟨_, rfl, Kd.R_nil _ _ _ _ _, hb⟩
 have hof : m.off = false := by simpa using ho
 by_cases hn : n < 0 ∨ m.g.B ≤ n
 ·rw [show readA (absC m D) n p = ([], 22) from (if_neg ho).trans (if_pos hn)]
  refine (read_err (k := 22) (by decide) n p (ready_no hs hof n hn)).mono ?_
  rintro e w' ⟨rfl, hb⟩
  exact ⟨_, rfl, Kd.R_nil _ _ _ _ _, hb⟩
 obtain ⟨i, rfl⟩ : ∃ i : Nat, n = i := ⟨n.toNat, by omega⟩
 by_cases hp : p < 0 ∨ m.g.P ≤ p
 ·rw [show readA (absC m D) i p = ([], 22) from (if_neg ho).trans ((if_neg hn).trans (if_pos hp))]
  refine (read_range hs hof i (by omega) p hp).mono ?_
  rintro e w' ⟨rfl, hb⟩
  exact ⟨_, rfl, Kd.R_nil _ _ _ _ _, hb⟩
 obtain ⟨j, rfl⟩ : ∃ j : Nat, p = j := ⟨p.toNat, by omega⟩
 have e0 : readA (absC m D) i j = if ((m.bk i).pg j).st = 2 then ([], 5) else if ((m.bk i).pg j).st = 1 then (D i j ++ List.replicate (m.g.Z - (D i j).length) 255, 0) else (List.replicate m.g.Z 255, 0) := (if_neg ho).trans ((if_neg hn).trans (if_neg hp))
 rw [e0]
 by_cases h2 : ((m.bk i).pg j).st = 2
 ·rw [if_pos h2]
  refine (read_torn hs hof i j (by omega) (by omega) h2).mono ?_
  rintro e w' ⟨rfl, hb⟩
  exact ⟨_, rfl, Kd.R_nil _ _ _ _ _, hb⟩
 rw [if_neg h2]
 by_cases h1 : ((m.bk i).pg j).st = 1
 ·rw [if_pos h1]
  exact read_data hs hof i j (by omega) (by omega) h1 (hl i j)
 ·rw [if_neg h1]
  exact read_blank hs hof i j (by omega) (by omega) h2 h1
theorem Chip.program (h : Chip w0 W gc a) (n p : Int) (A : Option Addr) (c : Nat) (l : List Int) (hr : ∀ w', Below w0.heap.size w0 w' → Keeps W w' → Kd.C kB w' A l.length l) (hc : l.length ≤ c) : Calls Tryd.prog 18 #[cp gc, .int .i64 n, .int .i64 p, .slice A l.length c] W fun e w' => e = .returned (.int .i64 (progA a n p l).1) ∧ Chip w0 w' gc (progA a n p l).2 ∧ Keeps W w' := by
 have h0 := h
 obtain ⟨gb, gp, m, D, hs, rfl, hl⟩ := h
 by_cases ho : m.off = true
 ·rw [show progA (absC m D) n p l = (6, absC m D) from if_pos ho]
  refine (program_err (k := 6) (by decide) n p _ (ready_off hs ho n)).mono ?_
  rintro e w' ⟨rfl, hb⟩
  exact ⟨rfl, h0.grow hb, Keeps.of_below hb⟩
 have hof : m.off = false := by simpa using ho
 by_cases hn : n < 0 ∨ m.g.B ≤ n
 ·rw [show progA (absC m D) n p l = (22, absC m D) from (if_neg ho).trans (if_pos hn)]
  refine (program_err (k := 22) (by decide) n p _ (ready_no hs hof n hn)).mono ?_
  rintro e w' ⟨rfl, hb⟩
  exact ⟨rfl, h0.grow hb, Keeps.of_below hb⟩
 obtain ⟨i, rfl⟩ : ∃ i : Nat, n = i := ⟨n.toNat, by omega⟩
 by_cases hp : p < 0 ∨ m.g.P ≤ p ∨ m.g.Z < l.length
 ·rw [show progA (absC m D) i p l = (22, absC m D) from (if_neg ho).trans ((if_neg hn).trans (if_pos hp))]
  refine (program_range hs hof i (by omega) p A l.length c hp).mono ?_
  rintro e w' ⟨rfl, hb⟩
  exact ⟨rfl, h0.grow hb, Keeps.of_below hb⟩
 obtain ⟨j, rfl⟩ : ∃ j : Nat, p = j := ⟨p.toNat, by omega⟩
 have hlz : l.length ≤ m.g.Z := by omega
 by_cases hb : (m.bk i).bad = true ∨ (m.bk i).nx ≠ j
 ·rw [show progA (absC m D) i j l = (1, (absC m D).err) from (if_neg ho).trans ((if_neg hn).trans ((if_neg hp).trans (if_pos hb)))]
  refine (program_perm hs hof i j (by omega) (by omega) hb A l.length c hlz).mono ?_
  rintro e w' ⟨rfl, h2, hk⟩
  exact ⟨rfl, ⟨gb, gp, _, D, h2, rfl, hl⟩, hk⟩
 have hbd : (m.bk i).bad = false := by
  cases hh : (m.bk i).bad with
  | false => rfl
  | true => exact absurd (.inl hh) hb
 have hnx : (m.bk i).nx = j := Decidable.not_not.1 (fun hh => hb (.inr hh))
 have e0 : progA (absC m D) i j l = match hitOf m.pl (tgt m) with
  | none => (0, (absC m D).tick.put i j 1 l)
  | some f => if f.f1 = 2 then (5, (absC m D).tick.put i j 2 [])
   else if f.f2 = 0 then (6, (absC m D).tick.cut) else if f.f2 = 1 then (6, (absC m D).tick.cut.put i j 2 []) else (6, (absC m D).tick.cut.put i j 1 l) := (if_neg ho).trans ((if_neg hn).trans ((if_neg hp).trans (if_neg hb)))
 rw [e0]
 cases hh : hitOf m.pl (tgt m) with
 | none =>
  refine (program_ok hs hof hh i j (by omega) (by omega) hbd hnx A c l hr hc hlz).mono ?_
  rintro e w' ⟨rfl, ⟨v, h2⟩, hk⟩
  exact ⟨rfl, ⟨gb, gp, _, _, h2, absC_put { m with ops := wrap64 (m.ops + 1) } D i j 1 v l, updD_len hl i j l hlz⟩, hk⟩
 | some f =>
  simp only
  by_cases h1 : f.f1 = 2
  ·rw [if_pos h1]
   refine (program_fail hs hof f hh h1 i j (by omega) (by omega) hbd hnx A c l hr hc hlz).mono ?_
   rintro e w' ⟨rfl, h2, hk⟩
   exact ⟨rfl, ⟨gb, gp, _, _, h2, absC_put { m with ops := wrap64 (m.ops + 1) } D i j 2 _ [], updD_len hl i j [] (Nat.zero_le _)⟩, hk⟩
  rw [if_neg h1]
  by_cases h2 : f.f2 = 0
  ·rw [if_pos h2]
   refine (program_cut0 hs hof f hh h1 h2 i j (by omega) (by omega) hbd hnx A c l hr hc hlz).mono ?_
   rintro e w' ⟨rfl, h2, hk⟩
   exact ⟨rfl, ⟨gb, gp, _, _, h2, rfl, hl⟩, hk⟩
  rw [if_neg h2]
  by_cases h3 : f.f2 = 1
  ·rw [if_pos h3]
   refine (program_cut1 hs hof f hh h1 h3 i j (by omega) (by omega) hbd hnx A c l hr hc hlz).mono ?_
   rintro e w' ⟨rfl, h2, hk⟩
   exact ⟨rfl, ⟨gb, gp, _, _, h2, absC_put { m with ops := wrap64 (m.ops + 1), off := true } D i j 2 _ [], updD_len hl i j [] (Nat.zero_le _)⟩, hk⟩
  rw [if_neg h3]
  refine (program_cut2 hs hof f hh h1 h2 h3 i j (by omega) (by omega) hbd hnx A c l hr hc hlz).mono ?_
  rintro e w' ⟨rfl, ⟨v, h2⟩, hk⟩
  exact ⟨rfl, ⟨gb, gp, _, _, h2, absC_put { m with ops := wrap64 (m.ops + 1), off := true } D i j 1 v l, updD_len hl i j l hlz⟩, hk⟩
theorem Chip.erase (h : Chip w0 W gc a) (n : Int) : Calls Tryd.prog 42 #[cp gc, .int .i64 n] W fun e w' => e = .returned (.int .i64 (eraseA a n).1) ∧ Chip w0 w' gc (eraseA a n).2 ∧ Keeps W w' := by
 have h0 := h
 obtain ⟨gb, gp, m, D, hs, rfl, hl⟩ := h
 by_cases ho : m.off = true
 ·rw [show eraseA (absC m D) n = (6, absC m D) from if_pos ho]
  refine (erase_err (k := 6) (by decide) n (ready_off hs ho n)).mono ?_
  rintro e w' ⟨rfl, hb⟩
  exact ⟨rfl, h0.grow hb, Keeps.of_below hb⟩
 have hof : m.off = false := by simpa using ho
 by_cases hn : n < 0 ∨ m.g.B ≤ n
 ·rw [show eraseA (absC m D) n = (22, absC m D) from (if_neg ho).trans (if_pos hn)]
  refine (erase_err (k := 22) (by decide) n (ready_no hs hof n hn)).mono ?_
  rintro e w' ⟨rfl, hb⟩
  exact ⟨rfl, h0.grow hb, Keeps.of_below hb⟩
 obtain ⟨i, rfl⟩ : ∃ i : Nat, n = i := ⟨n.toNat, by omega⟩
 by_cases hb : (m.bk i).bad = true
 ·rw [show eraseA (absC m D) i = (1, (absC m D).err) from (if_neg ho).trans ((if_neg hn).trans (if_pos hb))]
  refine (erase_perm hs hof i (by omega) hb).mono ?_
  rintro e w' ⟨rfl, h2, hk⟩
  exact ⟨rfl, ⟨gb, gp, _, D, h2, rfl, hl⟩, hk⟩
 have hbd : (m.bk i).bad = false := by simpa using hb
 have e0 : eraseA (absC m D) i = match hitOf m.pl (tgt m) with
  | none => (0, (absC m D).tick.erased i 0 0)
  | some f => if f.f1 = 2 then (5, (absC m D).tick.erased i 2 m.g.P)
   else if f.f2 = 1 then (6, (absC m D).tick.cut.erased i 2 m.g.P) else if f.f2 = 2 then (6, (absC m D).tick.cut.erased i 0 0)
   else (6, (absC m D).tick.cut.setBk i { (absC m D).bk i with er := wrap64 (((absC m D).bk i).er + 1) }) := (if_neg ho).trans ((if_neg hn).trans (if_neg hb))
 rw [e0]
 cases hh : hitOf m.pl (tgt m) with
 | none =>
  refine (erase_ok hs hof hh i (by omega) hbd).mono ?_
  rintro e w' ⟨rfl, h2, hk⟩
  exact ⟨rfl, ⟨gb, gp, _, _, h2, absC_clr { m with ops := wrap64 (m.ops + 1) } D i 0 0, clrD_len hl i _⟩, hk⟩
 | some f =>
  simp only
  by_cases h1 : f.f1 = 2
  ·rw [if_pos h1]
   refine (erase_fail hs hof f hh h1 i (by omega) hbd).mono ?_
   rintro e w' ⟨rfl, h2, hk⟩
   exact ⟨rfl, ⟨gb, gp, _, _, h2, absC_clr { m with ops := wrap64 (m.ops + 1) } D i 2 m.g.P, clrD_len hl i _⟩, hk⟩
  rw [if_neg h1]
  by_cases h2 : f.f2 = 1
  ·rw [if_pos h2]
   refine (erase_cut1 hs hof f hh h1 h2 i (by omega) hbd).mono ?_
   rintro e w' ⟨rfl, h2, hk⟩
   exact ⟨rfl, ⟨gb, gp, _, _, h2, absC_clr { m with ops := wrap64 (m.ops + 1), off := true } D i 2 m.g.P, clrD_len hl i _⟩, hk⟩
  rw [if_neg h2]
  by_cases h3 : f.f2 = 2
  ·rw [if_pos h3]
   refine (erase_cut2 hs hof f hh h1 h3 i (by omega) hbd).mono ?_
   rintro e w' ⟨rfl, h2, hk⟩
   exact ⟨rfl, ⟨gb, gp, _, _, h2, absC_clr { m with ops := wrap64 (m.ops + 1), off := true } D i 0 0, clrD_len hl i _⟩, hk⟩
  rw [if_neg h3]
  refine (erase_cut0 hs hof f hh h1 h2 h3 i (by omega) hbd).mono ?_
  rintro e w' ⟨rfl, h2, hk⟩
  exact ⟨rfl, ⟨gb, gp, _, _, h2, absC_er { m with ops := wrap64 (m.ops + 1), off := true } D i, hl⟩, hk⟩
theorem Chip.arm (h : Chip w0 W gc a) (A : Option Addr) (c : Nat) (l : List F3) (hr : Kd.C kF W A l.length l) (hc : l.length ≤ c) : Calls Tryd.prog 47 #[cp gc, .slice A l.length c] W fun e w' => e = .returned (.int .i64 (armA a l).1) ∧ Chip w0 w' gc (armA a l).2 ∧ Keeps W w' := by
 have h0 := h
 obtain ⟨gb, gp, m, D, hs, rfl, hl⟩ := h
 by_cases hp : planOK l = true
 ·rw [show armA (absC m D) l = (0, { absC m D with pl := l, frm := m.ops }) from if_pos hp]
  refine (arm_ok hs A c l hr hc hp).mono ?_
  rintro e w' ⟨rfl, ⟨v, h2⟩, hk⟩
  exact ⟨rfl, ⟨gb, gp, _, _, h2, rfl, hl⟩, hk⟩
 ·rw [show armA (absC m D) l = (22, absC m D) from if_neg hp]
  refine (arm_bad hs A c l hr hc (by simpa using hp)).mono ?_
  rintro e w' ⟨rfl, hb⟩
  exact ⟨rfl, h0.grow hb, Keeps.of_below hb⟩
theorem chip_new (g : Geo) (A : Option Addr) (c : Nat) (l : List F3) (w : World) (hr : Kd.C kF w A l.length l) (hc : l.length ≤ c) (hg : rightG g.B g.P g.Z g.R = true) (hp : planOK l = true) :
  Calls Tryd.prog 14 #[gV g.B g.P g.Z g.R, .slice A l.length c] w fun e w' => ∃ gc : Nat, e = .returned (.tuple #[cp gc, .int .i64 0]) ∧ Chip w w' gc (newA g l) := by
 refine (new_ok g A c l w hr hc hg hp).mono ?_
 rintro e w' ⟨gc, gb, gp, pv, rfl, h⟩
 exact ⟨gc, rfl, gb, gp, _, _, h, rfl, fun i j => Nat.zero_le _⟩
end
end Go.Proofs.YtdlimghdimkadaaDoor.PAll
namespace Go.Proofs.YtdlimghdimkadaaDoor.PAll
open Go.RowKit Go.Proofs.YtdlimghdimkadaaDoorW.PrintWords Go.Proofs.YtdlimghdimkadaaDoorW.PrintLast Go.Proofs.YtdlimghdimkadaaDoorW.PrintMore
set_option linter.unusedSimpArgs false
set_option linter.unusedVariables false
attribute [local go_sem] max2_int min2_int max_two min_two max_three min_three max_four min_four
def At (W : World) (g t : Nat) (f : Nat → Option Value) : Prop := ∃ cells : Array Value, W.heap[g]? = some (.cells cells t (0, 0)) ∧ ∀ o v, f o = some v → cells[o]? = some v
theorem At.keep {W W' : World} {g t : Nat} {f : Nat → Option Value} (h : At W g t f) (e : ∀ cs, W.heap[g]? = some (.cells cs t (0, 0)) → W'.heap[g]? = some (.cells cs t (0, 0))) : At W' g t f := by
 obtain ⟨cells, h1, h2⟩ := h
 exact ⟨cells, e _ h1, h2⟩
theorem At.cell {W : World} {g t : Nat} {f : Nat → Option Value} (h : At W g t f) {o : Nat} {v : Value} (e : f o = some v) : W.cell? ⟨g, o, none⟩ = some v := by
 obtain ⟨cells, h1, h2⟩ := h
 exact (Joins.cell_of_block h1 o).trans (h2 o v e)
theorem At.frozen {W : World} {g t : Nat} {f : Nat → Option Value} (h : At W g t f) (o : Nat) : W.frozen? ⟨g, o, none⟩ = false := by
 obtain ⟨cells, h1, h2⟩ := h
 exact blk_frozen h1 o
theorem At.lt {W : World} {g t : Nat} {f : Nat → Option Value} (h : At W g t f) : g < W.heap.size := by
 obtain ⟨cells, h1, h2⟩ := h
 exact blk_lt h1
theorem At.set {W : World} {g t : Nat} {f f' : Nat → Option Value} (h : At W g t f) {o : Nat} {v u : Value} (ho : f o = some u) (h1 : ∀ w, f' o = some w → w = v) (h2 : ∀ x, x ≠ o → f' x = f x) : At (W.setCell ⟨g, o, none⟩ v) g t f' := by
 obtain ⟨cells, hg, hc⟩ := h
 have hs : o < cells.size := (Array.getElem?_eq_some_iff.1 (hc o u ho)).1
 refine ⟨cells.setIfInBounds o v, blk_put hg o v rfl, fun x w hx => ?_⟩
 by_cases hxo : x = o
 ·subst hxo
  rw [h1 w hx, Array.getElem?_setIfInBounds_self_of_lt hs]
 ·rw [Array.getElem?_setIfInBounds_ne (Ne.symm hxo)]
  rw [h2 x hxo] at hx
  exact hc x w hx
theorem At.ne {W : World} {g g' t t' : Nat} {f : Nat → Option Value} {cs : Array Value} (h : At W g t f) (h' : W.heap[g']? = some (.cells cs t' (0, 0))) (ht : t ≠ t') : g ≠ g' := by
 obtain ⟨cells, h1, h2⟩ := h
 exact ne_of_type h1 h' ht
theorem At.ne2 {W : World} {g g' t t' : Nat} {f f' : Nat → Option Value} (h : At W g t f) (h' : At W g' t' f') (ht : t ≠ t') : g ≠ g' := by
 obtain ⟨cells, h1, h2⟩ := h'
 exact h.ne h1 ht
structure DM where
 gb : Nat
 cap : Nat
 plan : Value
 gp : Nat → Nat
 pv : Nat → Nat → Value
def dC (m : DM) (a : AC) : Array Value := #[.int .i64 a.g.B, .int .i64 a.g.P, .int .i64 a.g.Z, .int .i64 a.g.R, .slice (some ⟨m.gb, 0, none⟩) a.g.B m.cap, .bool a.off, m.plan, .int .i64 a.frm, .int .i64 a.ops, .int .i64 a.wrong]
def dB (gp : Nat → Nat) (a : AC) (o : Nat) : Option Value := if o / 4 < a.g.B then some (if o % 4 = 0 then .slice (some ⟨gp (o / 4), 0, none⟩) a.g.P a.g.P else if o % 4 = 1 then .int .i64 (a.bk (o / 4)).nx else if o % 4 = 2 then .bool (a.bk (o / 4)).bad else .int .i64 (a.bk (o / 4)).er) else none
def dP (P : Nat) (b : ABk) (v : Nat → Value) (o : Nat) : Option Value := if o / 3 < P then some (if o % 3 = 0 then .bool (!((b.pg (o / 3)).st == 0)) else if o % 3 = 1 then .bool ((b.pg (o / 3)).st == 2) else v (o / 3)) else none
structure DS (w0 W : World) (gd : Nat) (m : DM) (a : AC) : Prop where
 c : W.heap[gd]? = some (.cells (dC m a) 100 (0, 0))
 b : At W m.gb 103 (dB m.gp a)
 p : ∀ i, i < a.g.B → At W (m.gp i) 122 (dP a.g.P (a.bk i) (m.pv i))
 inj : ∀ i j, i < a.g.B → j < a.g.B → m.gp i = m.gp j → i = j
 ec : w0.heap.size ≤ gd
 eb : w0.heap.size ≤ m.gb
 ep : ∀ i, i < a.g.B → w0.heap.size ≤ m.gp i
 d : ∀ i j, i < a.g.B → j < a.g.P → Kd.R kB 5 W w0.heap.size (fun _ => True) (m.pv i j) ((a.bk i).pg j).d
 pln : Kd.R kF 71 W w0.heap.size (fun _ => True) m.plan a.pl
 below : Below w0.heap.size w0 W
 gok : GOK a.g
 cap : a.g.B ≤ m.cap
def DChip (w0 W : World) (gd : Nat) (a : AC) : Prop := ∃ m, DS w0 W gd m a
def DKeeps (W w' : World) : Prop := ∀ (k : Nat) (cs : Array Value) (t : Nat) (fr : Nat × Nat), t ≠ 100 → t ≠ 103 → t ≠ 122 → W.heap[k]? = some (.cells cs t fr) → w'.heap[k]? = some (.cells cs t fr)
theorem DKeeps.of_below {W w' : World} (h : Below W.heap.size W w') : DKeeps W w' := fun k cs t fr _ _ _ hk => by rw [h.block k (blk_lt hk)]; exact hk
theorem DKeeps.refl (W : World) : DKeeps W W := fun _ _ _ _ _ _ _ h => h
theorem DKeeps.trans {W w1 w2 : World} (h : DKeeps W w1) (h2 : DKeeps w1 w2) : DKeeps W w2 := fun k cs t fr a b c hk => h2 k cs t fr a b c (h k cs t fr a b c hk)
theorem DKeeps.set {W w' : World} (h : DKeeps W w') {g t : Nat} (hg : ∃ cs, w'.heap[g]? = some (.cells cs t (0, 0))) (ht : t = 100 ∨ t = 103 ∨ t = 122) (k : Nat) (v : Value) : DKeeps W (w'.setCell ⟨g, k, none⟩ v) := fun x cs2 t2 fr h1 h2 h3 hx => by
 obtain ⟨cs, hg⟩ := hg
 have h5 := h x cs2 t2 fr h1 h2 h3 hx
 have hne : x ≠ g := fun e => by
  subst e
  rw [h5] at hg
  simp only [Option.some.injEq, Obj.cells.injEq] at hg
  have e2 := hg.2.1
  rcases ht with h | h | h
  ·exact h1 (e2.trans h)
  ·exact h2 (e2.trans h)
  ·exact h3 (e2.trans h)
 exact (Below.heap_setCell w' ⟨g, k, none⟩ v x hne).trans h5
theorem DKeeps.fresh {W w' : World} (h : DKeeps W w') {p : Addr} (hp : W.heap.size ≤ p.block) (v : Value) : DKeeps W (w'.setCell p v) := fun x cs2 t2 fr h1 h2 h3 hx => by
 have hlt := blk_lt hx
 exact (Below.heap_setCell w' p v x (by omega)).trans (h x cs2 t2 fr h1 h2 h3 hx)
section
variable {w0 W W' : World} {gd : Nat} {m : DM} {a a' : AC}
theorem DS.grow (h : DS w0 W gd m a) (hb : Below W.heap.size W W') : DS w0 W' gd m a :=
 ⟨keep_below h.c hb, h.b.keep (fun _ hk => keep_below hk hb), fun i hi => (h.p i hi).keep (fun _ hk => keep_below hk hb), h.inj, h.ec, h.eb, h.ep, fun i j hi hj => Kd.R_below (h.d i j hi hj) hb, Kd.R_below h.pln hb, below_step h.below hb, h.gok, h.cap⟩
theorem DChip.grow (h : DChip w0 W gd a) (hb : Below W.heap.size W W') : DChip w0 W' gd a := by
 obtain ⟨m, h⟩ := h
 exact ⟨m, h.grow hb⟩
theorem DS.cell (h : DS w0 W gd m a) (k : Nat) : W.cell? ⟨gd, k, none⟩ = (dC m a)[k]? := Joins.cell_of_block h.c k
theorem DS.setC (h : DS w0 W gd m a) (k : Nat) (v : Value) (hm : (dC m a).setIfInBounds k v = dC m a') (hgo : a'.g = a.g) (hb : a'.bk = a.bk) (hpl : a'.pl = a.pl) : DS w0 (W.setCell ⟨gd, k, none⟩ v) gd m a' := by
 have hB : dB m.gp a' = dB m.gp a := by unfold dB; rw [hb, hgo]
 refine ⟨hm ▸ blk_set h.c k v, ?_, fun i hi => ?_, by rw [hgo]; exact h.inj, h.ec, h.eb, by rw [hgo]; exact h.ep, fun i j hi hj => ?_, by rw [hpl]; exact Kd.R_set h.pln h.c (by decide) _ _, below_set h.below h.ec, by rw [hgo]; exact h.gok, by rw [hgo]; exact h.cap⟩
 ·rw [hB]; exact h.b.keep (fun _ hk => blk_far hk (h.b.ne h.c (by decide)) _)
 ·rw [hgo] at hi ⊢; rw [hb]; exact (h.p i hi).keep (fun _ hk => blk_far hk ((h.p i hi).ne h.c (by decide)) _)
 ·rw [hgo] at hi hj; rw [hb]; exact Kd.R_set (h.d i j hi hj) h.c (by decide) _ _
theorem R_setA {α : Type} {d : Kd α} {e base : Nat} {ok : Nat → Prop} {v : Value} {xs : List α} {g t : Nat} {f : Nat → Option Value} (h : d.R e W base ok v xs) (hb : At W g t f) (ht : ∀ q, q ∈ e :: d.E → q ≠ t) (j : Nat) (u : Value) : d.R e (W.setCell ⟨g, j, none⟩ u) base ok v xs := by
 obtain ⟨cs, h1, -⟩ := hb
 exact Kd.R_set h h1 ht j u
theorem DS.setB (h : DS w0 W gd m a) (o : Nat) (v : Value) (ho : o / 4 < a.g.B) (h1 : ∀ w, dB m.gp a' o = some w → w = v) (h2 : ∀ x, x ≠ o → dB m.gp a' x = dB m.gp a x) (hgo : a'.g = a.g) (hC : dC m a' = dC m a) (hp : ∀ i, i < a.g.B → (a'.bk i).pg = (a.bk i).pg) (hpl : a'.pl = a.pl) : DS w0 (W.setCell ⟨m.gb, o, none⟩ v) gd m a' := by
 have hP : ∀ i, i < a.g.B → dP a.g.P (a'.bk i) (m.pv i) = dP a.g.P (a.bk i) (m.pv i) := fun i hi => by unfold dP; rw [hp i hi]
 have hs : ∃ u, dB m.gp a o = some u := by unfold dB; rw [if_pos ho]; exact ⟨_, rfl⟩
 obtain ⟨u, hu⟩ := hs
 refine ⟨?_, h.b.set hu h1 h2, fun i hi => ?_, by rw [hgo]; exact h.inj, h.ec, h.eb, by rw [hgo]; exact h.ep, fun i j hi hj => ?_, by rw [hpl]; exact R_setA h.pln h.b (by decide) _ _, below_set h.below h.eb, by rw [hgo]; exact h.gok, by rw [hgo]; exact h.cap⟩
 ·rw [hC]; exact blk_far h.c (h.b.ne h.c (by decide)).symm _
 ·rw [hgo] at hi ⊢; rw [hP i hi]; exact (h.p i hi).keep (fun _ hk => blk_far hk ((h.p i hi).ne2 h.b (by decide)) _)
 ·rw [hgo] at hi hj; rw [hp i hi]; exact R_setA (h.d i j hi hj) h.b (by decide) _ _
end
def askA (a : AC) (n : Int) : Int := if a.off = true then 6 else if n < 0 ∨ a.g.B ≤ n then 22 else 0
section
variable {w0 W : World} {gd : Nat} {m : DM} {a : AC}
set_option maxRecDepth 100000 in
theorem asked_is (h : DS w0 W gd m a) (n : Int) : Calls Tryd.prog 61 #[cp gd, .int .i64 n] W fun e w' => e = .returned (.int .i64 (askA a n)) ∧ Below W.heap.size W w' := by
 have c5 : W.cell? ⟨gd, 5, none⟩ = some (.bool a.off) := h.cell 5
 have c4 : W.cell? ⟨gd, 4, none⟩ = some (.slice (some ⟨m.gb, 0, none⟩) a.g.B m.cap) := h.cell 4
 clear h
 cases ho : a.off with
 | true =>
  have HE := Aside0.mk (show askA a n = 6 from if_pos ho)
  rw [ho] at c5
  clear ho
  go_enter Tryd.func61, Tryd.ntmps61
  go_wp2
  go_ret
  rw [HE.out]
  exact ⟨rfl, Below.refl _ _⟩
 | false =>
  rw [ho] at c5
  have ho' : ¬ a.off = true := by rw [ho]; decide
  clear ho
  by_cases h1 : n < 0
  ·have d0 : decide (n < 0) = true := decide_eq_true h1
   have HE := Aside0.mk (show askA a n = 22 from (if_neg ho').trans (if_pos (.inl h1)))
   clear h1 ho'
   go_enter Tryd.func61, Tryd.ntmps61
   go_wp2
   go_ret
   rw [HE.out]
   exact ⟨rfl, Below.refl _ _⟩
  ·have d0 : decide (n < 0) = false := decide_eq_false h1
   by_cases h2 : (a.g.B : Int) ≤ n
   ·have d1 : decide ((a.g.B : Int) ≤ n) = true := decide_eq_true h2
    have HE := Aside0.mk (show askA a n = 22 from (if_neg ho').trans (if_pos (.inr h2)))
    clear h1 h2 ho'
    go_enter Tryd.func61, Tryd.ntmps61
    go_wp2
    go_ret
    rw [HE.out]
    exact ⟨rfl, Below.refl _ _⟩
   ·have d1 : decide ((a.g.B : Int) ≤ n) = false := decide_eq_false h2
    have HE := Aside0.mk (show askA a n = 0 from (if_neg ho').trans (if_neg (by omega)))
    clear h1 h2 ho'
    go_enter Tryd.func61, Tryd.ntmps61
    go_wp2
    go_ret
    rw [HE.out]
    exact ⟨rfl, Below.refl _ _⟩
set_option maxRecDepth 100000 in
theorem dpower_is (h : DS w0 W gd m a) : Calls Tryd.prog 46 #[cp gd] W fun e w' => e = .returned (.tuple #[]) ∧ DS w0 w' gd m { a with off := false } ∧ DKeeps W w' := by
 have c5 : W.cell? ⟨gd, 5, none⟩ = some (.bool a.off) := h.cell 5
 have f5 := blk_frozen h.c 5
 have H := Aside0.mk h
 clear h
 go_enter Tryd.func46, Tryd.ntmps46
 go_wp2
 go_end0
 exact ⟨rfl, H.out.setC 5 _ rfl rfl rfl rfl, (DKeeps.refl W).set ⟨_, H.out.c⟩ (by decide) _ _⟩
set_option maxRecDepth 100000 in
theorem dmark_is (h : DS w0 W gd m a) (n : Int) : Calls Tryd.prog 45 #[cp gd, .int .i64 n] W fun e w' => e = .returned (.int .i64 (markA a n).1) ∧ DS w0 w' gd m (markA a n).2 ∧ DKeeps W w' := by
 have HA := Aside0.mk (asked_is h n)
 have H := Aside0.mk h
 clear h
 by_cases ho : a.off = true
 ·have e1 : askA a n = 6 := if_pos ho
  have HE := Aside0.mk (show markA a n = (6, a) from if_pos ho)
  rw [e1] at HA
  clear ho e1
  go_enter Tryd.func45, Tryd.ntmps45
  go_wp2_with (first | (go_at_call 61; (with_reducible refine HA.out.mono ?_); rintro e w1 ⟨rfl, hb1⟩; have HB1 := Aside0.mk hb1; clear hb1))
  go_ret
  rw [HE.out]
  exact ⟨rfl, H.out.grow HB1.out, DKeeps.of_below HB1.out⟩
 by_cases hn : n < 0 ∨ a.g.B ≤ n
 ·have e1 : askA a n = 22 := (if_neg ho).trans (if_pos hn)
  have HE := Aside0.mk (show markA a n = (22, a) from (if_neg ho).trans (if_pos hn))
  rw [e1] at HA
  clear ho hn e1
  go_enter Tryd.func45, Tryd.ntmps45
  go_wp2_with (first | (go_at_call 61; (with_reducible refine HA.out.mono ?_); rintro e w1 ⟨rfl, hb1⟩; have HB1 := Aside0.mk hb1; clear hb1))
  go_ret
  rw [HE.out]
  exact ⟨rfl, H.out.grow HB1.out, DKeeps.of_below HB1.out⟩
 ·have e1 : askA a n = 0 := (if_neg ho).trans (if_neg hn)
  obtain ⟨i, rfl⟩ : ∃ i : Nat, n = (i : Int) := ⟨n.toNat, by omega⟩
  have hi : i < a.g.B := by omega
  have HE := Aside0.mk (show markA a (i : Int) = (0, a.setBk i { a.bk i with bad := true }) from (if_neg ho).trans ((if_neg hn).trans (by rw [Int.toNat_natCast])))
  rw [e1] at HA
  have HI := Aside0.mk hi
  have hq : (i < a.g.B) = True := eq_true hi
  have hqi : ((i : Int) < (a.g.B : Int)) = True := eq_true (by omega)
  clear ho hn e1 hi
  go_enter Tryd.func45, Tryd.ntmps45
  go_wp2_with (first | (go_at_call 61; (with_reducible refine HA.out.mono ?_); rintro e w1 ⟨rfl, hb1⟩; have HB1 := Aside0.mk hb1; have h1 := H.out.grow hb1; have H1 := Aside0.mk h1; have c4 : w1.cell? ⟨gd, 4, none⟩ = some (.slice (some ⟨m.gb, 0, none⟩) a.g.B m.cap) := h1.cell 4; have fb := h1.b.frozen (i * 4 + 2); have cb : w1.cell? ⟨m.gb, i * 4 + 2, none⟩ = some (.bool (a.bk i).bad) := h1.b.cell (by unfold dB; rw [if_pos (by have := HI.out; omega), if_neg (by omega), if_neg (by omega), if_pos (by omega), show (i * 4 + 2) / 4 = i by omega]); clear hb1 h1))
  go_ret
  rw [HE.out]
  have hi := HI.out
  refine ⟨rfl, H1.out.setB (i * 4 + 2) _ (by omega) (fun w hw => ?_) (fun x hx => ?_) rfl rfl (fun j _ => ?_) rfl, (DKeeps.of_below HB1.out).set (by obtain ⟨cs, h1, -⟩ := H1.out.b; exact ⟨cs, h1⟩) (by decide) _ _⟩
  ·unfold dB at hw
   rw [if_pos (by show (i * 4 + 2) / 4 < a.g.B; omega), if_neg (by omega), if_neg (by omega), if_pos (by omega), show (i * 4 + 2) / 4 = i by omega] at hw
   simp [AC.setBk] at hw
   exact hw.symm
  ·unfold dB
   show (if x / 4 < a.g.B then _ else _) = _
   by_cases hxi : x / 4 = i
   ·by_cases h2 : x % 4 = 2
    ·exact absurd (by omega) hx
    ·simp [AC.setBk, hxi, h2]
   ·simp [AC.setBk, hxi]
  ·by_cases hj : j = i <;> simp [AC.setBk, hj]
end
end Go.Proofs.YtdlimghdimkadaaDoor.PAll

/- A region that draws its order, whose last operations wait for all the others: these come one behind the other, in every world that the others may leave. -/
import Derived.Test.YtdlimghdimkadaaDoorRel
namespace Go.Proofs.YtdlimghdimkadaaDoor.Rel
open Go Go.RowKit Go.Proofs.YtdlimghdimkadaaDoorW.PrintLast Go.Proofs.YtdlimghdimkadaaDoorW.PrintWords Go.Proofs.YtdlimghdimkadaaDoor.Reg
def wpTail (P : Program) (ops : Array Oper) (Q : Exit → Act → World → Prop) : List Oper → Act → World → Prop
  | [], a, w => Q .normal a w
  | o :: r, a, w => ∀ K : Act → World → Prop, Shut (∀ a' w', wpTail P ops Q r a' w' → K a' w') → if Region.wanted o (yielded ops a.tmps) = true then Oper.wp P o a w K Q else K (a.put o.dst undef) w
section
variable {P : Program} {ops : Array Oper} {Q : Exit → Act → World → Prop} {T : Bool × List (List Nat × List Nat)} {B : List Nat}
theorem from_getn (m : Nat) {n : Nat} {a0 : Act} {V : List Ent} {S : World → Prop} {G : World → World → Prop} (os : List Oper) : ∀ (l : List Oper) (i : Nat), From P ops Q B n a0 V S G i l → (∀ j, i + j < m → l[j]? = os[i + j]?) → ∀ j, j < l.length → i + j < m → ∃ oi, os[i + j]? = some oi ∧ Step P ops Q B n a0 V S G (i + j) oi
  | [], _, _, _, j, hj, _ => by simp at hj
  | o :: r, i, h, hg, 0, _, hm => by
    have h0 := hg 0 hm
    simp only [List.getElem?_cons_zero, Nat.add_zero] at h0
    exact ⟨o, h0.symm, h.1⟩
  | o :: r, i, h, hg, j + 1, hj, hm => by
    have h2 := from_getn m os r (i + 1) h.2 (fun q hq => by
      have := hg (q + 1) (by omega)
      simp only [List.getElem?_cons_succ] at this
      rw [this, show i + (q + 1) = i + 1 + q by omega]) j (by simp at hj; omega) (by omega)
    rwa [show i + 1 + j = i + (j + 1) by omega] at h2
theorem tail_region {id n m : Nat} {a0 : Act} {w0 : World} (V : List Ent) (S : World → Prop) (G : World → World → Prop) (hm : P.follows .mixedOrders = true) (hn : ops.size = n) (hmn : m < n)
    (hT : rtab .any ops = T) (hw : waitsOk T.2 B = true) (hk : baseOk T.2 (List.range n) = true) (hl : T.2.length = n) (htl : ((List.range n).all fun j => decide (j < m) || (List.range j).all fun i => (B.getD j 0).testBit i) = true)
    (h0 : S w0.drew) (hst : ∀ (k : Nat) (i : Nat) (t : Tmp) (q : Value → World → Prop), V[k]? = some (i, t, .inr q) → ∀ v w w', G w w' → q v w → q v w')
    (hs : ∀ i, i < m → ∃ oi, ops[i]? = some oi ∧ Step P ops Q B n a0 V S G i oi) (hV : okV (inst U0 0 V) a0.tmps.size = true) (hlt : (inst U0 0 V).all (fun e => decide (e.1 < m)) = true)
    (hend : ∀ U w, S w → (∀ (k : Nat) (i : Nat) (t : Tmp) (q : Value → World → Prop), V[k]? = some (i, t, .inr q) → q (U k) w) → wpTail P ops Q (ops.toList.drop m) (putV a0 (inst U 0 V)) w) : (Code.region id ops true).wp P Q a0 w0 := by
  have hVU : ∀ U, okV (inst U 0 V) a0.tmps.size = true := fun U => by rw [okV_key (inst_key (U := U) (U' := U0))]; exact hV
  have htb : ∀ j, j < n → m ≤ j → ∀ i, i < j → (B.getD j 0).testBit i = true := fun j hj hmj i hij => by
    have h1 := List.all_eq_true.1 htl j (List.mem_range.2 hj)
    rw [Bool.or_eq_true, decide_eq_true_eq] at h1
    rcases h1 with h1 | h1
    · omega
    · exact List.all_eq_true.1 h1 i (List.mem_range.2 hij)
  refine start_ (n := n) (S := fun _ => True) (ds := []) (Array.replicate n false) hm hn rfl trivial (fun _ => ?_)
  refine inv_ (T := T) (B := B) (md := .any) (List.range n) (fun b a w => (b m = false ∧ ∃ U, a = putSel a0 b (inst U 0 V) ∧ S w ∧ ∀ (k : Nat) (i : Nat) (t : Tmp) (q : Value → World → Prop), V[k]? = some (i, t, .inr q) → b i = true → q (U k) w) ∨ (∃ t, m < t ∧ t ≤ n ∧ (∀ j, j < t → b j = true) ∧ (∀ j, t ≤ j → j < n → b j = false) ∧ wpTail P ops Q (ops.toList.drop t) a w)) hT hw hk ?_ ?_ ?_ ?_
  · rw [Bool.and_eq_true, beq_iff_eq, beq_iff_eq]
    refine ⟨?_, by simp⟩
    apply List.ext_getElem?
    intro j
    simp only [lof, hl]
    by_cases hj : j < n
    · simp [hj]
    · simp [hj]
  · refine .inl ⟨rfl, U0, ?_, h0, fun _ _ _ _ _ hb => by cases hb⟩
    have : ∀ (V : List (Nat × Tmp × Value)) (a : Act), putSel a (fun _ => false) V = a := by
      intro V
      induction V with
      | nil => intro a; rfl
      | cons e r ih => intro a; unfold putSel; simpa using ih a
    exact (this _ a0).symm
  · intro i hi b a w hI hb hdep hlat
    have hin0 : i < n := List.mem_range.1 hi
    have hin : ∀ j, j < n → (List.range n).contains j = true := fun j hj => by simp [hj]
    by_cases him : i < m
    · have hbm : b m = false := hlat m (by rw [hin m hmn, htb m hmn (Nat.le_refl _) i him]; rfl)
      rcases hI with ⟨_, U, rfl, hS, hU⟩ | ⟨t, ht, _, h1, _⟩
      · obtain ⟨oi, ho, hd⟩ := hs i him
        refine ⟨oi, ho, fun K hK => ?_⟩
        have hD : ∀ j, (deps B n i).contains j = true → b j = true := fun j hj => by
          have h1 := List.contains_iff_mem.1 hj
          obtain ⟨h2, h3⟩ := List.mem_filter.1 h1
          exact hdep j (by rw [hin j (List.mem_range.1 h2), h3]; rfl)
        have hL : ∀ j, (laters B n i).contains j = true → b j = false := fun j hj => by
          have h1 := List.contains_iff_mem.1 hj
          obtain ⟨h2, h3⟩ := List.mem_filter.1 h1
          exact hlat j (by rw [hin j (List.mem_range.1 h2), h3]; rfl)
        have hslot : ∀ (k : Nat) (e : Nat × Tmp × Value), (inst U 0 V)[k]? = some e → (deps B n i).contains e.1 = true → (putSel a0 b (inst U 0 V)).tmps[e.2.1]? = some e.2.2 := by
          intro k e hk hDe
          obtain ⟨h1, h2⟩ := okV_at (hVU U) hk
          refine putSel_on k hk ?_ (hD _ hDe) h2
          rw [List.all_append, Bool.and_eq_true] at h1
          refine List.all_eq_true.2 (fun x hx => ?_)
          have := List.all_eq_true.1 h1.2 x hx
          rw [Bool.and_eq_true] at this
          exact this.2
        have hK0 : Knows a0 V (deps B n i) (laters B n i) (putSel a0 b (inst U 0 V)) w := by
          refine ⟨fun t v ht h0t => ?_, fun t v j hj ht h0t => ?_, fun k i t v hk hDe => hslot k (i, t, v) (inst_inl hk) hDe, fun k i t q hk hDe => ⟨U k, ?_, hU k i t q hk (hD _ hDe)⟩⟩
          · rw [putSel_off (by rw [all_key (p := fun z => !(z.2 == t)) (inst_key (U := U) (U' := U0))]; exact ht)]; exact h0t
          · rw [putSel_not (hL j hj) (by rw [all_key (p := fun z => !(z.2 == t) || z.1 == j) (inst_key (U := U) (U' := U0))]; exact ht)]; exact h0t
          · have := hslot k _ (inst_inr (U := U) (m := 0) hk) hDe
            rw [Nat.zero_add] at this
            exact this
        have hbm2 : up b i m = false := by rw [up_ne (by omega)]; exact hbm
        unfold Step at hd
        rcases hdst : oi.dst with _ | t
        · rw [hdst] at hd
          obtain ⟨hv, hd⟩ := hd
          refine hd (putSel a0 b (inst U 0 V)) w hS hK0 (fun a w => K a w) (fun w' hS' hG => ?_)
          refine hK (putSel a0 b (inst U 0 V)) w' (.inl ⟨hbm2, U, ?_, hS', fun k j t q hk hbj => ?_⟩)
          · exact putSel_none (a := a0) (b := b) (v := undef) (i := i) (L := inst U 0 V) (by rw [all_key (p := fun z => !(z.1 == i)) (inst_key (U := U) (U' := U0))]; exact hv)
          · have hji : j ≠ i := fun hji => by
              subst hji
              obtain ⟨v, hg⟩ := inst_get (U := U0) hk
              have := List.all_eq_true.1 hv _ (List.mem_of_getElem? hg)
              simp at this
            rw [up_ne hji] at hbj
            exact hst k j t q hk _ _ _ hG (hU k j t q hk hbj)
        · rw [hdst] at hd
          obtain ⟨k, e, hk, hd⟩ := hd
          refine hd (putSel a0 b (inst U 0 V)) w hS hK0 K (fun v w' hS' hG hv => ?_)
          cases e with
          | inl c =>
            obtain rfl : v = c := hv
            have hk1 := inst_inl (U := U) (m := 0) hk
            obtain ⟨h1, _⟩ := okV_at (hVU U) hk1
            refine hK _ w' (.inl ⟨hbm2, U, ?_, hS', fun k' j t' q hk' hbj => ?_⟩)
            · refine putSel_upk (L := inst U 0 V) (L' := inst U 0 V) k hb hk1 ?_ h1
              obtain ⟨hk3, hk4⟩ := List.getElem?_eq_some_iff.1 hk1
              rw [← hk4, List.set_getElem_self]
            · have hji : j ≠ i := fun hji => by
                subst hji
                have hkk : k' ≠ k := by
                  rintro rfl
                  rw [hk] at hk'
                  simp at hk'
                exact okV_ne (hVU U) hk1 (inst_inr (U := U) (m := 0) hk') (fun h => hkk h)
              rw [up_ne hji] at hbj
              exact hst k' j t' q hk' _ _ _ hG (hU k' j t' q hk' hbj)
          | inr q =>
            have hk1 := inst_inr (U := U) (m := 0) hk
            obtain ⟨h1, _⟩ := okV_at (hVU U) hk1
            refine hK _ w' (.inl ⟨hbm2, fun j => if j = 0 + k then v else U j, ?_, hS', fun k' j t' q' hk' hbj => ?_⟩)
            · exact putSel_upk (L := inst U 0 V) k hb hk1 (inst_set hk) h1
            · rw [Nat.zero_add]
              by_cases hkk : k' = k
              · subst hkk
                rw [hk] at hk'
                simp only [Option.some.injEq, Prod.mk.injEq, Sum.inr.injEq] at hk'
                obtain ⟨rfl, rfl, rfl⟩ := hk'
                simp only [if_true]
                exact hv
              · simp only [if_neg hkk]
                have hji : j ≠ i := fun hji => by
                  subst hji
                  exact okV_ne (hVU U) hk1 (inst_inr (U := U) (m := 0) hk') (fun h => hkk h)
                rw [up_ne hji] at hbj
                exact hst k' j t' q' hk' _ _ _ hG (hU k' j t' q' hk' hbj)
      · rw [h1 m ht] at hbm
        cases hbm
    · have hall : ∀ j, j < i → b j = true := fun j hj => hdep j (by rw [hin j (by omega), htb i hin0 (by omega) j hj]; rfl)
      have hno : ∀ j, i ≤ j → j < n → b j = false := fun j hij hj => by
        rcases Nat.lt_or_ge i j with h | h
        · exact hlat j (by rw [hin j hj, htb j hj (by omega) i h]; rfl)
        · rw [show j = i by omega]; exact hb
      have hget : ops.toList.drop i = ops[i]'(by omega) :: ops.toList.drop (i + 1) := by rw [List.drop_eq_getElem_cons (by simpa [hn] using hin0)]; simp
      have htw : wpTail P ops Q (ops.toList.drop i) a w := by
        rcases hI with ⟨hbm, U, rfl, hS, hU⟩ | ⟨t, ht, htn, h1, h2, h3⟩
        · have hi2 : i = m := by
            rcases Nat.lt_or_ge m i with h | h
            · rw [hall m h] at hbm; cases hbm
            · omega
          subst hi2
          rw [putSel_all (fun e he => hall e.1 (by
            have h2 : (inst U 0 V).all (fun e => decide (e.1 < i)) = true := by rw [all_key (p := fun z => decide (z.1 < i)) (inst_key (U := U) (U' := U0))]; exact hlt
            have := List.all_eq_true.1 h2 e he
            simpa using this))]
          refine hend U w hS (fun k j t q hk => hU k j t q hk (hall j ?_))
          obtain ⟨v, hg⟩ := inst_get (U := U0) hk
          have := List.all_eq_true.1 hlt _ (List.mem_of_getElem? hg)
          simpa using this
        · have hti : t = i := by
            rcases Nat.lt_trichotomy t i with h | h | h
            · have := h2 t (Nat.le_refl _) (by omega); rw [hall t h] at this; cases this
            · exact h
            · rw [h1 i h] at hb; cases hb
          subst hti
          exact h3
      rw [hget] at htw
      refine ⟨ops[i]'(by omega), by simp [hin0, hn], fun K hK => ?_⟩
      refine htw K (fun a' w' h' => hK a' w' (.inr ⟨i + 1, by omega, by omega, fun j hj => ?_, fun j hj hjn => ?_, h'⟩))
      · by_cases hji : j = i
        · subst hji; exact up_self b j
        · rw [up_ne hji]; exact hall j (by omega)
      · rw [up_ne (by omega)]; exact hno j (by omega) hjn
  · intro b a w hb hI
    have hb2 : ∀ j, j < n → b j = true := fun j hj => hb j (by simp [hj])
    rcases hI with ⟨hbm, _⟩ | ⟨t, ht, htn, h1, h2, h3⟩
    · rw [hb2 m hmn] at hbm; cases hbm
    · have : t = n := by
        rcases Nat.lt_or_ge t n with h | h
        · have := h2 t (Nat.le_refl _) h; rw [hb2 t h] at this; cases this
        · omega
      subst this
      rw [List.drop_eq_nil_of_le (by simp [hn])] at h3
      exact h3
theorem tail {id n m : Nat} {a0 : Act} {w0 : World} (V : List Ent) (S : World → Prop) (G : World → World → Prop) (hm : P.follows .mixedOrders = true) (hn : ops.size = n) (hmn : Nat.blt m n = true) (hc : regOk ops n = true)
    (htl : ((List.range n).all fun j => decide (j < m) || (List.range j).all fun i => ((Reg.bits ops).getD j 0).testBit i) = true)
    (h0 : S w0.drew) (hst : ∀ (k : Nat) (i : Nat) (t : Tmp) (q : Value → World → Prop), V[k]? = some (i, t, .inr q) → ∀ v w w', G w w' → q v w → q v w')
    (hs : From P ops Q (Reg.bits ops) n a0 V S G 0 (ops.toList.take m)) (hV : okV (inst U0 0 V) a0.tmps.size = true) (hlt : (inst U0 0 V).all (fun e => decide (e.1 < m)) = true)
    (hend : ∀ U w, S w → (∀ (k : Nat) (i : Nat) (t : Tmp) (q : Value → World → Prop), V[k]? = some (i, t, .inr q) → q (U k) w) → wpTail P ops Q (ops.toList.drop m) (putV a0 (inst U 0 V)) w) : (Code.region id ops true).wp P Q a0 w0 := by
  unfold regOk at hc
  rw [Bool.and_eq_true, Bool.and_eq_true, beq_iff_eq] at hc
  have hmn2 : m + 1 ≤ n := by simpa [Nat.blt] using hmn
  refine tail_region V S G hm hn hmn2 rfl hc.1.1 hc.1.2 hc.2 htl h0 hst (fun i hi => ?_) hV hlt hend
  have hlen : (ops.toList.take m).length = m := by rw [List.length_take, Array.length_toList, hn]; omega
  have h2 := from_getn m ops.toList (ops.toList.take m) 0 hs (fun j hj => by rw [List.getElem?_take, if_pos (by omega), Nat.zero_add]) i (by rw [hlen]; exact hi) (by omega)
  rw [Nat.zero_add] at h2
  obtain ⟨oi, ho, hd⟩ := h2
  exact ⟨oi, by rw [← ho]; simp, hd⟩
theorem tail_nil {a : Act} {w : World} (h : Q .normal a w) : wpTail P ops Q [] a w := h
theorem tail_cons {o : Oper} {r : List Oper} {a : Act} {w : World} (h : ∀ K : Act → World → Prop, (∀ a' w', wpTail P ops Q r a' w' → K a' w') → if Region.wanted o (yielded ops a.tmps) = true then Oper.wp P o a w K Q else K (a.put o.dst undef) w) : wpTail P ops Q (o :: r) a w := h
end
end Go.Proofs.YtdlimghdimkadaaDoor.Rel

/- A region that draws its order within a fence (a round, too): each of its operations, none of them a call, is shown once. -/
import Derived.Test.YtdlimghdimkadaaDoorReg
import Derived.OrdersIn
import Derived.OwnWalkIn
namespace Go.Proofs.YtdlimghdimkadaaDoor.Reg
open Go Go.RowKit Go.Proofs.YtdlimghdimkadaaDoorW.PrintLast Go.Proofs.YtdlimghdimkadaaDoorW.PrintWords
set_option linter.unusedVariables false
/-- Operations that lead nowhere. -/
def calmOp : Op → Bool
  | .move _ | .assign _ | .pick .. | .load .. | .store .. | .binOp .. | .unOp .. | .fieldAddr .. | .indexAddr .. | .lookup .. | .extract .. => true
  | _ => false
section
variable {P : Program} {Q : Exit → Act → World → Prop}
theorem calm_val {F : Fence} {n : Nat} {o : Oper} {a : Act} {next : Act → World → Prop} {w : World} (s : Sem Value) (h : o.upon P a next Q ((do pure (.value (← s)) : Sem Next).run P w)) : o.uponIn F n P a next Q ((do pure (.value (← s)) : Sem Next).run P w) := by
  rw [Sem.run_bind] at h ⊢
  generalize Sem.run P s w = r at h ⊢
  cases r with
  | ok v w' => simpa [Result.andThen, Sem.run_pure, Oper.upon_value, Oper.uponIn_value] using h
  | halt y w' => cases y <;> first | exact h | exact h.elim
theorem calm_unit {F : Fence} {n : Nat} {o : Oper} {a : Act} {next : Act → World → Prop} {w : World} (s : Sem Unit) (h : o.upon P a next Q ((do s; pure .skip : Sem Next).run P w)) : o.uponIn F n P a next Q ((do s; pure .skip : Sem Next).run P w) := by
  rw [Sem.run_bind] at h ⊢
  generalize Sem.run P s w = r at h ⊢
  cases r with
  | ok v w' => simpa [Result.andThen, Sem.run_pure, Oper.upon_skip, Oper.uponIn_skip] using h
  | halt y w' => cases y <;> first | exact h | exact h.elim
theorem calm_in {F : Fence} {n : Nat} {o : Oper} (hc : calmOp o.op = true) {a : Act} {w : World} {next : Act → World → Prop} (h : o.wp P a w next Q) : o.wpIn F n P a w next Q := by
  unfold Oper.wp at h
  unfold Oper.wpIn
  rw [Oper.semAt_plain F _ _ (by intro c hc'; rw [hc'] at hc; cases hc)]
  refine ⟨by
    intro f hf
    unfold Oper.about at hf
    cases ho : o.op <;> rw [ho] at hc hf <;> first | (cases hf; done) | (cases hc; done), ?_⟩
  unfold execOp at h ⊢
  cases ho : o.op <;> rw [ho] at hc h <;> first
    | (cases hc; done)
    | exact calm_val _ h
    | exact calm_unit _ h
    | exact h
    | (simp only [Sem.run_bind] at h ⊢
       generalize Sem.run P (asBool _) w = r at h ⊢
       cases r with
       | ok v w' => simpa [Result.andThen, Sem.run_pure, Oper.upon_value, Oper.uponIn_value] using h
       | halt y w' => cases y <;> first | exact h | exact h.elim)
theorem any_in {F : Fence} {f : Nat} {ops : Array Oper} (hcl : ops.toList.all (fun o => calmOp o.op) = true) (hlo : ¬ LetsOut Q) :
    ∀ (fuel : Nat) (l : Array Bool) (a : Act) (w : World), wpAny P .any ops Q fuel l a w → wpAnyIn F f P .any ops Q fuel l a w
  | 0, _, _, _, h => h
  | fuel + 1, l, a, w, h => by
    refine ⟨h.1, fun i hi => ?_⟩
    have h2 := h.2 i hi
    unfold wpOp at h2
    unfold wpOpIn
    cases ho : ops[i]? with
    | none => rw [ho] at h2; exact any_in hcl hlo fuel _ a w h2
    | some o =>
      rw [ho] at h2
      have hc : calmOp o.op = true := by
        have hm : o ∈ ops.toList := by
          obtain ⟨hlt, he⟩ := Array.getElem?_eq_some_iff.1 ho
          rw [← he]
          simp
        exact List.all_eq_true.1 hcl o hm
      by_cases hw : Region.wanted o (yielded ops a.tmps) = true
      · simp only [hw, if_true] at h2 ⊢
        rcases h2 with h2 | h2
        · exact Oper.wpIn_mono (fun a w h => any_in hcl hlo fuel _ a w h) (calm_in hc h2)
        · exact absurd h2.2 hlo
      · simp only [hw] at h2 ⊢
        refine ⟨?_, any_in hcl hlo fuel _ _ w (by simpa using h2)⟩
        intro g hg
        unfold Oper.about at hg
        cases hp : o.op <;> rw [hp] at hc hg <;> first | (cases hg; done) | (cases hc; done)
end
section
variable {P : Program} {ops : Array Oper} {Q : Exit → Act → World → Prop} {T : Bool × List (List Nat × List Nat)} {B : List Nat}
theorem det_any {n : Nat} {a0 : Act} {w0 : World} (V : List (Nat × Tmp × Value)) (S : World → Prop) (hn : ops.size = n)
    (hT : rtab .any ops = T) (hw : waitsOk T.2 B = true) (hk : baseOk T.2 (List.range n) = true) (hl : T.2.length = n)
    (h0 : S w0.drew) (hs : ∀ i ∈ List.range n, Det P ops Q B n a0 V S i) (hV : okV V a0.tmps.size = true) (hlt : V.all (fun e => decide (e.1 < n)) = true)
    (hend : ∀ w, S w → Q .normal (putV a0 V) w) : wpAny P .any ops Q n (Array.replicate n false) a0 w0.drew := by
  refine wpAny_of_last (S := fun _ => True) (ds := []) n (Array.replicate n false) a0 w0.drew ?_
  refine inv_ (T := T) (B := B) (md := .any) (List.range n) (fun b a w => a = putSel a0 b V ∧ S w) hT hw hk ?_ ⟨?_, h0⟩ ?_ ?_
  · rw [Bool.and_eq_true, beq_iff_eq, beq_iff_eq]
    refine ⟨?_, by simp⟩
    apply List.ext_getElem?
    intro j
    simp only [lof, hl]
    by_cases hj : j < n
    · simp [hj]
    · simp [hj]
  · have : ∀ (V : List (Nat × Tmp × Value)) (a : Act), putSel a (fun _ => false) V = a := by
      intro V
      induction V with
      | nil => intro a; rfl
      | cons e r ih => intro a; unfold putSel; simpa using ih a
    exact (this V a0).symm
  · intro i hi b a w hI hb hdep hlat
    obtain ⟨rfl, hS⟩ := hI
    obtain ⟨oi, v, ho, hv, hd⟩ := hs i hi
    refine ⟨oi, ho, fun K hK => ?_⟩
    have hin : ∀ j, j < n → (List.range n).contains j = true := fun j hj => by simp [hj]
    have hD : ∀ j, (deps B n i).contains j = true → b j = true := fun j hj => by
      have h1 := List.contains_iff_mem.1 hj
      obtain ⟨h2, h3⟩ := List.mem_filter.1 h1
      exact hdep j (by rw [hin j (List.mem_range.1 h2), h3]; rfl)
    have hL : ∀ j, (laters B n i).contains j = true → b j = false := fun j hj => by
      have h1 := List.contains_iff_mem.1 hj
      obtain ⟨h2, h3⟩ := List.mem_filter.1 h1
      exact hlat j (by rw [hin j (List.mem_range.1 h2), h3]; rfl)
    have hslot : ∀ (k : Nat) (e : Nat × Tmp × Value), V[k]? = some e → (deps B n i).contains e.1 = true → (putSel a0 b V).tmps[e.2.1]? = some e.2.2 := by
      intro k e hk hDe
      obtain ⟨h1, h2⟩ := okV_at hV hk
      refine putSel_on k hk ?_ (hD _ hDe) h2
      rw [List.all_append, Bool.and_eq_true] at h1
      refine List.all_eq_true.2 (fun x hx => ?_)
      have := List.all_eq_true.1 h1.2 x hx
      rw [Bool.and_eq_true] at this
      exact this.2
    refine hd (putSel a0 b V) w hS ⟨fun t v ht h0t => by rw [putSel_off ht]; exact h0t, fun t v j hj ht h0t => by rw [putSel_not (hL j hj) ht]; exact h0t, fun k i t v hk hDe => hslot k (i, t, v) hk hDe⟩ K (fun w' hS' => ?_)
    refine hK _ _ ⟨?_, hS'⟩
    rcases hdst : oi.dst with _ | t
    · rw [hdst] at hv
      exact putSel_none hv
    · rw [hdst] at hv
      obtain ⟨k, hk⟩ := hv
      obtain ⟨h1, _⟩ := okV_at hV hk
      refine putSel_upk (L := V) (L' := V) k hb hk ?_ h1
      have hk2 := (List.getElem?_eq_some_iff.1 hk)
      obtain ⟨hk3, hk4⟩ := hk2
      rw [← hk4, List.set_getElem_self]
  · intro b a w hb hI
    obtain ⟨rfl, hS⟩ := hI
    rw [putSel_all (fun e he => hb e.1 (by
      have := List.all_eq_true.1 hlt e he
      simp only [decide_eq_true_eq] at this
      simp [this]))]
    exact hend w hS
theorem detIn {F : Fence} {f : Nat} {id n : Nat} {a0 : Act} {w0 : World} (V : List (Nat × Tmp × Value)) (S : World → Prop) (hm : P.follows .mixedOrders = true) (hn : ops.size = n) (hcl : ops.toList.all (fun o => calmOp o.op) = true) (hlo : ¬ LetsOut Q) (hc : regOk ops n = true)
    (h0 : S w0.drew) (hs : DetFrom P ops Q (bits ops) n a0 V S 0 ops.toList) (hV : okV V a0.tmps.size = true) (hlt : V.all (fun e => decide (e.1 < n)) = true)
    (hend : ∀ w, S w → Q .normal (putV a0 V) w) : (Code.region id ops true).wpIn F f P Q a0 w0 := by
  unfold regOk at hc
  rw [Bool.and_eq_true, Bool.and_eq_true, beq_iff_eq] at hc
  refine wpIn_region_any hm ?_
  rw [hn]
  refine any_in hcl hlo _ _ _ _ (det_any V S hn rfl hc.1.1 hc.1.2 hc.2 h0 (fun i hi => ?_) hV hlt hend)
  have h2 := from_get ops.toList 0 hs (fun j => by simp) i (by simpa [hn] using hi)
  rwa [Nat.zero_add] at h2
end
end Go.Proofs.YtdlimghdimkadaaDoor.Reg

/- What the law ScanOnce rests on, part 1: texts of the session and what the print wrote for it, one behind the other; only what the proof names is kept. -/
import Derived.OrdersHeld
import Derived.Deep.RegionHeld3
import Derived.Laws.BitsLemmas
import Derived.RowKit
import Derived.Test.YtdlimghdimkadaaDoorQ0
import Derived.Test.YtdlimghdimkadaaDoorProg
import Derived.Below
import Derived.Deep.Draws
import Derived.Deep.AppendLies
import Derived.Maps.AppendAt
import Derived.OwnWalk
import Derived.Laws.BytesArg
import Derived.Laws.MakeOwn
import Derived.Laws.OwnMore
import Derived.Deep.OwnRows
import Derived.Tactics
import Derived.Lib.ConvBytes
import Derived.Laws.Slices
import Derived.WalkKit
import Derived.KernelRfl
import Derived.RowKit3
import Derived.Deep.LoopGhost
import Derived.Deep.QuietTactic
import Derived.BigQuiet
import Derived.WideLaws
import Derived.Deep.DeepCutAuto
import Derived.Deep.CutBlock
import Derived.Laws.Rows
import Derived.Lib.AppendStr
import Derived.ArgAppend
import Derived.Laws.IdiomCopy
import Derived.Lib.SmallJoins
import Derived.Deep.RegionLaw
import Derived.WalkSpells
import Derived.Outline
namespace Go.Proofs.YtdlimghdimkadaaDoorW.PrintLast
section
variable {P : Program} {ops : Array Oper} {Q : Exit → Act → World → Prop} {md : Region.Mode} {S : World → Prop} {ds : List Nat}
def Region.reachB (md : Region.Mode) (ops : Array Oper) (i : Nat) : Nat → Nat → Bool
 | 0, _ => false
 | fuel + 1, d => match ops[d]? with
  | some o => o.after.any fun e => Region.binds md e && (e.on == i || Region.reachB md ops i fuel e.on)
  | none => false
def Region.closedB (md : Region.Mode) (ops : Array Oper) (listed : Array Bool) : Bool :=
 (List.range ops.size).all fun j => !listed.getD j false || match ops[j]? with
  | some o => o.after.all fun e => !Region.binds md e || listed.getD e.on false
  | none => true
def Region.lastB (md : Region.Mode) (ops : Array Oper) (listed : Array Bool) (ds : List Nat) (i : Nat) : Bool :=
 ds.all fun d => listed.getD d true || Region.reachB md ops i ops.size d
def ListedClosed (md : Region.Mode) (ops : Array Oper) (listed : Array Bool) : Prop :=
 ∀ j oj, ops[j]? = some oj → listed.getD j false = true → ∀ e ∈ oj.after, Region.binds md e = true → listed.getD e.on false = true
theorem Region.closedB_spec {listed : Array Bool} (h : Region.closedB md ops listed = true) : ListedClosed md ops listed := by
 intro j oj hj hl e he hb
 have hlt : j < ops.size := (Array.getElem?_eq_some_iff.1 hj).1
 have h1 := List.all_eq_true.1 h j (List.mem_range.2 hlt)
 simp only [hl, hj, Bool.not_true, Bool.false_or] at h1
 have h2 := Array.all_eq_true_iff_forall_mem.1 h1 e he
 simpa [hb] using h2
theorem ListedClosed.set {listed : Array Bool} {i : Nat} (h : ListedClosed md ops listed) (hi : i ∈ Region.ready md ops listed) : ListedClosed md ops (listed.setIfInBounds i true) := by
 obtain ⟨_, oi, hoi, hall⟩ := mem_ready.1 hi
 intro j oj hj hl e he hb
 by_cases hij : i = j
 ·subst hij
  have : oj = oi := Option.some.inj (hj.symm.trans hoi)
  subst this
  exact getD_set_true (hall e he hb)
 ·rw [getD_set_ne false hij] at hl
  exact getD_set_true (h j oj hj hl e he hb)
theorem Region.reach_listed {listed : Array Bool} {i : Nat} (hc : ListedClosed md ops listed) : ∀ (fuel d : Nat), Region.reachB md ops i fuel d = true → listed.getD d false = true → listed.getD i false = true
 | 0, _, h, _ => by simp [Region.reachB] at h
 | fuel + 1, d, h, hl => by
  unfold Region.reachB at h
  cases ho : ops[d]? with
  | none => rw [ho] at h; simp at h
  | some o =>
   rw [ho] at h
   obtain ⟨e, he, h1⟩ := Array.any_eq_true'.1 h
   simp only [Bool.and_eq_true, Bool.or_eq_true, beq_iff_eq] at h1
   have hle := hc d o ho hl e he h1.1
   rcases h1.2 with h2 | h2
   ·rw [← h2]; exact hle
   ·exact Region.reach_listed hc fuel e.on h2 hle
theorem Region.reach_not_ready {listed : Array Bool} {i d fuel : Nat} (hc : ListedClosed md ops listed) (hr : Region.reachB md ops i fuel d = true) (hun : listed.getD i true = false) : d ∉ Region.ready md ops listed := by
 intro hd
 obtain ⟨_, o, ho, hall⟩ := mem_ready.1 hd
 have hi : listed.getD i false = true := by
  cases fuel with
  | zero => simp [Region.reachB] at hr
  | succ n =>
   unfold Region.reachB at hr
   rw [ho] at hr
   obtain ⟨e, he, h1⟩ := Array.any_eq_true'.1 hr
   simp only [Bool.and_eq_true, Bool.or_eq_true, beq_iff_eq] at h1
   have hle := hall e he h1.1
   rcases h1.2 with h2 | h2
   ·rw [← h2]; exact hle
   ·exact Region.reach_listed hc n e.on h2 hle
 rcases Nat.lt_or_ge i listed.size with h' | h'
 ·simp [h'] at hun hi
  rw [hun] at hi
  cases hi
 ·simp [Array.getElem?_eq_none h'] at hun
def wpAnyLast (P : Program) (md : Region.Mode) (ops : Array Oper) (Q : Exit → Act → World → Prop) (S : World → Prop) (ds : List Nat) : Nat → Array Bool → Act → World → Prop
 | 0, listed, a, w => Region.ready md ops listed = [] ∧ Q .normal a w
 | fuel + 1, listed, a, w =>
  (Region.ready md ops listed = [] → Q .normal a w) ∧
  ∀ i ∈ Region.ready md ops listed, wpOp P ops Q i (fun a' w' => (i ∉ ds → S w → S w') ∧ wpAnyLast P md ops Q S ds fuel (listed.setIfInBounds i true) a' w') a w
theorem wpAny_of_last : ∀ (fuel : Nat) (listed : Array Bool) (a : Act) (w : World), wpAnyLast P md ops Q S ds fuel listed a w → wpAny P md ops Q fuel listed a w
 | 0, _, _, _, h => h
 | fuel + 1, _, _, _, h => ⟨h.1, fun i hi => wpOp_mono (fun a' w' h' => wpAny_of_last fuel _ a' w' h'.2) (h.2 i hi)⟩
theorem wpAnyLast_first {i : Nat} {oi : Oper} {v : Value} (hi : ops[i]? = some oi) (hsel : ∀ (j : Nat) (o : Oper) cs b, ops[j]? = some o → o.op ≠ .select cs b)
  (hQ : ∀ c a w, Q (.panic c) (a.put oi.dst v) w → Q (.panic c) a w) (n : Nat) :
  ∀ (fuel : Nat) (listed : Array Bool) (a : Act) (w : World),
   (∀ j oj, ops[j]? = some oj → j ≠ i → listed.getD j true = false → (∀ e ∈ oj.after, Region.binds md e = true → e.on ≠ i) → oi.apart ops oj = true) →
   ListedClosed md ops listed → (∀ d ∈ ds, listed.getD d true = false → Region.reachB md ops i n d = true) →
   i ∈ Region.ready md ops listed → YieldsIf P ops S oi v a → S w →
   wpAnyLast P md ops Q S ds fuel (listed.setIfInBounds i true) (a.put oi.dst v) w → wpAnyLast P md ops Q S ds (fuel + 1) listed a w := by
 intro fuel
 induction fuel with
 | zero =>
  intro listed a w _ _ _ hr hy hS H
  refine ⟨fun h => (by rw [h] at hr; cases hr), fun j hj => ?_⟩
  by_cases hji : j = i
  ·subst hji; exact hy.wpOp hi hS ⟨fun _ h => h, H⟩
  ·have := ready_mono hj hji
   rw [H.1] at this
   cases this
 | succ fuel ih =>
  intro listed a w hfree hc hd hr hy hS H
  refine ⟨fun h => (by rw [h] at hr; cases hr), fun j hj => ?_⟩
  by_cases hji : j = i
  ·subst hji; exact hy.wpOp hi hS ⟨fun _ h => h, H⟩
  ·have h1 := H.2 j (ready_mono hj hji)
   obtain ⟨hjun, oj, hoj, hall⟩ := mem_ready.1 hj
   have hiun := (mem_ready.1 hr).1
   have hnot : ∀ e ∈ oj.after, Region.binds md e = true → e.on ≠ i := fun e he hb heq => by
    have h1 := hall e he hb
    rw [heq] at h1
    rcases Nat.lt_or_ge i listed.size with h' | h'
    ·simp [h'] at hiun h1; rw [hiun] at h1; cases h1
    ·simp [Array.getElem?_eq_none h'] at h1
   have hjd : j ∉ ds := fun hm => Region.reach_not_ready hc (hd j hm hjun) hiun hj
   have h2 := wpOp_putIf hoj (hfree j oj hoj hji hjun hnot) (fun cs b => hsel i oi cs b hi) (fun cs b => hsel j oj cs b hoj) hQ hy h1
   have hfree' : ∀ k ok, ops[k]? = some ok → k ≠ i → (listed.setIfInBounds j true).getD k true = false →
     (∀ e ∈ ok.after, Region.binds md e = true → e.on ≠ i) → oi.apart ops ok = true := fun k ok hk hki hun hno => by
    refine hfree k ok hk hki ?_ hno
    by_cases hjk : j = k
    ·subst hjk; exact hjun
    ·rw [getD_set_ne true hjk] at hun; exact hun
   have hd' : ∀ d ∈ ds, (listed.setIfInBounds j true).getD d true = false → Region.reachB md ops i n d = true := fun d hm hun => by
    refine hd d hm ?_
    by_cases hjk : j = d
    ·subst hjk; exact hjun
    ·rw [getD_set_ne true hjk] at hun; exact hun
   refine wpOp_mono (fun a' w' h3 => ⟨h3.2.1, ih (listed.setIfInBounds j true) a' w' hfree' (hc.set hj) hd' (ready_mono hr (Ne.symm hji)) h3.1 (h3.2.1 hjd hS) ?_⟩) h2
   rw [Array.setIfInBounds_comm _ _ hji]
   exact h3.2.2
theorem wpAnyLast_any {i : Nat} {oi : Oper} {v : Value} (hi : ops[i]? = some oi) (hsel : ∀ (j : Nat) (o : Oper) cs b, ops[j]? = some o → o.op ≠ .select cs b)
  (hQ : ∀ c a w, Q (.panic c) (a.put oi.dst v) w → Q (.panic c) a w) :
  ∀ (fuel : Nat) (listed : Array Bool) (a : Act) (w : World),
   (∀ j oj, ops[j]? = some oj → j ≠ i → listed.getD j true = false → (∀ e ∈ oj.after, Region.binds md e = true → e.on ≠ i) → oi.apart ops oj = true) →
   i ∈ Region.ready md ops listed → Yields P ops oi v a →
   wpAnyLast P md ops Q S ds fuel (listed.setIfInBounds i true) (a.put oi.dst v) w → wpAnyLast P md ops Q S ds (fuel + 1) listed a w := by
 intro fuel
 induction fuel with
 | zero =>
  intro listed a w _ hr hy H
  refine ⟨fun h => (by rw [h] at hr; cases hr), fun j hj => ?_⟩
  by_cases hji : j = i
  ·subst hji; exact (hy.yieldsIf (S := fun _ => True)).wpOp hi trivial ⟨fun _ h => h, H⟩
  ·have := ready_mono hj hji
   rw [H.1] at this
   cases this
 | succ fuel ih =>
  intro listed a w hfree hr hy H
  refine ⟨fun h => (by rw [h] at hr; cases hr), fun j hj => ?_⟩
  by_cases hji : j = i
  ·subst hji; exact (hy.yieldsIf (S := fun _ => True)).wpOp hi trivial ⟨fun _ h => h, H⟩
  ·have h1 := H.2 j (ready_mono hj hji)
   obtain ⟨hjun, oj, hoj, hall⟩ := mem_ready.1 hj
   have hiun := (mem_ready.1 hr).1
   have hnot : ∀ e ∈ oj.after, Region.binds md e = true → e.on ≠ i := fun e he hb heq => by
    have h1 := hall e he hb
    rw [heq] at h1
    rcases Nat.lt_or_ge i listed.size with h' | h'
    ·simp [h'] at hiun h1; rw [hiun] at h1; cases h1
    ·simp [Array.getElem?_eq_none h'] at h1
   have h2 := wpOp_put hoj (hfree j oj hoj hji hjun hnot) (fun cs b => hsel i oi cs b hi) (fun cs b => hsel j oj cs b hoj) hQ hy h1
   have hfree' : ∀ k ok, ops[k]? = some ok → k ≠ i → (listed.setIfInBounds j true).getD k true = false →
     (∀ e ∈ ok.after, Region.binds md e = true → e.on ≠ i) → oi.apart ops ok = true := fun k ok hk hki hun hno => by
    refine hfree k ok hk hki ?_ hno
    by_cases hjk : j = k
    ·subst hjk; exact hjun
    ·rw [getD_set_ne true hjk] at hun; exact hun
   refine wpOp_mono (fun a' w' h3 => ⟨h3.2.1, ih (listed.setIfInBounds j true) a' w' hfree' (ready_mono hr (Ne.symm hji)) h3.1 ?_⟩) h2
   rw [Array.setIfInBounds_comm _ _ hji]
   exact h3.2.2
theorem wpAnyLast_take {i : Nat} {oi : Oper} {v : Value} {fuel : Nat} {listed : Array Bool} {a : Act} {w : World} (hi : ops[i]? = some oi)
  (hs : Region.noSelect ops = true) (hf : Region.free md ops listed i = true) (hr : (Region.ready md ops listed).contains i = true)
  (hc : Region.closedB md ops listed = true) (hl : Region.lastB md ops listed ds i = true)
  (hQ : ∀ c a w, Q (.panic c) (a.put oi.dst v) w → Q (.panic c) a w) (hy : YieldsIf P ops S oi v a) (hS : S w)
  (h : wpAnyLast P md ops Q S ds fuel (listed.setIfInBounds i true) (a.put oi.dst v) w) : wpAnyLast P md ops Q S ds (fuel + 1) listed a w :=
 wpAnyLast_first hi (Region.noSelect_spec hs) hQ ops.size fuel listed a w (Region.free_spec hi hf) (Region.closedB_spec hc)
  (fun d hm hun => by have := List.all_eq_true.1 hl d hm; rw [hun] at this; simpa using this) (by simpa using hr) hy hS h
theorem wpAnyLast_all {rs : List Nat} {fuel : Nat} {listed : Array Bool} {a : Act} {w : World} (hr : Region.ready md ops listed = rs) (hne : rs ≠ [])
  (h : ∀ i ∈ rs, wpOp P ops Q i (fun a' w' => (i ∉ ds → S w → S w') ∧ wpAnyLast P md ops Q S ds fuel (listed.setIfInBounds i true) a' w') a w) : wpAnyLast P md ops Q S ds (fuel + 1) listed a w :=
 ⟨fun h0 => absurd (hr ▸ h0) hne, hr ▸ h⟩
theorem wpAnyLast_done {listed : Array Bool} {a : Act} {w : World} (hr : Region.ready md ops listed = []) (h : Q .normal a w) :
  ∀ fuel, wpAnyLast P md ops Q S ds fuel listed a w
 | 0 => ⟨hr, h⟩
 | _ + 1 => ⟨fun _ => h, by rw [hr]; simp⟩
theorem wp_region_last {id : Nat} {a : Act} {w : World} (hm : P.follows .mixedOrders = true)
  (h : wpAnyLast P .any ops Q S ds ops.size (Array.replicate ops.size false) a { w with drawn := w.drawn + 1 }) : (Code.region id ops true).wp P Q a w :=
 wp_region_any hm (wpAny_of_last _ _ _ _ h)
end
section
variable {P : Program} {ops : Array Oper} {Q : Exit → Act → World → Prop} {md : Region.Mode} {S : World → Prop} {ds : List Nat}
def AllReadyL (P : Program) (md : Region.Mode) (ops : Array Oper) (Q : Exit → Act → World → Prop) (S : World → Prop) (ds : List Nat) (fuel : Nat) (listed : Array Bool) (a : Act) (w : World) (rs : List Nat) : Prop :=
 ∀ i ∈ rs, wpOp P ops Q i (fun a' w' => (i ∉ ds → S w → S w') ∧ wpAnyLast P md ops Q S ds fuel (listed.setIfInBounds i true) a' w') a w
theorem AllReadyL.nil {fuel : Nat} {listed : Array Bool} {a : Act} {w : World} : AllReadyL P md ops Q S ds fuel listed a w [] := fun _ h => by cases h
theorem AllReadyL.cons {fuel : Nat} {listed : Array Bool} {a : Act} {w : World} {i : Nat} {o : Oper} {rs : List Nat} (ho : ops[i]? = some o) (hd : i ∉ ds)
  (h : ∀ K' : Act → World → Prop, Shut (∀ a w, S w → (S w → wpAnyLast P md ops Q S ds fuel (listed.setIfInBounds i true) a w) → K' a w) → if Region.wanted o (yielded ops a.tmps) = true then Oper.wp P o a w K' Q else K' (a.put o.dst undef) w)
  (hs : AllReadyL P md ops Q S ds fuel listed a w rs) : AllReadyL P md ops Q S ds fuel listed a w (i :: rs) := fun j hj => by
 rcases List.mem_cons.1 hj with rfl | hj
 ·exact wpOp_step ho (fun K' hK => h K' (fun a w hS hW => hK a w ⟨fun _ _ => hS, hW hS⟩))
 ·exact hs j hj
theorem wpAnyLast_ready {rs : List Nat} {fuel : Nat} {listed : Array Bool} {a : Act} {w : World} (hr : Region.ready md ops listed = rs) (hne : rs ≠ [])
  (h : AllReadyL P md ops Q S ds fuel listed a w rs) : wpAnyLast P md ops Q S ds (fuel + 1) listed a w := wpAnyLast_all hr hne h
theorem start_ {id n : Nat} {a : Act} {w : World} (l : Array Bool) (hm : P.follows .mixedOrders = true) (hn : ops.size = n) (hl : Array.replicate n false = l) (hS : S w.drew)
  (h : S w.drew → wpAnyLast P .any ops Q S ds n l a w.drew) : (Code.region id ops true).wp P Q a w := by
 subst hn
 subst hl
 exact wp_region_last hm (h hS)
def takeB (md : Region.Mode) (ops : Array Oper) (ds : List Nat) (l l' : Array Bool) (i : Nat) : Bool :=
 Region.noSelect ops && Region.free md ops l i && (Region.ready md ops l).contains i && Region.closedB md ops l && Region.lastB md ops l ds i && (l.setIfInBounds i true == l')
theorem take_ {i : Nat} {N : Option Tmp} {oi : Oper} {v : Value} {fuel : Nat} {l : Array Bool} {a : Act} {w : World} (l' : Array Bool) (hi : ops[i]? = some oi) (hN : oi.dst = N) (hc : takeB md ops ds l l' i = true)
  (hQ : ∀ c a w, Q (.panic c) (a.put oi.dst v) w → Q (.panic c) a w) (hy : YieldsIf P ops S oi v a) (hS : S w) {a' : Act} (ha : a.put N v = a')
  (h : wpAnyLast P md ops Q S ds fuel l' a' w) : wpAnyLast P md ops Q S ds (fuel + 1) l a w := by
 subst ha
 subst hN
 simp only [takeB, Bool.and_eq_true, beq_iff_eq] at hc
 obtain ⟨⟨⟨⟨⟨h1, h2⟩, h3⟩, h4⟩, h5⟩, h6⟩ := hc
 subst h6
 exact wpAnyLast_take hi h1 h2 h3 h4 h5 hQ hy hS h
def anyB (md : Region.Mode) (ops : Array Oper) (l l' : Array Bool) (i : Nat) : Bool :=
 Region.noSelect ops && Region.free md ops l i && (Region.ready md ops l).contains i && (l.setIfInBounds i true == l')
theorem pure_ {i : Nat} {N : Option Tmp} {oi : Oper} {v : Value} {fuel : Nat} {l : Array Bool} {a : Act} {w : World} (l' : Array Bool) (hi : ops[i]? = some oi) (hN : oi.dst = N) (hc : anyB md ops l l' i = true)
  (hQ : ∀ c a w, Q (.panic c) (a.put oi.dst v) w → Q (.panic c) a w) (hy : Yields P ops oi v a) {a' : Act} (ha : a.put N v = a')
  (h : wpAnyLast P md ops Q S ds fuel l' a' w) : wpAnyLast P md ops Q S ds (fuel + 1) l a w := by
 subst ha
 subst hN
 simp only [anyB, Bool.and_eq_true, beq_iff_eq] at hc
 obtain ⟨⟨⟨h1, h2⟩, h3⟩, h6⟩ := hc
 subst h6
 exact wpAnyLast_any hi (Region.noSelect_spec h1) hQ fuel l a w (Region.free_spec hi h2) (by simpa using h3) hy h
def readyB (md : Region.Mode) (ops : Array Oper) (l l' : Array Bool) (i : Nat) : Bool := (Region.ready md ops l == [i]) && (l.setIfInBounds i true == l')
theorem one_ {i : Nat} {N : Option Tmp} {oi : Oper} {fuel : Nat} {l : Array Bool} {a : Act} {w : World} (l' : Array Bool) (hi : ops[i]? = some oi) (hN : oi.dst = N) (hc : readyB md ops l l' i = true) (hd : i ∉ ds)
  (h : ∀ K : Act → World → Prop, Shut (∀ a' w', S w' → (S w' → wpAnyLast P md ops Q S ds fuel l' a' w') → K a' w') → if Region.wanted oi (yielded ops a.tmps) = true then Oper.wp P oi a w K Q else K (a.put N undef) w) :
  wpAnyLast P md ops Q S ds (fuel + 1) l a w := by
 subst hN
 simp only [readyB, Bool.and_eq_true, beq_iff_eq] at hc
 obtain ⟨h1, h2⟩ := hc
 subst h2
 exact wpAnyLast_ready h1 (by simp) (AllReadyL.cons hi hd (fun K hK => h K hK) AllReadyL.nil)
theorem done_ {l : Array Bool} {a : Act} {w : World} {n : Nat} (hr : (Region.ready md ops l == []) = true) (h : Q .normal a w) : wpAnyLast P md ops Q S ds n l a w := wpAnyLast_done (by simpa using hr) h n
theorem norm_ {fuel : Nat} {l : Array Bool} {a a' : Act} {w : World} (ha : a = a') (h : wpAnyLast P md ops Q S ds fuel l a' w) : wpAnyLast P md ops Q S ds fuel l a w := by
 subst ha
 exact h
theorem call_ {oi : Oper} {N : Option Tmp} {a : Act} {w : World} {K : Act → World → Prop} (f : FuncId) (args : Array Value) (hw : Region.wanted oi (yielded ops a.tmps) = true) (hN : oi.dst = N) (hrun : (execOp a.eval oi).run P w = .ok (.enter f args) w)
  (h : Calls P f args w fun e w' => ∃ v, e = .returned v ∧ K (a.put N v) w') : if Region.wanted oi (yielded ops a.tmps) = true then Oper.wp P oi a w K Q else K (a.put N undef) w := by
 rw [if_pos hw]
 subst hN
 unfold Oper.wp
 rw [hrun, Oper.upon_enter]
 refine h.mono fun e w'' hh => ?_
 obtain ⟨v, rfl, hk⟩ := hh
 exact hk
theorem enters_ {f : FuncId} {fn : Func} (hf : P.funcs[f]? = some fn) (hname : (fn.name == "runtime.NumGoroutine") = false) (hb : fn.body.isSome = true) (args : Array Value) (w : World) : (callFunc f args).run P w = .ok (.enter f args) w := by
 have h1 : fn.name ≠ "runtime.NumGoroutine" := by simpa using hname
 obtain ⟨c, hc⟩ := Option.isSome_iff_exists.1 hb
 simp [callFunc, hf, h1, hc]
theorem goes_ {oi : Oper} {N : Option Tmp} {a : Act} {w : World} {K : Act → World → Prop} {f : FuncId} {fn : Func} {as_ : Array Operand} {ts : Array TypeId} (hf : P.funcs[f]? = some fn) (hname : (fn.name == "runtime.NumGoroutine") = false) (hb : fn.body.isSome = true) (args : Array Value)
  (hw : Region.wanted oi (yielded ops a.tmps) = true) (hN : oi.dst = N) (hop : oi.op = .call { callee := .value (.func f), args := as_, argTypes := ts }) (hargs : as_.map a.eval = args)
  (h : Calls P f args w fun e w' => ∃ v, e = .returned v ∧ K (a.put N v) w') : if Region.wanted oi (yielded ops a.tmps) = true then Oper.wp P oi a w K Q else K (a.put N undef) w := by
 refine call_ f args hw hN ?_ h
 have he := enters_ hf hname hb args w
 unfold execOp
 simp [hop, resolve, Deferred.ofValue, invoke, Act.eval, hargs, he]
theorem goesL_ {rest : List Oper} {oi : Oper} {a : Act} {w : World} (N : Option Tmp) (hd : oi.dst = N) (hg : oi.guard = none) {f : FuncId} {fn : Func} {as_ : Array Operand} {ts : Array TypeId} (hf : P.funcs[f]? = some fn) (hname : (fn.name == "runtime.NumGoroutine") = false) (hb : fn.body.isSome = true) (args : Array Value)
  (hop : oi.op = .call { callee := .value (.func f), args := as_, argTypes := ts }) (hargs : as_.map a.eval = args)
  (h : Calls P f args w fun e w' => ∃ v, e = .returned v ∧ wpList P ops Q rest (a.put N v) w') : wpList P ops Q (oi :: rest) a w := by
 refine wpList_plain hg fun K hK => ?_
 have he := enters_ hf hname hb args w
 have hrun : (execOp a.eval oi).run P w = .ok (.enter f args) w := by
  unfold execOp
  simp [hop, resolve, Deferred.ofValue, invoke, Act.eval, hargs, he]
 unfold Oper.wp
 rw [hrun, Oper.upon_enter]
 refine h.mono fun e w'' hh => ?_
 obtain ⟨v, rfl, hk⟩ := hh
 subst hd
 exact hK _ _ hk
theorem i64_w (n : Int) : IntKind.i64.wrap n = Go.RowKit.wrap64 n := by unfold Go.RowKit.wrap64; exact IntKind.wrap_i64 n
theorem i32_w (n : Int) : IntKind.i32.wrap n = Go.RowKit.wrap32 n := by unfold Go.RowKit.wrap32; exact IntKind.wrap_i32 n
end
end Go.Proofs.YtdlimghdimkadaaDoorW.PrintLast
namespace Go.Proofs.YtdlimghdimkadaaDoorW.PrintLast
open Go.Proofs.YtdlimghdimkadaaDoorW.PrintWords (Aside0)
def needsOf (md : Region.Mode) (o : Oper) : List Nat := (o.after.toList.filter (fun e => Region.binds md e)).map (fun e => e.on)
def clashOf (md : Region.Mode) (ops : Array Oper) (i : Nat) (oi : Oper) : List Nat := (List.range ops.size).filter fun j => !(j == i) && match ops[j]? with
 | some oj => !(oj.after.any (fun e => Region.binds md e && e.on == i) || oi.apart ops oj)
 | none => false
def rtab (md : Region.Mode) (ops : Array Oper) : Bool × List (List Nat × List Nat) := (Region.noSelect ops, (List.range ops.size).map fun i => match ops[i]? with
 | some o => (needsOf md o, clashOf md ops i o)
 | none => ([], []))
def readyAt (T : List (List Nat × List Nat)) (l : List Bool) (i : Nat) : Bool := !l.getD i true && match T[i]? with
 | some r => r.1.all (fun j => l.getD j false)
 | none => false
def readyT (T : List (List Nat × List Nat)) (l : List Bool) : List Nat := (List.range T.length).filter (readyAt T l)
section
variable {md : Region.Mode} {ops : Array Oper} {T : Bool × List (List Nat × List Nat)} {l l' li lj lk : Array Bool} {ds : List Nat} {i j k : Nat}
theorem gd (l : Array Bool) (j : Nat) (b : Bool) : l.getD j b = l.toList.getD j b := by simp [Array.getD_eq_getD_getElem?, List.getD_eq_getElem?_getD]
theorem needs_all (o : Oper) (p : Nat → Bool) : o.after.all (fun e => !Region.binds md e || p e.on) = (needsOf md o).all p := by
 unfold needsOf
 rw [← Array.all_toList]
 induction o.after.toList with
 | nil => rfl
 | cons e r ih =>
  rw [List.all_cons, ih, List.filter_cons]
  cases h : Region.binds md e <;> simp
theorem rtab_length : (rtab md ops).2.length = ops.size := by simp [rtab]
theorem rtab_some {o : Oper} (h : ops[i]? = some o) : (rtab md ops).2[i]? = some (needsOf md o, clashOf md ops i o) := by
 have hi := (Array.getElem?_eq_some_iff.1 h).1
 unfold rtab
 rw [List.getElem?_map, List.getElem?_range hi, Option.map_some, h]
theorem rtab_none (h : ops[i]? = none) : (rtab md ops).2[i]? = none := by
 have hi : ops.size ≤ i := Array.getElem?_eq_none_iff.1 h
 exact List.getElem?_eq_none (by rw [rtab_length]; exact hi)
theorem readyAt_eq : readyAt (rtab md ops).2 l.toList i = (!l.getD i true && ((ops[i]?).map (·.after.all fun e => !Region.binds md e || l.getD e.on false)).getD false) := by
 unfold readyAt
 rw [gd]
 cases h : ops[i]? with
 | none => rw [rtab_none h]; rfl
 | some o =>
  rw [rtab_some h]
  simp only [Option.map_some, Option.getD_some]
  rw [← needs_all]
  simp only [gd]
theorem ready_eq : Region.ready md ops l = readyT (rtab md ops).2 l.toList := by
 unfold Region.ready readyT
 rw [rtab_length]
 refine List.filter_congr (fun i _ => ?_)
 rw [readyAt_eq]
def upM (B : List Nat) (d : Nat) : List Nat → Nat
 | [] => 0
 | n :: r => (2 ^ n ||| (if n < d then B.getD n 0 else 0)) ||| upM B d r
def waitsOk (T : List (List Nat × List Nat)) (B : List Nat) : Bool := (List.range T.length).all fun d => match T[d]? with
 | some r => (B.getD d 0 ||| upM B d r.1) == upM B d r.1
 | none => false
theorem upM_bit {B : List Nat} {d i : Nat} : ∀ {ns : List Nat}, (upM B d ns).testBit i = true → ∃ n ∈ ns, n = i ∨ (n < d ∧ (B.getD n 0).testBit i = true)
 | [], h => by simp [upM] at h
 | n :: r, h => by
  unfold upM at h
  rw [Nat.testBit_or, Nat.testBit_or, Bool.or_eq_true, Bool.or_eq_true] at h
  rcases h with (h | h) | h
  ·rw [Nat.testBit_two_pow] at h
   exact ⟨n, List.mem_cons_self, .inl (by simpa using h)⟩
  ·by_cases hn : n < d
   ·rw [if_pos hn] at h
    exact ⟨n, List.mem_cons_self, .inr ⟨hn, h⟩⟩
   ·rw [if_neg hn] at h
    simp at h
  ·obtain ⟨m, hm, h2⟩ := upM_bit h
   exact ⟨m, List.mem_cons_of_mem _ hm, h2⟩
end
end Go.Proofs.YtdlimghdimkadaaDoorW.PrintLast
namespace Go.Proofs.YtdlimghdimkadaaDoorW.PrintLast
def up (b : Nat → Bool) (i : Nat) : Nat → Bool := fun j => if j = i then true else b j
theorem up_self (b : Nat → Bool) (i : Nat) : up b i i = true := by simp [up]
theorem up_ne {b : Nat → Bool} {i j : Nat} (h : j ≠ i) : up b i j = b j := by simp [up, h]
def lof (n : Nat) (O : List Nat) (b : Nat → Bool) : List Bool := (List.range n).map fun j => if O.contains j then b j else true
def putSel (a : Act) (b : Nat → Bool) : List (Nat × Tmp × Value) → Act
 | [] => a
 | e :: r => putSel (if b e.1 = true then a.put (some e.2.1) e.2.2 else a) b r
section
variable {P : Program} {ops : Array Oper} {Q : Exit → Act → World → Prop} {md : Region.Mode} {T : Bool × List (List Nat × List Nat)} {B : List Nat} {O : List Nat} {b : Nat → Bool} {i j n : Nat}
theorem lof_length : (lof n O b).length = n := by simp [lof]
theorem lof_get {d : Bool} (hj : j < n) : (lof n O b).getD j d = if O.contains j then b j else true := by
 simp [lof, List.getD_eq_getElem?_getD, hj]
theorem lof_up (hi : O.contains i = true) : (lof n O b).set i true = lof n O (up b i) := by
 apply List.ext_getElem?
 intro j
 by_cases hj : j < n
 ·by_cases hij : i = j
  ·subst hij
   have hl : i < (lof n O b).length := by rw [lof_length]; exact hj
   rw [List.getElem?_set_self hl]
   simp only [lof, List.getElem?_map, List.getElem?_range hj, Option.map_some, hi, if_true, up_self]
  ·rw [List.getElem?_set_ne hij]
   simp only [lof, List.getElem?_map, List.getElem?_range hj, Option.map_some]
   rw [up_ne (Ne.symm hij)]
 ·rw [List.getElem?_eq_none (by simp [lof]; omega), List.getElem?_eq_none (by simp [lof]; omega)]
def StepAt (P : Program) (ops : Array Oper) (Q : Exit → Act → World → Prop) (B : List Nat) (O : List Nat) (I : (Nat → Bool) → Act → World → Prop) (i : Nat) : Prop :=
 ∀ b a w, I b a w → b i = false → (∀ j, (O.contains j && (B.getD i 0).testBit j) = true → b j = true) → (∀ d, (O.contains d && (B.getD d 0).testBit i) = true → b d = false) →
  ∃ oi, ops[i]? = some oi ∧ ∀ K : Act → World → Prop, Shut (∀ a' w', I (up b i) a' w' → K a' w') → if Region.wanted oi (yielded ops a.tmps) = true then Oper.wp P oi a w K Q else K (a.put oi.dst undef) w
def baseOk (T : List (List Nat × List Nat)) (O : List Nat) : Bool :=
 (List.range T.length).all (fun d => match T[d]? with
  | some r => (O.contains d || r.1.all fun n => !O.contains n) && r.1.all fun n => decide (n < d)
  | none => false) && O.all (fun i => decide (i < T.length)) && decide O.Nodup
theorem baseOk_row {T : List (List Nat × List Nat)} (h : baseOk T O = true) {d : Nat} {r : List Nat × List Nat} (hr : T[d]? = some r) : (O.contains d = false → ∀ n ∈ r.1, O.contains n = false) ∧ ∀ n ∈ r.1, n < d := by
 simp only [baseOk, Bool.and_eq_true] at h
 have h1 := List.all_eq_true.1 h.1.1 d (List.mem_range.2 (List.getElem?_eq_some_iff.1 hr).1)
 rw [hr] at h1
 simp only [Bool.and_eq_true, Bool.or_eq_true, List.all_eq_true, decide_eq_true_eq] at h1
 refine ⟨fun hd n hn => ?_, h1.2⟩
 rcases h1.1 with h2 | h2
 ·rw [hd] at h2; cases h2
 ·simpa using h2 n hn
theorem baseOk_lt {T : List (List Nat × List Nat)} (h : baseOk T O = true) {i : Nat} (hi : i ∈ O) : i < T.length := by
 simp only [baseOk, Bool.and_eq_true] at h
 simpa using List.all_eq_true.1 h.1.2 i hi
theorem baseOk_nodup {T : List (List Nat × List Nat)} (h : baseOk T O = true) : O.Nodup := by
 simp only [baseOk, Bool.and_eq_true] at h
 exact of_decide_eq_true h.2
def Closed (T : List (List Nat × List Nat)) (O : List Nat) (b : Nat → Bool) : Prop := ∀ d r, T[d]? = some r → O.contains d = true → b d = true → ∀ n ∈ r.1, O.contains n = true → b n = true
theorem bits_out {T : List (List Nat × List Nat)} (hw : waitsOk T B = true) (hk : baseOk T O = true) : ∀ (m d : Nat), d ≤ m → d < T.length → O.contains d = false → ∀ j, (B.getD d 0).testBit j = true → O.contains j = false := by
 intro m
 induction m with
 | zero =>
  intro d hd hl hO j hj
  have hd0 : d = 0 := by omega
  subst hd0
  have hr : T[0]? = some T[0] := List.getElem?_eq_getElem hl
  have h1 := List.all_eq_true.1 hw 0 (List.mem_range.2 hl)
  rw [hr] at h1
  simp only [beq_iff_eq] at h1
  have h2 : (upM B 0 T[0].1).testBit j = true := by rw [← h1, Nat.testBit_or, hj, Bool.true_or]
  obtain ⟨n, hn, h3⟩ := upM_bit h2
  have := (baseOk_row hk hr).2 n hn
  omega
 | succ m ih =>
  intro d hd hl hO j hj
  have hr : T[d]? = some T[d] := List.getElem?_eq_getElem hl
  have h1 := List.all_eq_true.1 hw d (List.mem_range.2 hl)
  rw [hr] at h1
  simp only [beq_iff_eq] at h1
  have h2 : (upM B d T[d].1).testBit j = true := by rw [← h1, Nat.testBit_or, hj, Bool.true_or]
  obtain ⟨n, hn, h3⟩ := upM_bit h2
  have hO2 := (baseOk_row hk hr).1 hO n hn
  rcases h3 with rfl | ⟨h4, h5⟩
  ·exact hO2
  ·exact ih n (by omega) (by omega) hO2 j h5
theorem closed_bits {T : List (List Nat × List Nat)} (hw : waitsOk T B = true) (hk : baseOk T O = true) (hc : Closed T O b) : ∀ (m d : Nat), d ≤ m → d < T.length → O.contains d = true → b d = true → ∀ j, O.contains j = true → (B.getD d 0).testBit j = true → b j = true := by
 intro m
 induction m with
 | zero =>
  intro d hd hl hO hb j hjO hj
  have hd0 : d = 0 := by omega
  subst hd0
  have hr : T[0]? = some T[0] := List.getElem?_eq_getElem hl
  have h1 := List.all_eq_true.1 hw 0 (List.mem_range.2 hl)
  rw [hr] at h1
  simp only [beq_iff_eq] at h1
  have h2 : (upM B 0 T[0].1).testBit j = true := by rw [← h1, Nat.testBit_or, hj, Bool.true_or]
  obtain ⟨n, hn, h3⟩ := upM_bit h2
  have := (baseOk_row hk hr).2 n hn
  omega
 | succ m ih =>
  intro d hd hl hO hb j hjO hj
  have hr : T[d]? = some T[d] := List.getElem?_eq_getElem hl
  have h1 := List.all_eq_true.1 hw d (List.mem_range.2 hl)
  rw [hr] at h1
  simp only [beq_iff_eq] at h1
  have h2 : (upM B d T[d].1).testBit j = true := by rw [← h1, Nat.testBit_or, hj, Bool.true_or]
  obtain ⟨n, hn, h3⟩ := upM_bit h2
  rcases h3 with rfl | ⟨h4, h5⟩
  ·exact hc d _ hr hO hb n hn hjO
  ·cases hO2 : O.contains n with
   | true => exact ih n (by omega) (by omega) hO2 (hc d _ hr hO hb n hn hO2) j hjO h5
   | false =>
    have := bits_out hw hk n n (Nat.le_refl _) (by omega) hO2 j h5
    rw [hjO] at this
    cases this
theorem up_count : ∀ {O : List Nat}, O.Nodup → i ∈ O → b i = false → (O.filter fun j => !up b i j).length + 1 = (O.filter fun j => !b j).length
 | [], _, hi, _ => by cases hi
 | x :: r, hn, hi, hb => by
  rw [List.nodup_cons] at hn
  rcases List.mem_cons.1 hi with rfl | hi
  ·have h1 : (r.filter fun j => !up b i j) = r.filter fun j => !b j := by
    refine List.filter_congr (fun j hj => ?_)
    rw [up_ne (fun e => hn.1 (by rw [← e]; exact hj))]
   rw [List.filter_cons, List.filter_cons]
   simp [up_self, hb, h1]
  ·have hxi : x ≠ i := fun e => hn.1 (e ▸ hi)
   have h1 := up_count hn.2 hi hb
   rw [List.filter_cons, List.filter_cons, up_ne hxi]
   cases hbx : b x
   ·simp only [Bool.not_false, if_true, List.length_cons]
    omega
   ·simpa using h1
theorem inv_all (hT : rtab md ops = T) (hw : waitsOk T.2 B = true) (hk : baseOk T.2 O = true) (I : (Nat → Bool) → Act → World → Prop) (hs : ∀ i ∈ O, StepAt P ops Q B O I i)
  (hend : ∀ b a w, (∀ j, O.contains j = true → b j = true) → I b a w → Q .normal a w) :
  ∀ (m : Nat) (b : Nat → Bool) (a : Act) (w : World), (O.filter fun j => !b j).length = m → Closed T.2 O b → I b a w → wpAnyLast P md ops Q (fun _ => True) [] m (lof T.2.length O b).toArray a w := by
 subst hT
 have mem_ready' : ∀ {b : Nat → Bool} {i : Nat}, i ∈ Region.ready md ops (lof (rtab md ops).2.length O b).toArray → i < (rtab md ops).2.length ∧ O.contains i = true ∧ b i = false ∧ ∀ r, (rtab md ops).2[i]? = some r → ∀ n ∈ r.1, n < (rtab md ops).2.length → O.contains n = true → b n = true := by
  intro b i hi
  rw [ready_eq] at hi
  unfold readyT at hi
  rw [List.mem_filter, List.mem_range] at hi
  obtain ⟨hl, h1⟩ := hi
  unfold readyAt at h1
  rw [Bool.and_eq_true, lof_get hl] at h1
  obtain ⟨h2, h3⟩ := h1
  have h4 : O.contains i = true := by
   cases h : O.contains i with
   | true => rfl
   | false => rw [h] at h2; simp at h2
  rw [h4] at h2
  refine ⟨hl, h4, by simpa using h2, fun r hr n hn hnl hO => ?_⟩
  rw [hr] at h3
  simp only [List.all_eq_true] at h3
  have h5 := h3 n hn
  rw [lof_get hnl, hO] at h5
  simpa using h5
 intro m
 induction m with
 | zero =>
  intro b a w hm hc hI
  have hall : ∀ j, O.contains j = true → b j = true := by
   intro j hj
   cases hb : b j with
   | true => rfl
   | false =>
    have : j ∈ O.filter fun j => !b j := List.mem_filter.2 ⟨List.contains_iff_mem.1 hj, by simp [hb]⟩
    rw [List.eq_nil_of_length_eq_zero hm] at this
    cases this
  refine ⟨?_, hend b a w hall hI⟩
  refine List.eq_nil_iff_forall_not_mem.2 (fun i hi => ?_)
  obtain ⟨_, h1, h2, _⟩ := mem_ready' hi
  rw [hall i h1] at h2
  cases h2
 | succ m ih =>
  intro b a w hm hc hI
  refine ⟨fun hr => ?_, fun i hi => ?_⟩
  ·exfalso
   have hex : ∃ i, O.contains i = true ∧ b i = false := by
    cases hf : O.filter (fun j => !b j) with
    | nil => rw [hf] at hm; simp at hm
    | cons x r =>
     have hx : x ∈ O.filter (fun j => !b j) := by rw [hf]; exact List.mem_cons_self
     rw [List.mem_filter] at hx
     exact ⟨x, List.contains_iff_mem.2 hx.1, by simpa using hx.2⟩
   have hmin : ∀ k, (∃ i, i ≤ k ∧ O.contains i = true ∧ b i = false) → ∃ i, O.contains i = true ∧ b i = false ∧ ∀ j, j < i → O.contains j = true → b j = true := by
    intro k
    induction k with
    | zero =>
     rintro ⟨i, hi, h1, h2⟩
     exact ⟨i, h1, h2, fun j hj => by omega⟩
    | succ k ihk =>
     rintro ⟨i, hi, h1, h2⟩
     by_cases hlow : ∃ j, j ≤ k ∧ O.contains j = true ∧ b j = false
     ·exact ihk hlow
     ·refine ⟨i, h1, h2, fun j hj hO => ?_⟩
      cases hb : b j with
      | true => rfl
      | false => exact absurd ⟨j, by omega, hO, hb⟩ hlow
   obtain ⟨i0, h1, h2⟩ := hex
   obtain ⟨i, hO, hb, hlow⟩ := hmin i0 ⟨i0, Nat.le_refl _, h1, h2⟩
   have hl := baseOk_lt hk (List.contains_iff_mem.1 hO)
   have hin : i ∈ Region.ready md ops (lof (rtab md ops).2.length O b).toArray := by
    rw [ready_eq]
    unfold readyT
    rw [List.mem_filter, List.mem_range]
    refine ⟨hl, ?_⟩
    unfold readyAt
    rw [lof_get hl, hO, hb]
    have hr2 : (rtab md ops).2[i]? = some (rtab md ops).2[i] := List.getElem?_eq_getElem hl
    rw [hr2]
    simp only [if_true, Bool.not_false, Bool.true_and, List.all_eq_true]
    intro n hn
    have hni := (baseOk_row hk hr2).2 n hn
    rw [lof_get (by omega)]
    cases hOn : O.contains n with
    | true => simpa using hlow n hni hOn
    | false => simp
   rw [hr] at hin
   cases hin
  ·obtain ⟨hl, hO, hb, hneed⟩ := mem_ready' hi
   have hon : ∀ j, (O.contains j && (B.getD i 0).testBit j) = true → b j = true := by
    intro j hj
    rw [Bool.and_eq_true] at hj
    have hr2 : (rtab md ops).2[i]? = some (rtab md ops).2[i] := List.getElem?_eq_getElem hl
    have h1 := List.all_eq_true.1 hw i (List.mem_range.2 hl)
    rw [hr2] at h1
    simp only [beq_iff_eq] at h1
    have h2 : (upM B i (rtab md ops).2[i].1).testBit j = true := by rw [← h1, Nat.testBit_or, hj.2, Bool.true_or]
    obtain ⟨n, hn, h3⟩ := upM_bit h2
    have hni := (baseOk_row hk hr2).2 n hn
    rcases h3 with rfl | ⟨h4, h5⟩
    ·exact hneed _ hr2 n hn (by omega) hj.1
    ·cases hO2 : O.contains n with
     | true => exact closed_bits hw hk hc n n (Nat.le_refl _) (by omega) hO2 (hneed _ hr2 n hn (by omega) hO2) j hj.1 h5
     | false =>
      have := bits_out hw hk n n (Nat.le_refl _) (by omega) hO2 j h5
      rw [hj.1] at this
      cases this
   have hoff : ∀ d, (O.contains d && (B.getD d 0).testBit i) = true → b d = false := by
    intro d hd
    rw [Bool.and_eq_true] at hd
    cases hbd : b d with
    | false => rfl
    | true =>
     have hdl := baseOk_lt hk (List.contains_iff_mem.1 hd.1)
     have := closed_bits hw hk hc d d (Nat.le_refl _) hdl hd.1 hbd i hO hd.2
     rw [hb] at this
     cases this
   obtain ⟨oi, hoi, hK⟩ := hs i (List.contains_iff_mem.1 hO) b a w hI hb hon hoff
   refine wpOp_step hoi (fun K' hK' => hK K' (fun a' w' hI' => hK' a' w' ⟨fun _ _ => trivial, ?_⟩))
   have hset : (lof (rtab md ops).2.length O b).toArray.setIfInBounds i true = (lof (rtab md ops).2.length O (up b i)).toArray := by
    apply Array.ext'
    rw [Array.toList_setIfInBounds]
    exact lof_up hO
   rw [hset]
   refine ih (up b i) a' w' ?_ ?_ hI'
   ·have := up_count (baseOk_nodup hk) (List.contains_iff_mem.1 hO) hb
    omega
   ·intro d r hr hOd hbd n hn hOn
    by_cases hni : n = i
    ·rw [hni, up_self]
    ·rw [up_ne hni]
     by_cases hdi : d = i
     ·subst hdi
      exact hneed r hr n hn (by have := (baseOk_row hk hr).2 n hn; omega) hOn
     ·rw [up_ne hdi] at hbd
      exact hc d r hr hOd hbd n hn hOn
theorem putSel_off {b : Nat → Bool} {t : Tmp} : ∀ {L : List (Nat × Tmp × Value)} {a : Act}, (L.all fun e => !(e.2.1 == t)) = true → (putSel a b L).tmps[t]? = a.tmps[t]?
 | [], _, _ => rfl
 | e :: r, a, h => by
  rw [List.all_cons, Bool.and_eq_true] at h
  have he : e.2.1 ≠ t := by simpa using h.1
  unfold putSel
  by_cases hb : b e.1 = true
  ·rw [if_pos hb, putSel_off h.2]
   simp [Act.put, Array.getElem?_setIfInBounds_ne he]
  ·rw [if_neg hb]
   exact putSel_off h.2
theorem putSel_on {b : Nat → Bool} {e : Nat × Tmp × Value} : ∀ {L : List (Nat × Tmp × Value)} {a : Act} (k : Nat), L[k]? = some e → ((L.drop (k + 1)).all fun x => !(x.2.1 == e.2.1)) = true → b e.1 = true → Nat.ble (e.2.1 + 1) a.tmps.size = true → (putSel a b L).tmps[e.2.1]? = some e.2.2
 | [], _, _, h, _, _, _ => by cases h
 | x :: r, a, 0, h, hd, hb, ht => by
  simp only [List.getElem?_cons_zero, Option.some.injEq] at h
  subst h
  unfold putSel
  rw [if_pos hb, putSel_off (by simpa using hd)]
  have ht2 : x.2.1 < a.tmps.size := Nat.le_of_ble_eq_true ht
  simp [Act.put, ht2]
 | x :: r, a, k + 1, h, hd, hb, ht => by
  unfold putSel
  refine putSel_on k (by simpa using h) (by simpa using hd) hb ?_
  by_cases hx : b x.1 = true
  ·rw [if_pos hx]
   simpa [Act.put] using ht
  ·rw [if_neg hx]
   exact ht
theorem put_comm {a : Act} {s t : Tmp} {u v : Value} (h : s ≠ t) : (a.put (some s) u).put (some t) v = (a.put (some t) v).put (some s) u := by
 simp only [Act.put]
 rw [Array.setIfInBounds_comm _ _ h]
theorem putSel_put {b : Nat → Bool} {t : Tmp} {v : Value} : ∀ {L : List (Nat × Tmp × Value)} {a : Act}, (L.all fun e => !(e.2.1 == t)) = true → (putSel a b L).put (some t) v = putSel (a.put (some t) v) b L
 | [], _, _ => rfl
 | e :: r, a, h => by
  rw [List.all_cons, Bool.and_eq_true] at h
  have he : e.2.1 ≠ t := by simpa using h.1
  unfold putSel
  by_cases hb : b e.1 = true
  ·rw [if_pos hb, if_pos hb, putSel_put h.2, put_comm he]
  ·rw [if_neg hb, if_neg hb]
   exact putSel_put h.2
theorem putSel_same {b : Nat → Bool} {i : Nat} : ∀ {L : List (Nat × Tmp × Value)} {a : Act}, (L.all fun e => !(e.1 == i)) = true → putSel a (up b i) L = putSel a b L
 | [], _, _ => rfl
 | e :: r, a, h => by
  rw [List.all_cons, Bool.and_eq_true] at h
  have he : e.1 ≠ i := by simpa using h.1
  unfold putSel
  rw [up_ne he]
  exact putSel_same h.2
theorem putSel_up {b : Nat → Bool} {i : Nat} {t : Tmp} {v0 v : Value} : ∀ {L1 L2 : List (Nat × Tmp × Value)} {a : Act}, b i = false → ((L1 ++ L2).all fun e => !(e.1 == i) && !(e.2.1 == t)) = true →
  (putSel a b (L1 ++ (i, t, v0) :: L2)).put (some t) v = putSel a (up b i) (L1 ++ (i, t, v) :: L2)
 | [], L2, a, hb, h => by
  simp only [List.nil_append] at h ⊢
  have h1 : (L2.all fun e => !(e.1 == i)) = true := List.all_eq_true.2 (fun e he => by have := List.all_eq_true.1 h e he; simp only [Bool.and_eq_true] at this; exact this.1)
  have h2 : (L2.all fun e => !(e.2.1 == t)) = true := List.all_eq_true.2 (fun e he => by have := List.all_eq_true.1 h e he; simp only [Bool.and_eq_true] at this; exact this.2)
  unfold putSel
  rw [if_neg (by rw [hb]; decide), if_pos (up_self b i), putSel_put h2, putSel_same h1]
 | e :: r, L2, a, hb, h => by
  simp only [List.cons_append, List.all_cons, Bool.and_eq_true] at h
  have he : e.1 ≠ i := by simpa using h.1.1
  simp only [List.cons_append]
  unfold putSel
  rw [up_ne he]
  exact putSel_up hb h.2
theorem putSel_upk {b : Nat → Bool} {i : Nat} {t : Tmp} {v0 v : Value} {a : Act} {L L' : List (Nat × Tmp × Value)} (k : Nat) (hb : b i = false) (hL : L[k]? = some (i, t, v0)) (hL' : L.set k (i, t, v) = L') (hd : ((L.take k ++ L.drop (k + 1)).all fun e => !(e.1 == i) && !(e.2.1 == t)) = true) :
  (putSel a b L).put (some t) v = putSel a (up b i) L' := by
 have hk := (List.getElem?_eq_some_iff.1 hL).1
 have h1 : L = L.take k ++ (i, t, v0) :: L.drop (k + 1) := by
  have h2 : L[k] = (i, t, v0) := (List.getElem?_eq_some_iff.1 hL).2
  rw [← h2, List.getElem_cons_drop, List.take_append_drop]
 have h3 : L' = L.take k ++ (i, t, v) :: L.drop (k + 1) := by rw [← hL', List.set_eq_take_append_cons_drop, if_pos hk]
 rw [h3]
 conv => lhs; rw [h1]
 exact putSel_up hb hd
theorem putSel_none {b : Nat → Bool} {i : Nat} {L : List (Nat × Tmp × Value)} {a : Act} {v : Value} (h : (L.all fun e => !(e.1 == i)) = true) : (putSel a b L).put none v = putSel a (up b i) L := (putSel_same h).symm
theorem inv_ {l : Array Bool} {fuel : Nat} {a : Act} {w : World} (O : List Nat) (I : (Nat → Bool) → Act → World → Prop) (hT : rtab md ops = T) (hw : waitsOk T.2 B = true) (hk : baseOk T.2 O = true)
  (hl : (lof T.2.length O (fun _ => false) == l.toList && O.length == fuel) = true) (h0 : I (fun _ => false) a w) (hs : ∀ i ∈ O, StepAt P ops Q B O I i)
  (hend : ∀ b a w, (∀ j, O.contains j = true → b j = true) → I b a w → Q .normal a w) : wpAnyLast P md ops Q (fun _ => True) [] fuel l a w := by
 rw [Bool.and_eq_true, beq_iff_eq, beq_iff_eq] at hl
 have h1 := inv_all hT hw hk I hs hend fuel (fun _ => false) a w (by rw [← hl.2]; simp) (fun d r _ _ hb => by cases hb) h0
 have h2 : (lof T.2.length O (fun _ => false)).toArray = l := by apply Array.ext'; exact hl.1
 rw [h2] at h1
 exact h1
end
end Go.Proofs.YtdlimghdimkadaaDoorW.PrintLast
namespace Go.Proofs.YtdlimghdimkadaaDoorW.PrintMore
open Go.RowKit Go.Proofs.YtdlimghdimkadaaDoorW.PrintWords
theorem max2_int (k k' : IntKind) (x y : Int) : Builtin.max2 (.int k x) (.int k' y) = pure (.int k (if x < y then y else x)) := by simp only [Builtin.max2, gt_iff_lt]
theorem min2_int (k k' : IntKind) (x y : Int) : Builtin.min2 (.int k x) (.int k' y) = pure (.int k (if y < x then y else x)) := by simp only [Builtin.min2]
theorem max_two (ats : Array TypeId) (ty : TypeId) (a b : Value) : Builtin.max_ ats ty #[a, b] = (Builtin.max2 a b >>= fun s => pure s) := by simp only [Builtin.max_, List.foldlM_cons, List.foldlM_nil]
theorem min_two (ats : Array TypeId) (ty : TypeId) (a b : Value) : Builtin.min_ ats ty #[a, b] = (Builtin.min2 a b >>= fun s => pure s) := by simp only [Builtin.min_, List.foldlM_cons, List.foldlM_nil]
theorem max_three (ats : Array TypeId) (ty : TypeId) (a b c : Value) : Builtin.max_ ats ty #[a, b, c] = (Builtin.max2 a b >>= fun s => Builtin.max2 s c >>= fun s => pure s) := by simp only [Builtin.max_, List.foldlM_cons, List.foldlM_nil]
theorem min_three (ats : Array TypeId) (ty : TypeId) (a b c : Value) : Builtin.min_ ats ty #[a, b, c] = (Builtin.min2 a b >>= fun s => Builtin.min2 s c >>= fun s => pure s) := by simp only [Builtin.min_, List.foldlM_cons, List.foldlM_nil]
theorem max_four (ats : Array TypeId) (ty : TypeId) (a b c d : Value) : Builtin.max_ ats ty #[a, b, c, d] = (Builtin.max2 a b >>= fun s => Builtin.max2 s c >>= fun s => Builtin.max2 s d >>= fun s => pure s) := by simp only [Builtin.max_, List.foldlM_cons, List.foldlM_nil]
theorem min_four (ats : Array TypeId) (ty : TypeId) (a b c d : Value) : Builtin.min_ ats ty #[a, b, c, d] = (Builtin.min2 a b >>= fun s => Builtin.min2 s c >>= fun s => Builtin.min2 s d >>= fun s => pure s) := by simp only [Builtin.min_, List.foldlM_cons, List.foldlM_nil]
end Go.Proofs.YtdlimghdimkadaaDoorW.PrintMore
namespace Go.Proofs.YtdlimghdimkadaaDoorW.PrintWords
open Go.RowKit
section
variable {P : Program} {ops : Array Oper} {rest : List Oper} {o : Oper} {a : Act} {Q : Exit → Act → World → Prop} {W : World}
theorem gate_callee {f : FuncId} {as_ : Array Operand} {ts : Array TypeId} (_ho : o.op = .call { callee := .value (.func f), args := as_, argTypes := ts }) (h : wpList P ops Q (o :: rest) a W) : wpList P ops Q (o :: rest) a W := h
theorem gate_builtin {b : Builtin} {xs : Array Operand} {ts : Array TypeId} (_ho : o.op = .call { callee := .builtin b, args := xs, argTypes := ts }) (h : wpList P ops Q (o :: rest) a W) : wpList P ops Q (o :: rest) a W := h
end
def mn (a b : Int) : Int := if b < a then b else a
def shl (k : IntKind) (x y : Int) : Int := k.wrap (x * 2 ^ min y.toNat k.bits)
def shr (k : IntKind) (x y : Int) : Int := x / 2 ^ min y.toNat k.bits
theorem shl_small {k : IntKind} {x y j : Int} (h : shl k x y = j) (hy : y ≤ k.bits) : k.wrap (x * 2 ^ y.toNat) = j := by rw [← h]; unfold shl; rw [Nat.min_eq_left (by omega)]
theorem shr_small {k : IntKind} {x y j : Int} (h : shr k x y = j) (hy : y ≤ k.bits) : x / 2 ^ y.toNat = j := by rw [← h]; unfold shr; rw [Nat.min_eq_left (by omega)]
end Go.Proofs.YtdlimghdimkadaaDoorW.PrintWords
namespace Go.Proofs.YtdlimghdimkadaaDoorW.PrintWords
open Go.RowKit
end Go.Proofs.YtdlimghdimkadaaDoorW.PrintWords
namespace Go.Proofs.YtdlimghdimkadaaDoorW.PrintLast
section
variable {ops : Array Oper} {a : Act} {o og : Oper} {g : Nat} {t : Tmp} {u : Bool}
theorem putSel_not {b : Nat → Bool} {j : Nat} (hj : b j = false) : ∀ {L : List (Nat × Tmp × Value)} {a : Act}, (L.all fun e => !(e.2.1 == t) || e.1 == j) = true → (putSel a b L).tmps[t]? = a.tmps[t]?
 | [], _, _ => rfl
 | e :: r, a, h => by
  rw [List.all_cons, Bool.and_eq_true] at h
  unfold putSel
  by_cases hb : b e.1 = true
  ·rw [if_pos hb, putSel_not hj h.2]
   have he : e.2.1 ≠ t := by
    intro ht
    rw [Bool.or_eq_true] at h
    rcases h.1 with h1 | h1
    ·simp [ht] at h1
    ·rw [beq_iff_eq] at h1
     rw [h1, hj] at hb
     cases hb
   simp [Act.put, Array.getElem?_setIfInBounds_ne he]
  ·rw [if_neg hb]
   exact putSel_not hj h.2
theorem wanted_on (hg : o.guard = some (g, u)) (ho : ops[g]? = some og) (hd : og.dst = some t) (hv : a.tmps[t]? = some (.bool u)) : Region.wanted o (yielded ops a.tmps) = true := by
 simp [Region.wanted, hg, yielded, ho, hd, hv]
theorem wanted_off (hg : o.guard = some (g, u)) (ho : ops[g]? = some og) (hd : og.dst = some t) (hv : a.tmps[t]? = some (.bool (!u))) : Region.wanted o (yielded ops a.tmps) = false := by
 cases u <;> simp_all [Region.wanted, yielded]
end
end Go.Proofs.YtdlimghdimkadaaDoorW.PrintLast
namespace Go.Proofs.YtdlimghdimkadaaDoorW.PrintWords
theorem Reps.one {α : Type} {R : α → List Value → Prop} {ps : List α} {cs : List Value} {p : α} {v : Value} (hp : R p [v]) (h : Reps R 1 ps cs) : Reps R 1 (p :: ps) (v :: cs) := by
 refine ⟨by simp [h.1], fun j q hq => ?_⟩
 cases j with
 | zero =>
  simp only [List.getElem?_cons_zero, Option.some.injEq] at hq
  subst hq
  simpa using hp
 | succ j =>
  simp only [List.getElem?_cons_succ] at hq
  have h1 := h.2 j q hq
  simpa [Nat.mul_one] using h1
theorem Reps.front {α : Type} {R : α → List Value → Prop} {size : Nat} {ps : List α} {cs c all : List Value} {p : α} (hp : R p c) (hc : c.length = size) (h : Reps R size ps cs) (ha : c ++ cs = all) : Reps R size (p :: ps) all := by
 subst ha
 refine ⟨by rw [List.length_append, hc, h.1, List.length_cons, Nat.succ_mul, Nat.add_comm], fun j q hq => ?_⟩
 cases j with
 | zero =>
  simp only [List.getElem?_cons_zero, Option.some.injEq] at hq
  subst hq
  rw [Nat.zero_mul, List.drop_zero, List.take_append_of_le_length (by omega), List.take_of_length_le (by omega)]
  exact hp
 | succ j =>
  simp only [List.getElem?_cons_succ] at hq
  have h1 := h.2 j q hq
  rw [Nat.succ_mul, List.drop_append, List.drop_of_length_le (by rw [hc]; exact Nat.le_add_left _ _), List.nil_append, hc, Nat.add_sub_cancel]
  exact h1
theorem Reps.c2 {α : Type} {R : α → List Value → Prop} {ps : List α} {cs : List Value} {p : α} {va vb : Value} (hp : R p [va, vb]) (h : Reps R 2 ps cs) : Reps R 2 (p :: ps) (va :: vb :: cs) := Reps.front hp rfl h rfl
theorem Reps.c3 {α : Type} {R : α → List Value → Prop} {ps : List α} {cs : List Value} {p : α} {va vb vc : Value} (hp : R p [va, vb, vc]) (h : Reps R 3 ps cs) : Reps R 3 (p :: ps) (va :: vb :: vc :: cs) := Reps.front hp rfl h rfl
theorem Reps.c4 {α : Type} {R : α → List Value → Prop} {ps : List α} {cs : List Value} {p : α} {va vb vc vd : Value} (hp : R p [va, vb, vc, vd]) (h : Reps R 4 ps cs) : Reps R 4 (p :: ps) (va :: vb :: vc :: vd :: cs) := Reps.front hp rfl h rfl
theorem Reps.c5 {α : Type} {R : α → List Value → Prop} {ps : List α} {cs : List Value} {p : α} {va vb vc vd ve : Value} (hp : R p [va, vb, vc, vd, ve]) (h : Reps R 5 ps cs) : Reps R 5 (p :: ps) (va :: vb :: vc :: vd :: ve :: cs) := Reps.front hp rfl h rfl
theorem Reps.c6 {α : Type} {R : α → List Value → Prop} {ps : List α} {cs : List Value} {p : α} {va vb vc vd ve vf : Value} (hp : R p [va, vb, vc, vd, ve, vf]) (h : Reps R 6 ps cs) : Reps R 6 (p :: ps) (va :: vb :: vc :: vd :: ve :: vf :: cs) := Reps.front hp rfl h rfl
theorem Reps.c7 {α : Type} {R : α → List Value → Prop} {ps : List α} {cs : List Value} {p : α} {va vb vc vd ve vf vg : Value} (hp : R p [va, vb, vc, vd, ve, vf, vg]) (h : Reps R 7 ps cs) : Reps R 7 (p :: ps) (va :: vb :: vc :: vd :: ve :: vf :: vg :: cs) := Reps.front hp rfl h rfl
theorem Reps.c8 {α : Type} {R : α → List Value → Prop} {ps : List α} {cs : List Value} {p : α} {va vb vc vd ve vf vg vh : Value} (hp : R p [va, vb, vc, vd, ve, vf, vg, vh]) (h : Reps R 8 ps cs) : Reps R 8 (p :: ps) (va :: vb :: vc :: vd :: ve :: vf :: vg :: vh :: cs) := Reps.front hp rfl h rfl
theorem Reps.c9 {α : Type} {R : α → List Value → Prop} {ps : List α} {cs : List Value} {p : α} {va vb vc vd ve vf vg vh vi : Value} (hp : R p [va, vb, vc, vd, ve, vf, vg, vh, vi]) (h : Reps R 9 ps cs) : Reps R 9 (p :: ps) (va :: vb :: vc :: vd :: ve :: vf :: vg :: vh :: vi :: cs) := Reps.front hp rfl h rfl
theorem Reps.c10 {α : Type} {R : α → List Value → Prop} {ps : List α} {cs : List Value} {p : α} {va vb vc vd ve vf vg vh vi vj : Value} (hp : R p [va, vb, vc, vd, ve, vf, vg, vh, vi, vj]) (h : Reps R 10 ps cs) : Reps R 10 (p :: ps) (va :: vb :: vc :: vd :: ve :: vf :: vg :: vh :: vi :: vj :: cs) := Reps.front hp rfl h rfl
end Go.Proofs.YtdlimghdimkadaaDoorW.PrintWords
namespace Go.Proofs.YtdlimghdimkadaaDoorW.PrintWords
open Go.RowKit
section
variable {P : Program} {ops : Array Oper} {rest : List Oper} {o : Oper} {a : Act} {Q : Exit → Act → World → Prop} {W : World}
theorem gate_guard (hw : Region.wanted o (yielded ops a.tmps) = true) (h : wpList P ops Q ({ o with guard := none } :: rest) a W) : wpList P ops Q (o :: rest) a W := by
 have h1 : Region.wanted { o with guard := none } (yielded ops a.tmps) = true := rfl
 unfold wpList at h ⊢
 rw [if_pos h1] at h
 rw [if_pos hw]
 exact h
end
end Go.Proofs.YtdlimghdimkadaaDoorW.PrintWords
namespace Go.Proofs.YtdlimghdimkadaaDoor.PAll
open Go.RowKit Go.Proofs.YtdlimghdimkadaaDoorW.PrintWords Go.Proofs.YtdlimghdimkadaaDoorW.PrintLast Go.Proofs.YtdlimghdimkadaaDoorW.PrintMore
attribute [local go_sem] max2_int min2_int max_two min_two max_three min_three max_four min_four   
set_option linter.unusedVariables false
set_option linter.unusedSimpArgs false
def errW : Option Int → Value
 | none => .nilIface
 | some c => .iface 0 (.int .i64 c)
theorem errW_none : errW none = .nilIface := rfl
theorem errW_some (c : Int) : errW (some c) = .iface 0 (.int .i64 c) := rfl
theorem reads_cast {α : Type} {R : α → List Value → Prop} {size : Nat} {w : World} {A : Option Addr} {n m : Nat} {ps : List α} (e : n = m) (h : ReadsRow R size w A n ps) : ReadsRow R size w A m ps := e ▸ h
theorem info5 : (Tryd.prog.info? 5).map (fun i => (i.zero, i.size, i.bytes)) = some (some (.int .u8 0), 1, 1) := by kernel_rfl
theorem info49 : (Tryd.prog.info? 49).map (fun i => (i.zero, i.size, i.bytes)) = some (some (.agg #[(.int .i64 0), (.int .i64 0), (.int .i64 0), (.int .i64 0), (.int .u64 0), (.bool false)]), 6, 48) := by kernel_rfl
structure S63 where
 f0 : Int
 f1 : Int
 f2 : Int
 f3 : Int
 f4 : Int
 f5 : Bool
def z63 : S63 := ⟨(0 : Int), (0 : Int), (0 : Int), (0 : Int), (0 : Int), false⟩
def k63 : Kd S63 := Kd.iso (Kd.pair (Kd.int .i64) (Kd.pair (Kd.int .i64) (Kd.pair (Kd.int .i64) (Kd.pair (Kd.int .i64) (Kd.pair (Kd.int .u64) Kd.bool))))) (fun x : S63 => (x.f0, x.f1, x.f2, x.f3, x.f4, x.f5))
theorem k63_open {w : World} {x : S63} {cs : List Value} (h : k63.K w x cs) : cs = [.int .i64 x.f0, .int .i64 x.f1, .int .i64 x.f2, .int .i64 x.f3, .int .u64 x.f4, .bool x.f5] := by
 obtain ⟨_, _, rfl, rfl, ⟨_, _, rfl, rfl, ⟨_, _, rfl, rfl, ⟨_, _, rfl, rfl, ⟨_, _, rfl, rfl, rfl⟩⟩⟩⟩⟩ := h
 exact rfl
def rd_T63 (xs : List S63) (i : Int) : S63 := xs.getD i.toNat z63
theorem at_T63 {w : World} {A : Option Addr} {n : Nat} {xs : List S63} (h : Kd.C k63 w A n xs) (i : Int) (h0 : 0 ≤ i) (h1 : i < n) : ∃ ad , A = some ad ∧ w.cell? (ad.add (i.toNat * 6)) = some (.int .i64 (rd_T63 xs i).f0) ∧ w.cell? ⟨(ad.add (i.toNat * 6)).block, (ad.add (i.toNat * 6)).off + 1, none⟩ = some (.int .i64 (rd_T63 xs i).f1) ∧ w.cell? ⟨(ad.add (i.toNat * 6)).block, (ad.add (i.toNat * 6)).off + 2, none⟩ = some (.int .i64 (rd_T63 xs i).f2) ∧ w.cell? ⟨(ad.add (i.toNat * 6)).block, (ad.add (i.toNat * 6)).off + 3, none⟩ = some (.int .i64 (rd_T63 xs i).f3) ∧ w.cell? ⟨(ad.add (i.toNat * 6)).block, (ad.add (i.toNat * 6)).off + 4, none⟩ = some (.int .u64 (rd_T63 xs i).f4) ∧ w.cell? ⟨(ad.add (i.toNat * 6)).block, (ad.add (i.toNat * 6)).off + 5, none⟩ = some (.bool (rd_T63 xs i).f5) := by
 obtain ⟨ad, c, e, _, hK, hc0⟩ := Kd.C_get h z63 i h0 h1
 have hc : ∀ j u, c[j]? = some u → w.cell? (ad.add (i.toNat * 6 + j)) = some u := hc0
 obtain rfl := k63_open hK
 exact ⟨ad, e, hc 0 _ rfl, by rw [← add_field _ _ 1 (by omega)]; exact hc 1 _ rfl, by rw [← add_field _ _ 2 (by omega)]; exact hc 2 _ rfl, by rw [← add_field _ _ 3 (by omega)]; exact hc 3 _ rfl, by rw [← add_field _ _ 4 (by omega)]; exact hc 4 _ rfl, by rw [← add_field _ _ 5 (by omega)]; exact hc 5 _ rfl⟩
structure S49 where
 f0 : Int
 f1 : Int
 f2 : Int
 f3 : Int
 f4 : Int
 f5 : Bool
def z49 : S49 := ⟨(0 : Int), (0 : Int), (0 : Int), (0 : Int), (0 : Int), false⟩
def k49 : Kd S49 := Kd.iso (Kd.pair (Kd.int .i64) (Kd.pair (Kd.int .i64) (Kd.pair (Kd.int .i64) (Kd.pair (Kd.int .i64) (Kd.pair (Kd.int .u64) Kd.bool))))) (fun x : S49 => (x.f0, x.f1, x.f2, x.f3, x.f4, x.f5))
theorem k49_open {w : World} {x : S49} {cs : List Value} (h : k49.K w x cs) : cs = [.int .i64 x.f0, .int .i64 x.f1, .int .i64 x.f2, .int .i64 x.f3, .int .u64 x.f4, .bool x.f5] := by
 obtain ⟨_, _, rfl, rfl, ⟨_, _, rfl, rfl, ⟨_, _, rfl, rfl, ⟨_, _, rfl, rfl, ⟨_, _, rfl, rfl, rfl⟩⟩⟩⟩⟩ := h
 exact rfl
theorem k49_mkM (w : World) (base : Nat) (ok : Nat → Prop) (x : S49)  : k49.M w base ok x [.int .i64 x.f0, .int .i64 x.f1, .int .i64 x.f2, .int .i64 x.f3, .int .u64 x.f4, .bool x.f5] := ⟨[.int .i64 x.f0], [.int .i64 x.f1, .int .i64 x.f2, .int .i64 x.f3, .int .u64 x.f4, .bool x.f5], rfl, rfl, ⟨[.int .i64 x.f1], [.int .i64 x.f2, .int .i64 x.f3, .int .u64 x.f4, .bool x.f5], rfl, rfl, ⟨[.int .i64 x.f2], [.int .i64 x.f3, .int .u64 x.f4, .bool x.f5], rfl, rfl, ⟨[.int .i64 x.f3], [.int .u64 x.f4, .bool x.f5], rfl, rfl, ⟨[.int .u64 x.f4], [.bool x.f5], rfl, rfl, rfl⟩⟩⟩⟩⟩
def rd_T49 (xs : List S49) (i : Int) : S49 := xs.getD i.toNat z49
theorem at_T49 {w : World} {A : Option Addr} {n : Nat} {xs : List S49} (h : Kd.C k49 w A n xs) (i : Int) (h0 : 0 ≤ i) (h1 : i < n) : ∃ ad , A = some ad ∧ w.cell? (ad.add (i.toNat * 6)) = some (.int .i64 (rd_T49 xs i).f0) ∧ w.cell? ⟨(ad.add (i.toNat * 6)).block, (ad.add (i.toNat * 6)).off + 1, none⟩ = some (.int .i64 (rd_T49 xs i).f1) ∧ w.cell? ⟨(ad.add (i.toNat * 6)).block, (ad.add (i.toNat * 6)).off + 2, none⟩ = some (.int .i64 (rd_T49 xs i).f2) ∧ w.cell? ⟨(ad.add (i.toNat * 6)).block, (ad.add (i.toNat * 6)).off + 3, none⟩ = some (.int .i64 (rd_T49 xs i).f3) ∧ w.cell? ⟨(ad.add (i.toNat * 6)).block, (ad.add (i.toNat * 6)).off + 4, none⟩ = some (.int .u64 (rd_T49 xs i).f4) ∧ w.cell? ⟨(ad.add (i.toNat * 6)).block, (ad.add (i.toNat * 6)).off + 5, none⟩ = some (.bool (rd_T49 xs i).f5) := by
 obtain ⟨ad, c, e, _, hK, hc0⟩ := Kd.C_get h z49 i h0 h1
 have hc : ∀ j u, c[j]? = some u → w.cell? (ad.add (i.toNat * 6 + j)) = some u := hc0
 obtain rfl := k49_open hK
 exact ⟨ad, e, hc 0 _ rfl, by rw [← add_field _ _ 1 (by omega)]; exact hc 1 _ rfl, by rw [← add_field _ _ 2 (by omega)]; exact hc 2 _ rfl, by rw [← add_field _ _ 3 (by omega)]; exact hc 3 _ rfl, by rw [← add_field _ _ 4 (by omega)]; exact hc 4 _ rfl, by rw [← add_field _ _ 5 (by omega)]; exact hc 5 _ rfl⟩
structure S71 where
 f0 : Int
 f1 : Int
 f2 : Int
def z71 : S71 := ⟨(0 : Int), (0 : Int), (0 : Int)⟩
def k71 : Kd S71 := Kd.iso (Kd.pair (Kd.int .i64) (Kd.pair (Kd.int .i64) (Kd.int .i64))) (fun x : S71 => (x.f0, x.f1, x.f2))
theorem k71_open {w : World} {x : S71} {cs : List Value} (h : k71.K w x cs) : cs = [.int .i64 x.f0, .int .i64 x.f1, .int .i64 x.f2] := by
 obtain ⟨_, _, rfl, rfl, ⟨_, _, rfl, rfl, rfl⟩⟩ := h
 exact rfl
def rd_T71 (xs : List S71) (i : Int) : S71 := xs.getD i.toNat z71
theorem at_T71 {w : World} {A : Option Addr} {n : Nat} {xs : List S71} (h : Kd.C k71 w A n xs) (i : Int) (h0 : 0 ≤ i) (h1 : i < n) : ∃ ad , A = some ad ∧ w.cell? (ad.add (i.toNat * 3)) = some (.int .i64 (rd_T71 xs i).f0) ∧ w.cell? ⟨(ad.add (i.toNat * 3)).block, (ad.add (i.toNat * 3)).off + 1, none⟩ = some (.int .i64 (rd_T71 xs i).f1) ∧ w.cell? ⟨(ad.add (i.toNat * 3)).block, (ad.add (i.toNat * 3)).off + 2, none⟩ = some (.int .i64 (rd_T71 xs i).f2) := by
 obtain ⟨ad, c, e, _, hK, hc0⟩ := Kd.C_get h z71 i h0 h1
 have hc : ∀ j u, c[j]? = some u → w.cell? (ad.add (i.toNat * 3 + j)) = some u := hc0
 obtain rfl := k71_open hK
 exact ⟨ad, e, hc 0 _ rfl, by rw [← add_field _ _ 1 (by omega)]; exact hc 1 _ rfl, by rw [← add_field _ _ 2 (by omega)]; exact hc 2 _ rfl⟩
end Go.Proofs.YtdlimghdimkadaaDoor.PAll
namespace Go.Proofs.YtdlimghdimkadaaDoor.PAll
open Go.RowKit Go.Proofs.YtdlimghdimkadaaDoorW.PrintWords Go.Proofs.YtdlimghdimkadaaDoorW.PrintLast Go.Proofs.YtdlimghdimkadaaDoorW.PrintMore
theorem keep_below {W w1 : World} {g t : Nat} {cs : Array Value} (h : W.heap[g]? = some (.cells cs t (0, 0))) (hb : Below W.heap.size W w1) : w1.heap[g]? = some (.cells cs t (0, 0)) := by
 rw [hb.block g (blk_lt h)]; exact h
theorem new_blk (W : World) (cs : Array Value) (t : Nat) : (W.alloc (.cells cs t)).heap[W.heap.size]? = some (.cells cs t (0, 0)) := Array.getElem?_push_size
theorem cell_below {W w1 : World} {a : Addr} {v : Value} (h : W.cell? a = some v) (hb : Below W.heap.size W w1) : w1.cell? a = some v := by
 have hlt := World.block_lt_of_cell? _ _ h
 unfold World.cell? at h ⊢
 rw [hb.block _ hlt]
 exact h
end Go.Proofs.YtdlimghdimkadaaDoor.PAll
namespace Go.Proofs.YtdlimghdimkadaaDoor.PAll
open Go.RowKit Go.Proofs.YtdlimghdimkadaaDoorW.PrintWords Go.Proofs.YtdlimghdimkadaaDoorW.PrintLast Go.Proofs.YtdlimghdimkadaaDoorW.PrintMore
set_option linter.unusedSimpArgs false
set_option linter.unusedVariables false
structure F3 where
 f0 : Int
 f1 : Int
 f2 : Int
def zF : F3 := ⟨(0 : Int), (0 : Int), (0 : Int)⟩
def kF : Kd F3 := Kd.iso (Kd.pair (Kd.int .i64) (Kd.pair (Kd.int .i64) (Kd.int .i64))) (fun x : F3 => (x.f0, x.f1, x.f2))
theorem kF_open {w : World} {x : F3} {cs : List Value} (h : kF.K w x cs) : cs = [.int .i64 x.f0, .int .i64 x.f1, .int .i64 x.f2] := by
 obtain ⟨_, _, rfl, rfl, ⟨_, _, rfl, rfl, rfl⟩⟩ := h
 exact rfl
def rd_F (xs : List F3) (i : Int) : F3 := xs.getD i.toNat zF
theorem at_F {w : World} {A : Option Addr} {n : Nat} {xs : List F3} (h : Kd.C kF w A n xs) (i : Int) (h0 : 0 ≤ i) (h1 : i < n) : ∃ ad , A = some ad ∧ w.cell? (ad.add (i.toNat * 3)) = some (.int .i64 (rd_F xs i).f0) ∧ w.cell? ⟨(ad.add (i.toNat * 3)).block, (ad.add (i.toNat * 3)).off + 1, none⟩ = some (.int .i64 (rd_F xs i).f1) ∧ w.cell? ⟨(ad.add (i.toNat * 3)).block, (ad.add (i.toNat * 3)).off + 2, none⟩ = some (.int .i64 (rd_F xs i).f2) := by
 obtain ⟨ad, c, e, _, hK, hc0⟩ := Kd.C_get h zF i h0 h1
 have hc : ∀ j u, c[j]? = some u → w.cell? (ad.add (i.toNat * 3 + j)) = some u := hc0
 obtain rfl := kF_open hK
 exact ⟨ad, e, hc 0 _ rfl, by rw [← add_field _ _ 1 (by omega)]; exact hc 1 _ rfl, by rw [← add_field _ _ 2 (by omega)]; exact hc 2 _ rfl⟩
abbrev kB : Kd Int := Kd.int .u8
structure Pg where
 st : Int
 d : Value
structure Bk where
 bad : Bool
 er : Int
 nx : Int
 pg : Nat → Pg
structure Geo where
 B : Nat
 P : Nat
 Z : Nat
 R : Int
def GOK (g : Geo) : Prop := (16 ≤ g.B ∧ g.B ≤ 256) ∧ (8 ≤ g.P ∧ g.P ≤ 64) ∧ (64 ≤ g.Z ∧ g.Z ≤ 512)
structure Ch where
 g : Geo
 plan : Value
 pl : List F3
 frm : Int
 off : Bool
 ops : Int
 wrong : Int
 bk : Nat → Bk
def Ch.setBk (m : Ch) (i : Nat) (b : Bk) : Ch := { m with bk := fun x => if x = i then b else m.bk x }
def Bk.setPg (b : Bk) (j : Nat) (p : Pg) : Bk := { b with pg := fun x => if x = j then p else b.pg x }
def cC (gb : Nat) (m : Ch) : Array Value := #[.int .i64 m.g.B, .int .i64 m.g.P, .int .i64 m.g.Z, .int .i64 m.g.R, .slice (some ⟨gb, 0, none⟩) m.g.B m.g.B, m.plan, .int .i64 m.frm, .bool m.off, .int .i64 m.ops, .int .i64 m.wrong]
def bcell (gp : Nat → Nat) (m : Ch) (k : Nat) : Value :=
 if k % 4 = 0 then .bool (m.bk (k / 4)).bad else if k % 4 = 1 then .int .i64 (m.bk (k / 4)).er else if k % 4 = 2 then .slice (some ⟨gp (k / 4), 0, none⟩) m.g.P m.g.P else .int .i64 (m.bk (k / 4)).nx
def cB (gp : Nat → Nat) (m : Ch) : Array Value := Array.ofFn fun k : Fin (m.g.B * 4) => bcell gp m k.val
def pcell (b : Bk) (k : Nat) : Value := if k % 2 = 0 then .int .i64 (b.pg (k / 2)).st else (b.pg (k / 2)).d
def cP (P : Nat) (b : Bk) : Array Value := Array.ofFn fun k : Fin (P * 2) => pcell b k.val
theorem cB_get (gp : Nat → Nat) (m : Ch) (k : Nat) (h : k < m.g.B * 4) : (cB gp m)[k]? = some (bcell gp m k) := by
 unfold cB
 rw [Array.getElem?_ofFn, dif_pos h]
theorem cP_get (P : Nat) (b : Bk) (k : Nat) (h : k < P * 2) : (cP P b)[k]? = some (pcell b k) := by
 unfold cP
 rw [Array.getElem?_ofFn, dif_pos h]
theorem ofFn_set {n : Nat} (f g : Nat → Value) (k : Nat) (v : Value) (hk : g k = v) (hne : ∀ x, x ≠ k → g x = f x) : (Array.ofFn fun x : Fin n => f x.val).setIfInBounds k v = Array.ofFn fun x : Fin n => g x.val := by
 apply Array.ext_getElem?
 intro i
 rw [Array.getElem?_setIfInBounds, Array.getElem?_ofFn, Array.getElem?_ofFn]
 by_cases hi : i < n
 ·by_cases hik : k = i
  ·subst hik
   rw [if_pos rfl, if_pos (by simpa using hi), dif_pos hi, hk]
  ·rw [if_neg hik, dif_pos hi, dif_pos hi, hne i (fun h => hik h.symm)]
 ·by_cases hik : k = i
  ·subst hik
   rw [if_pos rfl, if_neg (by simpa using hi), dif_neg hi]
  ·rw [if_neg hik, dif_neg hi, dif_neg hi]
structure St (w0 W : World) (gc gb : Nat) (gp : Nat → Nat) (m : Ch) (D : Nat → Nat → List Int) : Prop where
 c : W.heap[gc]? = some (.cells (cC gb m) 74 (0, 0))
 b : W.heap[gb]? = some (.cells (cB gp m) 79 (0, 0))
 p : ∀ i, i < m.g.B → W.heap[gp i]? = some (.cells (cP m.g.P (m.bk i)) 88 (0, 0))
 inj : ∀ i j, i < m.g.B → j < m.g.B → gp i = gp j → i = j
 ec : w0.heap.size ≤ gc
 eb : w0.heap.size ≤ gb
 ep : ∀ i, i < m.g.B → w0.heap.size ≤ gp i
 d : ∀ i j, i < m.g.B → j < m.g.P → Kd.R kB 5 W w0.heap.size (fun _ => True) ((m.bk i).pg j).d (D i j)
 pln : Kd.R kF 71 W w0.heap.size (fun _ => True) m.plan m.pl
 below : Below w0.heap.size w0 W
 gok : GOK m.g
section
variable {w0 W W' : World} {gc gb : Nat} {gp : Nat → Nat} {m m' : Ch} {D D' : Nat → Nat → List Int}
theorem St.grow (h : St w0 W gc gb gp m D) (hb : Below W.heap.size W W') : St w0 W' gc gb gp m D :=
 ⟨keep_below h.c hb, keep_below h.b hb, fun i hi => keep_below (h.p i hi) hb, h.inj, h.ec, h.eb, h.ep, fun i j hi hj => Kd.R_below (h.d i j hi hj) hb, Kd.R_below h.pln hb, below_step h.below hb, h.gok⟩
theorem ne_of_type {W : World} {g g' t t' : Nat} {cs cs' : Array Value} (h : W.heap[g]? = some (.cells cs t (0, 0))) (h' : W.heap[g']? = some (.cells cs' t' (0, 0))) (ht : t ≠ t') : g ≠ g' := fun e => by
 subst e
 rw [h] at h'
 simp only [Option.some.injEq, Obj.cells.injEq] at h'
 exact ht h'.2.1
theorem St.setC (h : St w0 W gc gb gp m D) (k : Nat) (v : Value) (hm : (cC gb m).setIfInBounds k v = cC gb m') (hgo : m'.g = m.g) (hb : m'.bk = m.bk) (hpl : Kd.R kF 71 W w0.heap.size (fun _ => True) m'.plan m'.pl) : St w0 (W.setCell ⟨gc, k, none⟩ v) gc gb gp m' D := by
 have hB : cB gp m' = cB gp m := by unfold cB bcell; rw [hb, hgo]
 refine ⟨hm ▸ blk_set h.c k v, ?_, fun i hi => ?_, by rw [hgo]; exact h.inj, h.ec, h.eb, by rw [hgo]; exact h.ep, fun i j hi hj => ?_, Kd.R_set hpl h.c (by decide) _ _, below_set h.below h.ec, by rw [hgo]; exact h.gok⟩
 ·rw [hB]; exact blk_far h.b (ne_of_type h.b h.c (by decide)) _
 ·rw [hgo] at hi ⊢; rw [hb]; exact blk_far (h.p i hi) (ne_of_type (h.p i hi) h.c (by decide)) _
 ·rw [hgo] at hi hj; rw [hb]; exact Kd.R_set (h.d i j hi hj) h.c (by decide) _ _
theorem St.setB (h : St w0 W gc gb gp m D) (k : Nat) (v : Value) (hm : (cB gp m).setIfInBounds k v = cB gp m') (hgo : m'.g = m.g) (hC : cC gb m' = cC gb m) (hp : ∀ i, i < m.g.B → (m'.bk i).pg = (m.bk i).pg) (hpl : m'.plan = m.plan ∧ m'.pl = m.pl) : St w0 (W.setCell ⟨gb, k, none⟩ v) gc gb gp m' D := by
 have hP : ∀ i, i < m.g.B → cP m.g.P (m'.bk i) = cP m.g.P (m.bk i) := fun i hi => by unfold cP pcell; rw [hp i hi]
 refine ⟨?_, hm ▸ blk_set h.b k v, fun i hi => ?_, by rw [hgo]; exact h.inj, h.ec, h.eb, by rw [hgo]; exact h.ep, fun i j hi hj => ?_, by rw [hpl.1, hpl.2]; exact Kd.R_set h.pln h.b (by decide) _ _, below_set h.below h.eb, by rw [hgo]; exact h.gok⟩
 ·rw [hC]; exact blk_far h.c (ne_of_type h.c h.b (by decide)) _
 ·rw [hgo] at hi ⊢; rw [hP i hi]; exact blk_far (h.p i hi) (ne_of_type (h.p i hi) h.b (by decide)) _
 ·rw [hgo] at hi hj; rw [hp i hi]; exact Kd.R_set (h.d i j hi hj) h.b (by decide) _ _
theorem St.setP (h : St w0 W gc gb gp m D) (i : Nat) (hi : i < m.g.B) (k : Nat) (v : Value) (hm : (cP m.g.P (m.bk i)).setIfInBounds k v = cP m.g.P (m'.bk i)) (hgo : m'.g = m.g) (hC : cC gb m' = cC gb m) (hB : cB gp m' = cB gp m) (ho : ∀ x, x < m.g.B → x ≠ i → m'.bk x = m.bk x)
  (hd : ∀ x j, x < m.g.B → j < m.g.P → Kd.R kB 5 W w0.heap.size (fun _ => True) ((m'.bk x).pg j).d (D' x j)) (hpl : m'.plan = m.plan ∧ m'.pl = m.pl) : St w0 (W.setCell ⟨gp i, k, none⟩ v) gc gb gp m' D' := by
 refine ⟨?_, ?_, fun x hx => ?_, by rw [hgo]; exact h.inj, h.ec, h.eb, by rw [hgo]; exact h.ep, fun x j hx hj => ?_, by rw [hpl.1, hpl.2]; exact Kd.R_set h.pln (h.p i hi) (by decide) _ _, below_set h.below (h.ep i hi), by rw [hgo]; exact h.gok⟩
 ·rw [hC]; exact blk_far h.c (ne_of_type h.c (h.p i hi) (by decide)) _
 ·rw [hB]; exact blk_far h.b (ne_of_type h.b (h.p i hi) (by decide)) _
 ·rw [hgo] at hx ⊢
  by_cases hxi : x = i
  ·subst hxi; exact hm ▸ blk_set (h.p x hx) k v
  ·rw [ho x hx hxi]; exact blk_far (h.p x hx) (fun e => hxi (h.inj x i hx hi e)) _
 ·rw [hgo] at hx hj; exact Kd.R_set (hd x j hx hj) (h.p i hi) (by decide) _ _
end
theorem cB_nx (gp : Nat → Nat) (m : Ch) (i : Nat) (x : Int) : (cB gp m).setIfInBounds (i * 4 + 3) (.int .i64 x) = cB gp (m.setBk i { m.bk i with nx := x }) := by
 refine ofFn_set (bcell gp m) _ _ _ ?_ (fun k hk => ?_)
 ·unfold bcell Ch.setBk
  rw [show (i * 4 + 3) % 4 = 3 by omega, show (i * 4 + 3) / 4 = i by omega]
  simp
 ·unfold bcell Ch.setBk
  by_cases h : k / 4 = i
  ·have h4 : k % 4 = 0 ∨ k % 4 = 1 ∨ k % 4 = 2 := by omega
   rcases h4 with h4|h4|h4 <;> simp [h, h4]
  ·simp [h]
theorem cB_er (gp : Nat → Nat) (m : Ch) (i : Nat) (x : Int) : (cB gp m).setIfInBounds (i * 4 + 1) (.int .i64 x) = cB gp (m.setBk i { m.bk i with er := x }) := by
 refine ofFn_set (bcell gp m) _ _ _ ?_ (fun k hk => ?_)
 ·unfold bcell Ch.setBk
  rw [show (i * 4 + 1) % 4 = 1 by omega, show (i * 4 + 1) / 4 = i by omega]
  simp
 ·unfold bcell Ch.setBk
  by_cases h : k / 4 = i
  ·have h4 : k % 4 = 0 ∨ k % 4 = 2 ∨ k % 4 = 3 := by omega
   rcases h4 with h4|h4|h4 <;> simp [h, h4]
  ·simp [h]
theorem cB_bad (gp : Nat → Nat) (m : Ch) (i : Nat) (x : Bool) : (cB gp m).setIfInBounds (i * 4) (.bool x) = cB gp (m.setBk i { m.bk i with bad := x }) := by
 refine ofFn_set (bcell gp m) _ _ _ ?_ (fun k hk => ?_)
 ·unfold bcell Ch.setBk
  rw [show (i * 4) % 4 = 0 by omega, show (i * 4) / 4 = i by omega]
  simp
 ·unfold bcell Ch.setBk
  by_cases h : k / 4 = i
  ·have h4 : k % 4 = 1 ∨ k % 4 = 2 ∨ k % 4 = 3 := by omega
   rcases h4 with h4|h4|h4 <;> simp [h, h4]
  ·simp [h]
theorem cP_st (P : Nat) (b : Bk) (j : Nat) (x : Int) : (cP P b).setIfInBounds (j * 2) (.int .i64 x) = cP P (b.setPg j { b.pg j with st := x }) := by
 refine ofFn_set (pcell b) _ _ _ ?_ (fun k hk => ?_)
 ·unfold pcell Bk.setPg
  rw [show (j * 2) % 2 = 0 by omega, show (j * 2) / 2 = j by omega]
  simp
 ·unfold pcell Bk.setPg
  by_cases h : k / 2 = j
  ·have h4 : k % 2 = 1 := by omega
   rcases h4 with h4 <;> simp [h, h4]
  ·simp [h]
theorem cP_d (P : Nat) (b : Bk) (j : Nat) (v : Value) : (cP P b).setIfInBounds (j * 2 + 1) v = cP P (b.setPg j { b.pg j with d := v }) := by
 refine ofFn_set (pcell b) _ _ _ ?_ (fun k hk => ?_)
 ·unfold pcell Bk.setPg
  rw [show (j * 2 + 1) % 2 = 1 by omega, show (j * 2 + 1) / 2 = j by omega]
  simp
 ·unfold pcell Bk.setPg
  by_cases h : k / 2 = j
  ·have h4 : k % 2 = 0 := by omega
   rcases h4 with h4 <;> simp [h, h4]
  ·simp [h]
theorem St.cellC {w0 W : World} {gc gb : Nat} {gp : Nat → Nat} {m : Ch} {D : Nat → Nat → List Int} (h : St w0 W gc gb gp m D) (k : Nat) : W.cell? ⟨gc, k, none⟩ = (cC gb m)[k]? := blk_cell h.c k
theorem St.cellB {w0 W : World} {gc gb : Nat} {gp : Nat → Nat} {m : Ch} {D : Nat → Nat → List Int} (h : St w0 W gc gb gp m D) (i : Nat) (hi : i < m.g.B) :
  W.cell? ⟨gb, i * 4, none⟩ = some (.bool (m.bk i).bad) ∧ W.cell? ⟨gb, i * 4 + 1, none⟩ = some (.int .i64 (m.bk i).er) ∧ W.cell? ⟨gb, i * 4 + 2, none⟩ = some (.slice (some ⟨gp i, 0, none⟩) m.g.P m.g.P) ∧ W.cell? ⟨gb, i * 4 + 3, none⟩ = some (.int .i64 (m.bk i).nx) := by
 refine ⟨?_, ?_, ?_, ?_⟩ <;> rw [blk_cell h.b, cB_get _ _ _ (by omega)] <;> unfold bcell
 ·rw [if_pos (by omega), show i * 4 / 4 = i by omega]
 ·rw [if_neg (by omega), if_pos (by omega), show (i * 4 + 1) / 4 = i by omega]
 ·rw [if_neg (by omega), if_neg (by omega), if_pos (by omega), show (i * 4 + 2) / 4 = i by omega]
 ·rw [if_neg (by omega), if_neg (by omega), if_neg (by omega), show (i * 4 + 3) / 4 = i by omega]
theorem St.cellP {w0 W : World} {gc gb : Nat} {gp : Nat → Nat} {m : Ch} {D : Nat → Nat → List Int} (h : St w0 W gc gb gp m D) (i : Nat) (hi : i < m.g.B) (j : Nat) (hj : j < m.g.P) :
  W.cell? ⟨gp i, j * 2, none⟩ = some (.int .i64 ((m.bk i).pg j).st) ∧ W.cell? ⟨gp i, j * 2 + 1, none⟩ = some ((m.bk i).pg j).d := by
 refine ⟨?_, ?_⟩ <;> rw [blk_cell (h.p i hi), cP_get _ _ _ (by omega)] <;> unfold pcell
 ·rw [if_pos (by omega), show j * 2 / 2 = j by omega]
 ·rw [if_neg (by omega), show (j * 2 + 1) / 2 = j by omega]
end Go.Proofs.YtdlimghdimkadaaDoor.PAll
namespace Go.Proofs.YtdlimghdimkadaaDoor.PAll
open Go.RowKit Go.Proofs.YtdlimghdimkadaaDoorW.PrintWords Go.Proofs.YtdlimghdimkadaaDoorW.PrintLast Go.Proofs.YtdlimghdimkadaaDoorW.PrintMore
set_option linter.unusedSimpArgs false
set_option linter.unusedVariables false
attribute [local go_sem] max2_int min2_int max_two min_two max_three min_three max_four min_four
variable {w0 W : World} {gc gb : Nat} {gp : Nat → Nat} {m : Ch} {D : Nat → Nat → List Int}
abbrev cp (gc : Nat) : Value := .pointer (some ⟨gc, 0, none⟩)
abbrev bp (gb n : Nat) : Value := .pointer (some ⟨gb, n * 4, none⟩)
def Keeps (W w' : World) : Prop := ∀ (k : Nat) (cs : Array Value) (t : Nat) (fr : Nat × Nat), t ≠ 74 → t ≠ 79 → t ≠ 88 → W.heap[k]? = some (.cells cs t fr) → w'.heap[k]? = some (.cells cs t fr)
theorem Keeps.of_below {W w' : World} (h : Below W.heap.size W w') : Keeps W w' := fun k cs t fr _ _ _ hk => by rw [h.block k (blk_lt hk)]; exact hk
theorem Keeps.refl (W : World) : Keeps W W := fun _ _ _ _ _ _ _ h => h
theorem Keeps.trans {W w1 w2 : World} (h : Keeps W w1) (h2 : Keeps w1 w2) : Keeps W w2 := fun k cs t fr a b c hk => h2 k cs t fr a b c (h k cs t fr a b c hk)
theorem Keeps.set {W w' : World} (h : Keeps W w') {g t : Nat} {cs : Array Value} (hg : w'.heap[g]? = some (.cells cs t (0, 0))) (ht : t = 74 ∨ t = 79 ∨ t = 88) (k : Nat) (v : Value) : Keeps W (w'.setCell ⟨g, k, none⟩ v) := fun x cs2 t2 fr h1 h2 h3 hx => by
 have h5 := h x cs2 t2 fr h1 h2 h3 hx
 have hne : x ≠ g := fun e => by
  subst e
  rw [h5] at hg
  simp only [Option.some.injEq, Obj.cells.injEq] at hg
  have e2 := hg.2.1
  rcases ht with h | h | h
  ·exact h1 (e2.trans h)
  ·exact h2 (e2.trans h)
  ·exact h3 (e2.trans h)
 exact (Below.heap_setCell w' ⟨g, k, none⟩ v x hne).trans h5
theorem Keeps.fresh {W w' : World} (h : Keeps W w') {p : Addr} (hp : W.heap.size ≤ p.block) (v : Value) : Keeps W (w'.setCell p v) := fun x cs2 t2 fr h1 h2 h3 hx => by
 have hlt := blk_lt hx
 exact (Below.heap_setCell w' p v x (by omega)).trans (h x cs2 t2 fr h1 h2 h3 hx)
theorem Keeps.blk {W w' : World} (h : Keeps W w') {k : Nat} {cs : Array Value} {fr : Nat × Nat} (hk : W.heap[k]? = some (.cells cs 5 fr)) : w'.heap[k]? = some (.cells cs 5 fr) := h k cs 5 fr (by decide) (by decide) (by decide) hk
theorem Keeps.R {W w' : World} (h : Keeps W w') {base : Nat} {ok : Nat → Prop} {v : Value} {xs : List Int} (hr : Kd.R kB 5 W base ok v xs) : Kd.R kB 5 w' base ok v xs := by
 have h2 := Kd.R_move (Kd.R_bound hr) (w1 := w') (fun k hk => by
  obtain ⟨_, _, _, q, hq, cells, hc⟩ := hk
  have hq5 : q = 5 := by
   rcases List.mem_cons.1 hq with h | h
   ·exact h
   ·cases h
  subst hq5
  rw [h.blk hc, hc])
 exact Kd.R_mono h2 (fun _ hk => hk.1)
set_option maxRecDepth 100000 in
set_option maxHeartbeats 4000000 in
theorem at_yes (h : St w0 W gc gb gp m D) (n : Nat) (hn : n < m.g.B) :
  Calls Tryd.prog 49 #[cp gc, .int .i64 n] W fun e w' => e = .returned (bp gb n) ∧ Below W.heap.size W w' := by
 have c4 : W.cell? ⟨gc, 4, none⟩ = some (.slice (some ⟨gb, 0, none⟩) m.g.B m.g.B) := h.cellC 4
 have d1 : decide ((n : Int) < 0) = false := decide_eq_false (by omega)
 have d2 : decide ((m.g.B : Int) ≤ (n : Int)) = false := decide_eq_false (by omega)
 have d3 : decide (m.g.B ≤ n) = false := decide_eq_false (by omega)
 have hq : (n < m.g.B) = True := eq_true hn
 clear h
 go_enter Tryd.func49, Tryd.ntmps49
 go_wp2
 go_ret
 exact ⟨rfl, Below.refl _ _⟩
set_option maxRecDepth 100000 in
set_option maxHeartbeats 4000000 in
theorem at_no (h : St w0 W gc gb gp m D) (n : Int) (hn : n < 0 ∨ m.g.B ≤ n) :
  Calls Tryd.prog 49 #[cp gc, .int .i64 n] W fun e w' => e = .returned (.pointer none) ∧ Below W.heap.size W w' := by
 have c4 : W.cell? ⟨gc, 4, none⟩ = some (.slice (some ⟨gb, 0, none⟩) m.g.B m.g.B) := h.cellC 4
 clear h
 by_cases h0 : n < 0
 ·have d1 : decide (n < 0) = true := decide_eq_true h0
  go_enter Tryd.func49, Tryd.ntmps49
  go_wp2
  go_ret
  exact ⟨rfl, Below.refl _ _⟩
 ·have d1 : decide (n < 0) = false := decide_eq_false h0
  have d2 : decide ((m.g.B : Int) ≤ n) = true := decide_eq_true (by omega)
  go_enter Tryd.func49, Tryd.ntmps49
  go_wp2
  go_ret
  exact ⟨rfl, Below.refl _ _⟩
set_option maxRecDepth 100000 in
set_option maxHeartbeats 4000000 in
theorem ready_yes (h : St w0 W gc gb gp m D) (hoff : m.off = false) (n : Nat) (hn : n < m.g.B) :
  Calls Tryd.prog 33 #[cp gc, .int .i64 n] W fun e w' => e = .returned (.tuple #[bp gb n, .int .i64 0]) ∧ Below W.heap.size W w' := by
 have c7 : ∀ w', Below W.heap.size W w' → w'.cell? ⟨gc, 7, none⟩ = some (.bool false) := fun w' hb => cell_below (by rw [h.cellC 7]; simp [cC, hoff]) hb
 have HA := Aside0.mk (at_yes h n hn)
 have HC := Aside0.mk c7
 clear h hoff c7
 go_enter Tryd.func33, Tryd.ntmps33
 go_wp2_with (first
  | (go_at_call 49; (with_reducible refine HA.out.mono ?_); rintro e w1 ⟨rfl, hb1⟩; have HB1 := Aside0.mk hb1; have z7 := HC.out w1 hb1; clear hb1))
 go_ret2
 exact ⟨rfl, HB1.out⟩
set_option maxRecDepth 100000 in
set_option maxHeartbeats 4000000 in
theorem ready_no (h : St w0 W gc gb gp m D) (hoff : m.off = false) (n : Int) (hn : n < 0 ∨ m.g.B ≤ n) :
  Calls Tryd.prog 33 #[cp gc, .int .i64 n] W fun e w' => e = .returned (.tuple #[.pointer none, .int .i64 22]) ∧ Below W.heap.size W w' := by
 have c7 : ∀ w', Below W.heap.size W w' → w'.cell? ⟨gc, 7, none⟩ = some (.bool false) := fun w' hb => cell_below (by rw [h.cellC 7]; simp [cC, hoff]) hb
 have HA := Aside0.mk (at_no h n hn)
 have HC := Aside0.mk c7
 clear h hoff c7
 go_enter Tryd.func33, Tryd.ntmps33
 go_wp2_with (first
  | (go_at_call 49; (with_reducible refine HA.out.mono ?_); rintro e w1 ⟨rfl, hb1⟩; have HB1 := Aside0.mk hb1; have z7 := HC.out w1 hb1; clear hb1))
 go_ret2
 exact ⟨rfl, HB1.out⟩
set_option maxRecDepth 100000 in
set_option maxHeartbeats 4000000 in
theorem ready_off (h : St w0 W gc gb gp m D) (hoff : m.off = true) (n : Int) :
  Calls Tryd.prog 33 #[cp gc, .int .i64 n] W fun e w' => e = .returned (.tuple #[.pointer none, .int .i64 6]) ∧ Below W.heap.size W w' := by
 have c7 : ∀ w', Below W.heap.size W w' → w'.cell? ⟨gc, 7, none⟩ = some (.bool true) := fun w' hb => cell_below (by rw [h.cellC 7]; simp [cC, hoff]) hb
 have hat : ∃ v : Value, Calls Tryd.prog 49 #[cp gc, .int .i64 n] W fun e w' => e = .returned v ∧ Below W.heap.size W w' := by
  by_cases hn : 0 ≤ n ∧ n < m.g.B
  ·obtain ⟨k, rfl⟩ : ∃ k : Nat, n = (k : Int) := ⟨n.toNat, by omega⟩
   exact ⟨_, at_yes h k (by omega)⟩
  ·exact ⟨_, at_no h n (by omega)⟩
 obtain ⟨v, hat⟩ := hat
 have HA := Aside0.mk hat
 have HC := Aside0.mk c7
 clear h hoff c7 hat
 go_enter Tryd.func33, Tryd.ntmps33
 go_wp2_with (first
  | (go_at_call 49; (with_reducible refine HA.out.mono ?_); rintro e w1 ⟨rfl, hb1⟩; have HB1 := Aside0.mk hb1; have z7 := HC.out w1 hb1; clear hb1))
 go_ret2
 exact ⟨rfl, HB1.out⟩
set_option maxRecDepth 100000 in
set_option maxHeartbeats 4000000 in
theorem next_yes (h : St w0 W gc gb gp m D) (n : Nat) (hn : n < m.g.B) :
  Calls Tryd.prog 24 #[cp gc, .int .i64 n] W fun e w' => e = .returned (.int .i64 (m.bk n).nx) ∧ Below W.heap.size W w' := by
 have c3 : ∀ w', Below W.heap.size W w' → w'.cell? ⟨gb, n * 4 + 3, none⟩ = some (.int .i64 (m.bk n).nx) := fun w' hb => cell_below (h.cellB n hn).2.2.2 hb
 have HA := Aside0.mk (at_yes h n hn)
 have HC := Aside0.mk c3
 clear h c3
 go_enter Tryd.func24, Tryd.ntmps24
 go_wp2_with (first
  | (go_at_call 49; (with_reducible refine HA.out.mono ?_); rintro e w1 ⟨rfl, hb1⟩; have HB1 := Aside0.mk hb1; have z7 := HC.out w1 hb1; clear hb1))
 go_ret
 exact ⟨rfl, HB1.out⟩
set_option maxRecDepth 100000 in
theorem next_no (h : St w0 W gc gb gp m D) (n : Int) (hn : n < 0 ∨ m.g.B ≤ n) :
  Calls Tryd.prog 24 #[cp gc, .int .i64 n] W fun e w' => e = .returned (.int .i64 0) ∧ Below W.heap.size W w' := by
 have HA := Aside0.mk (at_no h n hn)
 clear h
 go_enter Tryd.func24, Tryd.ntmps24
 go_wp2_with (first
  | (go_at_call 49; (with_reducible refine HA.out.mono ?_); rintro e w1 ⟨rfl, hb1⟩; have HB1 := Aside0.mk hb1; clear hb1))
 go_ret
 exact ⟨rfl, HB1.out⟩
set_option maxRecDepth 100000 in
theorem on_is (h : St w0 W gc gb gp m D) : Calls Tryd.prog 36 #[cp gc] W fun e w' => e = .returned (.bool !m.off) ∧ Below W.heap.size W w' := by
 have c7 : W.cell? ⟨gc, 7, none⟩ = some (.bool m.off) := h.cellC 7
 clear h
 go_enter Tryd.func36, Tryd.ntmps36
 go_wp2
 go_ret
 exact ⟨rfl, Below.refl _ _⟩
set_option maxRecDepth 100000 in
set_option maxHeartbeats 4000000 in
theorem bad_yes (h : St w0 W gc gb gp m D) (n : Nat) (hn : n < m.g.B) :
  Calls Tryd.prog 23 #[cp gc, .int .i64 n] W fun e w' => e = .returned (.bool (m.bk n).bad) ∧ Below W.heap.size W w' := by
 have c3 : ∀ w', Below W.heap.size W w' → w'.cell? ⟨gb, n * 4, none⟩ = some (.bool (m.bk n).bad) := fun w' hb => cell_below (h.cellB n hn).1 hb
 have HA := Aside0.mk (at_yes h n hn)
 have HC := Aside0.mk c3
 clear h c3
 go_enter Tryd.func23, Tryd.ntmps23
 go_wp2_with (first
  | (go_at_call 49; (with_reducible refine HA.out.mono ?_); rintro e w1 ⟨rfl, hb1⟩; have HB1 := Aside0.mk hb1; have z7 := HC.out w1 hb1; clear hb1))
 go_ret
 exact ⟨rfl, HB1.out⟩
set_option maxRecDepth 100000 in
theorem bad_no (h : St w0 W gc gb gp m D) (n : Int) (hn : n < 0 ∨ m.g.B ≤ n) :
  Calls Tryd.prog 23 #[cp gc, .int .i64 n] W fun e w' => e = .returned (.bool false) ∧ Below W.heap.size W w' := by
 have HA := Aside0.mk (at_no h n hn)
 clear h
 go_enter Tryd.func23, Tryd.ntmps23
 go_wp2_with (first
  | (go_at_call 49; (with_reducible refine HA.out.mono ?_); rintro e w1 ⟨rfl, hb1⟩; have HB1 := Aside0.mk hb1; clear hb1))
 go_ret
 exact ⟨rfl, HB1.out⟩
end Go.Proofs.YtdlimghdimkadaaDoor.PAll
namespace Go.Proofs.YtdlimghdimkadaaDoor.Reg
open Go Go.RowKit Go.Proofs.YtdlimghdimkadaaDoorW.PrintLast Go.Proofs.YtdlimghdimkadaaDoorW.PrintWords
structure Knows (a0 : Act) (V : List (Nat × Tmp × Value)) (D L : List Nat) (a : Act) : Prop where
 off : ∀ t v, (V.all fun e => !(e.2.1 == t)) = true → a0.tmps[t]? = some v → a.tmps[t]? = some v
 pre : ∀ t v j, L.contains j = true → (V.all fun e => !(e.2.1 == t) || e.1 == j) = true → a0.tmps[t]? = some v → a.tmps[t]? = some v
 slot : ∀ (k : Nat) (i : Nat) (t : Tmp) (v : Value), V[k]? = some (i, t, v) → D.contains i = true → a.tmps[t]? = some v
def deps (B : List Nat) (n i : Nat) : List Nat := (List.range n).filter fun j => (B.getD i 0).testBit j
def laters (B : List Nat) (n i : Nat) : List Nat := (List.range n).filter fun d => (B.getD d 0).testBit i
def Det (P : Program) (ops : Array Oper) (Q : Exit → Act → World → Prop) (B : List Nat) (n : Nat) (a0 : Act) (V : List (Nat × Tmp × Value)) (S : World → Prop) (i : Nat) : Prop :=
 ∃ oi v, ops[i]? = some oi ∧ (match oi.dst with
   | some t => ∃ k : Nat, V[k]? = some (i, t, v)
   | none => (V.all fun e => !(e.1 == i)) = true) ∧
  ∀ a w, S w → Knows a0 V (deps B n i) (laters B n i) a → ∀ K : Act → World → Prop, (∀ w', S w' → K (a.put oi.dst v) w') →
   if Region.wanted oi (yielded ops a.tmps) = true then Oper.wp P oi a w K Q else K (a.put oi.dst undef) w
def okV (V : List (Nat × Tmp × Value)) (size : Nat) : Bool :=
 (List.range V.length).all fun k => match V[k]? with
  | some e => ((V.take k ++ V.drop (k + 1)).all fun x => !(x.1 == e.1) && !(x.2.1 == e.2.1)) && Nat.ble (e.2.1 + 1) size
  | none => true
theorem okV_at {V : List (Nat × Tmp × Value)} {size : Nat} (h : okV V size = true) {k : Nat} {e : Nat × Tmp × Value} (hk : V[k]? = some e) :
  ((V.take k ++ V.drop (k + 1)).all fun x => !(x.1 == e.1) && !(x.2.1 == e.2.1)) = true ∧ Nat.ble (e.2.1 + 1) size = true := by
 have h1 := List.all_eq_true.1 h k (List.mem_range.2 (List.getElem?_eq_some_iff.1 hk).1)
 rw [hk] at h1
 simpa only [Bool.and_eq_true] using h1
def putV (a : Act) (V : List (Nat × Tmp × Value)) : Act := V.foldl (fun a e => a.put (some e.2.1) e.2.2) a
theorem putSel_all {b : Nat → Bool} : ∀ {V : List (Nat × Tmp × Value)} {a : Act}, (∀ e ∈ V, b e.1 = true) → putSel a b V = putV a V
 | [], _, _ => rfl
 | e :: r, a, h => by
  unfold putSel
  rw [if_pos (h e List.mem_cons_self), putSel_all (fun x hx => h x (List.mem_cons_of_mem _ hx))]
  rfl
section
variable {P : Program} {ops : Array Oper} {Q : Exit → Act → World → Prop} {T : Bool × List (List Nat × List Nat)} {B : List Nat}
theorem det_region {id n : Nat} {a0 : Act} {w0 : World} (V : List (Nat × Tmp × Value)) (S : World → Prop) (hm : P.follows .mixedOrders = true) (hn : ops.size = n)
  (hT : rtab .any ops = T) (hw : waitsOk T.2 B = true) (hk : baseOk T.2 (List.range n) = true) (hl : T.2.length = n)
  (h0 : S w0.drew) (hs : ∀ i ∈ List.range n, Det P ops Q B n a0 V S i) (hV : okV V a0.tmps.size = true) (hlt : V.all (fun e => decide (e.1 < n)) = true)
  (hend : ∀ w, S w → Q .normal (putV a0 V) w) : (Code.region id ops true).wp P Q a0 w0 := by
 refine start_ (n := n) (S := fun _ => True) (ds := []) (Array.replicate n false) hm hn rfl trivial (fun _ => ?_)
 refine inv_ (T := T) (B := B) (md := .any) (List.range n) (fun b a w => a = putSel a0 b V ∧ S w) hT hw hk ?_ ⟨?_, h0⟩ ?_ ?_
 ·rw [Bool.and_eq_true, beq_iff_eq, beq_iff_eq]
  refine ⟨?_, by simp⟩
  apply List.ext_getElem?
  intro j
  simp only [lof, hl]
  by_cases hj : j < n
  ·simp [hj]
  ·simp [hj]
 ·have : ∀ (V : List (Nat × Tmp × Value)) (a : Act), putSel a (fun _ => false) V = a := by
   intro V
   induction V with
   | nil => intro a; rfl
   | cons e r ih => intro a; unfold putSel; simpa using ih a
  exact (this V a0).symm
 ·intro i hi b a w hI hb hdep hlat
  obtain ⟨rfl, hS⟩ := hI
  obtain ⟨oi, v, ho, hv, hd⟩ := hs i hi
  refine ⟨oi, ho, fun K hK => ?_⟩
  have hin : ∀ j, j < n → (List.range n).contains j = true := fun j hj => by simp [hj]
  have hD : ∀ j, (deps B n i).contains j = true → b j = true := fun j hj => by
   have h1 := List.contains_iff_mem.1 hj
   obtain ⟨h2, h3⟩ := List.mem_filter.1 h1
   exact hdep j (by rw [hin j (List.mem_range.1 h2), h3]; rfl)
  have hL : ∀ j, (laters B n i).contains j = true → b j = false := fun j hj => by
   have h1 := List.contains_iff_mem.1 hj
   obtain ⟨h2, h3⟩ := List.mem_filter.1 h1
   exact hlat j (by rw [hin j (List.mem_range.1 h2), h3]; rfl)
  have hslot : ∀ (k : Nat) (e : Nat × Tmp × Value), V[k]? = some e → (deps B n i).contains e.1 = true → (putSel a0 b V).tmps[e.2.1]? = some e.2.2 := by
   intro k e hk hDe
   obtain ⟨h1, h2⟩ := okV_at hV hk
   refine putSel_on k hk ?_ (hD _ hDe) h2
   rw [List.all_append, Bool.and_eq_true] at h1
   refine List.all_eq_true.2 (fun x hx => ?_)
   have := List.all_eq_true.1 h1.2 x hx
   rw [Bool.and_eq_true] at this
   exact this.2
  refine hd (putSel a0 b V) w hS ⟨fun t v ht h0t => by rw [putSel_off ht]; exact h0t, fun t v j hj ht h0t => by rw [putSel_not (hL j hj) ht]; exact h0t, fun k i t v hk hDe => hslot k (i, t, v) hk hDe⟩ K (fun w' hS' => ?_)
  refine hK _ _ ⟨?_, hS'⟩
  rcases hdst : oi.dst with _ | t
  ·rw [hdst] at hv
   exact putSel_none hv
  ·rw [hdst] at hv
   obtain ⟨k, hk⟩ := hv
   obtain ⟨h1, _⟩ := okV_at hV hk
   refine putSel_upk (L := V) (L' := V) k hb hk ?_ h1
   have hk2 := (List.getElem?_eq_some_iff.1 hk)
   obtain ⟨hk3, hk4⟩ := hk2
   rw [← hk4, List.set_getElem_self]
 ·intro b a w hb hI
  obtain ⟨rfl, hS⟩ := hI
  rw [putSel_all (fun e he => hb e.1 (by
   have := List.all_eq_true.1 hlt e he
   simp only [decide_eq_true_eq] at this
   simp [this]))]
  exact hend w hS
def bitsOf (T : List (List Nat × List Nat)) : List Nat := T.foldl (fun B r => B ++ [r.1.foldl (fun m n => m ||| (1 <<< n) ||| B.getD n 0) 0]) []
def regOk (ops : Array Oper) (n : Nat) : Bool := waitsOk (rtab .any ops).2 (bitsOf (rtab .any ops).2) && baseOk (rtab .any ops).2 (List.range n) && (rtab .any ops).2.length == n
abbrev bits (ops : Array Oper) : List Nat := bitsOf (rtab .any ops).2
def DetFrom (P : Program) (ops : Array Oper) (Q : Exit → Act → World → Prop) (B : List Nat) (n : Nat) (a0 : Act) (V : List (Nat × Tmp × Value)) (S : World → Prop) : Nat → List Oper → Prop
 | _, [] => True
 | i, o :: r => (∃ v, (match o.dst with
   | some t => ∃ k : Nat, V[k]? = some (i, t, v)
   | none => (V.all fun e => !(e.1 == i)) = true) ∧
  ∀ a w, S w → Knows a0 V (deps B n i) (laters B n i) a → ∀ K : Act → World → Prop, (∀ w', S w' → K (a.put o.dst v) w') →
   if Region.wanted o (yielded ops a.tmps) = true then Oper.wp P o a w K Q else K (a.put o.dst undef) w) ∧ DetFrom P ops Q B n a0 V S (i + 1) r
theorem from_get {n : Nat} {a0 : Act} {V : List (Nat × Tmp × Value)} {S : World → Prop} : ∀ (l : List Oper) (i : Nat), DetFrom P ops Q B n a0 V S i l → (∀ j, l[j]? = ops[i + j]?) → ∀ j, j < l.length → Det P ops Q B n a0 V S (i + j)
 | [], _, _, _, j, hj => by simp at hj
 | o :: r, i, h, hg, 0, _ => by
  obtain ⟨⟨v, hv, hd⟩, _⟩ := h
  have h0 := hg 0
  simp only [List.getElem?_cons_zero, Nat.add_zero] at h0
  exact ⟨o, v, h0.symm, hv, hd⟩
 | o :: r, i, h, hg, j + 1, hj => by
  have h2 := from_get r (i + 1) h.2 (fun m => by
   have := hg (m + 1)
   simp only [List.getElem?_cons_succ] at this
   rw [this, show i + (m + 1) = i + 1 + m by omega]) j (by simp at hj; omega)
  rwa [show i + 1 + j = i + (j + 1) by omega] at h2
theorem from_nil {n i : Nat} {a0 : Act} {V : List (Nat × Tmp × Value)} {S : World → Prop} : DetFrom P ops Q B n a0 V S i [] := trivial
theorem from_some {n i : Nat} {a0 : Act} {V : List (Nat × Tmp × Value)} {S : World → Prop} {o : Oper} {r : List Oper} {t : Tmp} {v : Value} (k : Nat) (ht : o.dst = some t) (hk : V[k]? = some (i, t, v))
  (h : ∀ a w, S w → Knows a0 V (deps B n i) (laters B n i) a → ∀ K : Act → World → Prop, (∀ w', S w' → K (a.put (some t) v) w') → if Region.wanted o (yielded ops a.tmps) = true then Oper.wp P o a w K Q else K (a.put (some t) undef) w)
  (hr : DetFrom P ops Q B n a0 V S (i + 1) r) : DetFrom P ops Q B n a0 V S i (o :: r) := by
 refine ⟨⟨v, ?_, ?_⟩, hr⟩
 ·rw [ht]; exact ⟨k, hk⟩
 ·rw [ht]; exact h
theorem det {id n : Nat} {a0 : Act} {w0 : World} (V : List (Nat × Tmp × Value)) (S : World → Prop) (hm : P.follows .mixedOrders = true) (hn : ops.size = n) (hc : regOk ops n = true)
  (h0 : S w0.drew) (hs : DetFrom P ops Q (bits ops) n a0 V S 0 ops.toList) (hV : okV V a0.tmps.size = true) (hlt : V.all (fun e => decide (e.1 < n)) = true)
  (hend : ∀ w, S w → Q .normal (putV a0 V) w) : (Code.region id ops true).wp P Q a0 w0 := by
 unfold regOk at hc
 rw [Bool.and_eq_true, Bool.and_eq_true, beq_iff_eq] at hc
 refine det_region V S hm hn rfl hc.1.1 hc.1.2 hc.2 h0 (fun i hi => ?_) hV hlt hend
 have h2 := from_get ops.toList 0 hs (fun j => by simp) i (by simpa [hn] using hi)
 rwa [Nat.zero_add] at h2
theorem step_on {o : Oper} {y : Nat → Option Bool} {a : Act} {w : World} {K : Act → World → Prop} {E : Prop} (h : Region.wanted o y = true) (hx : Oper.wp P o a w K Q) : if Region.wanted o y = true then Oper.wp P o a w K Q else E := by rw [if_pos h]; exact hx
theorem step_off {o : Oper} {y : Nat → Option Bool} {E F : Prop} (h : Region.wanted o y = false) (hx : F) : if Region.wanted o y = true then E else F := by rw [if_neg (by rw [h]; simp)]; exact hx
end
end Go.Proofs.YtdlimghdimkadaaDoor.Reg

/- Part 7 of what the law ScanScans rests on. -/
import Derived.Test.YtdlimghdimkadaaGreatDoorQ3
import Derived.Test.YtdlimghdimkadaaGreatDoorQ6
import Derived.Test.YtdlimghdimkadaaGreatDoorQ0
import Derived.Laws.StructEq
import Derived.Test.YtdlimghdimkadaaGreatDoorQ1
set_option maxRecDepth 100000
set_option maxHeartbeats 32000000
set_option linter.unusedSimpArgs false
set_option linter.unusedVariables false
namespace Go.Proofs.YtdlimghdimkadaaGreatDoor.RelU
open Go Go.RowKit YtdlimghdimkadaaGreatDoorW.PrintLast YtdlimghdimkadaaGreatDoorW.PrintWords Reg Rel RelS
def upd (U:Nat→Value) (k:Nat) (v:Value):Nat→Value:=fun j=>if j=k then v else U j
theorem upd_self (U:Nat→Value) (k:Nat) (v:Value):upd U k v k=v:=if_pos rfl
structure qjF (a0:Act) (V:List Ent) (D L:List Nat) (U:Nat→Value) (a:Act) (w:World):Prop where
 off:∀ t v,((inst U0 0 V).all fun e=>!(e.2.1==t))=true→a0.tmps[t]?=some v→a.tmps[t]?=some v
 pre:∀ t v j,L.contains j=true→((inst U0 0 V).all fun e=>!(e.2.1==t) || e.1==j)=true→a0.tmps[t]?=some v→a.tmps[t]?=some v
 slot:∀ (k:Nat) (i:Nat) (t:Tmp) (v:Value),V[k]?=some (i,t,.inl v)→D.contains i=true→a.tmps[t]?=some v
 rel:∀ (k:Nat) (i:Nat) (t:Tmp) (Q:Value→World→Prop),V[k]?=some (i,t,.inr Q)→D.contains i=true→a.tmps[t]?=some (U k)∧Q (U k) w
theorem qjF.sl {a0:Act} {V:List Ent} {D L:List Nat} {U:Nat→Value} {a:Act} {w:World} (h:qjF a0 V D L U a w) (k:Nat) {i:Nat} {t:Tmp} {v:Value} (h1:V[k]?=some (i,t,.inl v)) (h2:D.contains i=true:=by kernel_rfl):a.tmps[t]?=some v:=h.slot k i t v h1 h2
def qqZ (P:Program) (ops:Array Oper) (Q:Exit→Act→World→Prop) (B:List Nat) (n:Nat) (a0:Act) (V:List Ent) (Z:List Nat) (S:Nat→(Nat→Value)→World→Prop) (G:World→World→Prop) (i:Nat) (oi:Oper):Prop :=
 (match oi.dst with
   | some t=>∃ (k:Nat) (e:Value ⊕ (Value→World→Prop)),V[k]?=some (i,t,e)∧∀ s U a w,loZ Z B n i≤s→s≤hiZ Z B n i→S s U w→qjF a0 V (qhC B n i) (qcK B n i) U a w→∀ K:Act→World→Prop,
     (∀ v w',S (nxZ Z i s) (match e with | .inl _=>U | .inr _=>upd U k v) w'→G w w'→(match e with | .inl c=>v=c | .inr q=>q v w')→K (a.put (some t) v) w') →
     if Region.wanted oi (yielded ops a.tmps)=true then Oper.wp P oi a w K Q else K (a.put (some t) undef) w
   | none=>((inst U0 0 V).all fun e=>!(e.1==i))=true∧∀ s U a w,loZ Z B n i≤s→s≤hiZ Z B n i→S s U w→qjF a0 V (qhC B n i) (qcK B n i) U a w→∀ K:Act→World→Prop,(∀ w',S (nxZ Z i s) U w'→G w w'→K a w') →
     if Region.wanted oi (yielded ops a.tmps)=true then Oper.wp P oi a w K Q else K a w)
section
variable {P:Program} {ops:Array Oper} {Q:Exit→Act→World→Prop} {T:Bool × List (List Nat × List Nat)} {B:List Nat}
theorem qpT {id n:Nat} {a0:Act} {w0:World} (V:List Ent) (Z:List Nat) (S:Nat→(Nat→Value)→World→Prop) (G:World→World→Prop) (hm:P.follows .mixedOrders=true) (hn:ops.size=n)
  (hT:qfA .any ops=T) (hw:qdT T.2 B=true) (hk:qeL T.2 (List.range n)=true) (hl:T.2.length=n)
  (hZ:Z.Nodup) (hZn:Z.all (fun z=>decide (z < n))=true) (h0:S 0 U0 w0.drew) (hst:∀ (k:Nat) (i:Nat) (t:Tmp) (q:Value→World→Prop),V[k]?=some (i,t,.inr q)→∀ v w w',G w w'→q v w→q v w')
  (hs:∀ i ∈ List.range n,∃ oi,ops[i]?=some oi∧qqZ P ops Q B n a0 V Z S G i oi) (hV:okV (inst U0 0 V) a0.tmps.size=true) (hlt:(inst U0 0 V).all (fun e=>decide (e.1 < n))=true)
  (hend:∀ U w,S Z.length U w→(∀ (k:Nat) (i:Nat) (t:Tmp) (q:Value→World→Prop),V[k]?=some (i,t,.inr q)→q (U k) w)→Q .normal (putV a0 (inst U 0 V)) w):(Code.region id ops true).wp P Q a0 w0:=by
 have hVU:∀ U,okV (inst U 0 V) a0.tmps.size=true:=fun U=>by rw [qqD (qcM (U:=U) (U':=U0))];exact hV
 refine qhK (n:=n) (S:=fun _=>True) (ds:=[]) (Array.replicate n false) hm hn rfl trivial (fun _=>?_);refine vcT (T:=T) (B:=B) (md:=.any) (List.range n) (fun b a w=>∃ U,a=qbO a0 b (inst U 0 V)∧S (cnt Z b) U w∧∀ (k:Nat) (i:Nat) (t:Tmp) (q:Value→World→Prop),V[k]?=some (i,t,.inr q)→b i=true→q (U k) w) hT hw hk ?_ ?_ ?_ ?_
 ·rw [Bool.and_eq_true,beq_iff_eq,beq_iff_eq];refine ⟨?_,by simp⟩;apply List.ext_getElem?;intro j;simp only [lof,hl]
  by_cases hj:j < n
  ·simp [hj]
  ·simp [hj]
 ·refine ⟨U0,?_,by rw [show cnt Z (fun _=>false)=0 by simp [cnt]];exact h0,fun _ _ _ _ _ hb=>by cases hb⟩
  have:∀ (V:List (Nat × Tmp × Value)) (a:Act),qbO a (fun _=>false) V=a:=by
   intro V
   induction V with
   | nil=>intro a;rfl
   | cons e r ih=>intro a;unfold qbO;simpa using ih a
  exact (this _ a0).symm
 ·intro i hi b a w hI hb hdep hlat;obtain ⟨U,rfl,hS,hU⟩:=hI;obtain ⟨oi,ho,hd⟩:=hs i hi;refine ⟨oi,ho,fun K hK=>?_⟩;have hin:∀ j,j < n→(List.range n).contains j=true:=fun j hj=>by simp [hj]
  have hD:∀ j,(qhC B n i).contains j=true→b j=true:=fun j hj=>by
   have h1:=List.contains_iff_mem.1 hj;obtain ⟨h2,h3⟩:=List.mem_filter.1 h1;exact hdep j (by rw [hin j (List.mem_range.1 h2),h3];rfl)
  have hL:∀ j,(qcK B n i).contains j=true→b j=false:=fun j hj=>by
   have h1:=List.contains_iff_mem.1 hj;obtain ⟨h2,h3⟩:=List.mem_filter.1 h1;exact hlat j (by rw [hin j (List.mem_range.1 h2),h3];rfl)
  have hslot:∀ (k:Nat) (e:Nat × Tmp × Value),(inst U 0 V)[k]?=some e→(qhC B n i).contains e.1=true→(qbO a0 b (inst U 0 V)).tmps[e.2.1]?=some e.2.2:=by
   intro k e hk hDe;obtain ⟨h1,h2⟩:=qfE (hVU U) hk;refine qfN k hk ?_ (hD _ hDe) h2;rw [List.all_append,Bool.and_eq_true] at h1;refine List.all_eq_true.2 (fun x hx=>?_);have:=List.all_eq_true.1 h1.2 x hx;rw [Bool.and_eq_true] at this;exact this.2
  have hK0:qjF a0 V (qhC B n i) (qcK B n i) U (qbO a0 b (inst U 0 V)) w:=by
   refine ⟨fun t v ht h0t=>?_,fun t v j hj ht h0t=>?_,fun k i t v hk hDe=>hslot k (i,t,v) (qeO hk) hDe,fun k i t q hk hDe=>⟨?_,hU k i t q hk (hD _ hDe)⟩⟩
   ·rw [qdW (by rw [qeE (p:=fun z=>!(z.2==t)) (qcM (U:=U) (U':=U0))];exact ht)];exact h0t
   ·rw [qeD (hL j hj) (by rw [qeE (p:=fun z=>!(z.2==t) || z.1==j) (qcM (U:=U) (U':=U0))];exact ht)];exact h0t
   ·have:=hslot k _ (qcR (U:=U) (m:=0) hk) hDe;rw [Nat.zero_add] at this;exact this
  have hlo:loZ Z B n i≤cnt Z b:=List.countP_mono_left (fun z _ hz=>hD z hz)
  have hhi:cnt Z b≤hiZ Z B n i:=List.countP_mono_left (fun z _ hz=>by
   have h1:(qcK B n i).contains z=false:=by
    cases hc:(qcK B n i).contains z with
    | false=>rfl
    | true=>rw [hL z hc] at hz;cases hz
   have h2:(z==i)=false:=by
    simp only [beq_eq_false_iff_ne];rintro rfl;rw [hb] at hz
    cases hz
   rw [h1,h2]
   rfl)
  have hcu:=qwL b i hb Z hZ;unfold qqZ at hd
  rcases hdst:oi.dst with _|t
  ·rw [hdst] at hd;obtain ⟨hv,hd⟩:=hd;have:=hd (cnt Z b) U (qbO a0 b (inst U 0 V)) w hlo hhi hS hK0 (fun a w=>K a w) (fun w' hS' hG=>?_)
   ·exact this
   ·have h9:=hK (qbO a0 b (inst U 0 V)) w' ⟨U,?_,by rw [hcu];exact hS',fun k j t q hk hbj=>?_⟩
    ·exact h9
    ·have:=qeW (a:=a0) (b:=b) (v:=undef) (i:=i) (L:=inst U 0 V) (by rw [qeE (p:=fun z=>!(z.1==i)) (qcM (U:=U) (U':=U0))];exact hv);exact this
    ·refine hst k j t q hk _ _ _ hG (hU k j t q hk ?_)
     by_cases hji:j=i
     ·exfalso
      subst hji;obtain ⟨v,hg⟩:=qgU (U:=U0) hk;have:=List.all_eq_true.1 hv _ (List.mem_of_getElem? hg);simp at this
     ·rwa [qfL hji] at hbj
  ·rw [hdst] at hd;obtain ⟨k,e,hk,hd⟩:=hd;refine hd (cnt Z b) U (qbO a0 b (inst U 0 V)) w hlo hhi hS hK0 K (fun v w' hS' hG hv=>?_)
   cases e with
   | inl c =>
    obtain rfl:v=c:=hv;have hk1:=qeO (U:=U) (m:=0) hk;obtain ⟨h1,_⟩:=qfE (hVU U) hk1;refine hK _ w' ⟨U,?_,by rw [hcu];exact hS',fun k' j t' q hk' hbj=>?_⟩
    ·refine qdV (L:=inst U 0 V) (L':=inst U 0 V) k hb hk1 ?_ h1;obtain ⟨hk3,hk4⟩:=List.getElem?_eq_some_iff.1 hk1;rw [← hk4,List.set_getElem_self]
    ·refine hst k' j t' q hk' _ _ _ hG (hU k' j t' q hk' ?_)
     by_cases hji:j=i
     ·exfalso
      subst hji
      have hkk:k' ≠ k:=by
       rintro rfl;rw [hk] at hk';simp at hk'
      exact qlW (hVU U) hk1 (qcR (U:=U) (m:=0) hk') (fun h=>hkk h)
     ·rwa [qfL hji] at hbj
   | inr q =>
    have hk1:=qcR (U:=U) (m:=0) hk;obtain ⟨h1,_⟩:=qfE (hVU U) hk1;have h0k:(fun j=>if j=0+k then v else U j)=upd U k v:=by funext j;unfold upd;rw [Nat.zero_add]
    refine hK _ w' ⟨fun j=>if j=0+k then v else U j,?_,by rw [hcu,h0k];exact hS',fun k' j t' q' hk' hbj=>?_⟩
    ·exact qdV (L:=inst U 0 V) k hb hk1 (qhW hk) h1
    ·rw [Nat.zero_add]
     by_cases hkk:k'=k
     ·subst hkk;rw [hk] at hk';simp only [Option.some.injEq,Prod.mk.injEq,Sum.inr.injEq] at hk';obtain ⟨rfl,rfl,rfl⟩:=hk';simp only [if_true];exact hv
     ·simp only [if_neg hkk];refine hst k' j t' q' hk' _ _ _ hG (hU k' j t' q' hk' ?_)
      by_cases hji:j=i
      ·exfalso
       subst hji;exact qlW (hVU U) hk1 (qcR (U:=U) (m:=0) hk') (fun h=>hkk h)
      ·rwa [qfL hji] at hbj
 ·intro b a w hb hI;obtain ⟨U,rfl,hS,hU⟩:=hI
  rw [qeT (fun e he=>hb e.1 (by
   have h2:(inst U 0 V).all (fun e=>decide (e.1 < n))=true:=by rw [qeE (p:=fun z=>decide (z.1 < n)) (qcM (U:=U) (U':=U0))];exact hlt
   have:=List.all_eq_true.1 h2 e he;simp only [decide_eq_true_eq] at this
   simp [this]))]
  refine hend U w (by
   have h9:cnt Z b=Z.length:=List.countP_eq_length.2 (fun z hz=>hb z (by
    have:=List.all_eq_true.1 hZn z hz;simp only [decide_eq_true_eq] at this
    simp [this]))
   rw [← h9];exact hS) (fun k i t q hk=>hU k i t q hk (hb i ?_))
  obtain ⟨v,hg⟩:=qgU (U:=U0) hk;have:=List.all_eq_true.1 hlt _ (List.mem_of_getElem? hg);simp only [decide_eq_true_eq] at this;simp [this]
def qlL (P:Program) (ops:Array Oper) (Q:Exit→Act→World→Prop) (B:List Nat) (n:Nat) (a0:Act) (V:List Ent) (Z:List Nat) (S:Nat→(Nat→Value)→World→Prop) (G:World→World→Prop):Nat→List Oper→Prop
 | _,[]=>True
 | i,o :: r=>qqZ P ops Q B n a0 V Z S G i o∧qlL P ops Q B n a0 V Z S G (i+1) r
theorem qoR {n:Nat} {a0:Act} {V:List Ent} {Z:List Nat} {S:Nat→(Nat→Value)→World→Prop} {G:World→World→Prop}:∀ (l:List Oper) (i:Nat),qlL P ops Q B n a0 V Z S G i l→(∀ j,l[j]?=ops[i+j]?)→∀ j,j < l.length→∃ oi,ops[i+j]?=some oi∧qqZ P ops Q B n a0 V Z S G (i+j) oi
 | [],_,_,_,j,hj=>by simp at hj
 | o :: r,i,h,hg,0,_=>by
  have h0:=hg 0;simp only [List.getElem?_cons_zero,Nat.add_zero] at h0;exact ⟨o,h0.symm,h.1⟩
 | o :: r,i,h,hg,j+1,hj=>by
  have h2:=qoR r (i+1) h.2 (fun m=>by
   have:=hg (m+1);simp only [List.getElem?_cons_succ] at this
   rw [this,show i+(m+1)=i+1+m by omega]) j (by simp at hj;omega)
  rwa [show i+1+j=i+(j+1) by omega] at h2
theorem fromU_nil {n i:Nat} {a0:Act} {V:List Ent} {Z:List Nat} {S:Nat→(Nat→Value)→World→Prop} {G:World→World→Prop}:qlL P ops Q B n a0 V Z S G i []:=trivial
theorem fromU_some {n i:Nat} {a0:Act} {V:List Ent} {Z:List Nat} {S:Nat→(Nat→Value)→World→Prop} {G:World→World→Prop} {o:Oper} {r:List Oper} {t:Tmp} {v:Value} (k:Nat) (ht:o.dst=some t) (hk:V[k]?=some (i,t,.inl v))
  (h:∀ s U a w,loZ Z B n i≤s→s≤hiZ Z B n i→S s U w→qjF a0 V (qhC B n i) (qcK B n i) U a w→∀ K:Act→World→Prop,(∀ w',S (nxZ Z i s) U w'→G w w'→K (a.put (some t) v) w')→if Region.wanted o (yielded ops a.tmps)=true then Oper.wp P o a w K Q else K (a.put (some t) undef) w)
  (hr:qlL P ops Q B n a0 V Z S G (i+1) r):qlL P ops Q B n a0 V Z S G i (o :: r):=by
 refine ⟨?_,hr⟩;unfold qqZ;rw [ht];exact ⟨k,_,hk,fun s U a w hlo hhi hS hK K hC=>h s U a w hlo hhi hS hK K (fun w' hS' hG=>hC v w' hS' hG rfl)⟩
theorem fromU_rel {n i:Nat} {a0:Act} {V:List Ent} {Z:List Nat} {S:Nat→(Nat→Value)→World→Prop} {G:World→World→Prop} {o:Oper} {r:List Oper} {t:Tmp} {q:Value→World→Prop} (k:Nat) (ht:o.dst=some t) (hk:V[k]?=some (i,t,.inr q))
  (h:∀ s U a w,loZ Z B n i≤s→s≤hiZ Z B n i→S s U w→qjF a0 V (qhC B n i) (qcK B n i) U a w→∀ K:Act→World→Prop,(∀ v w',S (nxZ Z i s) (upd U k v) w'→G w w'→q v w'→K (a.put (some t) v) w')→if Region.wanted o (yielded ops a.tmps)=true then Oper.wp P o a w K Q else K (a.put (some t) undef) w)
  (hr:qlL P ops Q B n a0 V Z S G (i+1) r):qlL P ops Q B n a0 V Z S G i (o :: r):=by
 refine ⟨?_,hr⟩;unfold qqZ;rw [ht];exact ⟨k,_,hk,h⟩
theorem fromU_none {n i:Nat} {a0:Act} {V:List Ent} {Z:List Nat} {S:Nat→(Nat→Value)→World→Prop} {G:World→World→Prop} {o:Oper} {r:List Oper} (ht:o.dst=none) (hk:((inst U0 0 V).all fun e=>!(e.1==i))=true)
  (h:∀ s U a w,loZ Z B n i≤s→s≤hiZ Z B n i→S s U w→qjF a0 V (qhC B n i) (qcK B n i) U a w→∀ K:Act→World→Prop,(∀ w',S (nxZ Z i s) U w'→G w w'→K a w')→if Region.wanted o (yielded ops a.tmps)=true then Oper.wp P o a w K Q else K a w)
  (hr:qlL P ops Q B n a0 V Z S G (i+1) r):qlL P ops Q B n a0 V Z S G i (o :: r):=by
 refine ⟨?_,hr⟩;unfold qqZ;rw [ht];exact ⟨hk,h⟩
theorem relU {id n:Nat} {a0:Act} {w0:World} (V:List Ent) (Z:List Nat) (S:Nat→(Nat→Value)→World→Prop) (G:World→World→Prop) (hm:P.follows .mixedOrders=true) (hn:ops.size=n) (hc:qlG ops n=true)
  (hZ:Z.Nodup) (hZn:Z.all (fun z=>decide (z < n))=true) (h0:S 0 U0 w0.drew) (hst:∀ (k:Nat) (i:Nat) (t:Tmp) (q:Value→World→Prop),V[k]?=some (i,t,.inr q)→∀ v w w',G w w'→q v w→q v w')
  (hs:qlL P ops Q (Reg.bits ops) n a0 V Z S G 0 ops.toList) (hV:okV (inst U0 0 V) a0.tmps.size=true) (hlt:(inst U0 0 V).all (fun e=>decide (e.1 < n))=true)
  (hend:∀ U w,S Z.length U w→(∀ (k:Nat) (i:Nat) (t:Tmp) (q:Value→World→Prop),V[k]?=some (i,t,.inr q)→q (U k) w)→Q .normal (putV a0 (inst U 0 V)) w):(Code.region id ops true).wp P Q a0 w0:=by
 unfold qlG at hc;rw [Bool.and_eq_true,Bool.and_eq_true,beq_iff_eq] at hc;refine qpT V Z S G hm hn rfl hc.1.1 hc.1.2 hc.2 hZ hZn h0 hst (fun i hi=>?_) hV hlt hend;have h2:=qoR ops.toList 0 hs (fun j=>by simp) i (by simpa [hn] using hi)
 rwa [Nat.zero_add] at h2
end
end Go.Proofs.YtdlimghdimkadaaGreatDoor.RelU
namespace Go.Proofs.YtdlimghdimkadaaGreatDoor.PAll
open Go Go.RowKit YtdlimghdimkadaaGreatDoorW.PrintWords YtdlimghdimkadaaGreatDoorW.PrintLast YtdlimghdimkadaaGreatDoorW.PrintMore
attribute [local go_sem] qdS qdQ qeJ qeI qcV qcU qdR qdP
section
def qsX:Kd (List Value) where
 sz:=4
 E:=[]
 K:=fun _ x cs=>cs=x∧cs.length=4∧∀ u ∈ cs,u.oneCell'=true
 M:=fun _ _ _ x cs=>cs=x∧cs.length=4∧∀ u ∈ cs,u.oneCell'=true
 K_len:=fun h=>h.2.1
 K_one:=fun h=>h.2.2
 K_below:=fun _ h=>h
 K_of_M:=fun h=>h
 M_mono:=fun _ h=>h
 M_bound:=fun h=>h
 M_move:=fun _ h=>h
 M_lower:=fun _ h=>h
def qnT (x P:Nat):List Value:=[.slice (some ⟨x,0,none⟩) P P,.int .i64 0,.bool false,.int .i64 0]
def qiJ (gp:Nat→Nat) (P i:Nat):List (List Value):=(List.range i).map fun x=>qnT (gp x) P
theorem qkA (gp:Nat→Nat) (P i:Nat):(qiJ gp P i).length=i:=by simp [qiJ]
theorem qsS (gp:Nat→Nat) (P i x:Nat):qiJ gp P i ++ [qnT x P]=qiJ (fun y=>if y=i then x else gp y) P (i+1):=by
 unfold qiJ;rw [List.range_succ,List.map_append]
 congr 1
 ·refine List.map_congr_left (fun y hy=>?_);have:y ≠ i:=by have:=List.mem_range.1 hy;omega
  simp [this]
 ·simp
theorem qxM (x P:Nat) (W:World) (b:Nat) (ok:Nat→Prop):qfK (qsX.M W b ok) qsX.sz [qnT x P] (qnT x P):=by
 refine ⟨rfl,fun j p hj=>?_⟩
 obtain rfl:j=0:=by
  rcases j with _|j
  ·rfl
  ·simp at hj
 simp only [List.getElem?_cons_zero,Option.some.injEq] at hj;subst hj;refine ⟨rfl,rfl,fun u hu=>?_⟩;change u ∈ qnT x P at hu;simp only [qnT,List.mem_cons,List.not_mem_nil,or_false] at hu
 rcases hu with rfl|rfl|rfl|rfl <;> rfl
theorem qqH:(Tryz.prog.info? 103).map (fun i=>(i.zero,i.size,i.bytes))=some (some (.agg #[.slice none 0 0,.int .i64 0,.bool false,.int .i64 0]),4,48):=by kernel_rfl
theorem vaC {W:World} {base:Nat} {ok:Nat→Prop} {v:Value} {gp:Nat→Nat} {g:Geo} (h:Kd.R qsX 103 W base ok v (qiJ gp g.P g.B)) (hB:0 < g.B):∃ gb cap,v=.slice (some ⟨gb,0,none⟩) g.B cap∧base≤gb∧g.B≤cap∧At W gb 103 (dB gp (qmZ g [])):=by
 obtain ⟨-,inner,⟨hl,ho⟩,hr⟩:=h;rw [qkA] at hl ho
 rcases ho with ⟨-,h0⟩|⟨gb,cap,cur,hv,hb,hg,hc,-,hs,ht⟩
 ·omega
 refine ⟨gb,cap,hv,hb,hc,cur,hg,fun o w hw=>?_⟩;unfold dB at hw;change (if o / 4 < g.B then _ else _)=_ at hw
 by_cases ho:o / 4 < g.B
 ·rw [if_pos ho] at hw;have h1:=hr.2 (o / 4) (qnT (gp (o / 4)) g.P) (by unfold qiJ;rw [List.getElem?_map,List.getElem?_range ho];rfl)
  have h2:((inner.drop (o / 4*4)).take 4)[o % 4]?=(qnT (gp (o / 4)) g.P)[o % 4]?:=by
   have e:(inner.drop (o / 4*qsX.sz)).take qsX.sz=qnT (gp (o / 4)) g.P:=h1.1;change (inner.drop (o / 4*4)).take 4=_ at e;rw [e]
  rw [List.getElem?_take,if_pos (by omega),List.getElem?_drop,show o / 4*4+o % 4=o by omega,← ht,List.getElem?_take,if_pos (by show o < g.B*4;omega),Array.getElem?_toList] at h2;rw [h2,← hw];have h3:o % 4=0∨o % 4=1∨o % 4=2∨o % 4=3:=by omega
  rcases h3 with h3|h3|h3|h3 <;> simp [h3,qnT,qmZ]
 ·rw [if_neg ho] at hw;cases hw
theorem qmX {α:Type} {d:Kd α} {e base:Nat} {W:World} {ok:Nat→Prop} {v:Value} {xs:List α} (h:d.R e W base ok v xs) {g t:Nat} {cs:Array Value} {fr:Nat × Nat} (hg:W.heap[g]?=some (.cells cs t fr)) (ht:t ≠ e):some g ≠ v.ownBlock:=fun hk=>by
 obtain ⟨-,inner,ho,-⟩:=h;obtain ⟨cells,hc⟩:=qhV ho g hk.symm;rw [hg] at hc;simp only [Option.some.injEq,Obj.cells.injEq] at hc;exact ht hc.2.1
def vdM (W w:World) (o:Option Nat):Prop:=W.heap.size≤w.heap.size∧∀ k,k < W.heap.size→some k ≠ o→w.heap[k]?=W.heap[k]?
def vbN (w0 wr:World) (g:Geo) (gp:Nat→Nat) (i:Nat) (A5:Option Addr) (c5 gd:Nat):Nat→(Nat→Value)→World→Prop
 | 0,_,w=>Below wr.heap.size wr w
 | 1,U,w=>vdM wr w (Value.slice A5 i c5).ownBlock∧Below w0.heap.size w0 w∧∃ x0,wr.heap.size≤x0∧w.heap[x0]?=some (.cells (dpg g.P) 164 (0,0))∧Kd.R qsX 103 w w0.heap.size (fun _=>True) (U 10) (qiJ gp g.P i ++ [qnT x0 g.P])
 | _,U,w=>∃ W5 A6 c6,(vdM wr W5 (Value.slice A5 i c5).ownBlock∧Below w0.heap.size w0 W5∧∃ x0,wr.heap.size≤x0∧W5.heap[x0]?=some (.cells (dpg g.P) 164 (0,0))∧Kd.R qsX 103 W5 w0.heap.size (fun _=>True) (U 10) (qiJ gp g.P i ++ [qnT x0 g.P]))∧U 10=.slice A6 (i+1) c6∧w=W5.setCell ⟨gd,4,none⟩ (.slice A6 (i+1) c6)
def dN (g:Geo) (v:Value):Array Value:=#[.int .i64 g.B,.int .i64 g.P,.int .i64 g.Z,.int .i64 g.R,v,.bool false,.slice none 0 0,.int .i64 0,.int .i64 0,.int .i64 0]
theorem qyR (B P Z R:Int) (A:Option Addr) (n c:Nat) (w:World) (hg:qcG B P Z R=false):Calls Tryz.prog 12 #[gV B P Z R,.slice A n c] w fun e w'=>e=.returned (.tuple #[.pointer none,.int .i64 22])∧Below w.heap.size w w':=by
 have HRG:=aM (fun W=>qhP B P Z R W);rw [hg] at HRG;have hu28:=Tryz.underlying23;go_enter Tryz.func12,Tryz.ntmps12
 go_upto_region 1 with (fail)
 generalize hW:w.alloc (.cells #[.int .i64 B,.int .i64 P,.int .i64 Z,.int .i64 R] 23)=W1;have hb:Below w.heap.size w W1:=by rw [← hW];exact qaA (Below.refl _ _) _
 have hx:W1.heap[w.heap.size]?=some (.cells #[.int .i64 B,.int .i64 P,.int .i64 Z,.int .i64 R] 23 (0,0)):=by rw [← hW];exact qaV _ _ _
 have HB:=aM hb;have a0:=jC hx 0;have a1:=jC hx 1;have a2:=jC hx 2;have a3:=jC hx 3;clear hW hb hx
 go_wp2_with (first
  | (go_at_call 53;(with_reducible refine (HRG.out _).mono ?_);rintro e w2 ⟨rfl,hb2⟩;have HB2:=aM (qaF HB.out hb2);clear hb2))
 go_ret2;exact ⟨rfl,HB2.out⟩
theorem vbM (g:Geo) (w:World) (hg:qcG g.B g.P g.Z g.R=true) :
  Calls Tryz.prog 12 #[gV g.B g.P g.Z g.R,.slice none 0 0] w fun e w'=>∃ gd:Nat,e=.returned (.tuple #[cp gd,.int .i64 0])∧qbT w w' gd (qmZ g [])∧Below w.heap.size w w':=by
 have hgok:=qkB hg;have HGO:=aM hgok;have HRG:=aM (fun W=>qhP g.B g.P g.Z g.R W);rw [hg] at HRG;have HRP:=aM (fun (W:World)=>show Calls Tryz.prog 54 #[.slice none 0 0] W fun e w'=>e=.returned (.bool true)∧Below W.heap.size W w' from qmN none 0 [] W ⟨rfl,by decide,fun h=>absurd h (by decide)⟩ (Nat.le_refl _));clear hg;obtain ⟨⟨hB1,hB2⟩,⟨hP1,hP2⟩,⟨hZ1,hZ2⟩⟩:=hgok;have HMK:=aM (show ∀ w,(Instr.makeSlice 101 (.int .i64 g.P) (.int .i64 g.P)).run Tryz.prog w=.ok (.slice (some ⟨w.heap.size,0,none⟩) g.P g.P) (w.alloc (.cells (dpg g.P) 164)) from fun w=>qeH _ _ _ 3 32 g.P Tryz.underlying101 qeU (by omega) (by omega) w);have hu28:=Tryz.underlying23;have hu103:=Tryz.underlying103;have hu122:=Tryz.underlying164;have hu100:=Tryz.underlying100;go_enter Tryz.func12,Tryz.ntmps12
 go_upto_region 1 with (fail)
 obtain ⟨gx,hgx⟩:∃ gx,gx=w.heap.size:=⟨_,rfl⟩
 generalize hW:w.alloc (.cells #[.int .i64 g.B,.int .i64 g.P,.int .i64 g.Z,.int .i64 g.R] 23)=W1;have hb:Below w.heap.size w W1:=by rw [← hW];exact qaA (Below.refl _ _) _
 have hx:W1.heap[gx]?=some (.cells #[.int .i64 g.B,.int .i64 g.P,.int .i64 g.Z,.int .i64 g.R] 23 (0,0)):=by rw [← hW,hgx];exact qaV _ _ _
 have HB:=aM hb;have HG:=aM hx;have a0:=jC hx 0;have a1:=jC hx 1;have a2:=jC hx 2;have a3:=jC hx 3;rw [← hgx];clear hW hb hx hgx
 go_upto_region 3 with (first
  | (go_at_call 53;(with_reducible refine (HRG.out _).mono ?_);rintro e w2 ⟨rfl,hb2⟩;have HB2:=aM hb2;clear hb2)
  | (go_at_call 54;(with_reducible refine (HRP.out _).mono ?_);rintro e w3 ⟨rfl,hb3⟩;have HB3:=aM (qaF HB2.out hb3);have hg3:=qaE HG.out HB3.out;have HG3:=aM hg3;have b0:=jC hg3 0;have b1:=jC hg3 1;have b2:=jC hg3 2;have b3:=jC hg3 3;clear hb3 hg3))
 have HBw:=aM (qaF HB.out HB3.out);clear a0 a1 a2 a3
 go_upto_region 5 with (fail)
 obtain ⟨gd,hgd⟩:∃ gd,gd=w3.heap.size:=⟨_,rfl⟩
 generalize hW:w3.alloc (.cells #[.int .i64 g.B,.int .i64 g.P,.int .i64 g.Z,.int .i64 g.R,.slice none 0 0,.bool false,.slice none 0 0,.int .i64 0,.int .i64 0,.int .i64 0] 100)=W4;have hb4:Below w3.heap.size w3 W4:=by rw [← hW];exact qaA (Below.refl _ _) _
 have HC4:=aM (show W4.heap[gd]?=some (.cells (dN g (.slice none 0 0)) 100 (0,0)) by rw [← hW,hgd];exact qaV _ _ _);have HB4:=aM (qaF HBw.out hb4);have HG4:=aM (qaE HG3.out hb4);have HGD:=aM (show w.heap.size≤gd by rw [hgd];exact qaG HBw.out);rw [← hgd];clear hW hb4 hgd b0 b1 b2 b3;go_loopw [7] (fun v7 wr=>∃ (i:Nat) (gp:Nat→Nat) (A5:Option Addr) (c5:Nat),i≤g.B∧v7=.int .i64 i∧qaN (wr.heap[gd]?=some (.cells (dN g (.slice A5 i c5)) 100 (0,0)))∧qaN (Kd.R qsX 103 wr w.heap.size (fun _=>True) (.slice A5 i c5) (qiJ gp g.P i))∧qaN (∀ x,x < i→wr.heap[gp x]?=some (.cells (dpg g.P) 164 (0,0)))∧qaN (∀ x y,x < i→y < i→gp x=gp y→x=y)∧qaN (∀ x,x < i→w.heap.size≤gp x)∧qaN (wr.heap[gx]?=some (.cells #[.int .i64 g.B,.int .i64 g.P,.int .i64 g.Z,.int .i64 g.R] 23 (0,0)))∧qaN (Below w.heap.size w wr)) (fun i _=>g.B - (intOf i).toNat);case atStart=>exact ⟨0,fun _=>0,none,0,Nat.zero_le _,rfl,HC4,⟨Kd.R_nil _ _ _ _ _⟩,⟨fun x h=>absurd h (Nat.not_lt_zero _)⟩,⟨fun x y h=>absurd h (Nat.not_lt_zero _)⟩,⟨fun x h=>absurd h (Nat.not_lt_zero _)⟩,HG4,HB4⟩
 case round =>
  obtain ⟨i,gp,A5,c5,hi,rfl,HC5,HN5,HP5,HI5,HE5,HG5,HB5⟩:=hrel;have a0:=jC HG5.out 0
  by_cases hlt:i < g.B
  ·have d0:decide ((i:Int) < (g.B:Int))=true:=decide_eq_true (by omega);have hq:(i < g.B)=True:=eq_true hlt;have hqi:((i:Int) < (g.B:Int))=True:=eq_true (by omega);have HIL:=aM hlt;have HGL:=aM (qbR HC5.out);have HCN:=aM (qmX HN5.out HC5.out (by decide));have HVO:=aM (show ∀ k,some k=(Value.slice A5 i c5).ownBlock→k < wr.heap.size from fun k hk=>Kd.R_lt HN5.out k hk.symm)
   go_upto_region 7 with (fail)
   refine RelU.relU [(0,26,.inl ?r1v0),(1,27,.inl ?r1v1),(2,28,.inl ?r1v2),(3,29,.inl ?r1v3),(4,30,.inl ?r1v4),(5,31,.inl ?r1v5),(6,32,.inl ?r1v6),(7,33,.inr (fun v w'=>∃ x0,v=.slice (some ⟨x0,0,none⟩) g.P g.P∧w'.heap[x0]?=some (.cells (dpg g.P) 164 (0,0))∧wr.heap.size≤x0)),(8,34,.inr (fun v w'=>∃ x0,v=.agg #[.slice (some ⟨x0,0,none⟩) g.P g.P,.int .i64 0,.bool false,.int .i64 0]∧w'.heap[x0]?=some (.cells (dpg g.P) 164 (0,0))∧wr.heap.size≤x0)),(9,35,.inr (fun v w'=>∃ x0,Kd.R qsX 103 w' w.heap.size (fun k=>wr.heap.size≤k) v [qnT x0 g.P]∧w'.heap[x0]?=some (.cells (dpg g.P) 164 (0,0))∧wr.heap.size≤x0)),(10,36,.inr (fun _ _=>True)),(11,37,.inl ?r1v11),(12,38,.inl ?r1v12)] [10,13] (vbN w wr g gp i A5 c5 gd) (fun w' w''=>∀ k,wr.heap.size≤k→k < w'.heap.size→w''.heap[k]?=w'.heap[k]?) (by rfl) rfl (by kernel_rfl) (by decide) (by decide) ?r1S (Rel.stable_inl (Rel.stable_inl (Rel.stable_inl (Rel.stable_inl (Rel.stable_inl (Rel.stable_inl (Rel.stable_inl (Rel.stable_inr (fun v w w' hb ⟨x0,h1,h2,h3⟩=>⟨x0,h1,(hb x0 h3 (qbR h2)).trans h2,h3⟩) (Rel.stable_inr (fun v w w' hb ⟨x0,h1,h2,h3⟩=>⟨x0,h1,(hb x0 h3 (qbR h2)).trans h2,h3⟩) (Rel.stable_inr (fun v w w' hb ⟨x0,h1,h2,h3⟩=>⟨x0,Kd.R_mono (Kd.R_move (Kd.R_bound h1) (fun k hk=>hb k hk.1 hk.2.2.1)) (fun k hk=>hk.1),(hb x0 h3 (qbR h2)).trans h2,h3⟩) (Rel.stable_inr (fun _ _ _ _ _=>trivial) (Rel.stable_inl (Rel.stable_inl Rel.stable_nil))))))))))))) ?r1steps ?r1okv ?r1hlt ?r1fin
   case r1S=>exact qaW (Below.refl _ _)
   case r1steps =>
    refine RelU.fromU_some 0 rfl rfl (fun s U a wq hlo hhi hS hK K hC=>?_) ?_
    ·refine Reg.sO ?_;clear hlo hhi;have e6:=hK.off 6 _ rfl rfl;clear hK;go_simp;exact hC _ hS (fun _ _ _=>rfl)
    refine RelU.fromU_some 1 rfl rfl (fun s U a wq hlo hhi hS hK K hC=>?_) ?_
    ·refine Reg.sO ?_;clear hlo hhi;have e6:=hK.off 6 _ rfl rfl;clear hK;go_simp;exact hC _ hS (fun _ _ _=>rfl)
    refine RelU.fromU_some 2 rfl rfl (fun s U a wq hlo hhi hS hK K hC=>?_) ?_
    ·refine Reg.sO ?_;clear hlo hhi;have e27:=hK.sl 1 rfl;clear hK;go_simp;exact hC _ hS (fun _ _ _=>rfl)
    refine RelU.fromU_some 3 rfl rfl (fun s U a wq hlo hhi hS hK K hC=>?_) ?_
    ·refine Reg.sO ?_;clear hlo hhi;have e28:=hK.sl 2 rfl;clear hK;go_simp;exact hC _ hS (fun _ _ _=>rfl)
    refine RelU.fromU_some 4 rfl rfl (fun s U a wq hlo hhi hS hK K hC=>?_) ?_
    ·refine Reg.sO ?_;obtain rfl:s=0:=Nat.le_antisymm (Nat.le_trans hhi (Nat.le_of_eq (by kernel_rfl))) (Nat.le_trans (Nat.le_of_eq (by kernel_rfl)) hlo);clear hlo hhi;have e29:=hK.sl 3 rfl;change Below wr.heap.size wr wq at hS;have zz:wq.cell? ⟨gd,4,none⟩=some (.slice A5 i c5):=jC (qaE HC5.out hS) 4;clear hK;go_simp;exact hC _ hS (fun _ _ _=>rfl)
    refine RelU.fromU_some 5 rfl rfl (fun s U a wq hlo hhi hS hK K hC=>?_) ?_
    ·refine Reg.sO ?_;clear hlo hhi;have e2:=hK.off 2 _ rfl rfl;clear hK;go_simp;exact hC _ hS (fun _ _ _=>rfl)
    refine RelU.fromU_some 6 rfl rfl (fun s U a wq hlo hhi hS hK K hC=>?_) ?_
    ·refine Reg.sO ?_;obtain rfl:s=0:=Nat.le_antisymm (Nat.le_trans hhi (Nat.le_of_eq (by kernel_rfl))) (Nat.le_trans (Nat.le_of_eq (by kernel_rfl)) hlo);clear hlo hhi;have e31:=hK.sl 5 rfl;change Below wr.heap.size wr wq at hS;have zz:=jC (qaE HG5.out hS) 1;clear hK;go_simp;exact hC _ hS (fun _ _ _=>rfl)
    refine RelU.fromU_rel 7 rfl rfl (fun s U a wq hlo hhi hS hK K hC=>?_) ?_
    ·refine Reg.sO ?_;obtain rfl:s=0:=Nat.le_antisymm (Nat.le_trans hhi (Nat.le_of_eq (by kernel_rfl))) (Nat.le_trans (Nat.le_of_eq (by kernel_rfl)) hlo);clear hlo hhi;have e32:=hK.sl 6 rfl;change Below wr.heap.size wr wq at hS;have hm:=HMK.out wq;clear hK;go_simp;exact hC _ _ (qaA hS _) (fun k _ hk=>(qaA (Below.refl wq.heap.size wq) _).block k hk) ⟨_,rfl,qaV _ _ _,qaG hS⟩
    refine RelU.fromU_rel 8 rfl rfl (fun s U a wq hlo hhi hS hK K hC=>?_) ?_
    ·refine Reg.sO ?_;obtain rfl:s=0:=Nat.le_antisymm (Nat.le_trans hhi (Nat.le_of_eq (by kernel_rfl))) (Nat.le_trans (Nat.le_of_eq (by kernel_rfl)) hlo);clear hlo hhi;obtain ⟨e33,q33⟩:=hK.rel 7 _ _ _ rfl (by kernel_rfl);obtain ⟨x0,ex,hx,hxl⟩:=q33;rw [ex] at e33;clear hK;go_simp;exact hC _ _ hS (fun _ _ _=>rfl) ⟨x0,rfl,hx,hxl⟩
    refine RelU.fromU_rel 9 rfl rfl (fun s U a wq hlo hhi hS hK K hC=>?_) ?_
    ·refine Reg.sO ?_;obtain rfl:s=0:=Nat.le_antisymm (Nat.le_trans hhi (Nat.le_of_eq (by kernel_rfl))) (Nat.le_trans (Nat.le_of_eq (by kernel_rfl)) hlo);clear hlo hhi;obtain ⟨e34,q34⟩:=hK.rel 8 _ _ _ rfl (by kernel_rfl);change Below wr.heap.size wr wq at hS;obtain ⟨x0,ex,hx,hxl⟩:=q34;rw [ex] at e34;refine qsP (y:=yielded #[] a.tmps) (by rfl) (Kd.R_lit_step qsX (w0:=w) w.heap.size 103 (by rfl) (N:=35) rfl (xs:=[qnT x0 g.P]) (inner:=qnT x0 g.P) (ok:=fun k=>wr.heap.size≤k) (okp:=fun _=>False) ?hrun (qxM x0 g.P _ _ _) (fun _ h=>h.elim) (qaG hS) (qaF HB5.out hS) (qaG (qaF HB5.out hS)) (by simp) (fun v1 w1 ho hb hg _=>?_))
     case hrun=>clear hK;first|(go_simp;done)|(go_simp;rfl)
     have hbb:=qiD hg;exact hC _ _ (qaF hS hbb) (fun k _ hk=>hbb.block k hk) ⟨x0,ho,qaE hx hbb,hxl⟩
    refine RelU.fromU_rel 10 rfl rfl (fun s U a wq hlo hhi hS hK K hC=>?_) ?_
    ·refine Reg.sO ?_;obtain rfl:s=0:=Nat.le_antisymm (Nat.le_trans hhi (Nat.le_of_eq (by kernel_rfl))) (Nat.le_trans (Nat.le_of_eq (by kernel_rfl)) hlo);clear hlo hhi;have e30:=hK.sl 4 rfl;obtain ⟨e35,q35⟩:=hK.rel 9 _ _ _ rfl (by kernel_rfl);change Below wr.heap.size wr wq at hS;obtain ⟨x0,q35',hx,hxl⟩:=q35
     obtain ⟨A7,c7,e7⟩:=(show ∃ A7 c7,U 9=Value.slice A7 1 c7 from Kd.R_slice q35')
     rw [e7] at q35' e35;refine qsP (y:=yielded #[] a.tmps) (by rfl) (Kd.R_append_rows_step qsX (Rr:=qsX.K wq) (w0:=w) w.heap.size (by rfl) (.tmp 30) (.tmp 35) 98 103 (.agg #[.slice none 0 0,.int .i64 0,.bool false,.int .i64 0]) 48 rfl Tryz.underlying98 qqH rfl (by decide) (by decide) (.slice A5 i c5) (qiJ gp g.P i) [qnT x0 g.P] A7 1 c7 (fun _=>True) (fun _=>False) (by first|(go_simp;done)|(go_simp;rfl)) (by first|(go_simp;done)|(go_simp;rfl)) (Kd.R_below HN5.out hS) (Kd.R_reads' q35').2.2 (fun _ _ h=>h) (fun _ h=>h.elim) (fun _ _=>trivial) (qaF HB5.out hS) (qaG (qaF HB5.out hS)) ?hl (fun v1 w1 ho hb hg _=>?_));case hl=>have:=HGO.out;have:=HIL.out;rw [qkA];unfold GOK at this;omega
     have hkr:=HVO.out;refine hC v1 w1 ⟨⟨Nat.le_trans (qaG hS) hg.size,fun k hk hne=>(hg.block k (Nat.lt_of_lt_of_le hk (qaG hS)) hne).trans (hS.block k hk)⟩,hb,x0,hxl,(hg.block x0 (qbR hx) (fun e=>Nat.not_lt.2 hxl (hkr x0 e))).trans hx,?_⟩ (fun k hk1 hk2=>hg.block k hk2 (fun e=>Nat.not_lt.2 hk1 (hkr k e))) trivial;rw [RelU.upd_self];exact ho
    refine RelU.fromU_some 11 rfl rfl (fun s U a wq hlo hhi hS hK K hC=>?_) ?_
    ·refine Reg.sO ?_;clear hlo hhi;have e26:=hK.sl 0 rfl;clear hK;go_simp;exact hC _ hS (fun _ _ _=>rfl)
    refine RelU.fromU_some 12 rfl rfl (fun s U a wq hlo hhi hS hK K hC=>?_) ?_
    ·refine Reg.sO ?_;clear hlo hhi;have e37:=hK.sl 11 rfl;clear hK;go_simp;exact hC _ hS (fun _ _ _=>rfl)
    refine RelU.fromU_none rfl rfl (fun s U a wq hlo hhi hS hK K hC=>?_) ?_
    ·refine Reg.sO ?_;obtain rfl:s=1:=Nat.le_antisymm (Nat.le_trans hhi (Nat.le_of_eq (by kernel_rfl))) (Nat.le_trans (Nat.le_of_eq (by kernel_rfl)) hlo);clear hlo hhi;have e38:=hK.sl 12 rfl;obtain ⟨e36,q36⟩:=hK.rel 10 _ _ _ rfl (by kernel_rfl);obtain ⟨hk1,hb1,x0,hxl,hx,ho⟩:=hS
     obtain ⟨A6,c6,e6⟩:=(show ∃ A6 c6,U 10=Value.slice A6 (qiJ gp g.P i ++ [qnT x0 g.P]).length c6 from Kd.R_slice ho)
     rw [List.length_append,qkA] at e6;change U 10=Value.slice A6 (i+1) c6 at e6;rw [e6] at e36;have hgc:=(hk1.2 gd HGL.out HCN.out).trans HC5.out;have zz:wq.cell? ⟨gd,4,none⟩=some (.slice A5 i c5):=jC hgc 4;have zf:=qaC hgc 4;have HS:=aM (show vbN w wr g gp i A5 c5 gd 1 U wq from ⟨hk1,hb1,x0,hxl,hx,ho⟩);clear hk1 hb1 hx ho hgc;clear hK;go_simp;exact hC _ ⟨_,A6,c6,HS.out,e6,rfl⟩ (fun k hk1 _=>Below.heap_setCell _ _ _ k (Nat.ne_of_gt (Nat.lt_of_lt_of_le HGL.out hk1)))
    exact RelU.fromU_nil
   case r1okv=>rfl
   case r1hlt=>rfl
   case r1fin =>
    intro U wz hS hU;have q7:=hU 7 _ _ _ rfl;have q8:=hU 8 _ _ _ rfl;have q9:=hU 9 _ _ _ rfl;have q10:=hU 10 _ _ _ rfl;clear hU;simp only [Rel.inst,Nat.zero_add,Nat.reduceAdd,Reg.putV,List.foldl_cons,List.foldl_nil,Act.put,List.setIfInBounds_toArray,List.set_cons_zero,List.set_cons_succ];obtain ⟨W5,A6,c6,⟨hk1,hb1,x0,hxl,hx,ho⟩,e6,rfl⟩:vbN w wr g gp i A5 c5 gd 2 U wz:=hS;rw [e6,qsS] at ho;have hC1:=(hk1.2 gd HGL.out HCN.out).trans HC5.out;have hG1:=(hk1.2 gx (qbR HG5.out) (qmX HN5.out HG5.out (by decide))).trans HG5.out;generalize hW:W5.setCell ⟨gd,4,none⟩ (.slice A6 (i+1) c6)=W6;have H1:=aM (show W6.heap[gd]?=some (.cells (dN g (.slice A6 (i+1) c6)) 100 (0,0)) by rw [← hW];exact qaU hC1 4 _ rfl);have H2:=aM (show Kd.R qsX 103 W6 w.heap.size (fun _=>True) (.slice A6 (i+1) c6) (qiJ (fun x=>if x=i then x0 else gp x) g.P (i+1)) by rw [← hW];exact Kd.R_set ho hC1 (by decide) _ _)
    have H3:=aM (show ∀ x,x < i+1→W6.heap[(fun x=>if x=i then x0 else gp x) x]?=some (.cells (dpg g.P) 164 (0,0)) from fun x hx1=>by
     rw [← hW]
     by_cases hxi:x=i
     ·subst hxi;simp only [if_true];exact qaR hx (qbE hx hC1 (by decide)) _
     ·simp only [hxi,if_false];have hp:=HP5.out x (by omega);have hp1:=(hk1.2 (gp x) (qbR hp) (qmX HN5.out hp (by decide))).trans hp
      exact qaR hp1 (qbE hp1 hC1 (by decide)) _)
    have H4:=aM (show ∀ x y,x < i+1→y < i+1→(fun x=>if x=i then x0 else gp x) x=(fun x=>if x=i then x0 else gp x) y→x=y from fun x y hx hy e=>by
     have hlt2:∀ z,z < i→gp z < x0:=fun z hz=>Nat.lt_of_lt_of_le (qbR (HP5.out z hz)) hxl
     by_cases hxi:x=i
     ·by_cases hyi:y=i
      ·omega
      ·simp only [hxi,hyi,if_true,if_false] at e;have:=hlt2 y (by omega);omega
     ·by_cases hyi:y=i
      ·simp only [hxi,hyi,if_true,if_false] at e;have:=hlt2 x (by omega);omega
      ·simp only [hxi,hyi,if_false] at e
       exact HI5.out x y (by omega) (by omega) e)
    have H5:=aM (show ∀ x,x < i+1→w.heap.size≤(fun x=>if x=i then x0 else gp x) x from fun x hx=>by
     by_cases hxi:x=i
     ·simp only [hxi,if_true];exact Nat.le_trans (qaG HB5.out) hxl
     ·simp only [hxi,if_false];exact HE5.out x (by omega))
    have H6:=aM (show W6.heap[gx]?=some (.cells #[.int .i64 g.B,.int .i64 g.P,.int .i64 g.Z,.int .i64 g.R] 23 (0,0)) by rw [← hW];exact qaR hG1 (qbE hG1 hC1 (by decide)) _);have H7:=aM (show Below w.heap.size w W6 by rw [← hW];exact qaH hb1 HGD.out);clear hW hk1 hb1 hx ho hC1 hG1 a0 e6 q7 q8 q9 q10;go_wp2;go_roundw;case rel=>exact ⟨i+1,_,A6,c6,by omega,by push_cast;rfl,H1,H2,H3,H4,H5,H6,H7⟩
    case measure=>simp [intOf];omega
  ·obtain hiB:i=g.B:=by omega
   subst hiB;have d0:decide ((g.B:Int) < (g.B:Int))=false:=decide_eq_false (by omega);go_wp2;go_ret2;obtain ⟨gb,cap,ev,hb,hc,hat⟩:=vaC HN5.out (by omega);simp only [Value.slice.injEq,true_and] at ev;obtain ⟨rfl,rfl⟩:=ev;refine ⟨gd,rfl,⟨⟨gb,c5,.slice none 0 0,gp,fun _ _=>.slice none 0 0⟩,HC5.out,hat,fun x hx=>?_,HI5.out,HGD.out,hb,HE5.out,fun x y _ _=>Kd.R_nil _ _ _ _ _,Kd.R_nil _ _ _ _ _,HB5.out,HGO.out,hc⟩,HB5.out⟩;exact qzP (HP5.out x hx) _ _ (fun _ _=>rfl) (fun _ _=>rfl)
end
section
variable {w0 W W':World} {gc gd:Nat} {a:AC}
theorem qsM {α:Type} {d:Kd α} {e base:Nat} {ok:Nat→Prop} {v:Value} {xs:List α} (hk:∀ (k:Nat) (cs:Array Value) (t:Nat),t ∈ e :: d.E→W.heap[k]?=some (.cells cs t (0,0))→W'.heap[k]?=some (.cells cs t (0,0))) (h:d.R e W base ok v xs):d.R e W' base ok v xs:=by
 have h2:=Kd.R_move (Kd.R_bound h) (w1:=W') (fun k hb=>by
  obtain ⟨_,_,_,q,hq,cells,hc⟩:=hb
  rw [hk k cells q hq hc,hc])
 exact Kd.R_mono h2 (fun _ hk=>hk.1)
theorem DS.kept {m:DM} (h:DS w0 W gd m a) (hk:qbF W W') (hb:Below w0.heap.size w0 W'):DS w0 W' gd m a :=
  ⟨hk _ _ _ _ (by decide) (by decide) (by decide) h.c,h.b.keep (fun _ hx=>hk _ _ _ _ (by decide) (by decide) (by decide) hx),fun i hi=>(h.p i hi).keep (fun _ hx=>hk _ _ _ _ (by decide) (by decide) (by decide) hx),h.inj,h.ec,h.eb,h.ep,
   fun i j hi hj=>qsM (fun k cs t ht hx=>by
    rcases List.mem_cons.1 ht with rfl|ht
    · exact hk _ _ _ _ (by decide) (by decide) (by decide) hx
    · cases ht) (h.d i j hi hj),qsM (fun k cs t ht hx=>by
    rcases List.mem_cons.1 ht with rfl|ht
    · exact hk _ _ _ _ (by decide) (by decide) (by decide) hx
    · cases ht) h.pln,hb,h.gok,h.cap⟩
theorem qbT.kept (h:qbT w0 W gd a) (hk:qbF W W') (hb:Below w0.heap.size w0 W'):qbT w0 W' gd a:=by
 obtain ⟨m,h⟩:=h;exact ⟨m,h.kept hk hb⟩
theorem St.kept {gb:Nat} {gp:Nat→Nat} {m:Ch} {D:Nat→Nat→List Int} (h:St w0 W gc gb gp m D) (hk:qaP W W') (hb:Below w0.heap.size w0 W'):St w0 W' gc gb gp m D :=
  ⟨hk _ _ _ _ (by decide) (by decide) (by decide) h.c,hk _ _ _ _ (by decide) (by decide) (by decide) h.b,fun i hi=>hk _ _ _ _ (by decide) (by decide) (by decide) (h.p i hi),h.inj,h.ec,h.eb,h.ep,
   fun i j hi hj=>qsM (fun k cs t ht hx=>by
    rcases List.mem_cons.1 ht with rfl|ht
    · exact hk _ _ _ _ (by decide) (by decide) (by decide) hx
    · cases ht) (h.d i j hi hj),qsM (fun k cs t ht hx=>by
    rcases List.mem_cons.1 ht with rfl|ht
    · exact hk _ _ _ _ (by decide) (by decide) (by decide) hx
    · cases ht) h.pln,hb,h.gok⟩
theorem qdG.kept (h:qdG w0 W gc a) (hk:qaP W W') (hb:Below w0.heap.size w0 W'):qdG w0 W' gc a:=by
 obtain ⟨gb,gp,m,D,hs,ha,hl⟩:=h;exact ⟨gb,gp,m,D,hs.kept hk hb,ha,hl⟩
theorem qbT.below (h:qbT w0 W gd a):Below w0.heap.size w0 W:=by
 obtain ⟨m,h⟩:=h;exact h.below
theorem DS.lower {m:DM} {w1:World} (h:DS w1 W gd m a) (hb:Below w0.heap.size w0 w1):DS w0 W gd m a:=by
 have hs:=qaG hb;exact ⟨h.c,h.b,h.p,h.inj,Nat.le_trans hs h.ec,Nat.le_trans hs h.eb,fun i hi=>Nat.le_trans hs (h.ep i hi),fun i j hi hj=>Kd.R_lower (h.d i j hi hj) hs,Kd.R_lower h.pln hs,qaF hb h.below,h.gok,h.cap⟩
theorem qbT.lower {w1:World} (h:qbT w1 W gd a) (hb:Below w0.heap.size w0 w1):qbT w0 W gd a:=by
 obtain ⟨m,h⟩:=h;exact ⟨m,h.lower hb⟩
def KK (W w':World):Prop:=∀ (k:Nat) (cs:Array Value) (t:Nat) (fr:Nat × Nat),t ≠ 92→t ≠ 97→t ≠ 159→t ≠ 100→t ≠ 103→t ≠ 164→W.heap[k]?=some (.cells cs t fr)→w'.heap[k]?=some (.cells cs t fr)
theorem KK.trans {W w1 w2:World} (h:KK W w1) (h2:KK w1 w2):KK W w2:=fun k cs t fr a b c d e f hk=>h2 k cs t fr a b c d e f (h k cs t fr a b c d e f hk)
theorem KK.of_below (h:Below W.heap.size W W'):KK W W':=fun k cs t fr _ _ _ _ _ _ hk=>by rw [h.block k (qbR hk)];exact hk
theorem KK.of_keeps (h:qbF W W'):KK W W':=fun k cs t fr a b c _ _ _ hk=>h k cs t fr a b c hk
theorem KK.of_dkeeps (h:qaP W W'):KK W W':=fun k cs t fr _ _ _ a b c hk=>h k cs t fr a b c hk
structure SOp where
 k:Int
 b:Int
 p:Int
 d:List Int
 pl:List F3
def zOp:SOp:=⟨0,0,0,[],[]⟩
def kOp:Kd SOp:=Kd.iso (Kd.pair (Kd.int .i64) (Kd.pair (Kd.int .i64) (Kd.pair (Kd.int .i64) (Kd.pair (Kd.slice 5 kB) (Kd.slice 83 kF))))) (fun x:SOp=>(x.k,x.b,x.p,x.d,x.pl))
theorem qyD {w:World} {x:SOp} {cs:List Value} (h:kOp.K w x cs):∃ A3 c3 A4 c4,cs=[.int .i64 x.k,.int .i64 x.b,.int .i64 x.p,.slice A3 x.d.length c3,.slice A4 x.pl.length c4]∧x.d.length≤c3∧kB.C w A3 x.d.length x.d∧x.pl.length≤c4∧kF.C w A4 x.pl.length x.pl:=by
 obtain ⟨_,_,rfl,rfl,⟨_,_,rfl,rfl,⟨_,_,rfl,rfl,⟨_,_,rfl,⟨A3,c3,rfl,l3,g3⟩,⟨A4,c4,rfl,l4,g4⟩⟩⟩⟩⟩:=h;exact ⟨A3,c3,A4,c4,rfl,l3,g3,l4,g4⟩
theorem veA {w:World} {A:Option Addr} {n:Nat} {xs:List SOp} (h:Kd.C kOp w A n xs) (i:Int) (h0:0≤i) (h1:i < n):∃ ad A3 c3 A4 c4,A=some ad∧w.cell? (ad.add (i.toNat*5))=some (.int .i64 (xs.getD i.toNat zOp).k)∧w.cell? ⟨(ad.add (i.toNat*5)).block,(ad.add (i.toNat*5)).off+1,none⟩=some (.int .i64 (xs.getD i.toNat zOp).b)∧w.cell? ⟨(ad.add (i.toNat*5)).block,(ad.add (i.toNat*5)).off+2,none⟩=some (.int .i64 (xs.getD i.toNat zOp).p)∧w.cell? ⟨(ad.add (i.toNat*5)).block,(ad.add (i.toNat*5)).off+3,none⟩=some (.slice A3 (xs.getD i.toNat zOp).d.length c3)∧w.cell? ⟨(ad.add (i.toNat*5)).block,(ad.add (i.toNat*5)).off+4,none⟩=some (.slice A4 (xs.getD i.toNat zOp).pl.length c4)∧(xs.getD i.toNat zOp).d.length≤c3∧kB.C w A3 (xs.getD i.toNat zOp).d.length (xs.getD i.toNat zOp).d∧(xs.getD i.toNat zOp).pl.length≤c4∧kF.C w A4 (xs.getD i.toNat zOp).pl.length (xs.getD i.toNat zOp).pl:=by
 obtain ⟨ad,c,e,_,hK,hc0⟩:=Kd.C_get h zOp i h0 h1;have hc:∀ j u,c[j]?=some u→w.cell? (ad.add (i.toNat*5+j))=some u:=hc0;obtain ⟨A3,c3,A4,c4,rfl,l3,g3,l4,g4⟩:=qyD hK;exact ⟨ad,A3,c3,A4,c4,e,hc 0 _ rfl,by rw [← qcB _ _ 1 (by omega)];exact hc 1 _ rfl,by rw [← qcB _ _ 2 (by omega)];exact hc 2 _ rfl,by rw [← qcB _ _ 3 (by omega)];exact hc 3 _ rfl,by rw [← qcB _ _ 4 (by omega)];exact hc 4 _ rfl,l3,g3,l4,g4⟩
def qfI (a:AC) (o:SOp):AC:=if o.k=1 then (qcT a o.b o.p o.d).2 else if o.k=2 then (qdX a o.b).2 else if o.k=3 then (qfO a o.b).2 else if o.k=4 then { a with off:=false } else if o.k=5 then (qqY a o.pl).2 else a
theorem vaQ (a:AC) (n p:Int) (l:List Int):(qcT a n p l).2.pl=a.pl:=by
 unfold qcT
 repeat' split
 all_goals rfl
theorem qyO (a:AC) (n:Int):(qdX a n).2.pl=a.pl:=by
 unfold qdX
 repeat' split
 all_goals rfl
theorem vaZ (a:AC) (n:Int):(qfO a n).2.pl=a.pl:=by
 unfold qfO
 repeat' split
 all_goals rfl
theorem vaA {a:AC} (h:qcJ a.pl=true) (o:SOp):qcJ (qfI a o).pl=true:=by
 unfold qfI
 split
 ·rw [vaQ];exact h
 split
 ·rw [qyO];exact h
 split
 ·rw [vaZ];exact h
 split
 ·exact h
 split
 ·unfold qqY
  split
  ·assumption
  ·exact h
 ·exact h
def qxB (w0 W:World) (gc gd:Nat) (a a':AC):Nat→World→Prop
 | 0,w'=>qdG w0 w' gc a∧qbT w0 w' gd a∧KK W w'
 | 1,w'=>qdG w0 w' gc a'∧qbT w0 w' gd a∧KK W w'
 | _,w'=>qdG w0 w' gc a'∧qbT w0 w' gd a'∧KK W w'
theorem qxB.kk {a a':AC} {k:Nat} {w':World} (h:qxB w0 W gc gd a a' k w'):KK W w':=by
 match k,h with
 | 0,h=>exact h.2.2
 | 1,h=>exact h.2.2
 | _+2,h=>exact h.2.2
end
section
variable {w0 W:World} {gc:Nat} {a:AC}
def qfP (B P Z R:Int):Int:=if qcG B P Z R=true then wrap64 (wrap64 (B - R) - 2) else 0
theorem qqE (B P Z R:Int) (W:World):Calls Tryz.prog 13 #[gV B P Z R] W fun e w'=>e=.returned (.int .i64 (qfP B P Z R))∧Below W.heap.size W w':=by
 have hu28:=Tryz.underlying23
 cases hg:qcG B P Z R with
 | false =>
  have HRG:=aM (fun W=>qhQ B P Z R W);rw [hg] at HRG;have HE:=aM (show qfP B P Z R=0 by unfold qfP;rw [hg];rfl);clear hg;go_enter Tryz.func13,Tryz.ntmps13
  go_upto_region 1 with (fail)
  generalize hW:W.alloc (.cells #[.int .i64 B,.int .i64 P,.int .i64 Z,.int .i64 R] 23)=W1;have hb:Below W.heap.size W W1:=by rw [← hW];exact qaA (Below.refl _ _) _
  have hg:W1.heap[W.heap.size]?=some (.cells #[.int .i64 B,.int .i64 P,.int .i64 Z,.int .i64 R] 23 (0,0)):=by rw [← hW];exact qaV _ _ _
  have HB:=aM hb;have a0:=jC hg 0;have a1:=jC hg 1;have a2:=jC hg 2;have a3:=jC hg 3;clear hW hb hg
  go_wp2_with (first
   | (go_at_call 50;(with_reducible refine (HRG.out _).mono ?_);rintro e w2 ⟨rfl,hb2⟩;have HB2:=aM hb2;clear hb2))
  go_ret;rw [HE.out];exact ⟨rfl,qaF HB.out HB2.out⟩
 | true =>
  have HRG:=aM (fun W=>qhQ B P Z R W);rw [hg] at HRG;have HE:=aM (show qfP B P Z R=wrap64 (wrap64 (B - R) - 2) by unfold qfP;rw [hg];rfl);clear hg;go_enter Tryz.func13,Tryz.ntmps13
  go_upto_region 1 with (fail)
  generalize hW:W.alloc (.cells #[.int .i64 B,.int .i64 P,.int .i64 Z,.int .i64 R] 23)=W1;have hb:Below W.heap.size W W1:=by rw [← hW];exact qaA (Below.refl _ _) _
  have hg:W1.heap[W.heap.size]?=some (.cells #[.int .i64 B,.int .i64 P,.int .i64 Z,.int .i64 R] 23 (0,0)):=by rw [← hW];exact qaV _ _ _
  have HB:=aM hb;have HG:=aM hg;have a0:=jC hg 0;have a1:=jC hg 1;have a2:=jC hg 2;have a3:=jC hg 3;clear hW hb hg
  go_wp2_with (first
   | (go_at_call 50;(with_reducible refine (HRG.out _).mono ?_);rintro e w2 ⟨rfl,hb2⟩;have HB2:=aM hb2;have b0:=jC (qaE HG.out hb2) 0;have b3:=jC (qaE HG.out hb2) 3;clear hb2))
  go_ret;rw [HE.out];exact ⟨rfl,qaF HB.out HB2.out⟩
def qdI (a:AC) (b n:Int):List Int × Bool:=if qdY a b≤n then ([],false) else ((qbV a b n).1,(qbV a b n).2==0)
abbrev lkC (gc:Nat) (g:Geo):Array Value:=#[cp gc,.int .i64 g.B,.int .i64 g.P,.int .i64 g.Z,.int .i64 g.R]
abbrev kp (gk:Nat):Value:=.pointer (some ⟨gk,0,none⟩)
theorem qvL (h:qdG w0 W gc a) (gk:Nat) (hk:W.heap[gk]?=some (.cells (lkC gc a.g) 113 (0,0))) (b n:Int) :
  Calls Tryz.prog 122 #[kp gk,.int .i64 b,.int .i64 n] W fun e w'=>∃ v:Value,e=.returned (.tuple #[v,.bool (qdI a b n).2])∧Kd.R kB 5 w' W.heap.size (fun _=>True) v (qdI a b n).1∧Below W.heap.size W w':=by
 have H:=aM h;have HK:=aM hk;have c0:=jC hk 0;have HN:=aM (h.next b);clear h hk
 by_cases hn:qdY a b≤n
 ·have d0:decide (qdY a b≤n)=true:=decide_eq_true hn;rw [show qdI a b n=([],false) from if_pos hn];clear hn;go_enter Tryz.func122,Tryz.ntmps122
  go_wp2_with (first
   | (go_at_call 81;(with_reducible refine HN.out.mono ?_);rintro e w1 ⟨rfl,hb1⟩;have HB1:=aM hb1;clear hb1))
  go_ret2;exact ⟨_,rfl,Kd.R_nil _ _ _ _ _,HB1.out⟩
 ·have d0:decide (qdY a b≤n)=false:=decide_eq_false hn;rw [show qdI a b n=((qbV a b n).1,(qbV a b n).2==0) from if_neg hn];clear hn;have HR:=aM (fun (w1:World) (hb:Below W.heap.size W w1)=>(H.out.grow hb).read b n);generalize qbV a b n=r at HR ⊢;go_enter Tryz.func122,Tryz.ntmps122
  go_wp2_with (first
   | (go_at_call 81;(with_reducible refine HN.out.mono ?_);rintro e w1 ⟨rfl,hb1⟩;have HB1:=aM hb1;have c1:=jC (qaE HK.out hb1) 0;clear hb1)
   | (go_at_call 77;(with_reducible refine (HR.out _ HB1.out).mono ?_);rintro e w2 ⟨v,rfl,ho,hb2⟩;have HO:=aM (Kd.R_lower ho (qaG HB1.out));have HB2:=aM (qaF HB1.out hb2);clear ho hb2))
  go_ret2;exact ⟨v,rfl,HO.out,HB2.out⟩
def qhE (a:AC) (b:Int):Nat→Nat→Nat × Bool
 | 0,n=>(n,false)
 | k+1,n=>if (qdI a b ((n:Int)+2)).2=true then qhE a b k (n+1) else (n,(qbV a b ((n:Int)+2)).2==5)
theorem qzW (h:qdG w0 W gc a) (gk:Nat) (hk:W.heap[gk]?=some (.cells (lkC gc a.g) 113 (0,0))) (b:Int) :
  Calls Tryz.prog 124 #[kp gk,.int .i64 b] W fun e w'=>e=.returned (.tuple #[.int .i64 (qhE a b (a.g.P - 2) 0).1,.bool (qhE a b (a.g.P - 2) 0).2])∧Below W.heap.size W w':=by
 have hgok:=h.gok;have H:=aM h;have HK:=aM hk;have HPG:=aM (fun (w1:World) (hb:Below W.heap.size W w1) (n:Int)=>qvL (H.out.grow hb) gk (qaE HK.out hb) b n);have HRD:=aM (fun (w1:World) (hb:Below W.heap.size W w1) (n:Int)=>(H.out.grow hb).read b n);obtain ⟨_,⟨hP1,hP2⟩,_⟩:=hgok;have hwP:wrap64 ((a.g.P:Int) - 2)=((a.g.P - 2:Nat):Int):=by unfold wrap64;omega
 have HW:=aM hwP
 obtain ⟨P2,hP⟩:∃ P2,a.g.P - 2=P2:=⟨_,rfl⟩
 have hPP:P2≤62:=by omega
 rw [hP] at HW ⊢;have c2:∀ w1,Below W.heap.size W w1→w1.cell? ⟨gk,2,none⟩=some (.int .i64 a.g.P):=fun w1 hb=>jC (qaE HK.out hb) 2
 have HC2:=aM c2;have c0:∀ w1,Below W.heap.size W w1→w1.cell? ⟨gk,0,none⟩=some (cp gc):=fun w1 hb=>jC (qaE HK.out hb) 0
 have HC0:=aM c0;clear h hk hwP c2 c0;go_enter Tryz.func124,Tryz.ntmps124
 go_upto_region 2 with (fail)
 go_loopw [6] (fun v6 wr=>∃ i:Nat,i≤P2∧v6=.int .i64 i∧qaN (qhE a b P2 0=qhE a b (P2 - i) i)∧qaN (Below W.heap.size W wr)) (fun i _=>P2 - (intOf i).toNat);case atStart=>exact ⟨0,Nat.zero_le _,rfl,⟨rfl⟩,⟨Below.refl _ _⟩⟩
 case round =>
  obtain ⟨i,hi,rfl,HM,HBr⟩:=hrel;have z2:=HC2.out _ HBr.out;have z0:=HC0.out _ HBr.out;have hwp:=HW.out
  by_cases hlt:i < P2
  ·have d0:decide ((i:Int) < (P2:Int))=true:=decide_eq_true (by omega);have hwi:wrap64 ((i:Int)+2)=(i:Int)+2:=by unfold wrap64;omega
   have HM2:=aM (show qhE a b P2 0=if (qdI a b ((i:Int)+2)).2=true then qhE a b (P2 - (i+1)) (i+1) else (i,(qbV a b ((i:Int)+2)).2==5) by
    rw [HM.out,show P2 - i=(P2 - (i+1))+1 by omega];rfl)
   have HP:=aM (HPG.out _ HBr.out ((i:Int)+2));have HR:=aM (fun w1 hb=>HRD.out w1 hb ((i:Int)+2))
   cases hp:(qdI a b ((i:Int)+2)).2 with
   | true =>
    have HM3:=aM (HM2.out.trans (if_pos hp));rw [hp] at HP;clear hp
    go_wp2_with (first
     | (go_at_call 122;(with_reducible refine HP.out.mono ?_);rintro e w1 ⟨v,rfl,-,hb1⟩;have HB1:=aM (qaF HBr.out hb1);clear hb1))
    go_roundw;case rel=>exact ⟨i+1,by omega,by push_cast;rfl,HM3,HB1⟩
    case measure=>simp [intOf];omega
   | false =>
    have HM3:=aM (HM2.out.trans (if_neg (by rw [hp];decide)));rw [hp] at HP;clear hp;generalize qbV a b ((i:Int)+2)=r at HR HM3
    go_wp2_with (first
     | (go_at_call 122;(with_reducible refine HP.out.mono ?_);rintro e w1 ⟨v,rfl,-,hb1⟩;have HB1:=aM (qaF HBr.out hb1);have y0:=HC0.out _ HB1.out;clear hb1)
     | (go_at_call 77;(with_reducible refine (HR.out _ HB1.out).mono ?_);rintro e w2 ⟨v2,rfl,-,hb2⟩;have HB2:=aM (qaF HB1.out hb2);clear hb2))
    go_ret2;rw [HM3.out];exact ⟨rfl,HB2.out⟩
  ·obtain rfl:i=P2:=by omega
   have d0:decide ((i:Int) < (i:Int))=false:=decide_eq_false (by omega);have hm:=HM.out;rw [Nat.sub_self] at hm;have HM3:=aM hm;clear hm;go_wp2;go_ret2;rw [HM3.out];exact ⟨rfl,HBr.out⟩
end
end Go.Proofs.YtdlimghdimkadaaGreatDoor.PAll
namespace Go.Proofs.YtdlimghdimkadaaGreatDoorW.PrintWords
open Go.RowKit
section
variable {P:Program} {d:Nat} {xs ys:Array Value} {f:Field} {fs:List Field} {a b:Value} {r s:Bool} {w:World}
theorem qsA (hn:(f.name == "_")=false) (ha:(part f.type xs f.offset).run P w=.ok a w) (hb:(part f.type ys f.offset).run P w=.ok b w) (he:(Op.equalIn d f.type a b).run P w=.ok r w):(Op.eqFields d xs ys [f]).run P w=.ok r w:=by
 have hn':f.name ≠ "_":=by simpa using hn
 simp only [Op.eqFields,if_pos hn',Sem.run_bind,ha,hb,he,Result.andThen_ok]
 cases r <;> simp
theorem qfG (hn:(f.name == "_")=false) (ha:(part f.type xs f.offset).run P w=.ok a w) (hb:(part f.type ys f.offset).run P w=.ok b w) (he:(Op.equalIn d f.type a b).run P w=.ok r w) (hr:(Op.eqFields d xs ys fs).run P w=.ok s w):(Op.eqFields d xs ys (f :: fs)).run P w=.ok (r && s) w:=by
 have hn':f.name ≠ "_":=by simpa using hn
 rw [Op.eqFields];simp only [if_pos hn',Sem.run_bind,ha,hb,he,Result.andThen_ok]
 cases r
 ·simp
 ·simpa using hr
theorem qzN {t:TypeId} {fs:Array Field} (hu:P.underlying t=some (.struct fs)) (hp:P.stoodInHeld t=false) (h:(Op.eqFields d xs ys fs.toList).run P w=.ok r w):(Op.equalIn (d+1) t (.agg xs) (.agg ys)).run P w=.ok r w:=by
 have hf:P.fieldsOf t=fs:=by simp [Program.fieldsOf,hu]
 rw [run_equalIn_struct (P:=P) w d t xs ys (by rw [hf];exact hu) hp,hf];exact h
end
end Go.Proofs.YtdlimghdimkadaaGreatDoorW.PrintWords
namespace Go.Proofs.YtdlimghdimkadaaGreatDoor.PAll
open Go Go.RowKit YtdlimghdimkadaaGreatDoorW.PrintWords YtdlimghdimkadaaGreatDoorW.PrintLast YtdlimghdimkadaaGreatDoorW.PrintMore
attribute [local go_sem] qdS qdQ qeJ qeI qcV qcU qdR qdP
section
attribute [local go_sem] qdS qdQ qeJ qeI qcV qcU qdR qdP   
theorem vdV (d:Nat) (w:World) (x0 y0:Int) (x1 y1:Int) (x2 y2:Int) (x3 y3:Int) (x4 y4:Int) (x5 y5:Bool) :
  (Op.equalIn (d+2) 68 (.agg #[.int .i64 x0,.int .i64 x1,.int .i64 x2,.int .i64 x3,.int .u64 x4,.bool x5]) (.agg #[.int .i64 y0,.int .i64 y1,.int .i64 y2,.int .i64 y3,.int .u64 y4,.bool y5])).run Tryz.prog w=.ok (x0==y0 && (x1==y1 && (x2==y2 && (x3==y3 && (x4==y4 && (x5==y5)))))) w:=by
 refine qzN Tryz.underlying68 (by kernel_rfl) ?_;refine qfG (by rfl) (by go_simp;rfl) (by go_simp;rfl) (by go_simp) ?_;refine qfG (by rfl) (by go_simp;rfl) (by go_simp;rfl) (by go_simp) ?_;refine qfG (by rfl) (by go_simp;rfl) (by go_simp;rfl) (by go_simp) ?_;refine qfG (by rfl) (by go_simp;rfl) (by go_simp;rfl) (by go_simp) ?_;refine qfG (by rfl) (by go_simp;rfl) (by go_simp;rfl) (by go_simp) ?_;exact qsA (by rfl) (by go_simp;rfl) (by go_simp;rfl) (by go_simp)
end
section
attribute [local go_sem] qdS qdQ qeJ qeI qcV qcU qdR qdP   
def bits_Get.l0:Nat→List Int→Int→Int→Int→Option (Int)
 | 0,_,_,_,_=>none
 | k+1,x0,x3,x7,x8=>if x8 < x7 then (if 0≤x8 then (if x8 < (x0.length:Int) then (if 0≤(wrap64 (8*x8)) then (bits_Get.l0 k x0 (Go.bits .or .u64 x3 (shl .u64 (IntKind.u64.wrap (rd x0 x8)) (wrap64 (8*x8)))) x7 (wrap64 (x8+1))) else (none)) else (none)) else (none)) else (some x3)
def bits_Get.f (k:Nat) (l0:List Int):Option (Int):=bits_Get.l0 k l0 0 (mn (l0.length:Int) 8) 0
theorem bits_Get.calls (k:Nat) (A0:Option Addr) (c0:Nat) (l0:List Int) (r:Int) (w:World) (hr0:Kd.C (Kd.int .u8) w A0 l0.length l0) (hc0:l0.length≤c0) (h:bits_Get.f k l0=some r) :
  Calls Tryz.prog 150 #[.slice A0 l0.length c0] w fun e w'=>e=.returned (.int .u64 r)∧Below w.heap.size w w':=by
 have HR0:=aM hr0;have HC0:=aM hc0;clear hr0 hc0;have HB:=aM (Below.refl w.heap.size w);have H:(bits_Get.l0 k l0 0 (mn (l0.length:Int) 8) 0)=some r:=h;clear h
 obtain ⟨ji2,hji2⟩:∃ j_:Int,(mn (l0.length:Int) 8)=j_:=⟨_,rfl⟩
 replace H:(bits_Get.l0 k l0 0 ji2 0)=some r:=by first|(rw [hji2] at H;exact H)|(simp only [hji2] at H ⊢;exact H)
 (try (have hji2h:ji2≤8:=by (rw [← hji2];unfold mn;(repeat' split) <;> omega)))
 (try (have hji2g:ji2≤64:=by omega))
 (try (have hji2l:0≤ji2:=by (rw [← hji2];unfold mn;(repeat' split) <;> omega)))
 (try (have hji2m:0≤ji2:=by omega))
 have hji2_:(if 8 < (l0.length:Int) then 8 else (l0.length:Int))=ji2:=hji2;have H':=aM H;clear H;go_enter Tryz.func150,Tryz.ntmps150;go_wp2;go_loopg [3,8] k (fun kq v3 v8 w'=>∃ (x3_1:Int) (x8_1:Int),v3=.int .u64 x3_1∧v8=.int .i64 x8_1∧qaN (bits_Get.l0 kq l0 x3_1 ji2 x8_1=some r)∧qaN (kq≤k)∧qaN (Below w.heap.size w w'));case atStart=>exact ⟨(0),(0),(by first|rfl|(simp;done)|(simp [*];done)),(by first|rfl|(simp;done)|(simp [*];done)),H',⟨Nat.le_refl _⟩,⟨by repeat (first|(with_reducible first|exact HB.out|apply qaA|apply qaB|apply qaD)|exact HB.out)⟩⟩
 case round =>
  clear H';try clear c1
  try clear p2
  obtain ⟨x3_1,x8_1,rfl,rfl,HA,HK1,HB⟩:=hrel
  cases gk with
  | zero=>exact absurd HA.out (by simp [bits_Get.l0])
  | succ k1 =>
   have H:=HA.out;clear HA;simp only [bits_Get.l0] at H
   by_cases c3:x8_1 < ji2
   ·rw [if_pos c3] at H;have c3b0:decide (x8_1 < ji2)=true:=decide_eq_true c3;clear c3
    by_cases c4:0≤x8_1
    ·rw [if_pos c4] at H;have c4b0:decide (0≤x8_1)=true:=decide_eq_true c4;clear c4
     by_cases c5:x8_1 < (l0.length:Int)
     ·rw [if_pos c5] at H;have c5b0:decide (x8_1 < (l0.length:Int))=true:=decide_eq_true c5;clear c5
      obtain ⟨ji6,hji6⟩:∃ j_:Int,(wrap64 (8*x8_1))=j_:=⟨_,rfl⟩
      replace H:(if 0≤(ji6) then (bits_Get.l0 k1 l0 (Go.bits .or .u64 x3_1 (shl .u64 (IntKind.u64.wrap (rd l0 x8_1)) (ji6))) ji2 (wrap64 (x8_1+1))) else (none))=some r:=by first|(rw [hji6] at H;exact H)|(simp only [hji6] at H ⊢;exact H)
      have hji6w:(IntKind.i64.wrap (8*x8_1))=ji6:=(qbJ _).trans hji6
      by_cases c7:0≤(ji6)
      ·rw [if_pos c7] at H;have c7b0:=eq_true c7;have c7b1:decide (0≤(ji6))=true:=decide_eq_true c7;clear c7
       obtain ⟨ji8,hji8⟩:∃ j_:Int,(shl .u64 (IntKind.u64.wrap (rd l0 x8_1)) (ji6))=j_:=⟨_,rfl⟩
       replace H:(bits_Get.l0 k1 l0 (Go.bits .or .u64 x3_1 (ji8)) ji2 (wrap64 (x8_1+1)))=some r:=by first|(rw [hji8] at H;exact H)|(simp only [hji8] at H ⊢;exact H)
       have hji8_:(IntKind.u64.wrap ((IntKind.u64.wrap (rd l0 x8_1))*2 ^ min (ji6).toNat 64))=ji8:=hji8;have hji8z:(ji6)≤64→(IntKind.u64.wrap ((IntKind.u64.wrap (rd l0 x8_1))*2 ^ (ji6).toNat))=ji8:=qnP hji8;have H':=aM H;clear H;have p118:0≤(x8_1:Int):=of_decide_eq_true (by first|(with_reducible assumption)|assumption);have q118:x8_1 < (l0.length:Int):=of_decide_eq_true (by first|(with_reducible assumption)|assumption);obtain ⟨ad118,e118,hx118_0⟩:=Kd.at_int HR0.out x8_1 p118 q118
       cases e118
       replace hx118_0:=(HB.out.cell (World.block_lt_of_cell? w _ hx118_0)).trans hx118_0;replace p118:=eq_true p118;replace q118:=eq_true q118;go_wp2;go_roundg k1;case measure=>have:=HK1.out;omega
       case rel=>exact ⟨(Go.bits .or .u64 x3_1 (ji8)),(wrap64 (x8_1+1)),(by first|rfl|(simp;done)|(simp only [← hji8] <;> (first|rfl|simp))|(simp [*];done)),(by first|rfl|(simp;done)|(simp [*];done)),H',⟨by have:=HK1.out;omega⟩,⟨by repeat (first|(with_reducible first|exact HB.out|apply qaA|apply qaB|apply qaD)|exact HB.out)⟩⟩
      ·rw [if_neg c7] at H;exact absurd H (by simp)
     ·rw [if_neg c5] at H;exact absurd H (by simp)
    ·rw [if_neg c4] at H;exact absurd H (by simp)
   ·rw [if_neg c3] at H;have c3b0:decide (x8_1 < ji2)=false:=decide_eq_false c3;clear c3;obtain rfl:=Option.some.inj H;go_wp2;go_ret;exact ⟨by first|rfl|(simp [errW_none,errW_some] <;> rfl)|(simp only [← hji2];first|rfl|(simp [errW_none,errW_some] <;> rfl))|(simp [*,errW_none,errW_some] <;> rfl),by repeat (first|(with_reducible first|exact HB.out|apply qaA|apply qaB|apply qaD)|exact HB.out)⟩
mutual
def bits_Sum.l0:Nat→Int→List Int→Int→Int→Option (Int)
 | 0,_,_,_,_=>none
 | k+1,x3,x6,x7,x8=>if x8 < x7 then (if 0≤x8 then (if x8 < (x6.length:Int) then (bits_Sum.l1 k (Go.bits .xor .u32 x3 ((rd x6 x8) % 4294967296)) x6 x7 x8 0) else (none)) else (none)) else (some (Go.bits .xor .u32 4294967295 x3))
def bits_Sum.l1:Nat→Int→List Int→Int→Int→Int→Option (Int)
 | 0,_,_,_,_,_=>none
 | k+1,x3,x6,x7,x8,x16=>if x16 < 8 then (if (Go.bits .and .u32 x3 1)=1 then (bits_Sum.l1 k (Go.bits .xor .u32 (x3 / 2) 3988292384) x6 x7 x8 (wrap64 (x16+1))) else (bits_Sum.l1 k (x3 / 2) x6 x7 x8 (wrap64 (x16+1)))) else (bits_Sum.l0 k x3 x6 x7 (wrap64 (x8+1)))
end
def bits_Sum.f (k:Nat) (l0:List Int):Option (Int):=bits_Sum.l0 k 4294967295 l0 (l0.length:Int) 0
theorem bits_Sum.calls (k:Nat) (A0:Option Addr) (c0:Nat) (l0:List Int) (r:Int) (w:World) (hr0:Kd.C (Kd.int .u8) w A0 l0.length l0) (hc0:l0.length≤c0) (h:bits_Sum.f k l0=some r) :
  Calls Tryz.prog 165 #[.slice A0 l0.length c0] w fun e w'=>e=.returned (.int .u32 r)∧qaY w w':=by
 have HR0:=aM hr0;have HC0:=aM hc0;clear hr0 hc0;have H:(bits_Sum.l0 k 4294967295 l0 (l0.length:Int) 0)=some r:=h;clear h;have H':=aM H;clear H;go_enter Tryz.func165,Tryz.ntmps165;go_wp2;go_loopg [3,8] k (fun kq v3 v8 w'=>∃ (x3_1:Int) (x8_1:Int),v3=.int .u32 x3_1∧v8=.int .i64 x8_1∧qaN (bits_Sum.l0 kq x3_1 l0 (l0.length:Int) x8_1=some r)∧qaN (kq≤k)∧qaY w w');case atStart=>exact ⟨(4294967295),(0),(by first|rfl|(simp;done)|(simp [*];done)),(by first|rfl|(simp;done)|(simp [*];done)),H',⟨Nat.le_refl _⟩,by repeat (first|exact qaY.refl _|apply qaY.step)⟩
 case round =>
  clear H';try clear c1
  obtain ⟨x3_1,x8_1,rfl,rfl,HA,HK1,⟨m1,rfl⟩⟩:=hrel
  cases gk with
  | zero=>exact absurd HA.out (by simp [bits_Sum.l0])
  | succ k1 =>
   have H:=HA.out;clear HA;simp only [bits_Sum.l0] at H
   by_cases c2:x8_1 < (l0.length:Int)
   ·rw [if_pos c2] at H;have c2b0:decide (x8_1 < (l0.length:Int))=true:=decide_eq_true c2;clear c2
    by_cases c3:0≤x8_1
    ·rw [if_pos c3] at H;have c3b0:decide (0≤x8_1)=true:=decide_eq_true c3;clear c3
     by_cases c4:x8_1 < (l0.length:Int)
     ·rw [if_pos c4] at H;have c4b0:decide (x8_1 < (l0.length:Int))=true:=decide_eq_true c4;clear c4;have H':=aM H;clear H;have p119:0≤(x8_1:Int):=of_decide_eq_true (by first|(with_reducible assumption)|assumption);have q119:x8_1 < (l0.length:Int):=of_decide_eq_true (by first|(with_reducible assumption)|assumption);obtain ⟨ad119,e119,hx119_0⟩:=Kd.at_int HR0.out x8_1 p119 q119
      cases e119
      replace p119:=eq_true p119;replace q119:=eq_true q119;go_wp2;go_loopg [3,16] k1 (fun kq v3 v16 w'=>∃ (x3_2:Int) (x16_2:Int),v3=.int .u32 x3_2∧v16=.int .i64 x16_2∧qaN (bits_Sum.l1 kq x3_2 l0 (l0.length:Int) x8_1 x16_2=some r)∧qaN (kq≤k1)∧qaY w w');case atStart=>exact ⟨(Go.bits .xor .u32 x3_1 ((rd l0 x8_1) % 4294967296)),(0),(by first|rfl|(simp;done)|(simp [*];done)),(by first|rfl|(simp;done)|(simp [*];done)),H',⟨Nat.le_refl _⟩,by repeat (first|exact qaY.refl _|apply qaY.step)⟩
      case round =>
       clear H';try clear c1
       try clear p1
       try clear q1
       try clear hx1
       try clear c2
       try clear c2b0
       try clear p2
       try clear c3
       try clear c3b0
       try clear c4
       try clear c4b0
       try clear hx119_0
       try clear p119
       try clear q119
       obtain ⟨x3_2,x16_2,rfl,rfl,HA,HK2,⟨m2,rfl⟩⟩:=hrel
       cases gk with
       | zero=>exact absurd HA.out (by simp [bits_Sum.l1])
       | succ k2 =>
        have H:=HA.out;clear HA;simp only [bits_Sum.l1] at H
        by_cases c5:x16_2 < 8
        ·rw [if_pos c5] at H;have c5b0:decide (x16_2 < 8)=true:=decide_eq_true c5;clear c5
         by_cases c6:(Go.bits .and .u32 x3_2 1)=1
         ·rw [if_pos c6] at H;have c6b0:((Go.bits .and .u32 x3_2 1)==1)=true:=beq_iff_eq.mpr c6;have c6b1:((Go.bits .and .u32 x3_2 1) != 1)=false:=bne_eq_false_iff_eq.mpr c6;clear c6;have H':=aM H;clear H;go_wp2;go_roundg k2;case measure=>have:=HK1.out;have:=HK2.out;omega
          case rel=>exact ⟨(Go.bits .xor .u32 (x3_2 / 2) 3988292384),(wrap64 (x16_2+1)),(by first|rfl|(simp;done)|(simp [*];done)),(by first|rfl|(simp;done)|(simp [*];done)),H',⟨by have:=HK1.out;have:=HK2.out;omega⟩,by repeat (first|exact qaY.refl _|apply qaY.step)⟩
         ·rw [if_neg c6] at H;have c6b0:((Go.bits .and .u32 x3_2 1)==1)=false:=beq_eq_false_iff_ne.mpr c6;have c6b1:((Go.bits .and .u32 x3_2 1) != 1)=true:=bne_iff_ne.mpr c6;have H':=aM H;clear H;go_wp2;go_roundg k2;case measure=>have:=HK1.out;have:=HK2.out;omega
          case rel=>exact ⟨(x3_2 / 2),(wrap64 (x16_2+1)),(by first|rfl|(simp;done)|(simp [*];done)),(by first|rfl|(simp;done)|(simp [*];done)),H',⟨by have:=HK1.out;have:=HK2.out;omega⟩,by repeat (first|exact qaY.refl _|apply qaY.step)⟩
        ·rw [if_neg c5] at H;have c5b0:decide (x16_2 < 8)=false:=decide_eq_false c5;clear c5;have H':=aM H;clear H;go_wp2;go_roundg k2;case measure=>have:=HK1.out;have:=HK2.out;omega
         case rel=>exact ⟨(x3_2),(wrap64 (x8_1+1)),(by first|rfl|(simp;done)|(simp [*];done)),(by first|rfl|(simp;done)|(simp [*];done)),H',⟨by have:=HK1.out;have:=HK2.out;omega⟩,by repeat (first|exact qaY.refl _|apply qaY.step)⟩
     ·rw [if_neg c4] at H;exact absurd H (by simp)
    ·rw [if_neg c3] at H;exact absurd H (by simp)
   ·rw [if_neg c2] at H;have c2b0:decide (x8_1 < (l0.length:Int))=false:=decide_eq_false c2;clear c2;obtain rfl:=Option.some.inj H;go_wp2;go_ret;exact ⟨by first|rfl|(simp;done)|(simp [*];done),by repeat (first|exact qaY.refl _|apply qaY.step)⟩
def bits_Unframe.j0:Nat→List Int→Int→Bool→Option (List Int × Int × Bool)
 | 0,_,_,_=>none
 | k+1,x0,x5,x26=>if x26=true then (some (([]:List Int),0,false)) else ((some (([]:List Int):List Int)).bind fun y122=>(if 6≤(wrap64 (6+x5)) then (if (wrap64 (6+x5))≤(x0.length:Int) then (if y122.length+((x0.take ((wrap64 (6+x5)):Int).toNat).drop 6).length < 140737488355328 then ((some (y122 ++ ((x0.take ((wrap64 (6+x5)):Int).toNat).drop 6):List Int)).bind fun y126=>((bits_Sum.f k y126).bind fun t129=>(if 2≤6 then (if 6≤(x0.length:Int) then ((bits_Get.f k ((x0.take 6).drop 2)).bind fun t131=>(if (IntKind.u64.wrap (t129))=t131 then (some (y126,wrap64 (6+x5),true)) else (some (([]:List Int),0,false)))) else (none)) else (none)))) else (none)) else (none)) else (none)))
def bits_Unframe.f (k:Nat) (l0:List Int):Option (List Int × Int × Bool):=if (l0.length:Int) < 6 then (some (([]:List Int),0,false)) else (if 2≤(l0.length:Int) then ((bits_Get.f k (l0.take 2)).bind fun t121=>(if (wrap64 (t121))=0 then (bits_Unframe.j0 k l0 (wrap64 (t121)) true) else (if (wrap64 (t121)) > 1024 then (bits_Unframe.j0 k l0 (wrap64 (t121)) true) else (bits_Unframe.j0 k l0 (wrap64 (t121)) (decide ((wrap64 (t121)) > (wrap64 ((l0.length:Int) - 6)))))))) else (none))
theorem bits_Unframe.calls (k:Nat) (A0:Option Addr) (c0:Nat) (l0:List Int) (r1:List Int) (r2:Int) (r3:Bool) (w:World) (hr0:Kd.C (Kd.int .u8) w A0 l0.length l0) (hc0:l0.length≤c0) (h:bits_Unframe.f k l0=some (r1,r2,r3)) :
  Calls Tryz.prog 146 #[.slice A0 l0.length c0] w fun e w'=>∃ v0_:Value,e=.returned (.tuple #[v0_,.int .i64 r2,.bool r3])∧Kd.R (Kd.int .u8) 5 w' w.heap.size (fun _=>True) v0_ r1∧Below w.heap.size w w':=by
 have HR0:=aM hr0;have HC0:=aM hc0;clear hr0 hc0;have HB:=aM (Below.refl w.heap.size w);have H:(if (l0.length:Int) < 6 then (some (([]:List Int),0,false)) else (if 2≤(l0.length:Int) then ((bits_Get.f k (l0.take 2)).bind fun t121=>(if (wrap64 (t121))=0 then (bits_Unframe.j0 k l0 (wrap64 (t121)) true) else (if (wrap64 (t121)) > 1024 then (bits_Unframe.j0 k l0 (wrap64 (t121)) true) else (bits_Unframe.j0 k l0 (wrap64 (t121)) (decide ((wrap64 (t121)) > (wrap64 ((l0.length:Int) - 6)))))))) else (none)))=some (r1,r2,r3):=h;clear h
 by_cases c2:(l0.length:Int) < 6
 ·rw [if_pos c2] at H;have c2b0:decide ((l0.length:Int) < 6)=true:=decide_eq_true c2;have c2b1:decide (l0.length < 6)=true:=decide_eq_true (by omega);clear c2;simp only [Option.some.injEq,Prod.mk.injEq] at H;obtain ⟨rfl,rfl,rfl⟩:=H;go_enter Tryz.func146,Tryz.ntmps146;go_wp2;go_ret3;exact ⟨_,by first|rfl|(simp [errW_none,errW_some] <;> rfl)|(simp [*,errW_none,errW_some] <;> rfl),by first|exact Kd.R_nil _ _ _ _ _|exact Kd.N_nil _ _ _ _ _|exact Kd.V_nil _ _ _ _ _|exact Kd.Q_nil _ _ _ _ _|exact Kd.S_nil _ _ _ _ _,by repeat (first|(with_reducible first|exact HB.out|apply qaA|apply qaB|apply qaD)|exact HB.out)⟩
 ·rw [if_neg c2] at H;have c2b0:decide ((l0.length:Int) < 6)=false:=decide_eq_false c2;have c2b1:decide (l0.length < 6)=false:=decide_eq_false (by omega);clear c2
  by_cases c3:2≤(l0.length:Int)
  ·rw [if_pos c3] at H;have c3b0:=eq_true c3;have c3b1:decide (2≤(l0.length:Int))=true:=decide_eq_true c3;clear c3;replace H:=Option.bind_eq_some_iff.mp H;obtain ⟨t121,A40,H⟩:=H;replace H:(if (wrap64 (t121))=0 then (bits_Unframe.j0 k l0 (wrap64 (t121)) true) else (if (wrap64 (t121)) > 1024 then (bits_Unframe.j0 k l0 (wrap64 (t121)) true) else (bits_Unframe.j0 k l0 (wrap64 (t121)) (decide ((wrap64 (t121)) > (wrap64 ((l0.length:Int) - 6)))))))=some (r1,r2,r3):=H;have A4:=aM A40;clear A40;have HC5:=aM H;clear H;obtain ⟨i06,hi06,_,hsz6,_⟩:=info_parts qdK;obtain ⟨hcut6,hA6,hC6⟩:=qhS (P:=Tryz.prog) (Value.int .u8) 0 35 5 .i64 Tryz.underlying35 hi06 hsz6 A0 c0 l0 2 (by omega) (of_decide_eq_true (by first|(with_reducible assumption)|assumption)) HC0.out;have HR120:=aM (Kd.C_of_reads (h1:=fun _=>rfl) (hA6 _ (Kd.reads_of_C HR0.out)));have HC120:=aM hC6;clear hA6 hC6 hi06 hsz6;go_enter Tryz.func146,Tryz.ntmps146
   go_upto_region 4 with (first|((with_reducible refine qbP (f:=150) rfl ?_);refine qdL (some 12) rfl rfl Tryz.func150 (by kernel_rfl) rfl #[.slice A0 (l0.take 2).length c0] rfl (by (try simp only [List.map_toArray,List.map_cons,List.map_nil]);first|done|(rw [show (l0.take 2).length=2 from (by rw [List.length_take];have h_:(2:Int)≤(l0.length:Int):=of_decide_eq_true (by first|(with_reducible assumption)|assumption);omega)] <;> rfl)|rfl|(simp only [List.length_drop,List.length_take];rfl)) ?_;(with_reducible refine (bits_Get.calls k _ _ (l0.take 2) t121 _ ?side1 ?side2 A4.out).mono ?_);(case side1=>repeat (first|exact HR120.out|(with_reducible refine Kd.C_alloc ?_ _)|(with_reducible refine Kd.C_drewN ?_ _)|(with_reducible refine Kd.C_drew ?_)));(case side2=>exact HC120.out);rintro e w7 ⟨rfl,hb⟩;refine ⟨_,rfl,?_⟩;have n0_:=aM (qaF (by repeat (first|(with_reducible first|exact HB.out|apply qaA|apply qaB|apply qaD)|exact HB.out)) hb);clear HB;have HB:=n0_;clear n0_;(try clear hb);(try clear hb2);(try clear hk);(try clear hi)))
   (try simp only [Act.put,List.setIfInBounds_toArray,List.set_cons_zero,List.set_cons_succ])
   go_cut [26] (fun v26 wc=>∃ (kq:Nat) (x26_4:Bool),v26=.bool x26_4∧qaN (bits_Unframe.j0 kq l0 (wrap64 (t121)) x26_4=some (r1,r2,r3))∧qaN (kq≤k)∧qaN (Below w.heap.size w wc))
   case first =>
    have H:=HC5.out;clear HC5
    by_cases c8:(wrap64 (t121))=0
    ·rw [if_pos c8] at H;have c8b0:((wrap64 (t121))==0)=true:=beq_iff_eq.mpr c8;have c8b1:((wrap64 (t121)) != 0)=false:=bne_eq_false_iff_eq.mpr c8;clear c8
     (first|rw [c8b0]|(simp only [qbJ];rw [c8b0])|skip)
     have H':=aM H;clear H;go_wp2;go_meet;case rel=>exact ⟨_,(true),(by first|rfl|(simp;done)|(simp [*];done)),H',⟨by first|omega|exact Nat.le_refl _⟩,⟨by repeat (first|(with_reducible first|exact HB.out|apply qaA|apply qaB|apply qaD)|exact HB.out)⟩⟩
    ·rw [if_neg c8] at H;have c8b0:((wrap64 (t121))==0)=false:=beq_eq_false_iff_ne.mpr c8;have c8b1:((wrap64 (t121)) != 0)=true:=bne_iff_ne.mpr c8
     (first|rw [c8b0]|(simp only [qbJ];rw [c8b0])|skip)
     by_cases c9:(wrap64 (t121)) > 1024
     ·rw [if_pos c9] at H;have c9b0:decide (1024 < (wrap64 (t121)))=true:=decide_eq_true c9;clear c9;have H':=aM H;clear H;go_wp2;go_meet;case rel=>exact ⟨_,(true),(by first|rfl|(simp;done)|(simp [*];done)),H',⟨by first|omega|exact Nat.le_refl _⟩,⟨by repeat (first|(with_reducible first|exact HB.out|apply qaA|apply qaB|apply qaD)|exact HB.out)⟩⟩
     ·rw [if_neg c9] at H;have c9b0:decide (1024 < (wrap64 (t121)))=false:=decide_eq_false c9;clear c9;have H':=aM H;clear H;go_wp2;go_meet;case rel=>exact ⟨_,(decide ((wrap64 (t121)) > (wrap64 ((l0.length:Int) - 6)))),(by first|rfl|(simp;done)|(simp [*];done)),H',⟨by first|omega|exact Nat.le_refl _⟩,⟨by repeat (first|(with_reducible first|exact HB.out|apply qaA|apply qaB|apply qaD)|exact HB.out)⟩⟩
   case rest =>
    clear HC5;try clear c1
    try clear c2
    try clear c2b0
    try clear c2b1
    try clear p2
    try clear c3
    try clear c3b0
    try clear c3b1
    try clear p6
    try clear c8
    try clear c8b0
    try clear c8b1
    try clear c9
    try clear c9b0
    obtain ⟨kq,x26_4,rfl,HA,HJ4,HB⟩:=hcut
    cases kq with
    | zero=>exact absurd HA.out (by simp [bits_Unframe.j0])
    | succ kj4 =>
     have H:=HA.out;clear HA;simp only [bits_Unframe.j0] at H
     by_cases c10:x26_4=true
     ·subst c10;have H1:(some (([]:List Int),0,false))=some (r1,r2,r3):=by rw [if_pos rfl] at H;exact H
      clear H;have H:=H1;clear H1;simp only [Option.some.injEq,Prod.mk.injEq] at H;obtain ⟨rfl,rfl,rfl⟩:=H;go_wp2;go_ret3;exact ⟨_,by first|rfl|(simp [errW_none,errW_some] <;> rfl)|(simp [*,errW_none,errW_some] <;> rfl),by first|exact Kd.R_nil _ _ _ _ _|exact Kd.N_nil _ _ _ _ _|exact Kd.V_nil _ _ _ _ _|exact Kd.Q_nil _ _ _ _ _|exact Kd.S_nil _ _ _ _ _,by repeat (first|(with_reducible first|exact HB.out|apply qaA|apply qaB|apply qaD)|exact HB.out)⟩
     ·replace c10:=Bool.eq_false_iff.mpr c10;subst c10;have H1:((some (([]:List Int):List Int)).bind fun y122=>(if 6≤(wrap64 (6+(wrap64 (t121)))) then (if (wrap64 (6+(wrap64 (t121))))≤(l0.length:Int) then (if y122.length+((l0.take ((wrap64 (6+(wrap64 (t121)))):Int).toNat).drop 6).length < 140737488355328 then ((some (y122 ++ ((l0.take ((wrap64 (6+(wrap64 (t121)))):Int).toNat).drop 6):List Int)).bind fun y126=>((bits_Sum.f kj4 y126).bind fun t129=>(if 2≤6 then (if 6≤(l0.length:Int) then ((bits_Get.f kj4 ((l0.take 6).drop 2)).bind fun t131=>(if (IntKind.u64.wrap (t129))=t131 then (some (y126,wrap64 (6+(wrap64 (t121))),true)) else (some (([]:List Int),0,false)))) else (none)) else (none)))) else (none)) else (none)) else (none)))=some (r1,r2,r3):=by rw [if_neg (show ¬ (false=true) by decide)] at H;exact H
      clear H;have H:=H1;clear H1
      obtain ⟨y122,hy122⟩:∃ y_:List Int,y_=(([]:List Int)):=⟨_,rfl⟩
      replace H:(if 6≤(wrap64 (6+(wrap64 (t121)))) then (if (wrap64 (6+(wrap64 (t121))))≤(l0.length:Int) then (if y122.length+((l0.take ((wrap64 (6+(wrap64 (t121)))):Int).toNat).drop 6).length < 140737488355328 then ((some (y122 ++ ((l0.take ((wrap64 (6+(wrap64 (t121)))):Int).toNat).drop 6):List Int)).bind fun y126=>((bits_Sum.f kj4 y126).bind fun t129=>(if 2≤6 then (if 6≤(l0.length:Int) then ((bits_Get.f kj4 ((l0.take 6).drop 2)).bind fun t131=>(if (IntKind.u64.wrap (t129))=t131 then (some (y126,wrap64 (6+(wrap64 (t121))),true)) else (some (([]:List Int),0,false)))) else (none)) else (none)))) else (none)) else (none)) else (none))=some (r1,r2,r3):=by first|(rw [hy122];with_reducible exact H)|(have H2_:=(Option.bind_some _ _).symm.trans H;rw [hy122];with_reducible exact H2_)|(have H2_:=(Option.bind_some _ _).symm.trans H;with_reducible exact H2_)|with_reducible exact H|(rw [hy122];exact H)|exact H
      have Ny122:=aM hy122;clear hy122
      by_cases c11:6≤(wrap64 (6+(wrap64 (t121))))
      ·rw [if_pos c11] at H;have c11b0:=eq_true c11;have c11b1:decide (6≤(wrap64 (6+(wrap64 (t121)))))=true:=decide_eq_true c11
       by_cases c12:(wrap64 (6+(wrap64 (t121))))≤(l0.length:Int)
       ·rw [if_pos c12] at H;have c12b0:=eq_true c12;have c12b1:decide ((wrap64 (6+(wrap64 (t121))))≤(l0.length:Int))=true:=decide_eq_true c12
        by_cases c13:y122.length+((l0.take ((wrap64 (6+(wrap64 (t121)))):Int).toNat).drop 6).length < 140737488355328
        ·rw [if_pos c13] at H;have LMc13:=aM c13;clear c13
         obtain ⟨y126,hy126⟩:∃ y_:List Int,y_=(y122 ++ ((l0.take ((wrap64 (6+(wrap64 (t121)))):Int).toNat).drop 6)):=⟨_,rfl⟩
         replace H:((bits_Sum.f kj4 y126).bind fun t129=>(if 2≤6 then (if 6≤(l0.length:Int) then ((bits_Get.f kj4 ((l0.take 6).drop 2)).bind fun t131=>(if (IntKind.u64.wrap (t129))=t131 then (some (y126,wrap64 (6+(wrap64 (t121))),true)) else (some (([]:List Int),0,false)))) else (none)) else (none)))=some (r1,r2,r3):=by first|(rw [hy126];with_reducible exact H)|(have H2_:=(Option.bind_some _ _).symm.trans H;rw [hy126];with_reducible exact H2_)|(have H2_:=(Option.bind_some _ _).symm.trans H;with_reducible exact H2_)|with_reducible exact H|(rw [hy126];exact H)|exact H
         have Ny126:=aM hy126;clear hy126;replace H:=Option.bind_eq_some_iff.mp H;obtain ⟨t129,A140,H⟩:=H;replace H:(if 2≤6 then (if 6≤(l0.length:Int) then ((bits_Get.f kj4 ((l0.take 6).drop 2)).bind fun t131=>(if (IntKind.u64.wrap (t129))=t131 then (some (y126,wrap64 (6+(wrap64 (t121))),true)) else (some (([]:List Int),0,false)))) else (none)) else (none))=some (r1,r2,r3):=H;have A14:=aM A140;clear A140
         by_cases c15:2≤6
         ·rw [if_pos c15] at H;have c15b0:=eq_true c15;have c15b1:decide (2≤6)=true:=decide_eq_true c15;clear c15
          by_cases c16:6≤(l0.length:Int)
          ·rw [if_pos c16] at H;have c16b0:=eq_true c16;have c16b1:decide (6≤(l0.length:Int))=true:=decide_eq_true c16;clear c16;replace H:=Option.bind_eq_some_iff.mp H;obtain ⟨t131,A170,H⟩:=H;replace H:(if (IntKind.u64.wrap (t129))=t131 then (some (y126,wrap64 (6+(wrap64 (t121))),true)) else (some (([]:List Int),0,false)))=some (r1,r2,r3):=H;have A17:=aM A170;clear A170
           by_cases c18:(IntKind.u64.wrap (t129))=t131
           ·rw [if_pos c18] at H;have c18b0:((IntKind.u64.wrap (t129))==t131)=true:=beq_iff_eq.mpr c18;have c18b1:((IntKind.u64.wrap (t129)) != t131)=false:=bne_eq_false_iff_eq.mpr c18;clear c18;simp only [Option.some.injEq,Prod.mk.injEq] at H;obtain ⟨rfl,rfl,rfl⟩:=H;try go_wp2_with (first|((with_reducible refine qbM (N:=27) rfl ?_);(try (refine qcY (by rfl) ?_;dsimp only));refine Kd.R_lit (Kd.int .u8) _ 5 ?hg (N:=27) ?hd (xs:=([]:List Int)) (inner:=[]) (ok:=fun _=>True) (okp:=fun _=>True) ?hr ?hp (fun _ hk=>hk) trivial (Below.refl _ _) (Nat.le_refl _) (by simp) ?_;(case hd=>rfl);(case hg=>rfl);(case hr=>first|(go_simp;done)|(go_simp;rfl));(case hp=>exact (qfK.none _ _));intro v123 w19 ho20 hb hg_ hnew_;clear hg_ hnew_;(first|rw [← Ny122.out] at ho20|(simp only [Int.reduceToNat] at ho20;rw [← Ny122.out] at ho20));have n0_:=aM (Kd.R_lower ho20 (qaG (by repeat (first|(with_reducible first|exact HB.out|apply qaA|apply qaB|apply qaD)|exact HB.out))));have n1_:=aM (qaF (by repeat (first|(with_reducible first|exact HB.out|apply qaA|apply qaB|apply qaD)|exact HB.out)) hb);clear HB;have HO124:=n0_;have HB:=n1_;clear n0_ n1_;clear hb ho20;obtain ⟨i021,hi021,_,hsz21,_⟩:=info_parts qdK;obtain ⟨A21,hcut21,hA21,hC21⟩:=qcH (P:=Tryz.prog) (Value.int .u8) 0 35 5 .i64 .i64 Tryz.underlying35 hi021 hsz21 A0 c0 l0 6 (wrap64 (6+(wrap64 (t121)))) (by omega) (by first|omega|exact of_decide_eq_true (by first|(with_reducible assumption)|assumption)) (of_decide_eq_true (by first|(with_reducible assumption)|assumption)) HC0.out;have HR125:=aM (Kd.C_of_reads (h1:=fun _=>rfl) (hA21 _ (Kd.reads_of_C HR0.out)));have HC125:=aM hC21;clear hA21 hC21 hi021 hsz21)|((with_reducible refine qbC (b:=.append) (xs:=#[.tmp 27,.tmp 31]) rfl ?_);(try (refine qcY (by rfl) ?_;dsimp only));at_builtin;refine Kd.R_append_rows (Kd.int .u8) (w0:=w) w.heap.size rfl (.tmp 27) (.tmp 31) 35 5 (.int .u8 0) 1 rfl Tryz.underlying35 qdK rfl (by decide) (by omega) v123 y122 ((l0.take ((wrap64 (6+(wrap64 (t121)))):Int).toNat).drop 6) _ _ _ (fun _=>True) (fun _=>False) rfl rfl ?aO ?aR (fun _ _ h=>h) (fun _ h=>h.elim) ?aF ?aB ?aS ?aL ?_;(case aR=>first|(refine qgP (show ((l0.take ((wrap64 (6+(wrap64 (t121)))):Int).toNat).drop 6).length=((wrap64 (6+(wrap64 (t121)))).toNat - 6) from (by rw [List.length_drop,List.length_take];have h_:((wrap64 (6+(wrap64 (t121)))):Int)≤(l0.length:Int):=of_decide_eq_true (by first|(with_reducible assumption)|assumption);omega)) ?_;repeat (first|exact (Kd.C_below HR125.out HB.out)|(with_reducible refine Kd.C_alloc ?_ _)|(with_reducible refine Kd.C_drewN ?_ _)|(with_reducible refine Kd.C_drew ?_));done)|(repeat (first|exact (Kd.C_below HR125.out HB.out)|(with_reducible refine Kd.C_alloc ?_ _)|(with_reducible refine Kd.C_drewN ?_ _)|(with_reducible refine Kd.C_drew ?_))));(case aB=>exact (by repeat (first|(with_reducible first|exact HB.out|apply qaA|apply qaB|apply qaD)|exact HB.out)));(case aF=>exact (fun _ _=>trivial));(case aO=>exact (by (with_reducible repeat (first|apply Kd.R_alloc|apply Kd.R_drewN|apply Kd.R_drew));exact HO124.out));(case aS=>exact (qaG (by repeat (first|(with_reducible first|exact HB.out|apply qaA|apply qaB|apply qaD)|exact HB.out))));(case aL=>have:=LMc13.out;have hlx_:=(show ((l0.take ((wrap64 (6+(wrap64 (t121)))):Int).toNat).drop 6).length=((wrap64 (6+(wrap64 (t121)))).toNat - 6) from (by rw [List.length_drop,List.length_take];have h_:((wrap64 (6+(wrap64 (t121)))):Int)≤(l0.length:Int):=of_decide_eq_true (by first|(with_reducible assumption)|assumption);omega));omega);intro v127 w22 ho hb hg hat;rw [← Ny126.out] at ho;have n0_:=aM (hb);have n1_:=aM (ho);clear HB;clear HO124;have HB:=n0_;have HO128:=n1_;clear n0_ n1_;clear ho hb hg hat))
            have n0_:=aM (Kd.R_drew HO128.out);have n1_:=aM (qaD HB.out);clear HO128;clear HB;have HO128:=n0_;have HB:=n1_;clear n0_ n1_;obtain ⟨i024,hi024,_,hsz24,_⟩:=info_parts qdK;obtain ⟨A24,hcut24,hA24,hC24⟩:=qcH (P:=Tryz.prog) (Value.int .u8) 0 35 5 .i64 .i64 Tryz.underlying35 hi024 hsz24 A0 c0 l0 2 6 (by omega) (by first|omega|exact of_decide_eq_true (by first|(with_reducible assumption)|assumption)) (of_decide_eq_true (by first|(with_reducible assumption)|assumption)) HC0.out;have HR130:=aM (Kd.C_of_reads (h1:=fun _=>rfl) (hA24 _ (Kd.reads_of_C HR0.out)));have HC130:=aM hC24;clear hA24 hC24 hi024 hsz24;obtain ⟨Ao25,co25,eo25⟩:=Kd.R_slice HO128.out
            (first|subst eo25|(injection eo25 with f1_ f2_ f3_;have f4_:=f1_.symm;have f5_:=f3_.symm;clear f1_ f2_ f3_;subst f4_;subst f5_))
            refine qhK (n:=7) (S:=fun w'=>True) (ds:=[]) #[false,false,false,false,false,false,false] (by kernel_rfl) rfl rfl trivial (fun hHeld=>?_);generalize w22.drew=w23 at HO128 HB HR130 hHeld ⊢;refine qcL (i:=0) (N:=some 33) (v:=?_) (a':=?_) #[true,false,false,false,false,false,false] rfl rfl (by kernel_rfl) (fun _ _ _ h=>h) (Or.inl ⟨by rfl,?_⟩) ?_ ?_;rotate_left
            ·intro w';go_simp
             with_reducible rfl
            rotate_left
            ·simp only [Act.put,List.setIfInBounds_toArray,List.set_cons_zero,List.set_cons_succ,qbJ];rfl
            refine qcL (i:=3) (N:=some 36) (v:=?_) (a':=?_) #[true,false,false,true,false,false,false] rfl rfl (by kernel_rfl) (fun _ _ _ h=>h) (Or.inl ⟨by rfl,?_⟩) ?_ ?_;rotate_left
            ·intro w';go_simp
             with_reducible rfl
            rotate_left
            ·simp only [Act.put,List.setIfInBounds_toArray,List.set_cons_zero,List.set_cons_succ,qbJ];rfl
            refine qcL (i:=4) (N:=some 37) (v:=?_) (a':=?_) #[true,false,false,true,true,false,false] rfl rfl (by kernel_rfl) (fun _ _ _ h=>h) (Or.inl ⟨by rfl,?_⟩) ?_ ?_;rotate_left
            ·intro w';go_simp
             with_reducible rfl
            rotate_left
            ·simp only [Act.put,List.setIfInBounds_toArray,List.set_cons_zero,List.set_cons_succ,qbJ];rfl
            refine qmY (i:=1) (N:=some 34) #[true,true,false,true,true,false,false] rfl rfl (by kernel_rfl) (by decide) (fun K hK=>?_);refine qgA Tryz.func165 (by kernel_rfl) rfl #[.slice Ao25 y126.length co25] (by rfl) rfl rfl (by (try simp only [List.map_toArray,List.map_cons,List.map_nil]);first|done|rfl|(simp only [List.length_drop,List.length_take];rfl)) ?_
            with_reducible refine (bits_Sum.calls kj4 _ _ y126 t129 _ ?side1 ?side2 A14.out).mono ?_
            (case side1=>repeat (first|exact (Kd.R_reads' HO128.out).2.2|(with_reducible refine Kd.C_alloc ?_ _)|(with_reducible refine Kd.C_drewN ?_ _)|(with_reducible refine Kd.C_drew ?_)))
            (case side2=>exact (Kd.R_reads' HO128.out).2.1)
            rintro e w' ⟨rfl,⟨nd,rfl⟩⟩;refine ⟨_,rfl,?_⟩;refine hK.out _ _ trivial (fun hHeld=>?_);clear hK K;refine qcP (a':=?_) ?_ ?_;rotate_left
            ·show Act.put _ (some 34) _=_;simp only [Act.put,List.setIfInBounds_toArray,List.set_cons_zero,List.set_cons_succ,qbJ];rfl
            refine qcL (i:=2) (N:=some 35) (v:=?_) (a':=?_) #[true,true,true,true,true,false,false] rfl rfl (by kernel_rfl) (fun _ _ _ h=>h) (Or.inl ⟨by rfl,?_⟩) ?_ ?_;rotate_left
            ·intro w';go_simp
             with_reducible rfl
            rotate_left
            ·simp only [Act.put,List.setIfInBounds_toArray,List.set_cons_zero,List.set_cons_succ,qbJ];rfl
            refine qmY (i:=5) (N:=some 38) #[true,true,true,true,true,true,false] rfl rfl (by kernel_rfl) (by decide) (fun K hK=>?_);refine qgA Tryz.func150 (by kernel_rfl) rfl #[.slice A24 ((l0.take 6).drop 2).length (c0 - 2)] (by rfl) rfl rfl (by (try simp only [List.map_toArray,List.map_cons,List.map_nil]);first|done|(rw [show ((l0.take 6).drop 2).length=(6 - 2) from (by rw [List.length_drop,List.length_take];have h_:(6:Int)≤(l0.length:Int):=of_decide_eq_true (by first|(with_reducible assumption)|assumption);omega)] <;> rfl)|rfl|(simp only [List.length_drop,List.length_take];rfl)) ?_
            with_reducible refine (bits_Get.calls kj4 _ _ ((l0.take 6).drop 2) t131 _ ?side1 ?side2 A17.out).mono ?_
            (case side1=>repeat (first|exact (Kd.C_below HR130.out (by repeat (first|(with_reducible first|exact HB.out|apply qaA|apply qaB|apply qaD)|exact HB.out)))|(with_reducible refine Kd.C_alloc ?_ _)|(with_reducible refine Kd.C_drewN ?_ _)|(with_reducible refine Kd.C_drew ?_)))
            (case side2=>exact HC130.out)
            rintro e w26 ⟨rfl,hb⟩;refine ⟨_,rfl,?_⟩;have n0_:=aM (Kd.R_below (by (with_reducible repeat (first|apply Kd.R_alloc|apply Kd.R_drewN|apply Kd.R_drew));exact HO128.out) hb);have n1_:=aM (qaF (by repeat (first|(with_reducible first|exact HB.out|apply qaA|apply qaB|apply qaD)|exact HB.out)) hb);clear HO128;clear HB;have HO128:=n0_;have HB:=n1_;clear n0_ n1_
            (try clear hb)
            (try clear hb2)
            (try clear hk)
            (try clear hi)
            refine hK.out _ _ trivial (fun hHeld=>?_);clear hK K;refine qcP (a':=?_) ?_ ?_;rotate_left
            ·show Act.put _ (some 38) _=_;simp only [Act.put,List.setIfInBounds_toArray,List.set_cons_zero,List.set_cons_succ,qbJ];rfl
            refine qcL (i:=6) (N:=some 39) (v:=?_) (a':=?_) #[true,true,true,true,true,true,true] rfl rfl (by kernel_rfl) (fun _ _ _ h=>h) (Or.inl ⟨by rfl,?_⟩) ?_ ?_;rotate_left
            ·intro w';go_simp
             with_reducible rfl
            rotate_left
            ·simp only [Act.put,List.setIfInBounds_toArray,List.set_cons_zero,List.set_cons_succ,qbJ];rfl
            refine qwI (by kernel_rfl) ?_;try go_wp2
            go_ret3;exact ⟨_,by first|rfl|(simp [errW_none,errW_some] <;> rfl)|(simp [*,errW_none,errW_some] <;> rfl),by (with_reducible repeat (first|apply Kd.R_alloc|apply Kd.R_drewN|apply Kd.R_drew));exact HO128.out,by repeat (first|(with_reducible first|exact HB.out|apply qaA|apply qaB|apply qaD)|exact HB.out)⟩
           ·rw [if_neg c18] at H;have c18b0:((IntKind.u64.wrap (t129))==t131)=false:=beq_eq_false_iff_ne.mpr c18;have c18b1:((IntKind.u64.wrap (t129)) != t131)=true:=bne_iff_ne.mpr c18;simp only [Option.some.injEq,Prod.mk.injEq] at H;obtain ⟨rfl,rfl,rfl⟩:=H;try go_wp2_with (first|((with_reducible refine qbM (N:=27) rfl ?_);(try (refine qcY (by rfl) ?_;dsimp only));refine Kd.R_lit (Kd.int .u8) _ 5 ?hg (N:=27) ?hd (xs:=([]:List Int)) (inner:=[]) (ok:=fun _=>True) (okp:=fun _=>True) ?hr ?hp (fun _ hk=>hk) trivial (Below.refl _ _) (Nat.le_refl _) (by simp) ?_;(case hd=>rfl);(case hg=>rfl);(case hr=>first|(go_simp;done)|(go_simp;rfl));(case hp=>exact (qfK.none _ _));intro v123 w27 ho28 hb hg_ hnew_;clear hg_ hnew_;(first|rw [← Ny122.out] at ho28|(simp only [Int.reduceToNat] at ho28;rw [← Ny122.out] at ho28));have n0_:=aM (Kd.R_lower ho28 (qaG (by repeat (first|(with_reducible first|exact HB.out|apply qaA|apply qaB|apply qaD)|exact HB.out))));have n1_:=aM (qaF (by repeat (first|(with_reducible first|exact HB.out|apply qaA|apply qaB|apply qaD)|exact HB.out)) hb);clear HB;have HO124:=n0_;have HB:=n1_;clear n0_ n1_;clear hb ho28;obtain ⟨i029,hi029,_,hsz29,_⟩:=info_parts qdK;obtain ⟨A29,hcut29,hA29,hC29⟩:=qcH (P:=Tryz.prog) (Value.int .u8) 0 35 5 .i64 .i64 Tryz.underlying35 hi029 hsz29 A0 c0 l0 6 (wrap64 (6+(wrap64 (t121)))) (by omega) (by first|omega|exact of_decide_eq_true (by first|(with_reducible assumption)|assumption)) (of_decide_eq_true (by first|(with_reducible assumption)|assumption)) HC0.out;have HR125:=aM (Kd.C_of_reads (h1:=fun _=>rfl) (hA29 _ (Kd.reads_of_C HR0.out)));have HC125:=aM hC29;clear hA29 hC29 hi029 hsz29)|((with_reducible refine qbC (b:=.append) (xs:=#[.tmp 27,.tmp 31]) rfl ?_);(try (refine qcY (by rfl) ?_;dsimp only));at_builtin;refine Kd.R_append_rows (Kd.int .u8) (w0:=w) w.heap.size rfl (.tmp 27) (.tmp 31) 35 5 (.int .u8 0) 1 rfl Tryz.underlying35 qdK rfl (by decide) (by omega) v123 y122 ((l0.take ((wrap64 (6+(wrap64 (t121)))):Int).toNat).drop 6) _ _ _ (fun _=>True) (fun _=>False) rfl rfl ?aO ?aR (fun _ _ h=>h) (fun _ h=>h.elim) ?aF ?aB ?aS ?aL ?_;(case aR=>first|(refine qgP (show ((l0.take ((wrap64 (6+(wrap64 (t121)))):Int).toNat).drop 6).length=((wrap64 (6+(wrap64 (t121)))).toNat - 6) from (by rw [List.length_drop,List.length_take];have h_:((wrap64 (6+(wrap64 (t121)))):Int)≤(l0.length:Int):=of_decide_eq_true (by first|(with_reducible assumption)|assumption);omega)) ?_;repeat (first|exact (Kd.C_below HR125.out HB.out)|(with_reducible refine Kd.C_alloc ?_ _)|(with_reducible refine Kd.C_drewN ?_ _)|(with_reducible refine Kd.C_drew ?_));done)|(repeat (first|exact (Kd.C_below HR125.out HB.out)|(with_reducible refine Kd.C_alloc ?_ _)|(with_reducible refine Kd.C_drewN ?_ _)|(with_reducible refine Kd.C_drew ?_))));(case aB=>exact (by repeat (first|(with_reducible first|exact HB.out|apply qaA|apply qaB|apply qaD)|exact HB.out)));(case aF=>exact (fun _ _=>trivial));(case aO=>exact (by (with_reducible repeat (first|apply Kd.R_alloc|apply Kd.R_drewN|apply Kd.R_drew));exact HO124.out));(case aS=>exact (qaG (by repeat (first|(with_reducible first|exact HB.out|apply qaA|apply qaB|apply qaD)|exact HB.out))));(case aL=>have:=LMc13.out;have hlx_:=(show ((l0.take ((wrap64 (6+(wrap64 (t121)))):Int).toNat).drop 6).length=((wrap64 (6+(wrap64 (t121)))).toNat - 6) from (by rw [List.length_drop,List.length_take];have h_:((wrap64 (6+(wrap64 (t121)))):Int)≤(l0.length:Int):=of_decide_eq_true (by first|(with_reducible assumption)|assumption);omega));omega);intro v127 w30 ho hb hg hat;rw [← Ny126.out] at ho;have n0_:=aM (hb);have n1_:=aM (ho);clear HB;clear HO124;have HB:=n0_;have HO128:=n1_;clear n0_ n1_;clear ho hb hg hat))
            have n0_:=aM (Kd.R_drew HO128.out);have n1_:=aM (qaD HB.out);clear HO128;clear HB;have HO128:=n0_;have HB:=n1_;clear n0_ n1_;obtain ⟨i032,hi032,_,hsz32,_⟩:=info_parts qdK;obtain ⟨A32,hcut32,hA32,hC32⟩:=qcH (P:=Tryz.prog) (Value.int .u8) 0 35 5 .i64 .i64 Tryz.underlying35 hi032 hsz32 A0 c0 l0 2 6 (by omega) (by first|omega|exact of_decide_eq_true (by first|(with_reducible assumption)|assumption)) (of_decide_eq_true (by first|(with_reducible assumption)|assumption)) HC0.out;have HR130:=aM (Kd.C_of_reads (h1:=fun _=>rfl) (hA32 _ (Kd.reads_of_C HR0.out)));have HC130:=aM hC32;clear hA32 hC32 hi032 hsz32;obtain ⟨Ao33,co33,eo33⟩:=Kd.R_slice HO128.out
            (first|subst eo33|(injection eo33 with f1_ f2_ f3_;have f4_:=f1_.symm;have f5_:=f3_.symm;clear f1_ f2_ f3_;subst f4_;subst f5_))
            refine qhK (n:=7) (S:=fun w'=>True) (ds:=[]) #[false,false,false,false,false,false,false] (by kernel_rfl) rfl rfl trivial (fun hHeld=>?_);generalize w30.drew=w31 at HO128 HB HR130 hHeld ⊢;refine qcL (i:=0) (N:=some 33) (v:=?_) (a':=?_) #[true,false,false,false,false,false,false] rfl rfl (by kernel_rfl) (fun _ _ _ h=>h) (Or.inl ⟨by rfl,?_⟩) ?_ ?_;rotate_left
            ·intro w';go_simp
             with_reducible rfl
            rotate_left
            ·simp only [Act.put,List.setIfInBounds_toArray,List.set_cons_zero,List.set_cons_succ,qbJ];rfl
            refine qcL (i:=3) (N:=some 36) (v:=?_) (a':=?_) #[true,false,false,true,false,false,false] rfl rfl (by kernel_rfl) (fun _ _ _ h=>h) (Or.inl ⟨by rfl,?_⟩) ?_ ?_;rotate_left
            ·intro w';go_simp
             with_reducible rfl
            rotate_left
            ·simp only [Act.put,List.setIfInBounds_toArray,List.set_cons_zero,List.set_cons_succ,qbJ];rfl
            refine qcL (i:=4) (N:=some 37) (v:=?_) (a':=?_) #[true,false,false,true,true,false,false] rfl rfl (by kernel_rfl) (fun _ _ _ h=>h) (Or.inl ⟨by rfl,?_⟩) ?_ ?_;rotate_left
            ·intro w';go_simp
             with_reducible rfl
            rotate_left
            ·simp only [Act.put,List.setIfInBounds_toArray,List.set_cons_zero,List.set_cons_succ,qbJ];rfl
            refine qmY (i:=1) (N:=some 34) #[true,true,false,true,true,false,false] rfl rfl (by kernel_rfl) (by decide) (fun K hK=>?_);refine qgA Tryz.func165 (by kernel_rfl) rfl #[.slice Ao33 y126.length co33] (by rfl) rfl rfl (by (try simp only [List.map_toArray,List.map_cons,List.map_nil]);first|done|rfl|(simp only [List.length_drop,List.length_take];rfl)) ?_
            with_reducible refine (bits_Sum.calls kj4 _ _ y126 t129 _ ?side1 ?side2 A14.out).mono ?_
            (case side1=>repeat (first|exact (Kd.R_reads' HO128.out).2.2|(with_reducible refine Kd.C_alloc ?_ _)|(with_reducible refine Kd.C_drewN ?_ _)|(with_reducible refine Kd.C_drew ?_)))
            (case side2=>exact (Kd.R_reads' HO128.out).2.1)
            rintro e w' ⟨rfl,⟨nd,rfl⟩⟩;refine ⟨_,rfl,?_⟩;refine hK.out _ _ trivial (fun hHeld=>?_);clear hK K;refine qcP (a':=?_) ?_ ?_;rotate_left
            ·show Act.put _ (some 34) _=_;simp only [Act.put,List.setIfInBounds_toArray,List.set_cons_zero,List.set_cons_succ,qbJ];rfl
            refine qcL (i:=2) (N:=some 35) (v:=?_) (a':=?_) #[true,true,true,true,true,false,false] rfl rfl (by kernel_rfl) (fun _ _ _ h=>h) (Or.inl ⟨by rfl,?_⟩) ?_ ?_;rotate_left
            ·intro w';go_simp
             with_reducible rfl
            rotate_left
            ·simp only [Act.put,List.setIfInBounds_toArray,List.set_cons_zero,List.set_cons_succ,qbJ];rfl
            refine qmY (i:=5) (N:=some 38) #[true,true,true,true,true,true,false] rfl rfl (by kernel_rfl) (by decide) (fun K hK=>?_);refine qgA Tryz.func150 (by kernel_rfl) rfl #[.slice A32 ((l0.take 6).drop 2).length (c0 - 2)] (by rfl) rfl rfl (by (try simp only [List.map_toArray,List.map_cons,List.map_nil]);first|done|(rw [show ((l0.take 6).drop 2).length=(6 - 2) from (by rw [List.length_drop,List.length_take];have h_:(6:Int)≤(l0.length:Int):=of_decide_eq_true (by first|(with_reducible assumption)|assumption);omega)] <;> rfl)|rfl|(simp only [List.length_drop,List.length_take];rfl)) ?_
            with_reducible refine (bits_Get.calls kj4 _ _ ((l0.take 6).drop 2) t131 _ ?side1 ?side2 A17.out).mono ?_
            (case side1=>repeat (first|exact (Kd.C_below HR130.out (by repeat (first|(with_reducible first|exact HB.out|apply qaA|apply qaB|apply qaD)|exact HB.out)))|(with_reducible refine Kd.C_alloc ?_ _)|(with_reducible refine Kd.C_drewN ?_ _)|(with_reducible refine Kd.C_drew ?_)))
            (case side2=>exact HC130.out)
            rintro e w34 ⟨rfl,hb⟩;refine ⟨_,rfl,?_⟩;have n0_:=aM (Kd.R_below (by (with_reducible repeat (first|apply Kd.R_alloc|apply Kd.R_drewN|apply Kd.R_drew));exact HO128.out) hb);have n1_:=aM (qaF (by repeat (first|(with_reducible first|exact HB.out|apply qaA|apply qaB|apply qaD)|exact HB.out)) hb);clear HO128;clear HB;have HO128:=n0_;have HB:=n1_;clear n0_ n1_
            (try clear hb)
            (try clear hb2)
            (try clear hk)
            (try clear hi)
            refine hK.out _ _ trivial (fun hHeld=>?_);clear hK K;refine qcP (a':=?_) ?_ ?_;rotate_left
            ·show Act.put _ (some 38) _=_;simp only [Act.put,List.setIfInBounds_toArray,List.set_cons_zero,List.set_cons_succ,qbJ];rfl
            refine qcL (i:=6) (N:=some 39) (v:=?_) (a':=?_) #[true,true,true,true,true,true,true] rfl rfl (by kernel_rfl) (fun _ _ _ h=>h) (Or.inl ⟨by rfl,?_⟩) ?_ ?_;rotate_left
            ·intro w';go_simp
             with_reducible rfl
            rotate_left
            ·simp only [Act.put,List.setIfInBounds_toArray,List.set_cons_zero,List.set_cons_succ,qbJ];rfl
            refine qwI (by kernel_rfl) ?_;try go_wp2
            go_ret3;exact ⟨_,by first|rfl|(simp [errW_none,errW_some] <;> rfl)|(simp [*,errW_none,errW_some] <;> rfl),by first|exact Kd.R_nil _ _ _ _ _|exact Kd.N_nil _ _ _ _ _|exact Kd.V_nil _ _ _ _ _|exact Kd.Q_nil _ _ _ _ _|exact Kd.S_nil _ _ _ _ _,by repeat (first|(with_reducible first|exact HB.out|apply qaA|apply qaB|apply qaD)|exact HB.out)⟩
          ·rw [if_neg c16] at H;exact absurd H (by simp)
         ·rw [if_neg c15] at H;exact absurd H (by simp)
        ·rw [if_neg c13] at H;exact absurd H (by simp)
       ·rw [if_neg c12] at H;exact absurd H (by simp)
      ·rw [if_neg c11] at H;exact absurd H (by simp)
  ·rw [if_neg c3] at H;exact absurd H (by simp)
def bits_Blank.l0:Nat→List Int→Int→Int→Option (Bool)
 | 0,_,_,_=>none
 | k+1,x5,x6,x7=>if x7 < x6 then (if 0≤x7 then (if x7 < (x5.length:Int) then (if (rd x5 x7)=255 then (bits_Blank.l0 k x5 x6 (wrap64 (x7+1))) else (some false)) else (none)) else (none)) else (some true)
def bits_Blank.f (k:Nat) (l0:List Int):Option (Bool):=bits_Blank.l0 k l0 (l0.length:Int) 0
theorem bits_Blank.calls (k:Nat) (A0:Option Addr) (c0:Nat) (l0:List Int) (r:Bool) (w:World) (hr0:Kd.C (Kd.int .u8) w A0 l0.length l0) (hc0:l0.length≤c0) (h:bits_Blank.f k l0=some r) :
  Calls Tryz.prog 147 #[.slice A0 l0.length c0] w fun e w'=>e=.returned (.bool r)∧qaY w w':=by
 have HR0:=aM hr0;have HC0:=aM hc0;clear hr0 hc0;have H:(bits_Blank.l0 k l0 (l0.length:Int) 0)=some r:=h;clear h;have H':=aM H;clear H;go_enter Tryz.func147,Tryz.ntmps147;go_wp2;go_loopg [7] k (fun kq v7 w'=>∃ (x7_1:Int),v7=.int .i64 x7_1∧qaN (bits_Blank.l0 kq l0 (l0.length:Int) x7_1=some r)∧qaN (kq≤k)∧qaY w w');case atStart=>exact ⟨(0),(by first|rfl|(simp;done)|(simp [*];done)),H',⟨Nat.le_refl _⟩,by repeat (first|exact qaY.refl _|apply qaY.step)⟩
 case round =>
  clear H';try clear c1
  obtain ⟨x7_1,rfl,HA,HK1,⟨m1,rfl⟩⟩:=hrel
  cases gk with
  | zero=>exact absurd HA.out (by simp [bits_Blank.l0])
  | succ k1 =>
   have H:=HA.out;clear HA;simp only [bits_Blank.l0] at H
   by_cases c2:x7_1 < (l0.length:Int)
   ·rw [if_pos c2] at H;have c2b0:decide (x7_1 < (l0.length:Int))=true:=decide_eq_true c2;clear c2
    by_cases c3:0≤x7_1
    ·rw [if_pos c3] at H;have c3b0:decide (0≤x7_1)=true:=decide_eq_true c3;clear c3
     by_cases c4:x7_1 < (l0.length:Int)
     ·rw [if_pos c4] at H;have c4b0:decide (x7_1 < (l0.length:Int))=true:=decide_eq_true c4;clear c4
      by_cases c5:(rd l0 x7_1)=255
      ·rw [if_pos c5] at H;have c5b0:((rd l0 x7_1)==255)=true:=beq_iff_eq.mpr c5;have c5b1:((rd l0 x7_1) != 255)=false:=bne_eq_false_iff_eq.mpr c5;clear c5;have H':=aM H;clear H;have p132:0≤(x7_1:Int):=of_decide_eq_true (by first|(with_reducible assumption)|assumption);have q132:x7_1 < (l0.length:Int):=of_decide_eq_true (by first|(with_reducible assumption)|assumption);obtain ⟨ad132,e132,hx132_0⟩:=Kd.at_int HR0.out x7_1 p132 q132
       cases e132
       replace p132:=eq_true p132;replace q132:=eq_true q132;go_wp2;go_roundg k1;case measure=>have:=HK1.out;omega
       case rel=>exact ⟨(wrap64 (x7_1+1)),(by first|rfl|(simp;done)|(simp [*];done)),H',⟨by have:=HK1.out;omega⟩,by repeat (first|exact qaY.refl _|apply qaY.step)⟩
      ·rw [if_neg c5] at H;have c5b0:((rd l0 x7_1)==255)=false:=beq_eq_false_iff_ne.mpr c5;have c5b1:((rd l0 x7_1) != 255)=true:=bne_iff_ne.mpr c5;obtain rfl:=Option.some.inj H;have p132:0≤(x7_1:Int):=of_decide_eq_true (by first|(with_reducible assumption)|assumption);have q132:x7_1 < (l0.length:Int):=of_decide_eq_true (by first|(with_reducible assumption)|assumption);obtain ⟨ad132,e132,hx132_0⟩:=Kd.at_int HR0.out x7_1 p132 q132
       cases e132
       replace p132:=eq_true p132;replace q132:=eq_true q132;go_wp2;go_ret;exact ⟨by first|rfl|(simp;done)|(simp [*];done),by repeat (first|exact qaY.refl _|apply qaY.step)⟩
     ·rw [if_neg c4] at H;exact absurd H (by simp)
    ·rw [if_neg c3] at H;exact absurd H (by simp)
   ·rw [if_neg c2] at H;have c2b0:decide (x7_1 < (l0.length:Int))=false:=decide_eq_false c2;clear c2;obtain rfl:=Option.some.inj H;go_wp2;go_ret;exact ⟨by first|rfl|(simp;done)|(simp [*];done),by repeat (first|exact qaY.refl _|apply qaY.step)⟩
end
end Go.Proofs.YtdlimghdimkadaaGreatDoor.PAll

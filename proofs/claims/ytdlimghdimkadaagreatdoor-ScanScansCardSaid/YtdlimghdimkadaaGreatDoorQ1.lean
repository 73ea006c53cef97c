/- Part 1 of what the law ScanScans rests on. -/
import Derived.Test.YtdlimghdimkadaaGreatDoorQ0
import Derived.Test.YtdlimghdimkadaaGreatDoorProg
import Derived.Below
import Derived.Deep.Draws
import Derived.Deep.AppendLies
import Derived.Maps.AppendAt
import Derived.OwnWalk
import Derived.Laws.BytesArg
import Derived.Laws.MakeOwn
import Derived.Laws.OwnMore
import Derived.Deep.OwnRows
import Derived.Tactics
import Derived.Lib.ConvBytes
import Derived.Laws.Slices
import Derived.WalkKit
import Derived.KernelRfl
import Derived.RowKit3
import Derived.Deep.LoopGhost
import Derived.Deep.QuietTactic
import Derived.BigQuiet
import Derived.WideLaws
import Derived.Deep.DeepCutAuto
import Derived.Deep.CutBlock
import Derived.Deep.RegionHeld3
import Derived.Laws.Rows
import Derived.Lib.AppendStr
import Derived.ArgAppend
import Derived.Laws.IdiomCopy
import Derived.OrdersHeld
import Derived.Laws.BitsLemmas
import Derived.RowKit
import Derived.Lib.SmallJoins
import Derived.Deep.RegionLaw
import Derived.WalkSpells
import Derived.Outline
set_option maxRecDepth 100000
set_option maxHeartbeats 32000000
set_option linter.unusedSimpArgs false
set_option linter.unusedVariables false
namespace Go.Proofs.YtdlimghdimkadaaGreatDoorW.PrintLast
open YtdlimghdimkadaaGreatDoorW.PrintWords (qaN)
def qiN (md:Region.Mode) (o:Oper):List Nat:=(o.after.toList.filter (fun e=>Region.binds md e)).map (fun e=>e.on)
def qqU (md:Region.Mode) (ops:Array Oper) (i:Nat) (oi:Oper):List Nat:=(List.range ops.size).filter fun j=>!(j==i) && match ops[j]? with
 | some oj=>!(oj.after.any (fun e=>Region.binds md e && e.on==i) || oi.apart ops oj)
 | none=>false
def qfA (md:Region.Mode) (ops:Array Oper):Bool × List (List Nat × List Nat):=(Region.noSelect ops,(List.range ops.size).map fun i=>match ops[i]? with
 | some o=>(qiN md o,qqU md ops i o)
 | none=>([],[]))
def qfJ (T:List (List Nat × List Nat)) (l:List Bool) (i:Nat):Bool:=!l.getD i true && match T[i]? with
 | some r=>r.1.all (fun j=>l.getD j false)
 | none=>false
def qiU (T:List (List Nat × List Nat)) (l:List Bool):List Nat:=(List.range T.length).filter (qfJ T l)
def qwC (T:List (List Nat × List Nat)) (l:List Bool) (i:Nat):Bool:=match T[i]? with
 | some r=>r.2.all (fun j=>l.getD j true)
 | none=>false
def qnK (T:List (List Nat × List Nat)) (l:List Bool):Bool:=(List.range T.length).all fun j=>!l.getD j false || match T[j]? with
 | some r=>r.1.all (fun k=>l.getD k false)
 | none=>true
def qlT (T:List (List Nat × List Nat)) (i:Nat):Nat→Nat→Bool
 | 0,_=>false
 | fuel+1,d=>match T[d]? with
  | some r=>r.1.any fun j=>j==i || qlT T i fuel j
  | none=>false
def qyC (T:List (List Nat × List Nat)) (l:List Bool) (ds:List Nat) (i:Nat):Bool:=ds.all fun d=>l.getD d true || qlT T i T.length d
section
variable {md:Region.Mode} {ops:Array Oper} {T:Bool × List (List Nat × List Nat)} {l l' li lj lk:Array Bool} {ds:List Nat} {i j k:Nat}
theorem gd (l:Array Bool) (j:Nat) (b:Bool):l.getD j b=l.toList.getD j b:=by simp [Array.getD_eq_getD_getElem?,List.getD_eq_getElem?_getD]
theorem qoH (o:Oper) (p:Nat→Bool):o.after.all (fun e=>!Region.binds md e || p e.on)=(qiN md o).all p:=by
 unfold qiN;rw [← Array.all_toList]
 induction o.after.toList with
 | nil=>rfl
 | cons e r ih =>
  rw [List.all_cons,ih,List.filter_cons]
  cases h:Region.binds md e <;> simp
theorem qvS (o:Oper) (p:Nat→Bool):o.after.any (fun e=>Region.binds md e && p e.on)=(qiN md o).any p:=by
 unfold qiN;rw [← Array.any_toList]
 induction o.after.toList with
 | nil=>rfl
 | cons e r ih =>
  rw [List.any_cons,ih,List.filter_cons]
  cases h:Region.binds md e <;> simp
theorem qfW:(qfA md ops).2.length=ops.size:=by simp [qfA]
theorem qhN {o:Oper} (h:ops[i]?=some o):(qfA md ops).2[i]?=some (qiN md o,qqU md ops i o):=by
 have hi:=(Array.getElem?_eq_some_iff.1 h).1;unfold qfA;rw [List.getElem?_map,List.getElem?_range hi,Option.map_some,h]
theorem qhO (h:ops[i]?=none):(qfA md ops).2[i]?=none:=by
 have hi:ops.size≤i:=Array.getElem?_eq_none_iff.1 h;exact List.getElem?_eq_none (by rw [qfW];exact hi)
theorem qsU:qfJ (qfA md ops).2 l.toList i=(!l.getD i true && ((ops[i]?).map (·.after.all fun e=>!Region.binds md e || l.getD e.on false)).getD false):=by
 unfold qfJ;rw [gd]
 cases h:ops[i]? with
 | none=>rw [qhO h];rfl
 | some o =>
  rw [qhN h];simp only [Option.map_some,Option.getD_some];rw [← qoH];simp only [gd]
theorem qgO:Region.ready md ops l=qiU (qfA md ops).2 l.toList:=by
 unfold Region.ready qiU;rw [qfW];refine List.filter_congr (fun i _=>?_);rw [qsU]
theorem qwB:Region.free md ops l i=qwC (qfA md ops).2 l.toList i:=by
 unfold Region.free qwC
 cases h:ops[i]? with
 | none=>rw [qhO h]
 | some oi =>
  rw [qhN h];simp only [qqU];rw [List.all_filter]
  congr 1
  funext j
  rw [gd]
  cases hj:ops[j]? with
  | none=>cases (j==i) <;> cases (l.toList.getD j true) <;> simp
  | some oj =>
   cases (j==i) <;> cases (l.toList.getD j true) <;> cases (oj.after.any (fun e=>Region.binds md e && e.on==i) || oi.apart ops oj) <;> simp_all
theorem qwM:Region.closedB md ops l=qnK (qfA md ops).2 l.toList:=by
 unfold Region.closedB qnK;rw [qfW]
 congr 1
 funext j
 rw [gd]
 cases h:ops[j]? with
 | none=>rw [qhO h]
 | some o =>
  rw [qhN h];simp only;rw [← qoH];simp only [gd]
theorem qrJ:∀ (fuel d:Nat),Region.reachB md ops i fuel d=qlT (qfA md ops).2 i fuel d
 | 0,_=>rfl
 | fuel+1,d=>by
  unfold Region.reachB qlT
  cases h:ops[d]? with
  | none=>rw [qhO h]
  | some o =>
   rw [qhN h];simp only;rw [← qvS]
   congr 1
   funext e
   rw [qrJ fuel]
theorem vbD:Region.lastB md ops l ds i=qyC (qfA md ops).2 l.toList ds i:=by
 unfold Region.lastB qyC;rw [qfW]
 congr 1
 funext d
 rw [gd,qrJ]
theorem qkD (h:qfJ T.2 l.toList i=true) (hT:qfA md ops=T):(Region.ready md ops l).contains i=true:=by
 subst hT;rw [qgO];unfold qiU;rw [List.contains_iff_mem,List.mem_filter,List.mem_range];refine ⟨?_,h⟩;unfold qfJ at h;rw [Bool.and_eq_true] at h
 cases hq:(qfA md ops).2[i]? with
 | none=>rw [hq] at h;simp at h
 | some r=>exact (List.getElem?_eq_some_iff.1 hq).1
theorem qnQ (h:(l.toList.set i true==l'.toList)=true):(l.setIfInBounds i true==l')=true:=by
 rw [beq_iff_eq] at h ⊢;apply Array.ext';rw [Array.toList_setIfInBounds];exact h
def anyT (T:Bool × List (List Nat × List Nat)) (l l':List Bool) (i:Nat):Bool:=T.1 && qwC T.2 l i && qfJ T.2 l i && (l.set i true==l')
theorem qcC (hT:qfA md ops=T) (h:anyT T l.toList l'.toList i=true):vdP md ops l l' i=true:=by
 simp only [anyT,Bool.and_eq_true] at h;obtain ⟨⟨⟨h1,h2⟩,h3⟩,h4⟩:=h;have h5:=qkD h3 hT;have h6:=qnQ h4;subst hT;simp only [vdP,Bool.and_eq_true];exact ⟨⟨⟨h1,by rw [qwB];exact h2⟩,h5⟩,h6⟩
def qzY (T:Bool × List (List Nat × List Nat)) (ds:List Nat) (l l':List Bool) (i:Nat):Bool:=T.1 && qwC T.2 l i && qfJ T.2 l i && qnK T.2 l && qyC T.2 l ds i && (l.set i true==l')
theorem qzX (hT:qfA md ops=T) (h:qzY T ds l.toList l'.toList i=true):quJ md ops ds l l' i=true:=by
 simp only [qzY,Bool.and_eq_true] at h;obtain ⟨⟨⟨⟨⟨h1,h2⟩,h3⟩,h4⟩,h5⟩,h6⟩:=h;have h7:=qkD h3 hT;have h8:=qnQ h6;subst hT;simp only [quJ,Bool.and_eq_true];exact ⟨⟨⟨⟨⟨h1,by rw [qwB];exact h2⟩,h7⟩,by rw [qwM];exact h4⟩,by rw [vbD];exact h5⟩,h8⟩
theorem qeY (hT:qfA md ops=T) (h:(qiU T.2 l.toList==[i] && l.toList.set i true==l'.toList)=true):qrG md ops l l' i=true:=by
 simp only [Bool.and_eq_true] at h;obtain ⟨h1,h2⟩:=h;subst hT;simp only [qrG,Bool.and_eq_true];exact ⟨by rw [qgO];exact h1,qnQ h2⟩
theorem qlQ (hT:qfA md ops=T) (h:(qiU T.2 l.toList==[i,j] && l.toList.set i true==li.toList && l.toList.set j true==lj.toList)=true):(Region.ready md ops l==[i,j] && l.setIfInBounds i true==li && l.setIfInBounds j true==lj)=true:=by
 simp only [Bool.and_eq_true] at h ⊢;obtain ⟨⟨h1,h2⟩,h3⟩:=h;subst hT;exact ⟨⟨by rw [qgO];exact h1,qnQ h2⟩,qnQ h3⟩
theorem qqO (hT:qfA md ops=T) (h:(qiU T.2 l.toList==[])=true):(Region.ready md ops l==[])=true:=by
 subst hT;rw [qgO];exact h
def upM (B:List Nat) (d:Nat):List Nat→Nat
 | []=>0
 | n :: r=>(2 ^ n ||| (if n < d then B.getD n 0 else 0)) ||| upM B d r
def qdT (T:List (List Nat × List Nat)) (B:List Nat):Bool:=(List.range T.length).all fun d=>match T[d]? with
 | some r=>(B.getD d 0 ||| upM B d r.1)==upM B d r.1
 | none=>false
theorem qhF {B:List Nat} {d i:Nat}:∀ {ns:List Nat},(upM B d ns).testBit i=true→∃ n ∈ ns,n=i∨(n < d∧(B.getD n 0).testBit i=true)
 | [],h=>by simp [upM] at h
 | n :: r,h=>by
  unfold upM at h;rw [Nat.testBit_or,Nat.testBit_or,Bool.or_eq_true,Bool.or_eq_true] at h
  rcases h with (h|h)|h
  ·rw [Nat.testBit_two_pow] at h;exact ⟨n,List.mem_cons_self,.inl (by simpa using h)⟩
  ·by_cases hn:n < d
   ·rw [if_pos hn] at h;exact ⟨n,List.mem_cons_self,.inr ⟨hn,h⟩⟩
   ·rw [if_neg hn] at h;simp at h
  ·obtain ⟨m,hm,h2⟩:=qhF h;exact ⟨m,List.mem_cons_of_mem _ hm,h2⟩
theorem qnW {T:List (List Nat × List Nat)} {B:List Nat} (hB:qdT T B=true):∀ (fuel d:Nat),d < fuel→d < T.length→(B.getD d 0).testBit i=true→qlT T i fuel d=true
 | 0,d,h,_,_=>by omega
 | fuel+1,d,h,hd,hb=>by
  have h1:=List.all_eq_true.1 hB d (List.mem_range.2 hd)
  cases hr:T[d]? with
  | none=>rw [hr] at h1;simp at h1
  | some r =>
   rw [hr] at h1;simp only [beq_iff_eq] at h1;have h2:(upM B d r.1).testBit i=true:=by rw [← h1,Nat.testBit_or,hb,Bool.true_or]
   obtain ⟨n,hn,h3⟩:=qhF h2;unfold qlT;rw [hr];simp only;rw [List.any_eq_true];refine ⟨n,hn,?_⟩
   rcases h3 with rfl|⟨h4,h5⟩
   ·simp
   ·rw [qnW hB fuel n (by omega) (by omega) h5,Bool.or_true]
def vcS (T:List (List Nat × List Nat)) (B:List Nat) (l:List Bool) (ds:List Nat) (i:Nat):Bool:=ds.all fun d=>l.getD d true || (decide (d < T.length) && (B.getD d 0).testBit i)
def vcM (T:Bool × List (List Nat × List Nat)) (B:List Nat) (ds:List Nat) (l l':List Bool) (i:Nat):Bool:=T.1 && qwC T.2 l i && qfJ T.2 l i && qnK T.2 l && vcS T.2 B l ds i && (l.set i true==l')
theorem qmL {B:List Nat} (hT:qfA md ops=T) (hB:qdT T.2 B=true) (h:vcM T B ds l.toList l'.toList i=true):quJ md ops ds l l' i=true:=by
 refine qzX hT ?_;simp only [vcM,qzY,Bool.and_eq_true] at h ⊢;obtain ⟨⟨⟨⟨⟨h1,h2⟩,h3⟩,h4⟩,h5⟩,h6⟩:=h;refine ⟨⟨⟨⟨⟨h1,h2⟩,h3⟩,h4⟩,?_⟩,h6⟩;unfold vcS at h5;unfold qyC;rw [List.all_eq_true] at h5 ⊢;intro d hd;have h7:=h5 d hd;rw [Bool.or_eq_true,Bool.and_eq_true,decide_eq_true_eq] at h7
 rcases h7 with h7|⟨h8,h9⟩
 ·rw [h7,Bool.true_or]
 ·rw [qnW hB _ d h8 h8 h9,Bool.or_true]
theorem qjU {P:Program} {Q:Exit→Act→World→Prop} {S:World→Prop} {n:Nat} {a:Act} {w:World} {B:List Nat} (hT:qfA md ops=T) (hB:qdT T.2 B=true) (h:qaN (qfA md ops=T)→qaN (qdT T.2 B=true)→qbG P md ops Q S ds n l a w):qbG P md ops Q S ds n l a w:=h ⟨hT⟩ ⟨hB⟩
end
def qlH:Code→Nat→Option (Array Oper)
 | .region id ops _,k=>if id==k then some ops else none
 | .seq a b,k=>match qlH a k with
  | some o=>some o
  | none=>qlH b k
 | .cond _ a b,k=>match qlH a k with
  | some o=>some o
  | none=>qlH b k
 | .block _ c,k=>qlH c k
 | .loop c,k=>qlH c k
 | .scope c,k=>qlH c k
 | .rangeFunc _ _ a b,k=>match qlH a k with
  | some o=>some o
  | none=>qlH b k
 | _,_=>none
def vdR (f:Func) (k:Nat):Array Oper:=((f.body.bind fun c=>qlH c k)).getD #[]
end Go.Proofs.YtdlimghdimkadaaGreatDoorW.PrintLast
namespace Go.Proofs.YtdlimghdimkadaaGreatDoorW.PrintLast
def up (b:Nat→Bool) (i:Nat):Nat→Bool:=fun j=>if j=i then true else b j
theorem qiI (b:Nat→Bool) (i:Nat):up b i i=true:=by simp [up]
theorem qfL {b:Nat→Bool} {i j:Nat} (h:j ≠ i):up b i j=b j:=by simp [up,h]
def lof (n:Nat) (O:List Nat) (b:Nat→Bool):List Bool:=(List.range n).map fun j=>if O.contains j then b j else true
def qbO (a:Act) (b:Nat→Bool):List (Nat × Tmp × Value)→Act
 | []=>a
 | e :: r=>qbO (if b e.1=true then a.put (some e.2.1) e.2.2 else a) b r
section
variable {P:Program} {ops:Array Oper} {Q:Exit→Act→World→Prop} {md:Region.Mode} {T:Bool × List (List Nat × List Nat)} {B:List Nat} {O:List Nat} {b:Nat→Bool} {i j n:Nat}
theorem qtH:(lof n O b).length=n:=by simp [lof]
theorem qnD {d:Bool} (hj:j < n):(lof n O b).getD j d=if O.contains j then b j else true:=by
 simp [lof,List.getD_eq_getElem?_getD,hj]
theorem vcR (hi:O.contains i=true):(lof n O b).set i true=lof n O (up b i):=by
 apply List.ext_getElem?;intro j
 by_cases hj:j < n
 ·by_cases hij:i=j
  ·subst hij;have hl:i < (lof n O b).length:=by rw [qtH];exact hj
   rw [List.getElem?_set_self hl];simp only [lof,List.getElem?_map,List.getElem?_range hj,Option.map_some,hi,if_true,qiI]
  ·rw [List.getElem?_set_ne hij];simp only [lof,List.getElem?_map,List.getElem?_range hj,Option.map_some];rw [qfL (Ne.symm hij)]
 ·rw [List.getElem?_eq_none (by simp [lof];omega),List.getElem?_eq_none (by simp [lof];omega)]
def qzT (P:Program) (ops:Array Oper) (Q:Exit→Act→World→Prop) (B:List Nat) (O:List Nat) (I:(Nat→Bool)→Act→World→Prop) (i:Nat):Prop :=
 ∀ b a w,I b a w→b i=false→(∀ j,(O.contains j && (B.getD i 0).testBit j)=true→b j=true)→(∀ d,(O.contains d && (B.getD d 0).testBit i)=true→b d=false) →
  ∃ oi,ops[i]?=some oi∧∀ K:Act→World→Prop,Shut (∀ a' w',I (up b i) a' w'→K a' w')→if Region.wanted oi (yielded ops a.tmps)=true then Oper.wp P oi a w K Q else K (a.put oi.dst undef) w
def qeL (T:List (List Nat × List Nat)) (O:List Nat):Bool :=
 (List.range T.length).all (fun d=>match T[d]? with
  | some r=>(O.contains d || r.1.all fun n=>!O.contains n) && r.1.all fun n=>decide (n < d)
  | none=>false) && O.all (fun i=>decide (i < T.length)) && decide O.Nodup
theorem qeV {T:List (List Nat × List Nat)} (h:qeL T O=true) {d:Nat} {r:List Nat × List Nat} (hr:T[d]?=some r):(O.contains d=false→∀ n ∈ r.1,O.contains n=false)∧∀ n ∈ r.1,n < d:=by
 simp only [qeL,Bool.and_eq_true] at h;have h1:=List.all_eq_true.1 h.1.1 d (List.mem_range.2 (List.getElem?_eq_some_iff.1 hr).1);rw [hr] at h1;simp only [Bool.and_eq_true,Bool.or_eq_true,List.all_eq_true,decide_eq_true_eq] at h1;refine ⟨fun hd n hn=>?_,h1.2⟩
 rcases h1.1 with h2|h2
 ·rw [hd] at h2;cases h2
 ·simpa using h2 n hn
theorem qpG {T:List (List Nat × List Nat)} (h:qeL T O=true) {i:Nat} (hi:i ∈ O):i < T.length:=by
 simp only [qeL,Bool.and_eq_true] at h
 simpa using List.all_eq_true.1 h.1.2 i hi
theorem qpF {T:List (List Nat × List Nat)} (h:qeL T O=true):O.Nodup:=by
 simp only [qeL,Bool.and_eq_true] at h;exact of_decide_eq_true h.2
def qzV (T:List (List Nat × List Nat)) (O:List Nat) (b:Nat→Bool):Prop:=∀ d r,T[d]?=some r→O.contains d=true→b d=true→∀ n ∈ r.1,O.contains n=true→b n=true
theorem qsJ {T:List (List Nat × List Nat)} (hw:qdT T B=true) (hk:qeL T O=true):∀ (m d:Nat),d≤m→d < T.length→O.contains d=false→∀ j,(B.getD d 0).testBit j=true→O.contains j=false:=by
 intro m
 induction m with
 | zero =>
  intro d hd hl hO j hj;have hd0:d=0:=by omega
  subst hd0;have hr:T[0]?=some T[0]:=List.getElem?_eq_getElem hl;have h1:=List.all_eq_true.1 hw 0 (List.mem_range.2 hl);rw [hr] at h1;simp only [beq_iff_eq] at h1;have h2:(upM B 0 T[0].1).testBit j=true:=by rw [← h1,Nat.testBit_or,hj,Bool.true_or]
  obtain ⟨n,hn,h3⟩:=qhF h2;have:=(qeV hk hr).2 n hn;omega
 | succ m ih =>
  intro d hd hl hO j hj;have hr:T[d]?=some T[d]:=List.getElem?_eq_getElem hl;have h1:=List.all_eq_true.1 hw d (List.mem_range.2 hl);rw [hr] at h1;simp only [beq_iff_eq] at h1;have h2:(upM B d T[d].1).testBit j=true:=by rw [← h1,Nat.testBit_or,hj,Bool.true_or]
  obtain ⟨n,hn,h3⟩:=qhF h2;have hO2:=(qeV hk hr).1 hO n hn
  rcases h3 with rfl|⟨h4,h5⟩
  ·exact hO2
  ·exact ih n (by omega) (by omega) hO2 j h5
theorem qkU {T:List (List Nat × List Nat)} (hw:qdT T B=true) (hk:qeL T O=true) (hc:qzV T O b):∀ (m d:Nat),d≤m→d < T.length→O.contains d=true→b d=true→∀ j,O.contains j=true→(B.getD d 0).testBit j=true→b j=true:=by
 intro m
 induction m with
 | zero =>
  intro d hd hl hO hb j hjO hj;have hd0:d=0:=by omega
  subst hd0;have hr:T[0]?=some T[0]:=List.getElem?_eq_getElem hl;have h1:=List.all_eq_true.1 hw 0 (List.mem_range.2 hl);rw [hr] at h1;simp only [beq_iff_eq] at h1;have h2:(upM B 0 T[0].1).testBit j=true:=by rw [← h1,Nat.testBit_or,hj,Bool.true_or]
  obtain ⟨n,hn,h3⟩:=qhF h2;have:=(qeV hk hr).2 n hn;omega
 | succ m ih =>
  intro d hd hl hO hb j hjO hj;have hr:T[d]?=some T[d]:=List.getElem?_eq_getElem hl;have h1:=List.all_eq_true.1 hw d (List.mem_range.2 hl);rw [hr] at h1;simp only [beq_iff_eq] at h1;have h2:(upM B d T[d].1).testBit j=true:=by rw [← h1,Nat.testBit_or,hj,Bool.true_or]
  obtain ⟨n,hn,h3⟩:=qhF h2
  rcases h3 with rfl|⟨h4,h5⟩
  ·exact hc d _ hr hO hb n hn hjO
  ·cases hO2:O.contains n with
   | true=>exact ih n (by omega) (by omega) hO2 (hc d _ hr hO hb n hn hO2) j hjO h5
   | false =>
    have:=qsJ hw hk n n (Nat.le_refl _) (by omega) hO2 j h5;rw [hjO] at this
    cases this
theorem qrC:∀ {O:List Nat},O.Nodup→i ∈ O→b i=false→(O.filter fun j=>!up b i j).length+1=(O.filter fun j=>!b j).length
 | [],_,hi,_=>by cases hi
 | x :: r,hn,hi,hb=>by
  rw [List.nodup_cons] at hn
  rcases List.mem_cons.1 hi with rfl|hi
  ·have h1:(r.filter fun j=>!up b i j)=r.filter fun j=>!b j:=by
    refine List.filter_congr (fun j hj=>?_);rw [qfL (fun e=>hn.1 (by rw [← e];exact hj))]
   rw [List.filter_cons,List.filter_cons];simp [qiI,hb,h1]
  ·have hxi:x ≠ i:=fun e=>hn.1 (e ▸ hi)
   have h1:=qrC hn.2 hi hb;rw [List.filter_cons,List.filter_cons,qfL hxi]
   cases hbx:b x
   ·simp only [Bool.not_false,if_true,List.length_cons];omega
   ·simpa using h1
theorem vbH (hT:qfA md ops=T) (hw:qdT T.2 B=true) (hk:qeL T.2 O=true) (I:(Nat→Bool)→Act→World→Prop) (hs:∀ i ∈ O,qzT P ops Q B O I i)
  (hend:∀ b a w,(∀ j,O.contains j=true→b j=true)→I b a w→Q .normal a w) :
  ∀ (m:Nat) (b:Nat→Bool) (a:Act) (w:World),(O.filter fun j=>!b j).length=m→qzV T.2 O b→I b a w→qbG P md ops Q (fun _=>True) [] m (lof T.2.length O b).toArray a w:=by
 subst hT
 have mem_ready':∀ {b:Nat→Bool} {i:Nat},i ∈ Region.ready md ops (lof (qfA md ops).2.length O b).toArray→i < (qfA md ops).2.length∧O.contains i=true∧b i=false∧∀ r,(qfA md ops).2[i]?=some r→∀ n ∈ r.1,n < (qfA md ops).2.length→O.contains n=true→b n=true:=by
  intro b i hi;rw [qgO] at hi;unfold qiU at hi;rw [List.mem_filter,List.mem_range] at hi;obtain ⟨hl,h1⟩:=hi;unfold qfJ at h1;rw [Bool.and_eq_true,qnD hl] at h1;obtain ⟨h2,h3⟩:=h1
  have h4:O.contains i=true:=by
   cases h:O.contains i with
   | true=>rfl
   | false=>rw [h] at h2;simp at h2
  rw [h4] at h2;refine ⟨hl,h4,by simpa using h2,fun r hr n hn hnl hO=>?_⟩;rw [hr] at h3;simp only [List.all_eq_true] at h3;have h5:=h3 n hn;rw [qnD hnl,hO] at h5
  simpa using h5
 intro m
 induction m with
 | zero =>
  intro b a w hm hc hI
  have hall:∀ j,O.contains j=true→b j=true:=by
   intro j hj
   cases hb:b j with
   | true=>rfl
   | false =>
    have:j ∈ O.filter fun j=>!b j:=List.mem_filter.2 ⟨List.contains_iff_mem.1 hj,by simp [hb]⟩
    rw [List.eq_nil_of_length_eq_zero hm] at this
    cases this
  refine ⟨?_,hend b a w hall hI⟩;refine List.eq_nil_iff_forall_not_mem.2 (fun i hi=>?_);obtain ⟨_,h1,h2,_⟩:=mem_ready' hi;rw [hall i h1] at h2
  cases h2
 | succ m ih =>
  intro b a w hm hc hI;refine ⟨fun hr=>?_,fun i hi=>?_⟩
  ·exfalso
   have hex:∃ i,O.contains i=true∧b i=false:=by
    cases hf:O.filter (fun j=>!b j) with
    | nil=>rw [hf] at hm;simp at hm
    | cons x r =>
     have hx:x ∈ O.filter (fun j=>!b j):=by rw [hf];exact List.mem_cons_self
     rw [List.mem_filter] at hx;exact ⟨x,List.contains_iff_mem.2 hx.1,by simpa using hx.2⟩
   have hmin:∀ k,(∃ i,i≤k∧O.contains i=true∧b i=false)→∃ i,O.contains i=true∧b i=false∧∀ j,j < i→O.contains j=true→b j=true:=by
    intro k
    induction k with
    | zero =>
     rintro ⟨i,hi,h1,h2⟩;exact ⟨i,h1,h2,fun j hj=>by omega⟩
    | succ k ihk =>
     rintro ⟨i,hi,h1,h2⟩
     by_cases hlow:∃ j,j≤k∧O.contains j=true∧b j=false
     ·exact ihk hlow
     ·refine ⟨i,h1,h2,fun j hj hO=>?_⟩
      cases hb:b j with
      | true=>rfl
      | false=>exact absurd ⟨j,by omega,hO,hb⟩ hlow
   obtain ⟨i0,h1,h2⟩:=hex;obtain ⟨i,hO,hb,hlow⟩:=hmin i0 ⟨i0,Nat.le_refl _,h1,h2⟩;have hl:=qpG hk (List.contains_iff_mem.1 hO)
   have hin:i ∈ Region.ready md ops (lof (qfA md ops).2.length O b).toArray:=by
    rw [qgO];unfold qiU;rw [List.mem_filter,List.mem_range];refine ⟨hl,?_⟩;unfold qfJ;rw [qnD hl,hO,hb];have hr2:(qfA md ops).2[i]?=some (qfA md ops).2[i]:=List.getElem?_eq_getElem hl;rw [hr2];simp only [if_true,Bool.not_false,Bool.true_and,List.all_eq_true];intro n hn;have hni:=(qeV hk hr2).2 n hn;rw [qnD (by omega)]
    cases hOn:O.contains n with
    | true=>simpa using hlow n hni hOn
    | false=>simp
   rw [hr] at hin
   cases hin
  ·obtain ⟨hl,hO,hb,hneed⟩:=mem_ready' hi
   have hon:∀ j,(O.contains j && (B.getD i 0).testBit j)=true→b j=true:=by
    intro j hj;rw [Bool.and_eq_true] at hj;have hr2:(qfA md ops).2[i]?=some (qfA md ops).2[i]:=List.getElem?_eq_getElem hl;have h1:=List.all_eq_true.1 hw i (List.mem_range.2 hl);rw [hr2] at h1;simp only [beq_iff_eq] at h1;have h2:(upM B i (qfA md ops).2[i].1).testBit j=true:=by rw [← h1,Nat.testBit_or,hj.2,Bool.true_or]
    obtain ⟨n,hn,h3⟩:=qhF h2;have hni:=(qeV hk hr2).2 n hn
    rcases h3 with rfl|⟨h4,h5⟩
    ·exact hneed _ hr2 n hn (by omega) hj.1
    ·cases hO2:O.contains n with
     | true=>exact qkU hw hk hc n n (Nat.le_refl _) (by omega) hO2 (hneed _ hr2 n hn (by omega) hO2) j hj.1 h5
     | false =>
      have:=qsJ hw hk n n (Nat.le_refl _) (by omega) hO2 j h5;rw [hj.1] at this
      cases this
   have hoff:∀ d,(O.contains d && (B.getD d 0).testBit i)=true→b d=false:=by
    intro d hd;rw [Bool.and_eq_true] at hd
    cases hbd:b d with
    | false=>rfl
    | true =>
     have hdl:=qpG hk (List.contains_iff_mem.1 hd.1);have:=qkU hw hk hc d d (Nat.le_refl _) hdl hd.1 hbd i hO hd.2;rw [hb] at this
     cases this
   obtain ⟨oi,hoi,hK⟩:=hs i (List.contains_iff_mem.1 hO) b a w hI hb hon hoff;refine wpOp_step hoi (fun K' hK'=>hK K' (fun a' w' hI'=>hK' a' w' ⟨fun _ _=>trivial,?_⟩))
   have hset:(lof (qfA md ops).2.length O b).toArray.setIfInBounds i true=(lof (qfA md ops).2.length O (up b i)).toArray:=by
    apply Array.ext';rw [Array.toList_setIfInBounds];exact vcR hO
   rw [hset];refine ih (up b i) a' w' ?_ ?_ hI'
   ·have:=qrC (qpF hk) (List.contains_iff_mem.1 hO) hb;omega
   ·intro d r hr hOd hbd n hn hOn
    by_cases hni:n=i
    ·rw [hni,qiI]
    ·rw [qfL hni]
     by_cases hdi:d=i
     ·subst hdi;exact hneed r hr n hn (by have:=(qeV hk hr).2 n hn;omega) hOn
     ·rw [qfL hdi] at hbd;exact hc d r hr hOd hbd n hn hOn
theorem qdW {b:Nat→Bool} {t:Tmp}:∀ {L:List (Nat × Tmp × Value)} {a:Act},(L.all fun e=>!(e.2.1==t))=true→(qbO a b L).tmps[t]?=a.tmps[t]?
 | [],_,_=>rfl
 | e :: r,a,h=>by
  rw [List.all_cons,Bool.and_eq_true] at h;have he:e.2.1 ≠ t:=by simpa using h.1
  unfold qbO
  by_cases hb:b e.1=true
  ·rw [if_pos hb,qdW h.2];simp [Act.put,Array.getElem?_setIfInBounds_ne he]
  ·rw [if_neg hb];exact qdW h.2
theorem qfN {b:Nat→Bool} {e:Nat × Tmp × Value}:∀ {L:List (Nat × Tmp × Value)} {a:Act} (k:Nat),L[k]?=some e→((L.drop (k+1)).all fun x=>!(x.2.1==e.2.1))=true→b e.1=true→Nat.ble (e.2.1+1) a.tmps.size=true→(qbO a b L).tmps[e.2.1]?=some e.2.2
 | [],_,_,h,_,_,_=>by cases h
 | x :: r,a,0,h,hd,hb,ht=>by
  simp only [List.getElem?_cons_zero,Option.some.injEq] at h;subst h;unfold qbO;rw [if_pos hb,qdW (by simpa using hd)];have ht2:x.2.1 < a.tmps.size:=Nat.le_of_ble_eq_true ht;simp [Act.put,ht2]
 | x :: r,a,k+1,h,hd,hb,ht=>by
  unfold qbO;refine qfN k (by simpa using h) (by simpa using hd) hb ?_
  by_cases hx:b x.1=true
  ·rw [if_pos hx]
   simpa [Act.put] using ht
  ·rw [if_neg hx];exact ht
theorem qxP {a:Act} {s t:Tmp} {u v:Value} (h:s ≠ t):(a.put (some s) u).put (some t) v=(a.put (some t) v).put (some s) u:=by
 simp only [Act.put];rw [Array.setIfInBounds_comm _ _ h]
theorem qiK {b:Nat→Bool} {t:Tmp} {v:Value}:∀ {L:List (Nat × Tmp × Value)} {a:Act},(L.all fun e=>!(e.2.1==t))=true→(qbO a b L).put (some t) v=qbO (a.put (some t) v) b L
 | [],_,_=>rfl
 | e :: r,a,h=>by
  rw [List.all_cons,Bool.and_eq_true] at h;have he:e.2.1 ≠ t:=by simpa using h.1
  unfold qbO
  by_cases hb:b e.1=true
  ·rw [if_pos hb,if_pos hb,qiK h.2,qxP he]
  ·rw [if_neg hb,if_neg hb];exact qiK h.2
theorem qhH {b:Nat→Bool} {i:Nat}:∀ {L:List (Nat × Tmp × Value)} {a:Act},(L.all fun e=>!(e.1==i))=true→qbO a (up b i) L=qbO a b L
 | [],_,_=>rfl
 | e :: r,a,h=>by
  rw [List.all_cons,Bool.and_eq_true] at h;have he:e.1 ≠ i:=by simpa using h.1
  unfold qbO;rw [qfL he];exact qhH h.2
theorem qnZ {b:Nat→Bool} {i:Nat} {t:Tmp} {v0 v:Value}:∀ {L1 L2:List (Nat × Tmp × Value)} {a:Act},b i=false→((L1 ++ L2).all fun e=>!(e.1==i) && !(e.2.1==t))=true →
  (qbO a b (L1 ++ (i,t,v0) :: L2)).put (some t) v=qbO a (up b i) (L1 ++ (i,t,v) :: L2)
 | [],L2,a,hb,h=>by
  simp only [List.nil_append] at h ⊢;have h1:(L2.all fun e=>!(e.1==i))=true:=List.all_eq_true.2 (fun e he=>by have:=List.all_eq_true.1 h e he;simp only [Bool.and_eq_true] at this;exact this.1);have h2:(L2.all fun e=>!(e.2.1==t))=true:=List.all_eq_true.2 (fun e he=>by have:=List.all_eq_true.1 h e he;simp only [Bool.and_eq_true] at this;exact this.2);unfold qbO;rw [if_neg (by rw [hb];decide),if_pos (qiI b i),qiK h2,qhH h1]
 | e :: r,L2,a,hb,h=>by
  simp only [List.cons_append,List.all_cons,Bool.and_eq_true] at h;have he:e.1 ≠ i:=by simpa using h.1.1
  simp only [List.cons_append];unfold qbO;rw [qfL he];exact qnZ hb h.2
theorem qdV {b:Nat→Bool} {i:Nat} {t:Tmp} {v0 v:Value} {a:Act} {L L':List (Nat × Tmp × Value)} (k:Nat) (hb:b i=false) (hL:L[k]?=some (i,t,v0)) (hL':L.set k (i,t,v)=L') (hd:((L.take k ++ L.drop (k+1)).all fun e=>!(e.1==i) && !(e.2.1==t))=true) :
  (qbO a b L).put (some t) v=qbO a (up b i) L':=by
 have hk:=(List.getElem?_eq_some_iff.1 hL).1
 have h1:L=L.take k ++ (i,t,v0) :: L.drop (k+1):=by
  have h2:L[k]=(i,t,v0):=(List.getElem?_eq_some_iff.1 hL).2;rw [← h2,List.getElem_cons_drop,List.take_append_drop]
 have h3:L'=L.take k ++ (i,t,v) :: L.drop (k+1):=by rw [← hL',List.set_eq_take_append_cons_drop,if_pos hk]
 rw [h3]
 conv=>lhs;rw [h1]
 exact qnZ hb hd
theorem qeW {b:Nat→Bool} {i:Nat} {L:List (Nat × Tmp × Value)} {a:Act} {v:Value} (h:(L.all fun e=>!(e.1==i))=true):(qbO a b L).put none v=qbO a (up b i) L:=(qhH h).symm
theorem vcT {l:Array Bool} {fuel:Nat} {a:Act} {w:World} (O:List Nat) (I:(Nat→Bool)→Act→World→Prop) (hT:qfA md ops=T) (hw:qdT T.2 B=true) (hk:qeL T.2 O=true)
  (hl:(lof T.2.length O (fun _=>false)==l.toList && O.length==fuel)=true) (h0:I (fun _=>false) a w) (hs:∀ i ∈ O,qzT P ops Q B O I i)
  (hend:∀ b a w,(∀ j,O.contains j=true→b j=true)→I b a w→Q .normal a w):qbG P md ops Q (fun _=>True) [] fuel l a w:=by
 rw [Bool.and_eq_true,beq_iff_eq,beq_iff_eq] at hl;have h1:=vbH hT hw hk I hs hend fuel (fun _=>false) a w (by rw [← hl.2];simp) (fun d r _ _ hb=>by cases hb) h0;have h2:(lof T.2.length O (fun _=>false)).toArray=l:=by apply Array.ext';exact hl.1
 rw [h2] at h1;exact h1
end
end Go.Proofs.YtdlimghdimkadaaGreatDoorW.PrintLast
namespace Go.Proofs.YtdlimghdimkadaaGreatDoorW.PrintMore
open Go.RowKit YtdlimghdimkadaaGreatDoorW.PrintWords
theorem qdS (k k':IntKind) (x y:Int):Builtin.max2 (.int k x) (.int k' y)=pure (.int k (if x < y then y else x)):=by simp only [Builtin.max2,gt_iff_lt]
theorem qdQ (k k':IntKind) (x y:Int):Builtin.min2 (.int k x) (.int k' y)=pure (.int k (if y < x then y else x)):=by simp only [Builtin.min2]
theorem qeJ (ats:Array TypeId) (ty:TypeId) (a b:Value):Builtin.max_ ats ty #[a,b]=(Builtin.max2 a b >>= fun s=>pure s):=by simp only [Builtin.max_,List.foldlM_cons,List.foldlM_nil]
theorem qeI (ats:Array TypeId) (ty:TypeId) (a b:Value):Builtin.min_ ats ty #[a,b]=(Builtin.min2 a b >>= fun s=>pure s):=by simp only [Builtin.min_,List.foldlM_cons,List.foldlM_nil]
theorem qcV (ats:Array TypeId) (ty:TypeId) (a b c:Value):Builtin.max_ ats ty #[a,b,c]=(Builtin.max2 a b >>= fun s=>Builtin.max2 s c >>= fun s=>pure s):=by simp only [Builtin.max_,List.foldlM_cons,List.foldlM_nil]
theorem qcU (ats:Array TypeId) (ty:TypeId) (a b c:Value):Builtin.min_ ats ty #[a,b,c]=(Builtin.min2 a b >>= fun s=>Builtin.min2 s c >>= fun s=>pure s):=by simp only [Builtin.min_,List.foldlM_cons,List.foldlM_nil]
theorem qdR (ats:Array TypeId) (ty:TypeId) (a b c d:Value):Builtin.max_ ats ty #[a,b,c,d]=(Builtin.max2 a b >>= fun s=>Builtin.max2 s c >>= fun s=>Builtin.max2 s d >>= fun s=>pure s):=by simp only [Builtin.max_,List.foldlM_cons,List.foldlM_nil]
theorem qdP (ats:Array TypeId) (ty:TypeId) (a b c d:Value):Builtin.min_ ats ty #[a,b,c,d]=(Builtin.min2 a b >>= fun s=>Builtin.min2 s c >>= fun s=>Builtin.min2 s d >>= fun s=>pure s):=by simp only [Builtin.min_,List.foldlM_cons,List.foldlM_nil]
end Go.Proofs.YtdlimghdimkadaaGreatDoorW.PrintMore
namespace Go.Proofs.YtdlimghdimkadaaGreatDoorW.PrintWords
open Go.RowKit
section
variable {P:Program} {ops:Array Oper} {rest:List Oper} {o:Oper} {a:Act} {Q:Exit→Act→World→Prop} {W:World}
theorem qbP {f:FuncId} {as_:Array Operand} {ts:Array TypeId} (_ho:o.op=.call { callee:=.value (.func f),args:=as_,argTypes:=ts }) (h:wpList P ops Q (o :: rest) a W):wpList P ops Q (o :: rest) a W:=h
theorem qbC {b:Builtin} {xs:Array Operand} {ts:Array TypeId} (_ho:o.op=.call { callee:=.builtin b,args:=xs,argTypes:=ts }) (h:wpList P ops Q (o :: rest) a W):wpList P ops Q (o :: rest) a W:=h
end
def mn (a b:Int):Int:=if b < a then b else a
def shl (k:IntKind) (x y:Int):Int:=k.wrap (x*2 ^ min y.toNat k.bits)
def shr (k:IntKind) (x y:Int):Int:=x / 2 ^ min y.toNat k.bits
theorem qnP {k:IntKind} {x y j:Int} (h:shl k x y=j) (hy:y≤k.bits):k.wrap (x*2 ^ y.toNat)=j:=by rw [← h];unfold shl;rw [Nat.min_eq_left (by omega)]
theorem quK {k:IntKind} {x y j:Int} (h:shr k x y=j) (hy:y≤k.bits):x / 2 ^ y.toNat=j:=by rw [← h];unfold shr;rw [Nat.min_eq_left (by omega)]
end Go.Proofs.YtdlimghdimkadaaGreatDoorW.PrintWords
namespace Go.Proofs.YtdlimghdimkadaaGreatDoorW.PrintWords
open Go.RowKit
end Go.Proofs.YtdlimghdimkadaaGreatDoorW.PrintWords
namespace Go.Proofs.YtdlimghdimkadaaGreatDoorW.PrintLast
section
variable {ops:Array Oper} {a:Act} {o og:Oper} {g:Nat} {t:Tmp} {u:Bool}
theorem qeD {b:Nat→Bool} {j:Nat} (hj:b j=false):∀ {L:List (Nat × Tmp × Value)} {a:Act},(L.all fun e=>!(e.2.1==t) || e.1==j)=true→(qbO a b L).tmps[t]?=a.tmps[t]?
 | [],_,_=>rfl
 | e :: r,a,h=>by
  rw [List.all_cons,Bool.and_eq_true] at h;unfold qbO
  by_cases hb:b e.1=true
  ·rw [if_pos hb,qeD hj h.2]
   have he:e.2.1 ≠ t:=by
    intro ht;rw [Bool.or_eq_true] at h
    rcases h.1 with h1|h1
    ·simp [ht] at h1
    ·rw [beq_iff_eq] at h1;rw [h1,hj] at hb
     cases hb
   simp [Act.put,Array.getElem?_setIfInBounds_ne he]
  ·rw [if_neg hb];exact qeD hj h.2
theorem qaL (hg:o.guard=some (g,u)) (ho:ops[g]?=some og) (hd:og.dst=some t) (hv:a.tmps[t]?=some (.bool u)):Region.wanted o (yielded ops a.tmps)=true:=by
 simp [Region.wanted,hg,yielded,ho,hd,hv]
theorem qaO (hg:o.guard=some (g,u)) (ho:ops[g]?=some og) (hd:og.dst=some t) (hv:a.tmps[t]?=some (.bool (!u))):Region.wanted o (yielded ops a.tmps)=false:=by
 cases u <;> simp_all [Region.wanted,yielded]
end
end Go.Proofs.YtdlimghdimkadaaGreatDoorW.PrintLast
namespace Go.Proofs.YtdlimghdimkadaaGreatDoorW.PrintWords
theorem qfK.one {α:Type} {R:α→List Value→Prop} {ps:List α} {cs:List Value} {p:α} {v:Value} (hp:R p [v]) (h:qfK R 1 ps cs):qfK R 1 (p :: ps) (v :: cs):=by
 refine ⟨by simp [h.1],fun j q hq=>?_⟩
 cases j with
 | zero =>
  simp only [List.getElem?_cons_zero,Option.some.injEq] at hq;subst hq
  simpa using hp
 | succ j =>
  simp only [List.getElem?_cons_succ] at hq;have h1:=h.2 j q hq
  simpa [Nat.mul_one] using h1
end Go.Proofs.YtdlimghdimkadaaGreatDoorW.PrintWords
namespace Go.Proofs.YtdlimghdimkadaaGreatDoorW.PrintWords
open Go.RowKit
section
variable {P:Program} {ops:Array Oper} {rest:List Oper} {o:Oper} {a:Act} {Q:Exit→Act→World→Prop} {W:World}
theorem qcY (hw:Region.wanted o (yielded ops a.tmps)=true) (h:wpList P ops Q ({ o with guard:=none } :: rest) a W):wpList P ops Q (o :: rest) a W:=by
 have h1:Region.wanted { o with guard:=none } (yielded ops a.tmps)=true:=rfl;unfold wpList at h ⊢;rw [if_pos h1] at h;rw [if_pos hw];exact h
end
end Go.Proofs.YtdlimghdimkadaaGreatDoorW.PrintWords
namespace Go.Proofs.YtdlimghdimkadaaGreatDoor.PAll
open Go Go.RowKit YtdlimghdimkadaaGreatDoorW.PrintWords YtdlimghdimkadaaGreatDoorW.PrintLast YtdlimghdimkadaaGreatDoorW.PrintMore
attribute [local go_sem] qdS qdQ qeJ qeI qcV qcU qdR qdP
section
attribute [local go_sem] qdS qdQ qeJ qeI qcV qcU qdR qdP   
theorem qgP {α:Type} {R:α→List Value→Prop} {size:Nat} {w:World} {A:Option Addr} {n m:Nat} {ps:List α} (e:n=m) (h:qcF R size w A n ps):qcF R size w A m ps:=e ▸ h
theorem qdK:(Tryz.prog.info? 5).map (fun i=>(i.zero,i.size,i.bytes))=some (some (.int .u8 0),1,1):=by kernel_rfl
theorem qzM:(Tryz.prog.info? 68).map (fun i=>(i.zero,i.size,i.bytes))=some (some (.agg #[(.int .i64 0),(.int .i64 0),(.int .i64 0),(.int .i64 0),(.int .u64 0),(.bool false)]),6,48):=by kernel_rfl
structure S83 where
 f0:Int
 f1:Int
 f2:Int
def z83:S83:=⟨(0:Int),(0:Int),(0:Int)⟩
def k83:Kd S83:=Kd.iso (Kd.pair (Kd.int .i64) (Kd.pair (Kd.int .i64) (Kd.int .i64))) (fun x:S83=>(x.f0,x.f1,x.f2))
theorem qyE {w:World} {x:S83} {cs:List Value} (h:k83.K w x cs):cs=[.int .i64 x.f0,.int .i64 x.f1,.int .i64 x.f2]:=by
 obtain ⟨_,_,rfl,rfl,⟨_,_,rfl,rfl,rfl⟩⟩:=h;exact rfl
def qaT (xs:List S83) (i:Int):S83:=xs.getD i.toNat z83
theorem qwW {w:World} {A:Option Addr} {n:Nat} {xs:List S83} (h:Kd.C k83 w A n xs) (i:Int) (h0:0≤i) (h1:i < n):∃ ad , A=some ad∧w.cell? (ad.add (i.toNat*3))=some (.int .i64 (qaT xs i).f0)∧w.cell? ⟨(ad.add (i.toNat*3)).block,(ad.add (i.toNat*3)).off+1,none⟩=some (.int .i64 (qaT xs i).f1)∧w.cell? ⟨(ad.add (i.toNat*3)).block,(ad.add (i.toNat*3)).off+2,none⟩=some (.int .i64 (qaT xs i).f2):=by
 obtain ⟨ad,c,e,_,hK,hc0⟩:=Kd.C_get h z83 i h0 h1;have hc:∀ j u,c[j]?=some u→w.cell? (ad.add (i.toNat*3+j))=some u:=hc0;obtain rfl:=qyE hK;exact ⟨ad,e,hc 0 _ rfl,by rw [← qcB _ _ 1 (by omega)];exact hc 1 _ rfl,by rw [← qcB _ _ 2 (by omega)];exact hc 2 _ rfl⟩
structure S68 where
 f0:Int
 f1:Int
 f2:Int
 f3:Int
 f4:Int
 f5:Bool
def z68:S68:=⟨(0:Int),(0:Int),(0:Int),(0:Int),(0:Int),false⟩
def k68:Kd S68:=Kd.iso (Kd.pair (Kd.int .i64) (Kd.pair (Kd.int .i64) (Kd.pair (Kd.int .i64) (Kd.pair (Kd.int .i64) (Kd.pair (Kd.int .u64) Kd.bool))))) (fun x:S68=>(x.f0,x.f1,x.f2,x.f3,x.f4,x.f5))
theorem qyF {w:World} {x:S68} {cs:List Value} (h:k68.K w x cs):cs=[.int .i64 x.f0,.int .i64 x.f1,.int .i64 x.f2,.int .i64 x.f3,.int .u64 x.f4,.bool x.f5]:=by
 obtain ⟨_,_,rfl,rfl,⟨_,_,rfl,rfl,⟨_,_,rfl,rfl,⟨_,_,rfl,rfl,⟨_,_,rfl,rfl,rfl⟩⟩⟩⟩⟩:=h;exact rfl
theorem qqG (w:World) (base:Nat) (ok:Nat→Prop) (x:S68) :k68.M w base ok x [.int .i64 x.f0,.int .i64 x.f1,.int .i64 x.f2,.int .i64 x.f3,.int .u64 x.f4,.bool x.f5]:=⟨[.int .i64 x.f0],[.int .i64 x.f1,.int .i64 x.f2,.int .i64 x.f3,.int .u64 x.f4,.bool x.f5],rfl,rfl,⟨[.int .i64 x.f1],[.int .i64 x.f2,.int .i64 x.f3,.int .u64 x.f4,.bool x.f5],rfl,rfl,⟨[.int .i64 x.f2],[.int .i64 x.f3,.int .u64 x.f4,.bool x.f5],rfl,rfl,⟨[.int .i64 x.f3],[.int .u64 x.f4,.bool x.f5],rfl,rfl,⟨[.int .u64 x.f4],[.bool x.f5],rfl,rfl,rfl⟩⟩⟩⟩⟩
def qbK (xs:List S68) (i:Int):S68:=xs.getD i.toNat z68
theorem qkX {w:World} {A:Option Addr} {n:Nat} {xs:List S68} (h:Kd.C k68 w A n xs) (i:Int) (h0:0≤i) (h1:i < n):∃ ad , A=some ad∧w.cell? (ad.add (i.toNat*6))=some (.int .i64 (qbK xs i).f0)∧w.cell? ⟨(ad.add (i.toNat*6)).block,(ad.add (i.toNat*6)).off+1,none⟩=some (.int .i64 (qbK xs i).f1)∧w.cell? ⟨(ad.add (i.toNat*6)).block,(ad.add (i.toNat*6)).off+2,none⟩=some (.int .i64 (qbK xs i).f2)∧w.cell? ⟨(ad.add (i.toNat*6)).block,(ad.add (i.toNat*6)).off+3,none⟩=some (.int .i64 (qbK xs i).f3)∧w.cell? ⟨(ad.add (i.toNat*6)).block,(ad.add (i.toNat*6)).off+4,none⟩=some (.int .u64 (qbK xs i).f4)∧w.cell? ⟨(ad.add (i.toNat*6)).block,(ad.add (i.toNat*6)).off+5,none⟩=some (.bool (qbK xs i).f5):=by
 obtain ⟨ad,c,e,_,hK,hc0⟩:=Kd.C_get h z68 i h0 h1;have hc:∀ j u,c[j]?=some u→w.cell? (ad.add (i.toNat*6+j))=some u:=hc0;obtain rfl:=qyF hK;exact ⟨ad,e,hc 0 _ rfl,by rw [← qcB _ _ 1 (by omega)];exact hc 1 _ rfl,by rw [← qcB _ _ 2 (by omega)];exact hc 2 _ rfl,by rw [← qcB _ _ 3 (by omega)];exact hc 3 _ rfl,by rw [← qcB _ _ 4 (by omega)];exact hc 4 _ rfl,by rw [← qcB _ _ 5 (by omega)];exact hc 5 _ rfl⟩
structure qpM where
 f0:Int
 f1:Int
 f2:Int
 f3:Int
 f4:Int
 f5:Bool
def z122:qpM:=⟨(0:Int),(0:Int),(0:Int),(0:Int),(0:Int),false⟩
def vbF:Kd qpM:=Kd.iso (Kd.pair (Kd.int .i64) (Kd.pair (Kd.int .i64) (Kd.pair (Kd.int .i64) (Kd.pair (Kd.int .i64) (Kd.pair (Kd.int .u64) Kd.bool))))) (fun x:qpM=>(x.f0,x.f1,x.f2,x.f3,x.f4,x.f5))
theorem qvY {w:World} {x:qpM} {cs:List Value} (h:vbF.K w x cs):cs=[.int .i64 x.f0,.int .i64 x.f1,.int .i64 x.f2,.int .i64 x.f3,.int .u64 x.f4,.bool x.f5]:=by
 obtain ⟨_,_,rfl,rfl,⟨_,_,rfl,rfl,⟨_,_,rfl,rfl,⟨_,_,rfl,rfl,⟨_,_,rfl,rfl,rfl⟩⟩⟩⟩⟩:=h;exact rfl
theorem qrT (w:World) (base:Nat) (ok:Nat→Prop) (x:qpM) :vbF.M w base ok x [.int .i64 x.f0,.int .i64 x.f1,.int .i64 x.f2,.int .i64 x.f3,.int .u64 x.f4,.bool x.f5]:=⟨[.int .i64 x.f0],[.int .i64 x.f1,.int .i64 x.f2,.int .i64 x.f3,.int .u64 x.f4,.bool x.f5],rfl,rfl,⟨[.int .i64 x.f1],[.int .i64 x.f2,.int .i64 x.f3,.int .u64 x.f4,.bool x.f5],rfl,rfl,⟨[.int .i64 x.f2],[.int .i64 x.f3,.int .u64 x.f4,.bool x.f5],rfl,rfl,⟨[.int .i64 x.f3],[.int .u64 x.f4,.bool x.f5],rfl,rfl,⟨[.int .u64 x.f4],[.bool x.f5],rfl,rfl,rfl⟩⟩⟩⟩⟩
def qaQ (xs:List qpM) (i:Int):qpM:=xs.getD i.toNat z122
theorem qbY {w:World} {A:Option Addr} {n:Nat} {xs:List qpM} (h:Kd.C vbF w A n xs) (i:Int) (h0:0≤i) (h1:i < n):∃ ad , A=some ad∧w.cell? (ad.add (i.toNat*6))=some (.int .i64 (qaQ xs i).f0)∧w.cell? ⟨(ad.add (i.toNat*6)).block,(ad.add (i.toNat*6)).off+1,none⟩=some (.int .i64 (qaQ xs i).f1)∧w.cell? ⟨(ad.add (i.toNat*6)).block,(ad.add (i.toNat*6)).off+2,none⟩=some (.int .i64 (qaQ xs i).f2)∧w.cell? ⟨(ad.add (i.toNat*6)).block,(ad.add (i.toNat*6)).off+3,none⟩=some (.int .i64 (qaQ xs i).f3)∧w.cell? ⟨(ad.add (i.toNat*6)).block,(ad.add (i.toNat*6)).off+4,none⟩=some (.int .u64 (qaQ xs i).f4)∧w.cell? ⟨(ad.add (i.toNat*6)).block,(ad.add (i.toNat*6)).off+5,none⟩=some (.bool (qaQ xs i).f5):=by
 obtain ⟨ad,c,e,_,hK,hc0⟩:=Kd.C_get h z122 i h0 h1;have hc:∀ j u,c[j]?=some u→w.cell? (ad.add (i.toNat*6+j))=some u:=hc0;obtain rfl:=qvY hK;exact ⟨ad,e,hc 0 _ rfl,by rw [← qcB _ _ 1 (by omega)];exact hc 1 _ rfl,by rw [← qcB _ _ 2 (by omega)];exact hc 2 _ rfl,by rw [← qcB _ _ 3 (by omega)];exact hc 3 _ rfl,by rw [← qcB _ _ 4 (by omega)];exact hc 4 _ rfl,by rw [← qcB _ _ 5 (by omega)];exact hc 5 _ rfl⟩
end
section
abbrev jC:=@Joins.cell_of_block
theorem qaE {W w1:World} {g t:Nat} {cs:Array Value} (h:W.heap[g]?=some (.cells cs t (0,0))) (hb:Below W.heap.size W w1):w1.heap[g]?=some (.cells cs t (0,0)):=by
 rw [hb.block g (qbR h)];exact h
theorem qaV (W:World) (cs:Array Value) (t:Nat):(W.alloc (.cells cs t)).heap[W.heap.size]?=some (.cells cs t (0,0)):=Array.getElem?_push_size
theorem qbI {W w1:World} {a:Addr} {v:Value} (h:W.cell? a=some v) (hb:Below W.heap.size W w1):w1.cell? a=some v:=by
 have hlt:=World.block_lt_of_cell? _ _ h;unfold World.cell? at h ⊢;rw [hb.block _ hlt];exact h
end
section
structure F3 where
 f0:Int
 f1:Int
 f2:Int
def zF:F3:=⟨(0:Int),(0:Int),(0:Int)⟩
def kF:Kd F3:=Kd.iso (Kd.pair (Kd.int .i64) (Kd.pair (Kd.int .i64) (Kd.int .i64))) (fun x:F3=>(x.f0,x.f1,x.f2))
theorem vbE {w:World} {x:F3} {cs:List Value} (h:kF.K w x cs):cs=[.int .i64 x.f0,.int .i64 x.f1,.int .i64 x.f2]:=by
 obtain ⟨_,_,rfl,rfl,⟨_,_,rfl,rfl,rfl⟩⟩:=h;exact rfl
def qpW (xs:List F3) (i:Int):F3:=xs.getD i.toNat zF
theorem vdO {w:World} {A:Option Addr} {n:Nat} {xs:List F3} (h:Kd.C kF w A n xs) (i:Int) (h0:0≤i) (h1:i < n):∃ ad , A=some ad∧w.cell? (ad.add (i.toNat*3))=some (.int .i64 (qpW xs i).f0)∧w.cell? ⟨(ad.add (i.toNat*3)).block,(ad.add (i.toNat*3)).off+1,none⟩=some (.int .i64 (qpW xs i).f1)∧w.cell? ⟨(ad.add (i.toNat*3)).block,(ad.add (i.toNat*3)).off+2,none⟩=some (.int .i64 (qpW xs i).f2):=by
 obtain ⟨ad,c,e,_,hK,hc0⟩:=Kd.C_get h zF i h0 h1;have hc:∀ j u,c[j]?=some u→w.cell? (ad.add (i.toNat*3+j))=some u:=hc0;obtain rfl:=vbE hK;exact ⟨ad,e,hc 0 _ rfl,by rw [← qcB _ _ 1 (by omega)];exact hc 1 _ rfl,by rw [← qcB _ _ 2 (by omega)];exact hc 2 _ rfl⟩
abbrev kB:Kd Int:=Kd.int .u8
structure Pg where
 st:Int
 d:Value
structure Bk where
 bad:Bool
 er:Int
 nx:Int
 pg:Nat→Pg
structure Geo where
 B:Nat
 P:Nat
 Z:Nat
 R:Int
def GOK (g:Geo):Prop:=(16≤g.B∧g.B≤256)∧(8≤g.P∧g.P≤64)∧(64≤g.Z∧g.Z≤512)
structure Ch where
 g:Geo
 plan:Value
 pl:List F3
 frm:Int
 off:Bool
 ops:Int
 wrong:Int
 bk:Nat→Bk
def Ch.setBk (m:Ch) (i:Nat) (b:Bk):Ch:={ m with bk:=fun x=>if x=i then b else m.bk x }
def Bk.setPg (b:Bk) (j:Nat) (p:Pg):Bk:={ b with pg:=fun x=>if x=j then p else b.pg x }
def cC (gb:Nat) (m:Ch):Array Value:=#[.int .i64 m.g.B,.int .i64 m.g.P,.int .i64 m.g.Z,.int .i64 m.g.R,.slice (some ⟨gb,0,none⟩) m.g.B m.g.B,m.plan,.int .i64 m.frm,.bool m.off,.int .i64 m.ops,.int .i64 m.wrong]
def qgY (gp:Nat→Nat) (m:Ch) (k:Nat):Value :=
 if k % 4=0 then .bool (m.bk (k / 4)).bad else if k % 4=1 then .int .i64 (m.bk (k / 4)).er else if k % 4=2 then .slice (some ⟨gp (k / 4),0,none⟩) m.g.P m.g.P else .int .i64 (m.bk (k / 4)).nx
def cB (gp:Nat→Nat) (m:Ch):Array Value:=Array.ofFn fun k:Fin (m.g.B*4)=>qgY gp m k.val
def qkK (b:Bk) (k:Nat):Value:=if k % 2=0 then .int .i64 (b.pg (k / 2)).st else (b.pg (k / 2)).d
def cP (P:Nat) (b:Bk):Array Value:=Array.ofFn fun k:Fin (P*2)=>qkK b k.val
theorem vdE (gp:Nat→Nat) (m:Ch) (k:Nat) (h:k < m.g.B*4):(cB gp m)[k]?=some (qgY gp m k):=by
 unfold cB;rw [Array.getElem?_ofFn,dif_pos h]
theorem qzQ (P:Nat) (b:Bk) (k:Nat) (h:k < P*2):(cP P b)[k]?=some (qkK b k):=by
 unfold cP;rw [Array.getElem?_ofFn,dif_pos h]
theorem qgS {n:Nat} (f g:Nat→Value) (k:Nat) (v:Value) (hk:g k=v) (hne:∀ x,x ≠ k→g x=f x):(Array.ofFn fun x:Fin n=>f x.val).setIfInBounds k v=Array.ofFn fun x:Fin n=>g x.val:=by
 apply Array.ext_getElem?;intro i;rw [Array.getElem?_setIfInBounds,Array.getElem?_ofFn,Array.getElem?_ofFn]
 by_cases hi:i < n
 ·by_cases hik:k=i
  ·subst hik;rw [if_pos rfl,if_pos (by simpa using hi),dif_pos hi,hk]
  ·rw [if_neg hik,dif_pos hi,dif_pos hi,hne i (fun h=>hik h.symm)]
 ·by_cases hik:k=i
  ·subst hik;rw [if_pos rfl,if_neg (by simpa using hi),dif_neg hi]
  ·rw [if_neg hik,dif_neg hi,dif_neg hi]
structure St (w0 W:World) (gc gb:Nat) (gp:Nat→Nat) (m:Ch) (D:Nat→Nat→List Int):Prop where
 c:W.heap[gc]?=some (.cells (cC gb m) 92 (0,0))
 b:W.heap[gb]?=some (.cells (cB gp m) 97 (0,0))
 p:∀ i,i < m.g.B→W.heap[gp i]?=some (.cells (cP m.g.P (m.bk i)) 159 (0,0))
 inj:∀ i j,i < m.g.B→j < m.g.B→gp i=gp j→i=j
 ec:w0.heap.size≤gc
 eb:w0.heap.size≤gb
 ep:∀ i,i < m.g.B→w0.heap.size≤gp i
 d:∀ i j,i < m.g.B→j < m.g.P→Kd.R kB 5 W w0.heap.size (fun _=>True) ((m.bk i).pg j).d (D i j)
 pln:Kd.R kF 83 W w0.heap.size (fun _=>True) m.plan m.pl
 below:Below w0.heap.size w0 W
 gok:GOK m.g
section
variable {w0 W W':World} {gc gb:Nat} {gp:Nat→Nat} {m m':Ch} {D D':Nat→Nat→List Int}
theorem St.grow (h:St w0 W gc gb gp m D) (hb:Below W.heap.size W W'):St w0 W' gc gb gp m D :=
 ⟨qaE h.c hb,qaE h.b hb,fun i hi=>qaE (h.p i hi) hb,h.inj,h.ec,h.eb,h.ep,fun i j hi hj=>Kd.R_below (h.d i j hi hj) hb,Kd.R_below h.pln hb,qaF h.below hb,h.gok⟩
theorem qbE {W:World} {g g' t t':Nat} {cs cs':Array Value} (h:W.heap[g]?=some (.cells cs t (0,0))) (h':W.heap[g']?=some (.cells cs' t' (0,0))) (ht:t ≠ t'):g ≠ g':=fun e=>by
 subst e;rw [h] at h';simp only [Option.some.injEq,Obj.cells.injEq] at h';exact ht h'.2.1
theorem St.setC (h:St w0 W gc gb gp m D) (k:Nat) (v:Value) (hm:(cC gb m).setIfInBounds k v=cC gb m') (hgo:m'.g=m.g) (hb:m'.bk=m.bk) (hpl:Kd.R kF 83 W w0.heap.size (fun _=>True) m'.plan m'.pl):St w0 (W.setCell ⟨gc,k,none⟩ v) gc gb gp m' D:=by
 have hB:cB gp m'=cB gp m:=by unfold cB qgY;rw [hb,hgo]
 refine ⟨hm ▸ qbW h.c k v,?_,fun i hi=>?_,by rw [hgo];exact h.inj,h.ec,h.eb,by rw [hgo];exact h.ep,fun i j hi hj=>?_,Kd.R_set hpl h.c (by decide) _ _,qaH h.below h.ec,by rw [hgo];exact h.gok⟩
 ·rw [hB];exact qaR h.b (qbE h.b h.c (by decide)) _
 ·rw [hgo] at hi ⊢;rw [hb];exact qaR (h.p i hi) (qbE (h.p i hi) h.c (by decide)) _
 ·rw [hgo] at hi hj;rw [hb];exact Kd.R_set (h.d i j hi hj) h.c (by decide) _ _
theorem St.setB (h:St w0 W gc gb gp m D) (k:Nat) (v:Value) (hm:(cB gp m).setIfInBounds k v=cB gp m') (hgo:m'.g=m.g) (hC:cC gb m'=cC gb m) (hp:∀ i,i < m.g.B→(m'.bk i).pg=(m.bk i).pg) (hpl:m'.plan=m.plan∧m'.pl=m.pl):St w0 (W.setCell ⟨gb,k,none⟩ v) gc gb gp m' D:=by
 have hP:∀ i,i < m.g.B→cP m.g.P (m'.bk i)=cP m.g.P (m.bk i):=fun i hi=>by unfold cP qkK;rw [hp i hi]
 refine ⟨?_,hm ▸ qbW h.b k v,fun i hi=>?_,by rw [hgo];exact h.inj,h.ec,h.eb,by rw [hgo];exact h.ep,fun i j hi hj=>?_,by rw [hpl.1,hpl.2];exact Kd.R_set h.pln h.b (by decide) _ _,qaH h.below h.eb,by rw [hgo];exact h.gok⟩
 ·rw [hC];exact qaR h.c (qbE h.c h.b (by decide)) _
 ·rw [hgo] at hi ⊢;rw [hP i hi];exact qaR (h.p i hi) (qbE (h.p i hi) h.b (by decide)) _
 ·rw [hgo] at hi hj;rw [hp i hi];exact Kd.R_set (h.d i j hi hj) h.b (by decide) _ _
theorem St.setP (h:St w0 W gc gb gp m D) (i:Nat) (hi:i < m.g.B) (k:Nat) (v:Value) (hm:(cP m.g.P (m.bk i)).setIfInBounds k v=cP m.g.P (m'.bk i)) (hgo:m'.g=m.g) (hC:cC gb m'=cC gb m) (hB:cB gp m'=cB gp m) (ho:∀ x,x < m.g.B→x ≠ i→m'.bk x=m.bk x)
  (hd:∀ x j,x < m.g.B→j < m.g.P→Kd.R kB 5 W w0.heap.size (fun _=>True) ((m'.bk x).pg j).d (D' x j)) (hpl:m'.plan=m.plan∧m'.pl=m.pl):St w0 (W.setCell ⟨gp i,k,none⟩ v) gc gb gp m' D':=by
 refine ⟨?_,?_,fun x hx=>?_,by rw [hgo];exact h.inj,h.ec,h.eb,by rw [hgo];exact h.ep,fun x j hx hj=>?_,by rw [hpl.1,hpl.2];exact Kd.R_set h.pln (h.p i hi) (by decide) _ _,qaH h.below (h.ep i hi),by rw [hgo];exact h.gok⟩
 ·rw [hC];exact qaR h.c (qbE h.c (h.p i hi) (by decide)) _
 ·rw [hB];exact qaR h.b (qbE h.b (h.p i hi) (by decide)) _
 ·rw [hgo] at hx ⊢
  by_cases hxi:x=i
  ·subst hxi;exact hm ▸ qbW (h.p x hx) k v
  ·rw [ho x hx hxi];exact qaR (h.p x hx) (fun e=>hxi (h.inj x i hx hi e)) _
 ·rw [hgo] at hx hj;exact Kd.R_set (hd x j hx hj) (h.p i hi) (by decide) _ _
end
theorem vdY (gp:Nat→Nat) (m:Ch) (i:Nat) (x:Int):(cB gp m).setIfInBounds (i*4+3) (.int .i64 x)=cB gp (m.setBk i { m.bk i with nx:=x }):=by
 refine qgS (qgY gp m) _ _ _ ?_ (fun k hk=>?_)
 ·unfold qgY Ch.setBk;rw [show (i*4+3) % 4=3 by omega,show (i*4+3) / 4=i by omega];simp
 ·unfold qgY Ch.setBk
  by_cases h:k / 4=i
  ·have h4:k % 4=0∨k % 4=1∨k % 4=2:=by omega
   rcases h4 with h4|h4|h4 <;> simp [h,h4]
  ·simp [h]
theorem vdZ (gp:Nat→Nat) (m:Ch) (i:Nat) (x:Int):(cB gp m).setIfInBounds (i*4+1) (.int .i64 x)=cB gp (m.setBk i { m.bk i with er:=x }):=by
 refine qgS (qgY gp m) _ _ _ ?_ (fun k hk=>?_)
 ·unfold qgY Ch.setBk;rw [show (i*4+1) % 4=1 by omega,show (i*4+1) / 4=i by omega];simp
 ·unfold qgY Ch.setBk
  by_cases h:k / 4=i
  ·have h4:k % 4=0∨k % 4=2∨k % 4=3:=by omega
   rcases h4 with h4|h4|h4 <;> simp [h,h4]
  ·simp [h]
theorem vdF (gp:Nat→Nat) (m:Ch) (i:Nat) (x:Bool):(cB gp m).setIfInBounds (i*4) (.bool x)=cB gp (m.setBk i { m.bk i with bad:=x }):=by
 refine qgS (qgY gp m) _ _ _ ?_ (fun k hk=>?_)
 ·unfold qgY Ch.setBk;rw [show (i*4) % 4=0 by omega,show (i*4) / 4=i by omega];simp
 ·unfold qgY Ch.setBk
  by_cases h:k / 4=i
  ·have h4:k % 4=1∨k % 4=2∨k % 4=3:=by omega
   rcases h4 with h4|h4|h4 <;> simp [h,h4]
  ·simp [h]
theorem vdX (P:Nat) (b:Bk) (j:Nat) (x:Int):(cP P b).setIfInBounds (j*2) (.int .i64 x)=cP P (b.setPg j { b.pg j with st:=x }):=by
 refine qgS (qkK b) _ _ _ ?_ (fun k hk=>?_)
 ·unfold qkK Bk.setPg;rw [show (j*2) % 2=0 by omega,show (j*2) / 2=j by omega];simp
 ·unfold qkK Bk.setPg
  by_cases h:k / 2=j
  ·have h4:k % 2=1:=by omega
   rcases h4 with h4 <;> simp [h,h4]
  ·simp [h]
theorem cP_d (P:Nat) (b:Bk) (j:Nat) (v:Value):(cP P b).setIfInBounds (j*2+1) v=cP P (b.setPg j { b.pg j with d:=v }):=by
 refine qgS (qkK b) _ _ _ ?_ (fun k hk=>?_)
 ·unfold qkK Bk.setPg;rw [show (j*2+1) % 2=1 by omega,show (j*2+1) / 2=j by omega];simp
 ·unfold qkK Bk.setPg
  by_cases h:k / 2=j
  ·have h4:k % 2=0:=by omega
   rcases h4 with h4 <;> simp [h,h4]
  ·simp [h]
theorem St.cellC {w0 W:World} {gc gb:Nat} {gp:Nat→Nat} {m:Ch} {D:Nat→Nat→List Int} (h:St w0 W gc gb gp m D) (k:Nat):W.cell? ⟨gc,k,none⟩=(cC gb m)[k]?:=qaJ h.c k
theorem St.cellB {w0 W:World} {gc gb:Nat} {gp:Nat→Nat} {m:Ch} {D:Nat→Nat→List Int} (h:St w0 W gc gb gp m D) (i:Nat) (hi:i < m.g.B) :
  W.cell? ⟨gb,i*4,none⟩=some (.bool (m.bk i).bad)∧W.cell? ⟨gb,i*4+1,none⟩=some (.int .i64 (m.bk i).er)∧W.cell? ⟨gb,i*4+2,none⟩=some (.slice (some ⟨gp i,0,none⟩) m.g.P m.g.P)∧W.cell? ⟨gb,i*4+3,none⟩=some (.int .i64 (m.bk i).nx):=by
 refine ⟨?_,?_,?_,?_⟩ <;> rw [qaJ h.b,vdE _ _ _ (by omega)] <;> unfold qgY
 ·rw [if_pos (by omega),show i*4 / 4=i by omega]
 ·rw [if_neg (by omega),if_pos (by omega),show (i*4+1) / 4=i by omega]
 ·rw [if_neg (by omega),if_neg (by omega),if_pos (by omega),show (i*4+2) / 4=i by omega]
 ·rw [if_neg (by omega),if_neg (by omega),if_neg (by omega),show (i*4+3) / 4=i by omega]
theorem St.cellP {w0 W:World} {gc gb:Nat} {gp:Nat→Nat} {m:Ch} {D:Nat→Nat→List Int} (h:St w0 W gc gb gp m D) (i:Nat) (hi:i < m.g.B) (j:Nat) (hj:j < m.g.P) :
  W.cell? ⟨gp i,j*2,none⟩=some (.int .i64 ((m.bk i).pg j).st)∧W.cell? ⟨gp i,j*2+1,none⟩=some ((m.bk i).pg j).d:=by
 refine ⟨?_,?_⟩ <;> rw [qaJ (h.p i hi),qzQ _ _ _ (by omega)] <;> unfold qkK
 ·rw [if_pos (by omega),show j*2 / 2=j by omega]
 ·rw [if_neg (by omega),show (j*2+1) / 2=j by omega]
end
section
variable {w0 W:World} {gc gb:Nat} {gp:Nat→Nat} {m:Ch} {D:Nat→Nat→List Int}
abbrev cp (gc:Nat):Value:=.pointer (some ⟨gc,0,none⟩)
abbrev bp (gb n:Nat):Value:=.pointer (some ⟨gb,n*4,none⟩)
def qbF (W w':World):Prop:=∀ (k:Nat) (cs:Array Value) (t:Nat) (fr:Nat × Nat),t ≠ 92→t ≠ 97→t ≠ 159→W.heap[k]?=some (.cells cs t fr)→w'.heap[k]?=some (.cells cs t fr)
theorem qbF.of_below {W w':World} (h:Below W.heap.size W w'):qbF W w':=fun k cs t fr _ _ _ hk=>by rw [h.block k (qbR hk)];exact hk
theorem qbF.refl (W:World):qbF W W:=fun _ _ _ _ _ _ _ h=>h
theorem qbF.trans {W w1 w2:World} (h:qbF W w1) (h2:qbF w1 w2):qbF W w2:=fun k cs t fr a b c hk=>h2 k cs t fr a b c (h k cs t fr a b c hk)
theorem qbF.set {W w':World} (h:qbF W w') {g t:Nat} {cs:Array Value} (hg:w'.heap[g]?=some (.cells cs t (0,0))) (ht:t=92∨t=97∨t=159) (k:Nat) (v:Value):qbF W (w'.setCell ⟨g,k,none⟩ v):=fun x cs2 t2 fr h1 h2 h3 hx=>by
 have h5:=h x cs2 t2 fr h1 h2 h3 hx
 have hne:x ≠ g:=fun e=>by
  subst e;rw [h5] at hg;simp only [Option.some.injEq,Obj.cells.injEq] at hg;have e2:=hg.2.1
  rcases ht with h|h|h
  ·exact h1 (e2.trans h)
  ·exact h2 (e2.trans h)
  ·exact h3 (e2.trans h)
 exact (Below.heap_setCell w' ⟨g,k,none⟩ v x hne).trans h5
theorem qbF.fresh {W w':World} (h:qbF W w') {p:Addr} (hp:W.heap.size≤p.block) (v:Value):qbF W (w'.setCell p v):=fun x cs2 t2 fr h1 h2 h3 hx=>by
 have hlt:=qbR hx;exact (Below.heap_setCell w' p v x (by omega)).trans (h x cs2 t2 fr h1 h2 h3 hx)
theorem qpI (h:St w0 W gc gb gp m D) (n:Nat) (hn:n < m.g.B) :
  Calls Tryz.prog 98 #[cp gc,.int .i64 n] W fun e w'=>e=.returned (bp gb n)∧Below W.heap.size W w':=by
 have c4:W.cell? ⟨gc,4,none⟩=some (.slice (some ⟨gb,0,none⟩) m.g.B m.g.B):=h.cellC 4;have d1:decide ((n:Int) < 0)=false:=decide_eq_false (by omega);have d2:decide ((m.g.B:Int)≤(n:Int))=false:=decide_eq_false (by omega);have d3:decide (m.g.B≤n)=false:=decide_eq_false (by omega);have hq:(n < m.g.B)=True:=eq_true hn;clear h;go_enter Tryz.func98,Tryz.ntmps98;go_wp2;go_ret;exact ⟨rfl,Below.refl _ _⟩
theorem qwV (h:St w0 W gc gb gp m D) (n:Int) (hn:n < 0∨m.g.B≤n) :
  Calls Tryz.prog 98 #[cp gc,.int .i64 n] W fun e w'=>e=.returned (.pointer none)∧Below W.heap.size W w':=by
 have c4:W.cell? ⟨gc,4,none⟩=some (.slice (some ⟨gb,0,none⟩) m.g.B m.g.B):=h.cellC 4;clear h
 by_cases h0:n < 0
 ·have d1:decide (n < 0)=true:=decide_eq_true h0;go_enter Tryz.func98,Tryz.ntmps98;go_wp2;go_ret;exact ⟨rfl,Below.refl _ _⟩
 ·have d1:decide (n < 0)=false:=decide_eq_false h0;have d2:decide ((m.g.B:Int)≤n)=true:=decide_eq_true (by omega);go_enter Tryz.func98,Tryz.ntmps98;go_wp2;go_ret;exact ⟨rfl,Below.refl _ _⟩
theorem qcA (h:St w0 W gc gb gp m D) (hoff:m.off=false) (n:Nat) (hn:n < m.g.B) :
  Calls Tryz.prog 114 #[cp gc,.int .i64 n] W fun e w'=>e=.returned (.tuple #[bp gb n,.int .i64 0])∧Below W.heap.size W w':=by
 have c7:∀ w',Below W.heap.size W w'→w'.cell? ⟨gc,7,none⟩=some (.bool false):=fun w' hb=>qbI (by rw [h.cellC 7];simp [cC,hoff]) hb
 have HA:=aM (qpI h n hn);have HC:=aM c7;clear h hoff c7;go_enter Tryz.func114,Tryz.ntmps114
 go_wp2_with (first
  | (go_at_call 98;(with_reducible refine HA.out.mono ?_);rintro e w1 ⟨rfl,hb1⟩;have HB1:=aM hb1;have z7:=HC.out w1 hb1;clear hb1))
 go_ret2;exact ⟨rfl,HB1.out⟩
theorem qjJ (h:St w0 W gc gb gp m D) (hoff:m.off=false) (n:Int) (hn:n < 0∨m.g.B≤n) :
  Calls Tryz.prog 114 #[cp gc,.int .i64 n] W fun e w'=>e=.returned (.tuple #[.pointer none,.int .i64 22])∧Below W.heap.size W w':=by
 have c7:∀ w',Below W.heap.size W w'→w'.cell? ⟨gc,7,none⟩=some (.bool false):=fun w' hb=>qbI (by rw [h.cellC 7];simp [cC,hoff]) hb
 have HA:=aM (qwV h n hn);have HC:=aM c7;clear h hoff c7;go_enter Tryz.func114,Tryz.ntmps114
 go_wp2_with (first
  | (go_at_call 98;(with_reducible refine HA.out.mono ?_);rintro e w1 ⟨rfl,hb1⟩;have HB1:=aM hb1;have z7:=HC.out w1 hb1;clear hb1))
 go_ret2;exact ⟨rfl,HB1.out⟩
theorem qhR (h:St w0 W gc gb gp m D) (hoff:m.off=true) (n:Int) :
  Calls Tryz.prog 114 #[cp gc,.int .i64 n] W fun e w'=>e=.returned (.tuple #[.pointer none,.int .i64 6])∧Below W.heap.size W w':=by
 have c7:∀ w',Below W.heap.size W w'→w'.cell? ⟨gc,7,none⟩=some (.bool true):=fun w' hb=>qbI (by rw [h.cellC 7];simp [cC,hoff]) hb
 have hat:∃ v:Value,Calls Tryz.prog 98 #[cp gc,.int .i64 n] W fun e w'=>e=.returned v∧Below W.heap.size W w':=by
  by_cases hn:0≤n∧n < m.g.B
  ·obtain ⟨k,rfl⟩:∃ k:Nat,n=(k:Int):=⟨n.toNat,by omega⟩
   exact ⟨_,qpI h k (by omega)⟩
  ·exact ⟨_,qwV h n (by omega)⟩
 obtain ⟨v,hat⟩:=hat;have HA:=aM hat;have HC:=aM c7;clear h hoff c7 hat;go_enter Tryz.func114,Tryz.ntmps114
 go_wp2_with (first
  | (go_at_call 98;(with_reducible refine HA.out.mono ?_);rintro e w1 ⟨rfl,hb1⟩;have HB1:=aM hb1;have z7:=HC.out w1 hb1;clear hb1))
 go_ret2;exact ⟨rfl,HB1.out⟩
theorem qxU (h:St w0 W gc gb gp m D) (n:Nat) (hn:n < m.g.B) :
  Calls Tryz.prog 81 #[cp gc,.int .i64 n] W fun e w'=>e=.returned (.int .i64 (m.bk n).nx)∧Below W.heap.size W w':=by
 have c3:∀ w',Below W.heap.size W w'→w'.cell? ⟨gb,n*4+3,none⟩=some (.int .i64 (m.bk n).nx):=fun w' hb=>qbI (h.cellB n hn).2.2.2 hb
 have HA:=aM (qpI h n hn);have HC:=aM c3;clear h c3;go_enter Tryz.func81,Tryz.ntmps81
 go_wp2_with (first
  | (go_at_call 98;(with_reducible refine HA.out.mono ?_);rintro e w1 ⟨rfl,hb1⟩;have HB1:=aM hb1;have z7:=HC.out w1 hb1;clear hb1))
 go_ret;exact ⟨rfl,HB1.out⟩
theorem vaV (h:St w0 W gc gb gp m D) (n:Int) (hn:n < 0∨m.g.B≤n) :
  Calls Tryz.prog 81 #[cp gc,.int .i64 n] W fun e w'=>e=.returned (.int .i64 0)∧Below W.heap.size W w':=by
 have HA:=aM (qwV h n hn);clear h;go_enter Tryz.func81,Tryz.ntmps81
 go_wp2_with (first
  | (go_at_call 98;(with_reducible refine HA.out.mono ?_);rintro e w1 ⟨rfl,hb1⟩;have HB1:=aM hb1;clear hb1))
 go_ret;exact ⟨rfl,HB1.out⟩
theorem qxC (h:St w0 W gc gb gp m D):Calls Tryz.prog 30 #[cp gc] W fun e w'=>e=.returned (.int .i64 m.wrong)∧Below W.heap.size W w':=by
 have c9:W.cell? ⟨gc,9,none⟩=some (.int .i64 m.wrong):=h.cellC 9;clear h;go_enter Tryz.func30,Tryz.ntmps30;go_wp2;go_ret;exact ⟨rfl,Below.refl _ _⟩
theorem vcP (h:St w0 W gc gb gp m D):Calls Tryz.prog 17 #[cp gc] W fun e w'=>e=.returned (.int .i64 m.ops)∧Below W.heap.size W w':=by
 have c8:W.cell? ⟨gc,8,none⟩=some (.int .i64 m.ops):=h.cellC 8;clear h;go_enter Tryz.func17,Tryz.ntmps17;go_wp2;go_ret;exact ⟨rfl,Below.refl _ _⟩
theorem vdS (h:St w0 W gc gb gp m D):Calls Tryz.prog 48 #[cp gc] W fun e w'=>e=.returned (.bool !m.off)∧Below W.heap.size W w':=by
 have c7:W.cell? ⟨gc,7,none⟩=some (.bool m.off):=h.cellC 7;clear h;go_enter Tryz.func48,Tryz.ntmps48;go_wp2;go_ret;exact ⟨rfl,Below.refl _ _⟩
theorem qtN (h:St w0 W gc gb gp m D) (n:Nat) (hn:n < m.g.B) :
  Calls Tryz.prog 35 #[cp gc,.int .i64 n] W fun e w'=>e=.returned (.int .i64 (m.bk n).er)∧Below W.heap.size W w':=by
 have c3:∀ w',Below W.heap.size W w'→w'.cell? ⟨gb,n*4+1,none⟩=some (.int .i64 (m.bk n).er):=fun w' hb=>qbI (h.cellB n hn).2.1 hb
 have HA:=aM (qpI h n hn);have HC:=aM c3;clear h c3;go_enter Tryz.func35,Tryz.ntmps35
 go_wp2_with (first
  | (go_at_call 98;(with_reducible refine HA.out.mono ?_);rintro e w1 ⟨rfl,hb1⟩;have HB1:=aM hb1;have z7:=HC.out w1 hb1;clear hb1))
 go_ret;exact ⟨rfl,HB1.out⟩
theorem qwF (h:St w0 W gc gb gp m D) (n:Int) (hn:n < 0∨m.g.B≤n) :
  Calls Tryz.prog 35 #[cp gc,.int .i64 n] W fun e w'=>e=.returned (.int .i64 0)∧Below W.heap.size W w':=by
 have HA:=aM (qwV h n hn);clear h;go_enter Tryz.func35,Tryz.ntmps35
 go_wp2_with (first
  | (go_at_call 98;(with_reducible refine HA.out.mono ?_);rintro e w1 ⟨rfl,hb1⟩;have HB1:=aM hb1;clear hb1))
 go_ret;exact ⟨rfl,HB1.out⟩
theorem vbV (h:St w0 W gc gb gp m D) (n:Nat) (hn:n < m.g.B) :
  Calls Tryz.prog 79 #[cp gc,.int .i64 n] W fun e w'=>e=.returned (.bool (m.bk n).bad)∧Below W.heap.size W w':=by
 have c3:∀ w',Below W.heap.size W w'→w'.cell? ⟨gb,n*4,none⟩=some (.bool (m.bk n).bad):=fun w' hb=>qbI (h.cellB n hn).1 hb
 have HA:=aM (qpI h n hn);have HC:=aM c3;clear h c3;go_enter Tryz.func79,Tryz.ntmps79
 go_wp2_with (first
  | (go_at_call 98;(with_reducible refine HA.out.mono ?_);rintro e w1 ⟨rfl,hb1⟩;have HB1:=aM hb1;have z7:=HC.out w1 hb1;clear hb1))
 go_ret;exact ⟨rfl,HB1.out⟩
theorem vdG (h:St w0 W gc gb gp m D) (n:Int) (hn:n < 0∨m.g.B≤n) :
  Calls Tryz.prog 79 #[cp gc,.int .i64 n] W fun e w'=>e=.returned (.bool false)∧Below W.heap.size W w':=by
 have HA:=aM (qwV h n hn);clear h;go_enter Tryz.func79,Tryz.ntmps79
 go_wp2_with (first
  | (go_at_call 98;(with_reducible refine HA.out.mono ?_);rintro e w1 ⟨rfl,hb1⟩;have HB1:=aM hb1;clear hb1))
 go_ret;exact ⟨rfl,HB1.out⟩
end
end Go.Proofs.YtdlimghdimkadaaGreatDoor.PAll
namespace Go.Proofs.YtdlimghdimkadaaGreatDoor.Reg
open Go Go.RowKit YtdlimghdimkadaaGreatDoorW.PrintLast YtdlimghdimkadaaGreatDoorW.PrintWords
structure qfT (a0:Act) (V:List (Nat × Tmp × Value)) (D L:List Nat) (a:Act):Prop where
 off:∀ t v,(V.all fun e=>!(e.2.1==t))=true→a0.tmps[t]?=some v→a.tmps[t]?=some v
 pre:∀ t v j,L.contains j=true→(V.all fun e=>!(e.2.1==t) || e.1==j)=true→a0.tmps[t]?=some v→a.tmps[t]?=some v
 slot:∀ (k:Nat) (i:Nat) (t:Tmp) (v:Value),V[k]?=some (i,t,v)→D.contains i=true→a.tmps[t]?=some v
theorem qfT.sl {a0:Act} {V:List (Nat × Tmp × Value)} {D L:List Nat} {a:Act} (h:qfT a0 V D L a) (k:Nat) {i:Nat} {t:Tmp} {v:Value} (h1:V[k]?=some (i,t,v)) (h2:D.contains i=true:=by kernel_rfl):a.tmps[t]?=some v:=h.slot k i t v h1 h2
def qhC (B:List Nat) (n i:Nat):List Nat:=(List.range n).filter fun j=>(B.getD i 0).testBit j
def qcK (B:List Nat) (n i:Nat):List Nat:=(List.range n).filter fun d=>(B.getD d 0).testBit i
def Det (P:Program) (ops:Array Oper) (Q:Exit→Act→World→Prop) (B:List Nat) (n:Nat) (a0:Act) (V:List (Nat × Tmp × Value)) (S:World→Prop) (i:Nat):Prop :=
 ∃ oi v,ops[i]?=some oi∧(match oi.dst with
   | some t=>∃ k:Nat,V[k]?=some (i,t,v)
   | none=>(V.all fun e=>!(e.1==i))=true) ∧
  ∀ a w,S w→qfT a0 V (qhC B n i) (qcK B n i) a→∀ K:Act→World→Prop,(∀ w',S w'→K (a.put oi.dst v) w') →
   if Region.wanted oi (yielded ops a.tmps)=true then Oper.wp P oi a w K Q else K (a.put oi.dst undef) w
def okV (V:List (Nat × Tmp × Value)) (size:Nat):Bool :=
 (List.range V.length).all fun k=>match V[k]? with
  | some e=>((V.take k ++ V.drop (k+1)).all fun x=>!(x.1==e.1) && !(x.2.1==e.2.1)) && Nat.ble (e.2.1+1) size
  | none=>true
theorem qfE {V:List (Nat × Tmp × Value)} {size:Nat} (h:okV V size=true) {k:Nat} {e:Nat × Tmp × Value} (hk:V[k]?=some e) :
  ((V.take k ++ V.drop (k+1)).all fun x=>!(x.1==e.1) && !(x.2.1==e.2.1))=true∧Nat.ble (e.2.1+1) size=true:=by
 have h1:=List.all_eq_true.1 h k (List.mem_range.2 (List.getElem?_eq_some_iff.1 hk).1);rw [hk] at h1
 simpa only [Bool.and_eq_true] using h1
def putV (a:Act) (V:List (Nat × Tmp × Value)):Act:=V.foldl (fun a e=>a.put (some e.2.1) e.2.2) a
theorem qeT {b:Nat→Bool}:∀ {V:List (Nat × Tmp × Value)} {a:Act},(∀ e ∈ V,b e.1=true)→qbO a b V=putV a V
 | [],_,_=>rfl
 | e :: r,a,h=>by
  unfold qbO;rw [if_pos (h e List.mem_cons_self),qeT (fun x hx=>h x (List.mem_cons_of_mem _ hx))];rfl
section
variable {P:Program} {ops:Array Oper} {Q:Exit→Act→World→Prop} {T:Bool × List (List Nat × List Nat)} {B:List Nat}
theorem quA {id n:Nat} {a0:Act} {w0:World} (V:List (Nat × Tmp × Value)) (S:World→Prop) (hm:P.follows .mixedOrders=true) (hn:ops.size=n)
  (hT:qfA .any ops=T) (hw:qdT T.2 B=true) (hk:qeL T.2 (List.range n)=true) (hl:T.2.length=n)
  (h0:S w0.drew) (hs:∀ i ∈ List.range n,Det P ops Q B n a0 V S i) (hV:okV V a0.tmps.size=true) (hlt:V.all (fun e=>decide (e.1 < n))=true)
  (hend:∀ w,S w→Q .normal (putV a0 V) w):(Code.region id ops true).wp P Q a0 w0:=by
 refine qhK (n:=n) (S:=fun _=>True) (ds:=[]) (Array.replicate n false) hm hn rfl trivial (fun _=>?_);refine vcT (T:=T) (B:=B) (md:=.any) (List.range n) (fun b a w=>a=qbO a0 b V∧S w) hT hw hk ?_ ⟨?_,h0⟩ ?_ ?_
 ·rw [Bool.and_eq_true,beq_iff_eq,beq_iff_eq];refine ⟨?_,by simp⟩;apply List.ext_getElem?;intro j;simp only [lof,hl]
  by_cases hj:j < n
  ·simp [hj]
  ·simp [hj]
 ·have:∀ (V:List (Nat × Tmp × Value)) (a:Act),qbO a (fun _=>false) V=a:=by
   intro V
   induction V with
   | nil=>intro a;rfl
   | cons e r ih=>intro a;unfold qbO;simpa using ih a
  exact (this V a0).symm
 ·intro i hi b a w hI hb hdep hlat;obtain ⟨rfl,hS⟩:=hI;obtain ⟨oi,v,ho,hv,hd⟩:=hs i hi;refine ⟨oi,ho,fun K hK=>?_⟩;have hin:∀ j,j < n→(List.range n).contains j=true:=fun j hj=>by simp [hj]
  have hD:∀ j,(qhC B n i).contains j=true→b j=true:=fun j hj=>by
   have h1:=List.contains_iff_mem.1 hj;obtain ⟨h2,h3⟩:=List.mem_filter.1 h1;exact hdep j (by rw [hin j (List.mem_range.1 h2),h3];rfl)
  have hL:∀ j,(qcK B n i).contains j=true→b j=false:=fun j hj=>by
   have h1:=List.contains_iff_mem.1 hj;obtain ⟨h2,h3⟩:=List.mem_filter.1 h1;exact hlat j (by rw [hin j (List.mem_range.1 h2),h3];rfl)
  have hslot:∀ (k:Nat) (e:Nat × Tmp × Value),V[k]?=some e→(qhC B n i).contains e.1=true→(qbO a0 b V).tmps[e.2.1]?=some e.2.2:=by
   intro k e hk hDe;obtain ⟨h1,h2⟩:=qfE hV hk;refine qfN k hk ?_ (hD _ hDe) h2;rw [List.all_append,Bool.and_eq_true] at h1;refine List.all_eq_true.2 (fun x hx=>?_);have:=List.all_eq_true.1 h1.2 x hx;rw [Bool.and_eq_true] at this;exact this.2
  refine hd (qbO a0 b V) w hS ⟨fun t v ht h0t=>by rw [qdW ht];exact h0t,fun t v j hj ht h0t=>by rw [qeD (hL j hj) ht];exact h0t,fun k i t v hk hDe=>hslot k (i,t,v) hk hDe⟩ K (fun w' hS'=>?_);refine hK _ _ ⟨?_,hS'⟩
  rcases hdst:oi.dst with _|t
  ·rw [hdst] at hv;exact qeW hv
  ·rw [hdst] at hv;obtain ⟨k,hk⟩:=hv;obtain ⟨h1,_⟩:=qfE hV hk;refine qdV (L:=V) (L':=V) k hb hk ?_ h1
   have hk2:=(List.getElem?_eq_some_iff.1 hk)
   obtain ⟨hk3,hk4⟩:=hk2;rw [← hk4,List.set_getElem_self]
 ·intro b a w hb hI;obtain ⟨rfl,hS⟩:=hI
  rw [qeT (fun e he=>hb e.1 (by
   have:=List.all_eq_true.1 hlt e he;simp only [decide_eq_true_eq] at this
   simp [this]))]
  exact hend w hS
def qzS (T:List (List Nat × List Nat)):List Nat:=T.foldl (fun B r=>B ++ [r.1.foldl (fun m n=>m ||| (1 <<< n) ||| B.getD n 0) 0]) []
def qlG (ops:Array Oper) (n:Nat):Bool:=qdT (qfA .any ops).2 (qzS (qfA .any ops).2) && qeL (qfA .any ops).2 (List.range n) && (qfA .any ops).2.length==n
abbrev bits (ops:Array Oper):List Nat:=qzS (qfA .any ops).2
def qgD (P:Program) (ops:Array Oper) (Q:Exit→Act→World→Prop) (B:List Nat) (n:Nat) (a0:Act) (V:List (Nat × Tmp × Value)) (S:World→Prop):Nat→List Oper→Prop
 | _,[]=>True
 | i,o :: r=>(∃ v,(match o.dst with
   | some t=>∃ k:Nat,V[k]?=some (i,t,v)
   | none=>(V.all fun e=>!(e.1==i))=true) ∧
  ∀ a w,S w→qfT a0 V (qhC B n i) (qcK B n i) a→∀ K:Act→World→Prop,(∀ w',S w'→K (a.put o.dst v) w') →
   if Region.wanted o (yielded ops a.tmps)=true then Oper.wp P o a w K Q else K (a.put o.dst undef) w)∧qgD P ops Q B n a0 V S (i+1) r
theorem qnH {n:Nat} {a0:Act} {V:List (Nat × Tmp × Value)} {S:World→Prop}:∀ (l:List Oper) (i:Nat),qgD P ops Q B n a0 V S i l→(∀ j,l[j]?=ops[i+j]?)→∀ j,j < l.length→Det P ops Q B n a0 V S (i+j)
 | [],_,_,_,j,hj=>by simp at hj
 | o :: r,i,h,hg,0,_=>by
  obtain ⟨⟨v,hv,hd⟩,_⟩:=h;have h0:=hg 0;simp only [List.getElem?_cons_zero,Nat.add_zero] at h0;exact ⟨o,v,h0.symm,hv,hd⟩
 | o :: r,i,h,hg,j+1,hj=>by
  have h2:=qnH r (i+1) h.2 (fun m=>by
   have:=hg (m+1);simp only [List.getElem?_cons_succ] at this
   rw [this,show i+(m+1)=i+1+m by omega]) j (by simp at hj;omega)
  rwa [show i+1+j=i+(j+1) by omega] at h2
theorem from_nil {n i:Nat} {a0:Act} {V:List (Nat × Tmp × Value)} {S:World→Prop}:qgD P ops Q B n a0 V S i []:=trivial
theorem from_some {n i:Nat} {a0:Act} {V:List (Nat × Tmp × Value)} {S:World→Prop} {o:Oper} {r:List Oper} {t:Tmp} {v:Value} (k:Nat) (ht:o.dst=some t) (hk:V[k]?=some (i,t,v))
  (h:∀ a w,S w→qfT a0 V (qhC B n i) (qcK B n i) a→∀ K:Act→World→Prop,(∀ w',S w'→K (a.put (some t) v) w')→if Region.wanted o (yielded ops a.tmps)=true then Oper.wp P o a w K Q else K (a.put (some t) undef) w)
  (hr:qgD P ops Q B n a0 V S (i+1) r):qgD P ops Q B n a0 V S i (o :: r):=by
 refine ⟨⟨v,?_,?_⟩,hr⟩
 ·rw [ht];exact ⟨k,hk⟩
 ·rw [ht];exact h
theorem fS {n i:Nat} {a0:Act} {V:List (Nat × Tmp × Value)} {S:World→Prop} {o:Oper} {r:List Oper} {t:Tmp} {v:Value} (k:Nat) (ht:o.dst=some t) (hk:V[k]?=some (i,t,v)) (h:∀ a w,S w→qfT a0 V (qhC B n i) (qcK B n i) a→∀ K:Act→World→Prop,(∀ w',S w'→K (a.put (some t) v) w')→if Region.wanted o (yielded ops a.tmps)=true then Oper.wp P o a w K Q else K (a.put (some t) undef) w) (hr:qgD P ops Q B n a0 V S (i+1) r):qgD P ops Q B n a0 V S i (o :: r):=from_some k ht hk h hr
theorem det {id n:Nat} {a0:Act} {w0:World} (V:List (Nat × Tmp × Value)) (S:World→Prop) (hm:P.follows .mixedOrders=true) (hn:ops.size=n) (hc:qlG ops n=true)
  (h0:S w0.drew) (hs:qgD P ops Q (bits ops) n a0 V S 0 ops.toList) (hV:okV V a0.tmps.size=true) (hlt:V.all (fun e=>decide (e.1 < n))=true)
  (hend:∀ w,S w→Q .normal (putV a0 V) w):(Code.region id ops true).wp P Q a0 w0:=by
 unfold qlG at hc;rw [Bool.and_eq_true,Bool.and_eq_true,beq_iff_eq] at hc;refine quA V S hm hn rfl hc.1.1 hc.1.2 hc.2 h0 (fun i hi=>?_) hV hlt hend;have h2:=qnH ops.toList 0 hs (fun j=>by simp) i (by simpa [hn] using hi)
 rwa [Nat.zero_add] at h2
theorem step_on {o:Oper} {y:Nat→Option Bool} {a:Act} {w:World} {K:Act→World→Prop} {E:Prop} (h:Region.wanted o y=true) (hx:Oper.wp P o a w K Q):if Region.wanted o y=true then Oper.wp P o a w K Q else E:=by rw [if_pos h];exact hx
theorem sO {o:Oper} {y:Nat→Option Bool} {a:Act} {w:World} {K:Act→World→Prop} {E:Prop} (hx:Oper.wp P o a w K Q) (h:Region.wanted o y=true:=by rfl):if Region.wanted o y=true then Oper.wp P o a w K Q else E:=step_on h hx
theorem step_off {o:Oper} {y:Nat→Option Bool} {E F:Prop} (h:Region.wanted o y=false) (hx:F):if Region.wanted o y=true then E else F:=by rw [if_neg (by rw [h];simp)];exact hx
end
end Go.Proofs.YtdlimghdimkadaaGreatDoor.Reg
namespace Go.Proofs.YtdlimghdimkadaaGreatDoor.Rel
open Go Go.RowKit YtdlimghdimkadaaGreatDoorW.PrintLast YtdlimghdimkadaaGreatDoorW.PrintWords Reg
abbrev Ent:=Nat × Tmp × (Value ⊕ (Value→World→Prop))
def inst (U:Nat→Value):Nat→List Ent→List (Nat × Tmp × Value)
 | _,[]=>[]
 | m,(i,t,.inl c) :: r=>(i,t,c) :: inst U (m+1) r
 | m,(i,t,.inr _) :: r=>(i,t,U m) :: inst U (m+1) r
theorem qeO {U:Nat→Value}:∀ {V:List Ent} {m k:Nat} {i:Nat} {t:Tmp} {c:Value},V[k]?=some (i,t,.inl c)→(inst U m V)[k]?=some (i,t,c)
 | [],_,_,_,_,_,h=>by simp at h
 | (_,_,.inl _) :: r,m,0,i,t,c,h=>by simpa [inst] using h
 | (_,_,.inr _) :: r,m,0,i,t,c,h=>by simp at h
 | (_,_,.inl _) :: r,m,k+1,i,t,c,h=>by simpa [inst] using qeO (V:=r) (m:=m+1) (k:=k) (by simpa using h)
 | (_,_,.inr _) :: r,m,k+1,i,t,c,h=>by simpa [inst] using qeO (V:=r) (m:=m+1) (k:=k) (by simpa using h)
theorem qcR {U:Nat→Value}:∀ {V:List Ent} {m k:Nat} {i:Nat} {t:Tmp} {Q:Value→World→Prop},V[k]?=some (i,t,.inr Q)→(inst U m V)[k]?=some (i,t,U (m+k))
 | [],_,_,_,_,_,h=>by simp at h
 | (_,_,.inl _) :: r,m,0,i,t,c,h=>by simp at h
 | (_,_,.inr _) :: r,m,0,i,t,c,h=>by
  simp at h;simp [inst,h.1,h.2.1]
 | (_,_,.inl _) :: r,m,k+1,i,t,c,h=>by
  have:=qcR (U:=U) (V:=r) (m:=m+1) (k:=k) (by simpa using h)
  simpa [inst,show m+1+k=m+(k+1) by omega] using this
 | (_,_,.inr _) :: r,m,k+1,i,t,c,h=>by
  have:=qcR (U:=U) (V:=r) (m:=m+1) (k:=k) (by simpa using h)
  simpa [inst,show m+1+k=m+(k+1) by omega] using this
theorem qgU {U:Nat→Value} {V:List Ent} {k:Nat} {e:Ent} (h:V[k]?=some e):∃ v,(inst U 0 V)[k]?=some (e.1,e.2.1,v):=by
 obtain ⟨i,t,x⟩:=e
 cases x with
 | inl c=>exact ⟨c,qeO h⟩
 | inr Q=>exact ⟨_,qcR h⟩
theorem qkN {U U':Nat→Value}:∀ {V:List Ent} {m:Nat},(∀ j,m≤j→U' j=U j)→inst U' m V=inst U m V
 | [],_,_=>rfl
 | (_,_,.inl _) :: r,m,h=>by simp only [inst];rw [qkN (V:=r) (m:=m+1) (fun j hj=>h j (by omega))]
 | (_,_,.inr _) :: r,m,h=>by simp only [inst];rw [qkN (V:=r) (m:=m+1) (fun j hj=>h j (by omega)),h m (Nat.le_refl _)]
theorem qhW {U:Nat→Value} {v:Value}:∀ {V:List Ent} {m k:Nat} {i:Nat} {t:Tmp} {Q:Value→World→Prop},V[k]?=some (i,t,.inr Q)→(inst U m V).set k (i,t,v)=inst (fun j=>if j=m+k then v else U j) m V
 | [],_,_,_,_,_,h=>by simp at h
 | (_,_,.inl _) :: r,m,0,i,t,c,h=>by simp at h
 | (_,_,.inr _) :: r,m,0,i,t,c,h=>by
  simp at h;simp only [inst,List.set_cons_zero,Nat.add_zero,if_true,h.1,h.2.1];rw [qkN (U:=U) (U':=fun j=>if j=m then v else U j) (V:=r) (m:=m+1) (fun j hj=>by simp;omega)]
 | (_,_,.inl _) :: r,m,k+1,i,t,c,h=>by
  have:=qhW (U:=U) (v:=v) (V:=r) (m:=m+1) (k:=k) (by simpa using h);simp only [inst,List.set_cons_succ,this,show m+1+k=m+(k+1) by omega]
 | (_,_,.inr _) :: r,m,k+1,i,t,c,h=>by
  have:=qhW (U:=U) (v:=v) (V:=r) (m:=m+1) (k:=k) (by simpa using h);simp only [inst,List.set_cons_succ,this,show m+1+k=m+(k+1) by omega];rw [if_neg (by omega)]
def key (e:Nat × Tmp × Value):Nat × Tmp:=(e.1,e.2.1)
theorem qcM {U U':Nat→Value}:∀ {V:List Ent} {m:Nat},(inst U m V).map key=(inst U' m V).map key
 | [],_=>rfl
 | (_,_,.inl _) :: r,m=>by simp only [inst,List.map_cons];rw [qcM (U:=U) (U':=U') (V:=r)]
 | (_,_,.inr _) :: r,m=>by simp only [inst,List.map_cons];rw [qcM (U:=U) (U':=U') (V:=r)];rfl
theorem qeE {p:Nat × Tmp→Bool} {L L':List (Nat × Tmp × Value)} (h:L.map key=L'.map key):(L.all fun e=>p (e.1,e.2.1))=(L'.all fun e=>p (e.1,e.2.1)):=by
 have h1:∀ L:List (Nat × Tmp × Value),(L.all fun e=>p (e.1,e.2.1))=(L.map key).all p:=fun L=>by rw [List.all_map];rfl
 rw [h1,h1,h]
theorem qqD {L L':List (Nat × Tmp × Value)} {size:Nat} (h:L.map key=L'.map key):okV L size=okV L' size:=by
 unfold okV;have hl:L.length=L'.length:=by simpa using congrArg List.length h
 rw [hl]
 congr 1
 funext k
 have hk:(L.map key)[k]?=(L'.map key)[k]?:=by rw [h]
 rw [List.getElem?_map,List.getElem?_map] at hk
 cases e:L[k]? with
 | none =>
  rw [e] at hk
  cases e':L'[k]? with
  | none=>rfl
  | some y=>rw [e'] at hk;simp at hk
 | some x =>
  rw [e] at hk
  cases e':L'[k]? with
  | none=>rw [e'] at hk;simp at hk
  | some y =>
   rw [e'] at hk;simp only [Option.map_some,Option.some.injEq] at hk;have h1:x.1=y.1:=(Prod.mk.inj (show (x.1,x.2.1)=(y.1,y.2.1) from hk)).1;have h2:x.2.1=y.2.1:=(Prod.mk.inj (show (x.1,x.2.1)=(y.1,y.2.1) from hk)).2;simp only [h1,h2]
   congr 1
   refine qeE (p:=fun z=>!(z.1==y.1) && !(z.2==y.2.1)) ?_;rw [List.map_append,List.map_append,List.map_take,List.map_drop,List.map_take,List.map_drop,h]
theorem qlW {L:List (Nat × Tmp × Value)} {size k k':Nat} {i:Nat} {t t':Tmp} {v v':Value} (h:okV L size=true) (hk:L[k]?=some (i,t,v)) (hk':L[k']?=some (i,t',v')) (hne:k' ≠ k):False:=by
 obtain ⟨h1,_⟩:=qfE h hk
 have hm:(i,t',v') ∈ L.take k ++ L.drop (k+1):=by
  rw [List.mem_append]
  rcases Nat.lt_or_ge k' k with h2|h2
  ·left
   exact List.mem_of_getElem? (i:=k') (by rw [List.getElem?_take,if_pos h2];exact hk')
  ·right
   exact List.mem_of_getElem? (i:=k' - (k+1)) (by rw [List.getElem?_drop,show k+1+(k' - (k+1))=k' by omega];exact hk')
 have:=List.all_eq_true.1 h1 _ hm;simp at this
def U0:Nat→Value:=fun _=>undef
structure qfT (a0:Act) (V:List Ent) (D L:List Nat) (a:Act) (w:World):Prop where
 off:∀ t v,((inst U0 0 V).all fun e=>!(e.2.1==t))=true→a0.tmps[t]?=some v→a.tmps[t]?=some v
 pre:∀ t v j,L.contains j=true→((inst U0 0 V).all fun e=>!(e.2.1==t) || e.1==j)=true→a0.tmps[t]?=some v→a.tmps[t]?=some v
 slot:∀ (k:Nat) (i:Nat) (t:Tmp) (v:Value),V[k]?=some (i,t,.inl v)→D.contains i=true→a.tmps[t]?=some v
 rel:∀ (k:Nat) (i:Nat) (t:Tmp) (Q:Value→World→Prop),V[k]?=some (i,t,.inr Q)→D.contains i=true→∃ v,a.tmps[t]?=some v∧Q v w
theorem qfT.sl {a0:Act} {V:List Ent} {D L:List Nat} {a:Act} {w:World} (h:qfT a0 V D L a w) (k:Nat) {i:Nat} {t:Tmp} {v:Value} (h1:V[k]?=some (i,t,.inl v)) (h2:D.contains i=true:=by kernel_rfl):a.tmps[t]?=some v:=h.slot k i t v h1 h2
def vcJ (P:Program) (ops:Array Oper) (Q:Exit→Act→World→Prop) (B:List Nat) (n:Nat) (a0:Act) (V:List Ent) (S:World→Prop) (G:World→World→Prop) (i:Nat) (oi:Oper):Prop :=
 (match oi.dst with
   | some t=>∃ (k:Nat) (e:Value ⊕ (Value→World→Prop)),V[k]?=some (i,t,e)∧∀ a w,S w→qfT a0 V (qhC B n i) (qcK B n i) a w→∀ K:Act→World→Prop,
     (∀ v w',S w'→G w w'→(match e with | .inl c=>v=c | .inr q=>q v w')→K (a.put (some t) v) w') →
     if Region.wanted oi (yielded ops a.tmps)=true then Oper.wp P oi a w K Q else K (a.put (some t) undef) w
   | none=>((inst U0 0 V).all fun e=>!(e.1==i))=true∧∀ a w,S w→qfT a0 V (qhC B n i) (qcK B n i) a w→∀ K:Act→World→Prop,(∀ w',S w'→G w w'→K a w') →
     if Region.wanted oi (yielded ops a.tmps)=true then Oper.wp P oi a w K Q else K a w)
section
variable {P:Program} {ops:Array Oper} {Q:Exit→Act→World→Prop} {T:Bool × List (List Nat × List Nat)} {B:List Nat}
def qzU (P:Program) (ops:Array Oper) (Q:Exit→Act→World→Prop) (B:List Nat) (n:Nat) (a0:Act) (V:List Ent) (S:World→Prop) (G:World→World→Prop):Nat→List Oper→Prop
 | _,[]=>True
 | i,o :: r=>vcJ P ops Q B n a0 V S G i o∧qzU P ops Q B n a0 V S G (i+1) r
theorem from_nil {n i:Nat} {a0:Act} {V:List Ent} {S:World→Prop} {G:World→World→Prop}:qzU P ops Q B n a0 V S G i []:=trivial
theorem from_some {n i:Nat} {a0:Act} {V:List Ent} {S:World→Prop} {G:World→World→Prop} {o:Oper} {r:List Oper} {t:Tmp} {v:Value} (k:Nat) (ht:o.dst=some t) (hk:V[k]?=some (i,t,.inl v))
  (h:∀ a w,S w→qfT a0 V (qhC B n i) (qcK B n i) a w→∀ K:Act→World→Prop,(∀ w',S w'→G w w'→K (a.put (some t) v) w')→if Region.wanted o (yielded ops a.tmps)=true then Oper.wp P o a w K Q else K (a.put (some t) undef) w)
  (hr:qzU P ops Q B n a0 V S G (i+1) r):qzU P ops Q B n a0 V S G i (o :: r):=by
 refine ⟨?_,hr⟩;unfold vcJ;rw [ht];exact ⟨k,_,hk,fun a w hS hK K hC=>h a w hS hK K (fun w' hS' hG=>hC v w' hS' hG rfl)⟩
theorem from_rel {n i:Nat} {a0:Act} {V:List Ent} {S:World→Prop} {G:World→World→Prop} {o:Oper} {r:List Oper} {t:Tmp} {q:Value→World→Prop} (k:Nat) (ht:o.dst=some t) (hk:V[k]?=some (i,t,.inr q))
  (h:∀ a w,S w→qfT a0 V (qhC B n i) (qcK B n i) a w→∀ K:Act→World→Prop,(∀ v w',S w'→G w w'→q v w'→K (a.put (some t) v) w')→if Region.wanted o (yielded ops a.tmps)=true then Oper.wp P o a w K Q else K (a.put (some t) undef) w)
  (hr:qzU P ops Q B n a0 V S G (i+1) r):qzU P ops Q B n a0 V S G i (o :: r):=by
 refine ⟨?_,hr⟩;unfold vcJ;rw [ht];exact ⟨k,_,hk,h⟩
theorem stable_nil {G:World→World→Prop}:∀ (k:Nat) (i:Nat) (t:Tmp) (q:Value→World→Prop),([]:List Ent)[k]?=some (i,t,.inr q)→∀ v w w',G w w'→q v w→q v w':=fun k i t q h=>by simp at h
theorem stable_inl {V:List Ent} {G:World→World→Prop} {i0:Nat} {t0:Tmp} {c:Value} (h:∀ (k:Nat) (i:Nat) (t:Tmp) (q:Value→World→Prop),V[k]?=some (i,t,.inr q)→∀ v w w',G w w'→q v w→q v w') :
  ∀ (k:Nat) (i:Nat) (t:Tmp) (q:Value→World→Prop),((i0,t0,.inl c) :: V:List Ent)[k]?=some (i,t,.inr q)→∀ v w w',G w w'→q v w→q v w'
 | 0,i,t,q,hk=>by simp at hk
 | k+1,i,t,q,hk=>h k i t q (by simpa using hk)
theorem stable_inr {V:List Ent} {G:World→World→Prop} {i0:Nat} {t0:Tmp} {q0:Value→World→Prop} (h0:∀ v w w',G w w'→q0 v w→q0 v w') (h:∀ (k:Nat) (i:Nat) (t:Tmp) (q:Value→World→Prop),V[k]?=some (i,t,.inr q)→∀ v w w',G w w'→q v w→q v w') :
  ∀ (k:Nat) (i:Nat) (t:Tmp) (q:Value→World→Prop),((i0,t0,.inr q0) :: V:List Ent)[k]?=some (i,t,.inr q)→∀ v w w',G w w'→q v w→q v w'
 | 0,i,t,q,hk=>by
  simp only [List.getElem?_cons_zero,Option.some.injEq,Prod.mk.injEq,Sum.inr.injEq] at hk;obtain ⟨_,_,rfl⟩:=hk;exact h0
 | k+1,i,t,q,hk=>h k i t q (by simpa using hk)
end
end Go.Proofs.YtdlimghdimkadaaGreatDoor.Rel
namespace Go.Proofs.YtdlimghdimkadaaGreatDoor.Rel
open Go Go.RowKit YtdlimghdimkadaaGreatDoorW.PrintLast YtdlimghdimkadaaGreatDoorW.PrintWords Reg
def qiQ (P:Program) (ops:Array Oper) (Q:Exit→Act→World→Prop):List Oper→Act→World→Prop
 | [],a,w=>Q .normal a w
 | o :: r,a,w=>∀ K:Act→World→Prop,Shut (∀ a' w',qiQ P ops Q r a' w'→K a' w')→if Region.wanted o (yielded ops a.tmps)=true then Oper.wp P o a w K Q else K (a.put o.dst undef) w
section
variable {P:Program} {ops:Array Oper} {Q:Exit→Act→World→Prop} {T:Bool × List (List Nat × List Nat)} {B:List Nat}
theorem qoQ (m:Nat) {n:Nat} {a0:Act} {V:List Ent} {S:World→Prop} {G:World→World→Prop} (os:List Oper):∀ (l:List Oper) (i:Nat),qzU P ops Q B n a0 V S G i l→(∀ j,i+j < m→l[j]?=os[i+j]?)→∀ j,j < l.length→i+j < m→∃ oi,os[i+j]?=some oi∧vcJ P ops Q B n a0 V S G (i+j) oi
 | [],_,_,_,j,hj,_=>by simp at hj
 | o :: r,i,h,hg,0,_,hm=>by
  have h0:=hg 0 hm;simp only [List.getElem?_cons_zero,Nat.add_zero] at h0;exact ⟨o,h0.symm,h.1⟩
 | o :: r,i,h,hg,j+1,hj,hm=>by
  have h2:=qoQ m os r (i+1) h.2 (fun q hq=>by
   have:=hg (q+1) (by omega);simp only [List.getElem?_cons_succ] at this
   rw [this,show i+(q+1)=i+1+q by omega]) j (by simp at hj;omega) (by omega)
  rwa [show i+1+j=i+(j+1) by omega] at h2
theorem qpP {id n m:Nat} {a0:Act} {w0:World} (V:List Ent) (S:World→Prop) (G:World→World→Prop) (hm:P.follows .mixedOrders=true) (hn:ops.size=n) (hmn:m < n)
  (hT:qfA .any ops=T) (hw:qdT T.2 B=true) (hk:qeL T.2 (List.range n)=true) (hl:T.2.length=n) (htl:((List.range n).all fun j=>decide (j < m) || (List.range j).all fun i=>(B.getD j 0).testBit i)=true)
  (h0:S w0.drew) (hst:∀ (k:Nat) (i:Nat) (t:Tmp) (q:Value→World→Prop),V[k]?=some (i,t,.inr q)→∀ v w w',G w w'→q v w→q v w')
  (hs:∀ i,i < m→∃ oi,ops[i]?=some oi∧vcJ P ops Q B n a0 V S G i oi) (hV:okV (inst U0 0 V) a0.tmps.size=true) (hlt:(inst U0 0 V).all (fun e=>decide (e.1 < m))=true)
  (hend:∀ U w,S w→(∀ (k:Nat) (i:Nat) (t:Tmp) (q:Value→World→Prop),V[k]?=some (i,t,.inr q)→q (U k) w)→qiQ P ops Q (ops.toList.drop m) (putV a0 (inst U 0 V)) w):(Code.region id ops true).wp P Q a0 w0:=by
 have hVU:∀ U,okV (inst U 0 V) a0.tmps.size=true:=fun U=>by rw [qqD (qcM (U:=U) (U':=U0))];exact hV
 have htb:∀ j,j < n→m≤j→∀ i,i < j→(B.getD j 0).testBit i=true:=fun j hj hmj i hij=>by
  have h1:=List.all_eq_true.1 htl j (List.mem_range.2 hj);rw [Bool.or_eq_true,decide_eq_true_eq] at h1
  rcases h1 with h1|h1
  ·omega
  ·exact List.all_eq_true.1 h1 i (List.mem_range.2 hij)
 refine qhK (n:=n) (S:=fun _=>True) (ds:=[]) (Array.replicate n false) hm hn rfl trivial (fun _=>?_);refine vcT (T:=T) (B:=B) (md:=.any) (List.range n) (fun b a w=>(b m=false∧∃ U,a=qbO a0 b (inst U 0 V)∧S w∧∀ (k:Nat) (i:Nat) (t:Tmp) (q:Value→World→Prop),V[k]?=some (i,t,.inr q)→b i=true→q (U k) w)∨(∃ t,m < t∧t≤n∧(∀ j,j < t→b j=true)∧(∀ j,t≤j→j < n→b j=false)∧qiQ P ops Q (ops.toList.drop t) a w)) hT hw hk ?_ ?_ ?_ ?_
 ·rw [Bool.and_eq_true,beq_iff_eq,beq_iff_eq];refine ⟨?_,by simp⟩;apply List.ext_getElem?;intro j;simp only [lof,hl]
  by_cases hj:j < n
  ·simp [hj]
  ·simp [hj]
 ·refine .inl ⟨rfl,U0,?_,h0,fun _ _ _ _ _ hb=>by cases hb⟩
  have:∀ (V:List (Nat × Tmp × Value)) (a:Act),qbO a (fun _=>false) V=a:=by
   intro V
   induction V with
   | nil=>intro a;rfl
   | cons e r ih=>intro a;unfold qbO;simpa using ih a
  exact (this _ a0).symm
 ·intro i hi b a w hI hb hdep hlat;have hin0:i < n:=List.mem_range.1 hi;have hin:∀ j,j < n→(List.range n).contains j=true:=fun j hj=>by simp [hj]
  by_cases him:i < m
  ·have hbm:b m=false:=hlat m (by rw [hin m hmn,htb m hmn (Nat.le_refl _) i him];rfl)
   rcases hI with ⟨_,U,rfl,hS,hU⟩|⟨t,ht,_,h1,_⟩
   ·obtain ⟨oi,ho,hd⟩:=hs i him;refine ⟨oi,ho,fun K hK=>?_⟩
    have hD:∀ j,(qhC B n i).contains j=true→b j=true:=fun j hj=>by
     have h1:=List.contains_iff_mem.1 hj;obtain ⟨h2,h3⟩:=List.mem_filter.1 h1;exact hdep j (by rw [hin j (List.mem_range.1 h2),h3];rfl)
    have hL:∀ j,(qcK B n i).contains j=true→b j=false:=fun j hj=>by
     have h1:=List.contains_iff_mem.1 hj;obtain ⟨h2,h3⟩:=List.mem_filter.1 h1;exact hlat j (by rw [hin j (List.mem_range.1 h2),h3];rfl)
    have hslot:∀ (k:Nat) (e:Nat × Tmp × Value),(inst U 0 V)[k]?=some e→(qhC B n i).contains e.1=true→(qbO a0 b (inst U 0 V)).tmps[e.2.1]?=some e.2.2:=by
     intro k e hk hDe;obtain ⟨h1,h2⟩:=qfE (hVU U) hk;refine qfN k hk ?_ (hD _ hDe) h2;rw [List.all_append,Bool.and_eq_true] at h1;refine List.all_eq_true.2 (fun x hx=>?_);have:=List.all_eq_true.1 h1.2 x hx;rw [Bool.and_eq_true] at this;exact this.2
    have hK0:qfT a0 V (qhC B n i) (qcK B n i) (qbO a0 b (inst U 0 V)) w:=by
     refine ⟨fun t v ht h0t=>?_,fun t v j hj ht h0t=>?_,fun k i t v hk hDe=>hslot k (i,t,v) (qeO hk) hDe,fun k i t q hk hDe=>⟨U k,?_,hU k i t q hk (hD _ hDe)⟩⟩
     ·rw [qdW (by rw [qeE (p:=fun z=>!(z.2==t)) (qcM (U:=U) (U':=U0))];exact ht)];exact h0t
     ·rw [qeD (hL j hj) (by rw [qeE (p:=fun z=>!(z.2==t) || z.1==j) (qcM (U:=U) (U':=U0))];exact ht)];exact h0t
     ·have:=hslot k _ (qcR (U:=U) (m:=0) hk) hDe;rw [Nat.zero_add] at this;exact this
    have hbm2:up b i m=false:=by rw [qfL (by omega)];exact hbm
    unfold vcJ at hd
    rcases hdst:oi.dst with _|t
    ·rw [hdst] at hd;obtain ⟨hv,hd⟩:=hd;refine hd (qbO a0 b (inst U 0 V)) w hS hK0 (fun a w=>K a w) (fun w' hS' hG=>?_);refine hK (qbO a0 b (inst U 0 V)) w' (.inl ⟨hbm2,U,?_,hS',fun k j t q hk hbj=>?_⟩)
     ·exact qeW (a:=a0) (b:=b) (v:=undef) (i:=i) (L:=inst U 0 V) (by rw [qeE (p:=fun z=>!(z.1==i)) (qcM (U:=U) (U':=U0))];exact hv)
     ·have hji:j ≠ i:=fun hji=>by
       subst hji;obtain ⟨v,hg⟩:=qgU (U:=U0) hk;have:=List.all_eq_true.1 hv _ (List.mem_of_getElem? hg);simp at this
      rw [qfL hji] at hbj;exact hst k j t q hk _ _ _ hG (hU k j t q hk hbj)
    ·rw [hdst] at hd;obtain ⟨k,e,hk,hd⟩:=hd;refine hd (qbO a0 b (inst U 0 V)) w hS hK0 K (fun v w' hS' hG hv=>?_)
     cases e with
     | inl c =>
      obtain rfl:v=c:=hv;have hk1:=qeO (U:=U) (m:=0) hk;obtain ⟨h1,_⟩:=qfE (hVU U) hk1;refine hK _ w' (.inl ⟨hbm2,U,?_,hS',fun k' j t' q hk' hbj=>?_⟩)
      ·refine qdV (L:=inst U 0 V) (L':=inst U 0 V) k hb hk1 ?_ h1;obtain ⟨hk3,hk4⟩:=List.getElem?_eq_some_iff.1 hk1;rw [← hk4,List.set_getElem_self]
      ·have hji:j ≠ i:=fun hji=>by
        subst hji
        have hkk:k' ≠ k:=by
         rintro rfl;rw [hk] at hk';simp at hk'
        exact qlW (hVU U) hk1 (qcR (U:=U) (m:=0) hk') (fun h=>hkk h)
       rw [qfL hji] at hbj;exact hst k' j t' q hk' _ _ _ hG (hU k' j t' q hk' hbj)
     | inr q =>
      have hk1:=qcR (U:=U) (m:=0) hk;obtain ⟨h1,_⟩:=qfE (hVU U) hk1;refine hK _ w' (.inl ⟨hbm2,fun j=>if j=0+k then v else U j,?_,hS',fun k' j t' q' hk' hbj=>?_⟩)
      ·exact qdV (L:=inst U 0 V) k hb hk1 (qhW hk) h1
      ·rw [Nat.zero_add]
       by_cases hkk:k'=k
       ·subst hkk;rw [hk] at hk';simp only [Option.some.injEq,Prod.mk.injEq,Sum.inr.injEq] at hk';obtain ⟨rfl,rfl,rfl⟩:=hk';simp only [if_true];exact hv
       ·simp only [if_neg hkk]
        have hji:j ≠ i:=fun hji=>by
         subst hji;exact qlW (hVU U) hk1 (qcR (U:=U) (m:=0) hk') (fun h=>hkk h)
        rw [qfL hji] at hbj;exact hst k' j t' q' hk' _ _ _ hG (hU k' j t' q' hk' hbj)
   ·rw [h1 m ht] at hbm
    cases hbm
  ·have hall:∀ j,j < i→b j=true:=fun j hj=>hdep j (by rw [hin j (by omega),htb i hin0 (by omega) j hj];rfl)
   have hno:∀ j,i≤j→j < n→b j=false:=fun j hij hj=>by
    rcases Nat.lt_or_ge i j with h|h
    ·exact hlat j (by rw [hin j hj,htb j hj (by omega) i h];rfl)
    ·rw [show j=i by omega];exact hb
   have hget:ops.toList.drop i=ops[i]'(by omega) :: ops.toList.drop (i+1):=by rw [List.drop_eq_getElem_cons (by simpa [hn] using hin0)];simp
   have htw:qiQ P ops Q (ops.toList.drop i) a w:=by
    rcases hI with ⟨hbm,U,rfl,hS,hU⟩|⟨t,ht,htn,h1,h2,h3⟩
    ·have hi2:i=m:=by
      rcases Nat.lt_or_ge m i with h|h
      ·rw [hall m h] at hbm;cases hbm
      ·omega
     subst hi2
     rw [qeT (fun e he=>hall e.1 (by
      have h2:(inst U 0 V).all (fun e=>decide (e.1 < i))=true:=by rw [qeE (p:=fun z=>decide (z.1 < i)) (qcM (U:=U) (U':=U0))];exact hlt
      have:=List.all_eq_true.1 h2 e he
      simpa using this))]
     refine hend U w hS (fun k j t q hk=>hU k j t q hk (hall j ?_));obtain ⟨v,hg⟩:=qgU (U:=U0) hk;have:=List.all_eq_true.1 hlt _ (List.mem_of_getElem? hg)
     simpa using this
    ·have hti:t=i:=by
      rcases Nat.lt_trichotomy t i with h|h|h
      ·have:=h2 t (Nat.le_refl _) (by omega);rw [hall t h] at this;cases this
      ·exact h
      ·rw [h1 i h] at hb;cases hb
     subst hti;exact h3
   rw [hget] at htw;refine ⟨ops[i]'(by omega),by simp [hin0,hn],fun K hK=>?_⟩;refine htw K (fun a' w' h'=>hK a' w' (.inr ⟨i+1,by omega,by omega,fun j hj=>?_,fun j hj hjn=>?_,h'⟩))
   ·by_cases hji:j=i
    ·subst hji;exact qiI b j
    ·rw [qfL hji];exact hall j (by omega)
   ·rw [qfL (by omega)];exact hno j (by omega) hjn
 ·intro b a w hb hI;have hb2:∀ j,j < n→b j=true:=fun j hj=>hb j (by simp [hj])
  rcases hI with ⟨hbm,_⟩|⟨t,ht,htn,h1,h2,h3⟩
  ·rw [hb2 m hmn] at hbm;cases hbm
  ·have:t=n:=by
    rcases Nat.lt_or_ge t n with h|h
    ·have:=h2 t (Nat.le_refl _) h;rw [hb2 t h] at this;cases this
    ·omega
   subst this;rw [List.drop_eq_nil_of_le (by simp [hn])] at h3;exact h3
theorem tail {id n m:Nat} {a0:Act} {w0:World} (V:List Ent) (S:World→Prop) (G:World→World→Prop) (hm:P.follows .mixedOrders=true) (hn:ops.size=n) (hmn:Nat.blt m n=true) (hc:qlG ops n=true)
  (htl:((List.range n).all fun j=>decide (j < m) || (List.range j).all fun i=>((Reg.bits ops).getD j 0).testBit i)=true)
  (h0:S w0.drew) (hst:∀ (k:Nat) (i:Nat) (t:Tmp) (q:Value→World→Prop),V[k]?=some (i,t,.inr q)→∀ v w w',G w w'→q v w→q v w')
  (hs:qzU P ops Q (Reg.bits ops) n a0 V S G 0 (ops.toList.take m)) (hV:okV (inst U0 0 V) a0.tmps.size=true) (hlt:(inst U0 0 V).all (fun e=>decide (e.1 < m))=true)
  (hend:∀ U w,S w→(∀ (k:Nat) (i:Nat) (t:Tmp) (q:Value→World→Prop),V[k]?=some (i,t,.inr q)→q (U k) w)→qiQ P ops Q (ops.toList.drop m) (putV a0 (inst U 0 V)) w):(Code.region id ops true).wp P Q a0 w0:=by
 unfold qlG at hc;rw [Bool.and_eq_true,Bool.and_eq_true,beq_iff_eq] at hc;have hmn2:m+1≤n:=by simpa [Nat.blt] using hmn
 refine qpP V S G hm hn hmn2 rfl hc.1.1 hc.1.2 hc.2 htl h0 hst (fun i hi=>?_) hV hlt hend;have hlen:(ops.toList.take m).length=m:=by rw [List.length_take,Array.length_toList,hn];omega
 have h2:=qoQ m ops.toList (ops.toList.take m) 0 hs (fun j hj=>by rw [List.getElem?_take,if_pos (by omega),Nat.zero_add]) i (by rw [hlen];exact hi) (by omega);rw [Nat.zero_add] at h2;obtain ⟨oi,ho,hd⟩:=h2;exact ⟨oi,by rw [← ho];simp,hd⟩
theorem tail_nil {a:Act} {w:World} (h:Q .normal a w):qiQ P ops Q [] a w:=h
theorem tail_cons {o:Oper} {r:List Oper} {a:Act} {w:World} (h:∀ K:Act→World→Prop,(∀ a' w',qiQ P ops Q r a' w'→K a' w')→if Region.wanted o (yielded ops a.tmps)=true then Oper.wp P o a w K Q else K (a.put o.dst undef) w):qiQ P ops Q (o :: r) a w:=h
end
end Go.Proofs.YtdlimghdimkadaaGreatDoor.Rel

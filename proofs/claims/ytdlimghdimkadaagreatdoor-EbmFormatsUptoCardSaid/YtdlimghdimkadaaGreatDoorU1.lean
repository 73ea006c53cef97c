/- Part 1 of what the law EbmFormats rests on. -/
import Derived.Test.YtdlimghdimkadaaGreatDoorU0
import Derived.Test.YtdlimghdimkadaaGreatDoorProg
import Derived.Below
import Derived.Deep.Draws
import Derived.Deep.AppendLies
import Derived.Maps.AppendAt
import Derived.OwnWalk
import Derived.Laws.BytesArg
import Derived.Laws.MakeOwn
import Derived.Laws.OwnMore
import Derived.Deep.OwnRows
import Derived.Tactics
import Derived.Lib.ConvBytes
import Derived.Laws.Slices
import Derived.WalkKit
import Derived.KernelRfl
import Derived.RowKit3
import Derived.Deep.LoopGhost
import Derived.Deep.QuietTactic
import Derived.BigQuiet
import Derived.WideLaws
import Derived.Deep.DeepCutAuto
import Derived.Deep.CutBlock
import Derived.Deep.RegionHeld3
import Derived.Laws.Rows
import Derived.Lib.AppendStr
import Derived.ArgAppend
import Derived.Laws.IdiomCopy
import Derived.OrdersHeld
import Derived.Laws.BitsLemmas
import Derived.RowKit
import Derived.Laws.StructEq
set_option maxRecDepth 100000
set_option maxHeartbeats 32000000
set_option linter.unusedSimpArgs false
set_option linter.unusedVariables false
namespace Go.Proofs.YtdlimghdimkadaaGreatDoorW.PrintLast
open YtdlimghdimkadaaGreatDoorW.PrintWords (qaJ)
def qiR (md:Region.Mode) (o:Oper):List Nat:=(o.after.toList.filter (fun e=>Region.binds md e)).map (fun e=>e.on)
def qqR (md:Region.Mode) (ops:Array Oper) (i:Nat) (oi:Oper):List Nat:=(List.range ops.size).filter fun j=>!(j==i) && match ops[j]? with
 | some oj=>!(oj.after.any (fun e=>Region.binds md e && e.on==i) || oi.apart ops oj)
 | none=>false
def qeN (md:Region.Mode) (ops:Array Oper):Bool × List (List Nat × List Nat):=(Region.noSelect ops,(List.range ops.size).map fun i=>match ops[i]? with
 | some o=>(qiR md o,qqR md ops i o)
 | none=>([],[]))
def qeV (T:List (List Nat × List Nat)) (l:List Bool) (i:Nat):Bool:=!l.getD i true && match T[i]? with
 | some r=>r.1.all (fun j=>l.getD j false)
 | none=>false
def qiY (T:List (List Nat × List Nat)) (l:List Bool):List Nat:=(List.range T.length).filter (qeV T l)
def qwL (T:List (List Nat × List Nat)) (l:List Bool) (i:Nat):Bool:=match T[i]? with
 | some r=>r.2.all (fun j=>l.getD j true)
 | none=>false
def qnP (T:List (List Nat × List Nat)) (l:List Bool):Bool:=(List.range T.length).all fun j=>!l.getD j false || match T[j]? with
 | some r=>r.1.all (fun k=>l.getD k false)
 | none=>true
def qlZ (T:List (List Nat × List Nat)) (i:Nat):Nat→Nat→Bool
 | 0,_=>false
 | fuel+1,d=>match T[d]? with
  | some r=>r.1.any fun j=>j==i || qlZ T i fuel j
  | none=>false
def qyU (T:List (List Nat × List Nat)) (l:List Bool) (ds:List Nat) (i:Nat):Bool:=ds.all fun d=>l.getD d true || qlZ T i T.length d
section
variable {md:Region.Mode} {ops:Array Oper} {T:Bool × List (List Nat × List Nat)} {l l' li lj lk:Array Bool} {ds:List Nat} {i j k:Nat}
theorem gd (l:Array Bool) (j:Nat) (b:Bool):l.getD j b=l.toList.getD j b:=by simp [Array.getD_eq_getD_getElem?,List.getD_eq_getElem?_getD]
theorem qoI (o:Oper) (p:Nat→Bool):o.after.all (fun e=>!Region.binds md e || p e.on)=(qiR md o).all p:=by
 unfold qiR;rw [← Array.all_toList]
 induction o.after.toList with
 | nil=>rfl
 | cons e r ih =>
  rw [List.all_cons,ih,List.filter_cons]
  cases h:Region.binds md e <;> simp
theorem qvV (o:Oper) (p:Nat→Bool):o.after.any (fun e=>Region.binds md e && p e.on)=(qiR md o).any p:=by
 unfold qiR;rw [← Array.any_toList]
 induction o.after.toList with
 | nil=>rfl
 | cons e r ih =>
  rw [List.any_cons,ih,List.filter_cons]
  cases h:Region.binds md e <;> simp
theorem qfI:(qeN md ops).2.length=ops.size:=by simp [qeN]
theorem qhR {o:Oper} (h:ops[i]?=some o):(qeN md ops).2[i]?=some (qiR md o,qqR md ops i o):=by
 have hi:=(Array.getElem?_eq_some_iff.1 h).1;unfold qeN;rw [List.getElem?_map,List.getElem?_range hi,Option.map_some,h]
theorem qhS (h:ops[i]?=none):(qeN md ops).2[i]?=none:=by
 have hi:ops.size≤i:=Array.getElem?_eq_none_iff.1 h;exact List.getElem?_eq_none (by rw [qfI];exact hi)
theorem qsP:qeV (qeN md ops).2 l.toList i=(!l.getD i true && ((ops[i]?).map (·.after.all fun e=>!Region.binds md e || l.getD e.on false)).getD false):=by
 unfold qeV;rw [gd]
 cases h:ops[i]? with
 | none=>rw [qhS h];rfl
 | some o =>
  rw [qhR h];simp only [Option.map_some,Option.getD_some];rw [← qoI];simp only [gd]
theorem qgQ:Region.ready md ops l=qiY (qeN md ops).2 l.toList:=by
 unfold Region.ready qiY;rw [qfI];refine List.filter_congr (fun i _=>?_);rw [qsP]
theorem qwK:Region.free md ops l i=qwL (qeN md ops).2 l.toList i:=by
 unfold Region.free qwL
 cases h:ops[i]? with
 | none=>rw [qhS h]
 | some oi =>
  rw [qhR h];simp only [qqR];rw [List.all_filter]
  congr 1
  funext j
  rw [gd]
  cases hj:ops[j]? with
  | none=>cases (j==i) <;> cases (l.toList.getD j true) <;> simp
  | some oj =>
   cases (j==i) <;> cases (l.toList.getD j true) <;> cases (oj.after.any (fun e=>Region.binds md e && e.on==i) || oi.apart ops oj) <;> simp_all
theorem qwU:Region.closedB md ops l=qnP (qeN md ops).2 l.toList:=by
 unfold Region.closedB qnP;rw [qfI]
 congr 1
 funext j
 rw [gd]
 cases h:ops[j]? with
 | none=>rw [qhS h]
 | some o =>
  rw [qhR h];simp only;rw [← qoI];simp only [gd]
theorem qrF:∀ (fuel d:Nat),Region.reachB md ops i fuel d=qlZ (qeN md ops).2 i fuel d
 | 0,_=>rfl
 | fuel+1,d=>by
  unfold Region.reachB qlZ
  cases h:ops[d]? with
  | none=>rw [qhS h]
  | some o =>
   rw [qhR h];simp only;rw [← qvV]
   congr 1
   funext e
   rw [qrF fuel]
theorem vcB:Region.lastB md ops l ds i=qyU (qeN md ops).2 l.toList ds i:=by
 unfold Region.lastB qyU;rw [qfI]
 congr 1
 funext d
 rw [gd,qrF]
theorem qjZ (h:qeV T.2 l.toList i=true) (hT:qeN md ops=T):(Region.ready md ops l).contains i=true:=by
 subst hT;rw [qgQ];unfold qiY;rw [List.contains_iff_mem,List.mem_filter,List.mem_range];refine ⟨?_,h⟩;unfold qeV at h;rw [Bool.and_eq_true] at h
 cases hq:(qeN md ops).2[i]? with
 | none=>rw [hq] at h;simp at h
 | some r=>exact (List.getElem?_eq_some_iff.1 hq).1
theorem qnU (h:(l.toList.set i true==l'.toList)=true):(l.setIfInBounds i true==l')=true:=by
 rw [beq_iff_eq] at h ⊢;apply Array.ext';rw [Array.toList_setIfInBounds];exact h
def anyT (T:Bool × List (List Nat × List Nat)) (l l':List Bool) (i:Nat):Bool:=T.1 && qwL T.2 l i && qeV T.2 l i && (l.set i true==l')
theorem qpL (hT:qeN md ops=T) (h:anyT T l.toList l'.toList i=true):veX md ops l l' i=true:=by
 simp only [anyT,Bool.and_eq_true] at h;obtain ⟨⟨⟨h1,h2⟩,h3⟩,h4⟩:=h;have h5:=qjZ h3 hT;have h6:=qnU h4;subst hT;simp only [veX,Bool.and_eq_true];exact ⟨⟨⟨h1,by rw [qwK];exact h2⟩,h5⟩,h6⟩
def vbC (T:Bool × List (List Nat × List Nat)) (ds:List Nat) (l l':List Bool) (i:Nat):Bool:=T.1 && qwL T.2 l i && qeV T.2 l i && qnP T.2 l && qyU T.2 l ds i && (l.set i true==l')
theorem vbB (hT:qeN md ops=T) (h:vbC T ds l.toList l'.toList i=true):quS md ops ds l l' i=true:=by
 simp only [vbC,Bool.and_eq_true] at h;obtain ⟨⟨⟨⟨⟨h1,h2⟩,h3⟩,h4⟩,h5⟩,h6⟩:=h;have h7:=qjZ h3 hT;have h8:=qnU h6;subst hT;simp only [quS,Bool.and_eq_true];exact ⟨⟨⟨⟨⟨h1,by rw [qwK];exact h2⟩,h7⟩,by rw [qwU];exact h4⟩,by rw [vcB];exact h5⟩,h8⟩
theorem qoG (hT:qeN md ops=T) (h:(qiY T.2 l.toList==[i] && l.toList.set i true==l'.toList)=true):qrD md ops l l' i=true:=by
 simp only [Bool.and_eq_true] at h;obtain ⟨h1,h2⟩:=h;subst hT;simp only [qrD,Bool.and_eq_true];exact ⟨by rw [qgQ];exact h1,qnU h2⟩
theorem vaD (hT:qeN md ops=T) (h:(qiY T.2 l.toList==[i,j] && l.toList.set i true==li.toList && l.toList.set j true==lj.toList)=true):(Region.ready md ops l==[i,j] && l.setIfInBounds i true==li && l.setIfInBounds j true==lj)=true:=by
 simp only [Bool.and_eq_true] at h ⊢;obtain ⟨⟨h1,h2⟩,h3⟩:=h;subst hT;exact ⟨⟨by rw [qgQ];exact h1,qnU h2⟩,qnU h3⟩
theorem vcL (hT:qeN md ops=T) (h:(qiY T.2 l.toList==[])=true):(Region.ready md ops l==[])=true:=by
 subst hT;rw [qgQ];exact h
def upM (B:List Nat) (d:Nat):List Nat→Nat
 | []=>0
 | n :: r=>(2 ^ n ||| (if n < d then B.getD n 0 else 0)) ||| upM B d r
def qdQ (T:List (List Nat × List Nat)) (B:List Nat):Bool:=(List.range T.length).all fun d=>match T[d]? with
 | some r=>(B.getD d 0 ||| upM B d r.1)==upM B d r.1
 | none=>false
theorem qhA {B:List Nat} {d i:Nat}:∀ {ns:List Nat},(upM B d ns).testBit i=true→∃ n ∈ ns,n=i∨(n < d∧(B.getD n 0).testBit i=true)
 | [],h=>by simp [upM] at h
 | n :: r,h=>by
  unfold upM at h;rw [Nat.testBit_or,Nat.testBit_or,Bool.or_eq_true,Bool.or_eq_true] at h
  rcases h with (h|h)|h
  ·rw [Nat.testBit_two_pow] at h;exact ⟨n,List.mem_cons_self,.inl (by simpa using h)⟩
  ·by_cases hn:n < d
   ·rw [if_pos hn] at h;exact ⟨n,List.mem_cons_self,.inr ⟨hn,h⟩⟩
   ·rw [if_neg hn] at h;simp at h
  ·obtain ⟨m,hm,h2⟩:=qhA h;exact ⟨m,List.mem_cons_of_mem _ hm,h2⟩
theorem qnY {T:List (List Nat × List Nat)} {B:List Nat} (hB:qdQ T B=true):∀ (fuel d:Nat),d < fuel→d < T.length→(B.getD d 0).testBit i=true→qlZ T i fuel d=true
 | 0,d,h,_,_=>by omega
 | fuel+1,d,h,hd,hb=>by
  have h1:=List.all_eq_true.1 hB d (List.mem_range.2 hd)
  cases hr:T[d]? with
  | none=>rw [hr] at h1;simp at h1
  | some r =>
   rw [hr] at h1;simp only [beq_iff_eq] at h1;have h2:(upM B d r.1).testBit i=true:=by rw [← h1,Nat.testBit_or,hb,Bool.true_or]
   obtain ⟨n,hn,h3⟩:=qhA h2;unfold qlZ;rw [hr];simp only;rw [List.any_eq_true];refine ⟨n,hn,?_⟩
   rcases h3 with rfl|⟨h4,h5⟩
   ·simp
   ·rw [qnY hB fuel n (by omega) (by omega) h5,Bool.or_true]
def vdU (T:List (List Nat × List Nat)) (B:List Nat) (l:List Bool) (ds:List Nat) (i:Nat):Bool:=ds.all fun d=>l.getD d true || (decide (d < T.length) && (B.getD d 0).testBit i)
def vdL (T:Bool × List (List Nat × List Nat)) (B:List Nat) (ds:List Nat) (l l':List Bool) (i:Nat):Bool:=T.1 && qwL T.2 l i && qeV T.2 l i && qnP T.2 l && vdU T.2 B l ds i && (l.set i true==l')
theorem qqZ {B:List Nat} (hT:qeN md ops=T) (hB:qdQ T.2 B=true) (h:vdL T B ds l.toList l'.toList i=true):quS md ops ds l l' i=true:=by
 refine vbB hT ?_;simp only [vdL,vbC,Bool.and_eq_true] at h ⊢;obtain ⟨⟨⟨⟨⟨h1,h2⟩,h3⟩,h4⟩,h5⟩,h6⟩:=h;refine ⟨⟨⟨⟨⟨h1,h2⟩,h3⟩,h4⟩,?_⟩,h6⟩;unfold vdU at h5;unfold qyU;rw [List.all_eq_true] at h5 ⊢;intro d hd;have h7:=h5 d hd;rw [Bool.or_eq_true,Bool.and_eq_true,decide_eq_true_eq] at h7
 rcases h7 with h7|⟨h8,h9⟩
 ·rw [h7,Bool.true_or]
 ·rw [qnY hB _ d h8 h8 h9,Bool.or_true]
theorem quN {P:Program} {Q:Exit→Act→World→Prop} {S:World→Prop} {n:Nat} {a:Act} {w:World} {B:List Nat} (hT:qeN md ops=T) (hB:qdQ T.2 B=true) (h:qaJ (qeN md ops=T)→qaJ (qdQ T.2 B=true)→qaU P md ops Q S ds n l a w):qaU P md ops Q S ds n l a w:=h ⟨hT⟩ ⟨hB⟩
end
def qlP:Code→Nat→Option (Array Oper)
 | .region id ops _,k=>if id==k then some ops else none
 | .seq a b,k=>match qlP a k with
  | some o=>some o
  | none=>qlP b k
 | .cond _ a b,k=>match qlP a k with
  | some o=>some o
  | none=>qlP b k
 | .block _ c,k=>qlP c k
 | .loop c,k=>qlP c k
 | .scope c,k=>qlP c k
 | .rangeFunc _ _ a b,k=>match qlP a k with
  | some o=>some o
  | none=>qlP b k
 | _,_=>none
def vfJ (f:Func) (k:Nat):Array Oper:=((f.body.bind fun c=>qlP c k)).getD #[]
end Go.Proofs.YtdlimghdimkadaaGreatDoorW.PrintLast
namespace Go.Proofs.YtdlimghdimkadaaGreatDoorW.PrintLast
def up (b:Nat→Bool) (i:Nat):Nat→Bool:=fun j=>if j=i then true else b j
theorem qiO (b:Nat→Bool) (i:Nat):up b i i=true:=by simp [up]
theorem qfZ {b:Nat→Bool} {i j:Nat} (h:j ≠ i):up b i j=b j:=by simp [up,h]
def lof (n:Nat) (O:List Nat) (b:Nat→Bool):List Bool:=(List.range n).map fun j=>if O.contains j then b j else true
def qbC (a:Act) (b:Nat→Bool):List (Nat × Tmp × Value)→Act
 | []=>a
 | e :: r=>qbC (if b e.1=true then a.put (some e.2.1) e.2.2 else a) b r
section
variable {P:Program} {ops:Array Oper} {Q:Exit→Act→World→Prop} {md:Region.Mode} {T:Bool × List (List Nat × List Nat)} {B:List Nat} {O:List Nat} {b:Nat→Bool} {i j n:Nat}
theorem qtD:(lof n O b).length=n:=by simp [lof]
theorem qnC {d:Bool} (hj:j < n):(lof n O b).getD j d=if O.contains j then b j else true:=by
 simp [lof,List.getD_eq_getElem?_getD,hj]
theorem vdT (hi:O.contains i=true):(lof n O b).set i true=lof n O (up b i):=by
 apply List.ext_getElem?;intro j
 by_cases hj:j < n
 ·by_cases hij:i=j
  ·subst hij;have hl:i < (lof n O b).length:=by rw [qtD];exact hj
   rw [List.getElem?_set_self hl];simp only [lof,List.getElem?_map,List.getElem?_range hj,Option.map_some,hi,if_true,qiO]
  ·rw [List.getElem?_set_ne hij];simp only [lof,List.getElem?_map,List.getElem?_range hj,Option.map_some];rw [qfZ (Ne.symm hij)]
 ·rw [List.getElem?_eq_none (by simp [lof];omega),List.getElem?_eq_none (by simp [lof];omega)]
def vaQ (P:Program) (ops:Array Oper) (Q:Exit→Act→World→Prop) (B:List Nat) (O:List Nat) (I:(Nat→Bool)→Act→World→Prop) (i:Nat):Prop :=
 ∀ b a w,I b a w→b i=false→(∀ j,(O.contains j && (B.getD i 0).testBit j)=true→b j=true)→(∀ d,(O.contains d && (B.getD d 0).testBit i)=true→b d=false) →
  ∃ oi,ops[i]?=some oi∧∀ K:Act→World→Prop,Shut (∀ a' w',I (up b i) a' w'→K a' w')→if Region.wanted oi (yielded ops a.tmps)=true then Oper.wp P oi a w K Q else K (a.put oi.dst undef) w
def qeL (T:List (List Nat × List Nat)) (O:List Nat):Bool :=
 (List.range T.length).all (fun d=>match T[d]? with
  | some r=>(O.contains d || r.1.all fun n=>!O.contains n) && r.1.all fun n=>decide (n < d)
  | none=>false) && O.all (fun i=>decide (i < T.length)) && decide O.Nodup
theorem qeF {T:List (List Nat × List Nat)} (h:qeL T O=true) {d:Nat} {r:List Nat × List Nat} (hr:T[d]?=some r):(O.contains d=false→∀ n ∈ r.1,O.contains n=false)∧∀ n ∈ r.1,n < d:=by
 simp only [qeL,Bool.and_eq_true] at h;have h1:=List.all_eq_true.1 h.1.1 d (List.mem_range.2 (List.getElem?_eq_some_iff.1 hr).1);rw [hr] at h1;simp only [Bool.and_eq_true,Bool.or_eq_true,List.all_eq_true,decide_eq_true_eq] at h1;refine ⟨fun hd n hn=>?_,h1.2⟩
 rcases h1.1 with h2|h2
 ·rw [hd] at h2;cases h2
 ·simpa using h2 n hn
theorem qpH {T:List (List Nat × List Nat)} (h:qeL T O=true) {i:Nat} (hi:i ∈ O):i < T.length:=by
 simp only [qeL,Bool.and_eq_true] at h
 simpa using List.all_eq_true.1 h.1.2 i hi
theorem qpG {T:List (List Nat × List Nat)} (h:qeL T O=true):O.Nodup:=by
 simp only [qeL,Bool.and_eq_true] at h;exact of_decide_eq_true h.2
def vaS (T:List (List Nat × List Nat)) (O:List Nat) (b:Nat→Bool):Prop:=∀ d r,T[d]?=some r→O.contains d=true→b d=true→∀ n ∈ r.1,O.contains n=true→b n=true
theorem qsB {T:List (List Nat × List Nat)} (hw:qdQ T B=true) (hk:qeL T O=true):∀ (m d:Nat),d≤m→d < T.length→O.contains d=false→∀ j,(B.getD d 0).testBit j=true→O.contains j=false:=by
 intro m
 induction m with
 | zero =>
  intro d hd hl hO j hj;have hd0:d=0:=by omega
  subst hd0;have hr:T[0]?=some T[0]:=List.getElem?_eq_getElem hl;have h1:=List.all_eq_true.1 hw 0 (List.mem_range.2 hl);rw [hr] at h1;simp only [beq_iff_eq] at h1;have h2:(upM B 0 T[0].1).testBit j=true:=by rw [← h1,Nat.testBit_or,hj,Bool.true_or]
  obtain ⟨n,hn,h3⟩:=qhA h2;have:=(qeF hk hr).2 n hn;omega
 | succ m ih =>
  intro d hd hl hO j hj;have hr:T[d]?=some T[d]:=List.getElem?_eq_getElem hl;have h1:=List.all_eq_true.1 hw d (List.mem_range.2 hl);rw [hr] at h1;simp only [beq_iff_eq] at h1;have h2:(upM B d T[d].1).testBit j=true:=by rw [← h1,Nat.testBit_or,hj,Bool.true_or]
  obtain ⟨n,hn,h3⟩:=qhA h2;have hO2:=(qeF hk hr).1 hO n hn
  rcases h3 with rfl|⟨h4,h5⟩
  ·exact hO2
  ·exact ih n (by omega) (by omega) hO2 j h5
theorem qlA {T:List (List Nat × List Nat)} (hw:qdQ T B=true) (hk:qeL T O=true) (hc:vaS T O b):∀ (m d:Nat),d≤m→d < T.length→O.contains d=true→b d=true→∀ j,O.contains j=true→(B.getD d 0).testBit j=true→b j=true:=by
 intro m
 induction m with
 | zero =>
  intro d hd hl hO hb j hjO hj;have hd0:d=0:=by omega
  subst hd0;have hr:T[0]?=some T[0]:=List.getElem?_eq_getElem hl;have h1:=List.all_eq_true.1 hw 0 (List.mem_range.2 hl);rw [hr] at h1;simp only [beq_iff_eq] at h1;have h2:(upM B 0 T[0].1).testBit j=true:=by rw [← h1,Nat.testBit_or,hj,Bool.true_or]
  obtain ⟨n,hn,h3⟩:=qhA h2;have:=(qeF hk hr).2 n hn;omega
 | succ m ih =>
  intro d hd hl hO hb j hjO hj;have hr:T[d]?=some T[d]:=List.getElem?_eq_getElem hl;have h1:=List.all_eq_true.1 hw d (List.mem_range.2 hl);rw [hr] at h1;simp only [beq_iff_eq] at h1;have h2:(upM B d T[d].1).testBit j=true:=by rw [← h1,Nat.testBit_or,hj,Bool.true_or]
  obtain ⟨n,hn,h3⟩:=qhA h2
  rcases h3 with rfl|⟨h4,h5⟩
  ·exact hc d _ hr hO hb n hn hjO
  ·cases hO2:O.contains n with
   | true=>exact ih n (by omega) (by omega) hO2 (hc d _ hr hO hb n hn hO2) j hjO h5
   | false =>
    have:=qsB hw hk n n (Nat.le_refl _) (by omega) hO2 j h5;rw [hjO] at this
    cases this
theorem qqX:∀ {O:List Nat},O.Nodup→i ∈ O→b i=false→(O.filter fun j=>!up b i j).length+1=(O.filter fun j=>!b j).length
 | [],_,hi,_=>by cases hi
 | x :: r,hn,hi,hb=>by
  rw [List.nodup_cons] at hn
  rcases List.mem_cons.1 hi with rfl|hi
  ·have h1:(r.filter fun j=>!up b i j)=r.filter fun j=>!b j:=by
    refine List.filter_congr (fun j hj=>?_);rw [qfZ (fun e=>hn.1 (by rw [← e];exact hj))]
   rw [List.filter_cons,List.filter_cons];simp [qiO,hb,h1]
  ·have hxi:x ≠ i:=fun e=>hn.1 (e ▸ hi)
   have h1:=qqX hn.2 hi hb;rw [List.filter_cons,List.filter_cons,qfZ hxi]
   cases hbx:b x
   ·simp only [Bool.not_false,if_true,List.length_cons];omega
   ·simpa using h1
theorem vcE (hT:qeN md ops=T) (hw:qdQ T.2 B=true) (hk:qeL T.2 O=true) (I:(Nat→Bool)→Act→World→Prop) (hs:∀ i ∈ O,vaQ P ops Q B O I i)
  (hend:∀ b a w,(∀ j,O.contains j=true→b j=true)→I b a w→Q .normal a w) :
  ∀ (m:Nat) (b:Nat→Bool) (a:Act) (w:World),(O.filter fun j=>!b j).length=m→vaS T.2 O b→I b a w→qaU P md ops Q (fun _=>True) [] m (lof T.2.length O b).toArray a w:=by
 subst hT
 have mem_ready':∀ {b:Nat→Bool} {i:Nat},i ∈ Region.ready md ops (lof (qeN md ops).2.length O b).toArray→i < (qeN md ops).2.length∧O.contains i=true∧b i=false∧∀ r,(qeN md ops).2[i]?=some r→∀ n ∈ r.1,n < (qeN md ops).2.length→O.contains n=true→b n=true:=by
  intro b i hi;rw [qgQ] at hi;unfold qiY at hi;rw [List.mem_filter,List.mem_range] at hi;obtain ⟨hl,h1⟩:=hi;unfold qeV at h1;rw [Bool.and_eq_true,qnC hl] at h1;obtain ⟨h2,h3⟩:=h1
  have h4:O.contains i=true:=by
   cases h:O.contains i with
   | true=>rfl
   | false=>rw [h] at h2;simp at h2
  rw [h4] at h2;refine ⟨hl,h4,by simpa using h2,fun r hr n hn hnl hO=>?_⟩;rw [hr] at h3;simp only [List.all_eq_true] at h3;have h5:=h3 n hn;rw [qnC hnl,hO] at h5
  simpa using h5
 intro m
 induction m with
 | zero =>
  intro b a w hm hc hI
  have hall:∀ j,O.contains j=true→b j=true:=by
   intro j hj
   cases hb:b j with
   | true=>rfl
   | false =>
    have:j ∈ O.filter fun j=>!b j:=List.mem_filter.2 ⟨List.contains_iff_mem.1 hj,by simp [hb]⟩
    rw [List.eq_nil_of_length_eq_zero hm] at this
    cases this
  refine ⟨?_,hend b a w hall hI⟩;refine List.eq_nil_iff_forall_not_mem.2 (fun i hi=>?_);obtain ⟨_,h1,h2,_⟩:=mem_ready' hi;rw [hall i h1] at h2
  cases h2
 | succ m ih =>
  intro b a w hm hc hI;refine ⟨fun hr=>?_,fun i hi=>?_⟩
  ·exfalso
   have hex:∃ i,O.contains i=true∧b i=false:=by
    cases hf:O.filter (fun j=>!b j) with
    | nil=>rw [hf] at hm;simp at hm
    | cons x r =>
     have hx:x ∈ O.filter (fun j=>!b j):=by rw [hf];exact List.mem_cons_self
     rw [List.mem_filter] at hx;exact ⟨x,List.contains_iff_mem.2 hx.1,by simpa using hx.2⟩
   have hmin:∀ k,(∃ i,i≤k∧O.contains i=true∧b i=false)→∃ i,O.contains i=true∧b i=false∧∀ j,j < i→O.contains j=true→b j=true:=by
    intro k
    induction k with
    | zero =>
     rintro ⟨i,hi,h1,h2⟩;exact ⟨i,h1,h2,fun j hj=>by omega⟩
    | succ k ihk =>
     rintro ⟨i,hi,h1,h2⟩
     by_cases hlow:∃ j,j≤k∧O.contains j=true∧b j=false
     ·exact ihk hlow
     ·refine ⟨i,h1,h2,fun j hj hO=>?_⟩
      cases hb:b j with
      | true=>rfl
      | false=>exact absurd ⟨j,by omega,hO,hb⟩ hlow
   obtain ⟨i0,h1,h2⟩:=hex;obtain ⟨i,hO,hb,hlow⟩:=hmin i0 ⟨i0,Nat.le_refl _,h1,h2⟩;have hl:=qpH hk (List.contains_iff_mem.1 hO)
   have hin:i ∈ Region.ready md ops (lof (qeN md ops).2.length O b).toArray:=by
    rw [qgQ];unfold qiY;rw [List.mem_filter,List.mem_range];refine ⟨hl,?_⟩;unfold qeV;rw [qnC hl,hO,hb];have hr2:(qeN md ops).2[i]?=some (qeN md ops).2[i]:=List.getElem?_eq_getElem hl;rw [hr2];simp only [if_true,Bool.not_false,Bool.true_and,List.all_eq_true];intro n hn;have hni:=(qeF hk hr2).2 n hn;rw [qnC (by omega)]
    cases hOn:O.contains n with
    | true=>simpa using hlow n hni hOn
    | false=>simp
   rw [hr] at hin
   cases hin
  ·obtain ⟨hl,hO,hb,hneed⟩:=mem_ready' hi
   have hon:∀ j,(O.contains j && (B.getD i 0).testBit j)=true→b j=true:=by
    intro j hj;rw [Bool.and_eq_true] at hj;have hr2:(qeN md ops).2[i]?=some (qeN md ops).2[i]:=List.getElem?_eq_getElem hl;have h1:=List.all_eq_true.1 hw i (List.mem_range.2 hl);rw [hr2] at h1;simp only [beq_iff_eq] at h1;have h2:(upM B i (qeN md ops).2[i].1).testBit j=true:=by rw [← h1,Nat.testBit_or,hj.2,Bool.true_or]
    obtain ⟨n,hn,h3⟩:=qhA h2;have hni:=(qeF hk hr2).2 n hn
    rcases h3 with rfl|⟨h4,h5⟩
    ·exact hneed _ hr2 n hn (by omega) hj.1
    ·cases hO2:O.contains n with
     | true=>exact qlA hw hk hc n n (Nat.le_refl _) (by omega) hO2 (hneed _ hr2 n hn (by omega) hO2) j hj.1 h5
     | false =>
      have:=qsB hw hk n n (Nat.le_refl _) (by omega) hO2 j h5;rw [hj.1] at this
      cases this
   have hoff:∀ d,(O.contains d && (B.getD d 0).testBit i)=true→b d=false:=by
    intro d hd;rw [Bool.and_eq_true] at hd
    cases hbd:b d with
    | false=>rfl
    | true =>
     have hdl:=qpH hk (List.contains_iff_mem.1 hd.1);have:=qlA hw hk hc d d (Nat.le_refl _) hdl hd.1 hbd i hO hd.2;rw [hb] at this
     cases this
   obtain ⟨oi,hoi,hK⟩:=hs i (List.contains_iff_mem.1 hO) b a w hI hb hon hoff;refine wpOp_step hoi (fun K' hK'=>hK K' (fun a' w' hI'=>hK' a' w' ⟨fun _ _=>trivial,?_⟩))
   have hset:(lof (qeN md ops).2.length O b).toArray.setIfInBounds i true=(lof (qeN md ops).2.length O (up b i)).toArray:=by
    apply Array.ext';rw [Array.toList_setIfInBounds];exact vdT hO
   rw [hset];refine ih (up b i) a' w' ?_ ?_ hI'
   ·have:=qqX (qpG hk) (List.contains_iff_mem.1 hO) hb;omega
   ·intro d r hr hOd hbd n hn hOn
    by_cases hni:n=i
    ·rw [hni,qiO]
    ·rw [qfZ hni]
     by_cases hdi:d=i
     ·subst hdi;exact hneed r hr n hn (by have:=(qeF hk hr).2 n hn;omega) hOn
     ·rw [qfZ hdi] at hbd;exact hc d r hr hOd hbd n hn hOn
theorem qdT {b:Nat→Bool} {t:Tmp}:∀ {L:List (Nat × Tmp × Value)} {a:Act},(L.all fun e=>!(e.2.1==t))=true→(qbC a b L).tmps[t]?=a.tmps[t]?
 | [],_,_=>rfl
 | e :: r,a,h=>by
  rw [List.all_cons,Bool.and_eq_true] at h;have he:e.2.1 ≠ t:=by simpa using h.1
  unfold qbC
  by_cases hb:b e.1=true
  ·rw [if_pos hb,qdT h.2];simp [Act.put,Array.getElem?_setIfInBounds_ne he]
  ·rw [if_neg hb];exact qdT h.2
theorem qgB {b:Nat→Bool} {e:Nat × Tmp × Value}:∀ {L:List (Nat × Tmp × Value)} {a:Act} (k:Nat),L[k]?=some e→((L.drop (k+1)).all fun x=>!(x.2.1==e.2.1))=true→b e.1=true→Nat.ble (e.2.1+1) a.tmps.size=true→(qbC a b L).tmps[e.2.1]?=some e.2.2
 | [],_,_,h,_,_,_=>by cases h
 | x :: r,a,0,h,hd,hb,ht=>by
  simp only [List.getElem?_cons_zero,Option.some.injEq] at h;subst h;unfold qbC;rw [if_pos hb,qdT (by simpa using hd)];have ht2:x.2.1 < a.tmps.size:=Nat.le_of_ble_eq_true ht;simp [Act.put,ht2]
 | x :: r,a,k+1,h,hd,hb,ht=>by
  unfold qbC;refine qgB k (by simpa using h) (by simpa using hd) hb ?_
  by_cases hx:b x.1=true
  ·rw [if_pos hx]
   simpa [Act.put] using ht
  ·rw [if_neg hx];exact ht
theorem qyE {a:Act} {s t:Tmp} {u v:Value} (h:s ≠ t):(a.put (some s) u).put (some t) v=(a.put (some t) v).put (some s) u:=by
 simp only [Act.put];rw [Array.setIfInBounds_comm _ _ h]
theorem qiQ {b:Nat→Bool} {t:Tmp} {v:Value}:∀ {L:List (Nat × Tmp × Value)} {a:Act},(L.all fun e=>!(e.2.1==t))=true→(qbC a b L).put (some t) v=qbC (a.put (some t) v) b L
 | [],_,_=>rfl
 | e :: r,a,h=>by
  rw [List.all_cons,Bool.and_eq_true] at h;have he:e.2.1 ≠ t:=by simpa using h.1
  unfold qbC
  by_cases hb:b e.1=true
  ·rw [if_pos hb,if_pos hb,qiQ h.2,qyE he]
  ·rw [if_neg hb,if_neg hb];exact qiQ h.2
theorem qhD {b:Nat→Bool} {i:Nat}:∀ {L:List (Nat × Tmp × Value)} {a:Act},(L.all fun e=>!(e.1==i))=true→qbC a (up b i) L=qbC a b L
 | [],_,_=>rfl
 | e :: r,a,h=>by
  rw [List.all_cons,Bool.and_eq_true] at h;have he:e.1 ≠ i:=by simpa using h.1
  unfold qbC;rw [qfZ he];exact qhD h.2
theorem qnZ {b:Nat→Bool} {i:Nat} {t:Tmp} {v0 v:Value}:∀ {L1 L2:List (Nat × Tmp × Value)} {a:Act},b i=false→((L1 ++ L2).all fun e=>!(e.1==i) && !(e.2.1==t))=true →
  (qbC a b (L1 ++ (i,t,v0) :: L2)).put (some t) v=qbC a (up b i) (L1 ++ (i,t,v) :: L2)
 | [],L2,a,hb,h=>by
  simp only [List.nil_append] at h ⊢;have h1:(L2.all fun e=>!(e.1==i))=true:=List.all_eq_true.2 (fun e he=>by have:=List.all_eq_true.1 h e he;simp only [Bool.and_eq_true] at this;exact this.1);have h2:(L2.all fun e=>!(e.2.1==t))=true:=List.all_eq_true.2 (fun e he=>by have:=List.all_eq_true.1 h e he;simp only [Bool.and_eq_true] at this;exact this.2);unfold qbC;rw [if_neg (by rw [hb];decide),if_pos (qiO b i),qiQ h2,qhD h1]
 | e :: r,L2,a,hb,h=>by
  simp only [List.cons_append,List.all_cons,Bool.and_eq_true] at h;have he:e.1 ≠ i:=by simpa using h.1.1
  simp only [List.cons_append];unfold qbC;rw [qfZ he];exact qnZ hb h.2
theorem qeD {b:Nat→Bool} {i:Nat} {t:Tmp} {v0 v:Value} {a:Act} {L L':List (Nat × Tmp × Value)} (k:Nat) (hb:b i=false) (hL:L[k]?=some (i,t,v0)) (hL':L.set k (i,t,v)=L') (hd:((L.take k ++ L.drop (k+1)).all fun e=>!(e.1==i) && !(e.2.1==t))=true) :
  (qbC a b L).put (some t) v=qbC a (up b i) L':=by
 have hk:=(List.getElem?_eq_some_iff.1 hL).1
 have h1:L=L.take k ++ (i,t,v0) :: L.drop (k+1):=by
  have h2:L[k]=(i,t,v0):=(List.getElem?_eq_some_iff.1 hL).2;rw [← h2,List.getElem_cons_drop,List.take_append_drop]
 have h3:L'=L.take k ++ (i,t,v) :: L.drop (k+1):=by rw [← hL',List.set_eq_take_append_cons_drop,if_pos hk]
 rw [h3]
 conv=>lhs;rw [h1]
 exact qnZ hb hd
theorem qfK {b:Nat→Bool} {i:Nat} {L:List (Nat × Tmp × Value)} {a:Act} {v:Value} (h:(L.all fun e=>!(e.1==i))=true):(qbC a b L).put none v=qbC a (up b i) L:=(qhD h).symm
theorem veW {l:Array Bool} {fuel:Nat} {a:Act} {w:World} (O:List Nat) (I:(Nat→Bool)→Act→World→Prop) (hT:qeN md ops=T) (hw:qdQ T.2 B=true) (hk:qeL T.2 O=true)
  (hl:(lof T.2.length O (fun _=>false)==l.toList && O.length==fuel)=true) (h0:I (fun _=>false) a w) (hs:∀ i ∈ O,vaQ P ops Q B O I i)
  (hend:∀ b a w,(∀ j,O.contains j=true→b j=true)→I b a w→Q .normal a w):qaU P md ops Q (fun _=>True) [] fuel l a w:=by
 rw [Bool.and_eq_true,beq_iff_eq,beq_iff_eq] at hl;have h1:=vcE hT hw hk I hs hend fuel (fun _=>false) a w (by rw [← hl.2];simp) (fun d r _ _ hb=>by cases hb) h0;have h2:(lof T.2.length O (fun _=>false)).toArray=l:=by apply Array.ext';exact hl.1
 rw [h2] at h1;exact h1
end
end Go.Proofs.YtdlimghdimkadaaGreatDoorW.PrintLast
namespace Go.Proofs.YtdlimghdimkadaaGreatDoorW.PrintMore
open Go.RowKit YtdlimghdimkadaaGreatDoorW.PrintWords
theorem qdG (k k':IntKind) (x y:Int):Builtin.max2 (.int k x) (.int k' y)=pure (.int k (if x < y then y else x)):=by simp only [Builtin.max2,gt_iff_lt]
theorem qdE (k k':IntKind) (x y:Int):Builtin.min2 (.int k x) (.int k' y)=pure (.int k (if y < x then y else x)):=by simp only [Builtin.min2]
theorem qdY (ats:Array TypeId) (ty:TypeId) (a b:Value):Builtin.max_ ats ty #[a,b]=(Builtin.max2 a b >>= fun s=>pure s):=by simp only [Builtin.max_,List.foldlM_cons,List.foldlM_nil]
theorem qdX (ats:Array TypeId) (ty:TypeId) (a b:Value):Builtin.min_ ats ty #[a,b]=(Builtin.min2 a b >>= fun s=>pure s):=by simp only [Builtin.min_,List.foldlM_cons,List.foldlM_nil]
theorem qcJ (ats:Array TypeId) (ty:TypeId) (a b c:Value):Builtin.max_ ats ty #[a,b,c]=(Builtin.max2 a b >>= fun s=>Builtin.max2 s c >>= fun s=>pure s):=by simp only [Builtin.max_,List.foldlM_cons,List.foldlM_nil]
theorem qcI (ats:Array TypeId) (ty:TypeId) (a b c:Value):Builtin.min_ ats ty #[a,b,c]=(Builtin.min2 a b >>= fun s=>Builtin.min2 s c >>= fun s=>pure s):=by simp only [Builtin.min_,List.foldlM_cons,List.foldlM_nil]
theorem qdF (ats:Array TypeId) (ty:TypeId) (a b c d:Value):Builtin.max_ ats ty #[a,b,c,d]=(Builtin.max2 a b >>= fun s=>Builtin.max2 s c >>= fun s=>Builtin.max2 s d >>= fun s=>pure s):=by simp only [Builtin.max_,List.foldlM_cons,List.foldlM_nil]
theorem qdD (ats:Array TypeId) (ty:TypeId) (a b c d:Value):Builtin.min_ ats ty #[a,b,c,d]=(Builtin.min2 a b >>= fun s=>Builtin.min2 s c >>= fun s=>Builtin.min2 s d >>= fun s=>pure s):=by simp only [Builtin.min_,List.foldlM_cons,List.foldlM_nil]
end Go.Proofs.YtdlimghdimkadaaGreatDoorW.PrintMore
namespace Go.Proofs.YtdlimghdimkadaaGreatDoorW.PrintWords
open Go.RowKit
section
variable {P:Program} {ops:Array Oper} {rest:List Oper} {o:Oper} {a:Act} {Q:Exit→Act→World→Prop} {W:World}
theorem qcC {f:FuncId} {as_:Array Operand} {ts:Array TypeId} (_ho:o.op=.call { callee:=.value (.func f),args:=as_,argTypes:=ts }) (h:wpList P ops Q (o :: rest) a W):wpList P ops Q (o :: rest) a W:=h
theorem qbH {b:Builtin} {xs:Array Operand} {ts:Array TypeId} (_ho:o.op=.call { callee:=.builtin b,args:=xs,argTypes:=ts }) (h:wpList P ops Q (o :: rest) a W):wpList P ops Q (o :: rest) a W:=h
end
def mx (a b:Int):Int:=if a < b then b else a
def mn (a b:Int):Int:=if b < a then b else a
def shl (k:IntKind) (x y:Int):Int:=k.wrap (x*2 ^ min y.toNat k.bits)
theorem quV {k:IntKind} {x y j:Int} (h:shl k x y=j) (hy:y≤k.bits):k.wrap (x*2 ^ y.toNat)=j:=by rw [← h];unfold shl;rw [Nat.min_eq_left (by omega)]
end Go.Proofs.YtdlimghdimkadaaGreatDoorW.PrintWords
namespace Go.Proofs.YtdlimghdimkadaaGreatDoorW.PrintWords
open Go.RowKit
end Go.Proofs.YtdlimghdimkadaaGreatDoorW.PrintWords
namespace Go.Proofs.YtdlimghdimkadaaGreatDoorW.PrintLast
section
variable {ops:Array Oper} {a:Act} {o og:Oper} {g:Nat} {t:Tmp} {u:Bool}
theorem qeE {b:Nat→Bool} {j:Nat} (hj:b j=false):∀ {L:List (Nat × Tmp × Value)} {a:Act},(L.all fun e=>!(e.2.1==t) || e.1==j)=true→(qbC a b L).tmps[t]?=a.tmps[t]?
 | [],_,_=>rfl
 | e :: r,a,h=>by
  rw [List.all_cons,Bool.and_eq_true] at h;unfold qbC
  by_cases hb:b e.1=true
  ·rw [if_pos hb,qeE hj h.2]
   have he:e.2.1 ≠ t:=by
    intro ht;rw [Bool.or_eq_true] at h
    rcases h.1 with h1|h1
    ·simp [ht] at h1
    ·rw [beq_iff_eq] at h1;rw [h1,hj] at hb
     cases hb
   simp [Act.put,Array.getElem?_setIfInBounds_ne he]
  ·rw [if_neg hb];exact qeE hj h.2
theorem qaG (hg:o.guard=some (g,u)) (ho:ops[g]?=some og) (hd:og.dst=some t) (hv:a.tmps[t]?=some (.bool u)):Region.wanted o (yielded ops a.tmps)=true:=by
 simp [Region.wanted,hg,yielded,ho,hd,hv]
theorem qaN (hg:o.guard=some (g,u)) (ho:ops[g]?=some og) (hd:og.dst=some t) (hv:a.tmps[t]?=some (.bool (!u))):Region.wanted o (yielded ops a.tmps)=false:=by
 cases u <;> simp_all [Region.wanted,yielded]
end
end Go.Proofs.YtdlimghdimkadaaGreatDoorW.PrintLast
namespace Go.Proofs.YtdlimghdimkadaaGreatDoorW.PrintWords
theorem qeX.one {α:Type} {R:α→List Value→Prop} {ps:List α} {cs:List Value} {p:α} {v:Value} (hp:R p [v]) (h:qeX R 1 ps cs):qeX R 1 (p :: ps) (v :: cs):=by
 refine ⟨by simp [h.1],fun j q hq=>?_⟩
 cases j with
 | zero =>
  simp only [List.getElem?_cons_zero,Option.some.injEq] at hq;subst hq
  simpa using hp
 | succ j =>
  simp only [List.getElem?_cons_succ] at hq;have h1:=h.2 j q hq
  simpa [Nat.mul_one] using h1
end Go.Proofs.YtdlimghdimkadaaGreatDoorW.PrintWords
namespace Go.Proofs.YtdlimghdimkadaaGreatDoorW.PrintWords
open Go.RowKit
section
variable {P:Program} {ops:Array Oper} {rest:List Oper} {o:Oper} {a:Act} {Q:Exit→Act→World→Prop} {W:World}
theorem qgW (hw:Region.wanted o (yielded ops a.tmps)=true) (h:wpList P ops Q ({ o with guard:=none } :: rest) a W):wpList P ops Q (o :: rest) a W:=by
 have h1:Region.wanted { o with guard:=none } (yielded ops a.tmps)=true:=rfl;unfold wpList at h ⊢;rw [if_pos h1] at h;rw [if_pos hw];exact h
end
end Go.Proofs.YtdlimghdimkadaaGreatDoorW.PrintWords
namespace Go.Proofs.YtdlimghdimkadaaGreatDoor.PAll
open Go Go.RowKit YtdlimghdimkadaaGreatDoorW.PrintWords YtdlimghdimkadaaGreatDoorW.PrintLast YtdlimghdimkadaaGreatDoorW.PrintMore
attribute [local go_sem] qdG qdE qdY qdX qcJ qcI qdF qdD
section
attribute [local go_sem] qdG qdE qdY qdX qcJ qcI qdF qdD   
theorem qiP {α:Type} {R:α→List Value→Prop} {size:Nat} {w:World} {A:Option Addr} {n m:Nat} {ps:List α} (e:n=m) (h:qcE R size w A n ps):qcE R size w A m ps:=e ▸ h
theorem qfU:(Tryz.prog.info? 5).map (fun i=>(i.zero,i.size,i.bytes))=some (some (.int .u8 0),1,1):=by kernel_rfl
theorem veA:(Tryz.prog.info? 68).map (fun i=>(i.zero,i.size,i.bytes))=some (some (.agg #[(.int .i64 0),(.int .i64 0),(.int .i64 0),(.int .i64 0),(.int .u64 0),(.bool false)]),6,48):=by kernel_rfl
structure S68 where
 f0:Int
 f1:Int
 f2:Int
 f3:Int
 f4:Int
 f5:Bool
def z68:S68:=⟨(0:Int),(0:Int),(0:Int),(0:Int),(0:Int),false⟩
def k68:Kd S68:=Kd.iso (Kd.pair (Kd.int .i64) (Kd.pair (Kd.int .i64) (Kd.pair (Kd.int .i64) (Kd.pair (Kd.int .i64) (Kd.pair (Kd.int .u64) Kd.bool))))) (fun x:S68=>(x.f0,x.f1,x.f2,x.f3,x.f4,x.f5))
theorem qyW {w:World} {x:S68} {cs:List Value} (h:k68.K w x cs):cs=[.int .i64 x.f0,.int .i64 x.f1,.int .i64 x.f2,.int .i64 x.f3,.int .u64 x.f4,.bool x.f5]:=by
 obtain ⟨_,_,rfl,rfl,⟨_,_,rfl,rfl,⟨_,_,rfl,rfl,⟨_,_,rfl,rfl,⟨_,_,rfl,rfl,rfl⟩⟩⟩⟩⟩:=h;exact rfl
theorem qwC (w:World) (base:Nat) (ok:Nat→Prop) (x:S68) :k68.M w base ok x [.int .i64 x.f0,.int .i64 x.f1,.int .i64 x.f2,.int .i64 x.f3,.int .u64 x.f4,.bool x.f5]:=⟨[.int .i64 x.f0],[.int .i64 x.f1,.int .i64 x.f2,.int .i64 x.f3,.int .u64 x.f4,.bool x.f5],rfl,rfl,⟨[.int .i64 x.f1],[.int .i64 x.f2,.int .i64 x.f3,.int .u64 x.f4,.bool x.f5],rfl,rfl,⟨[.int .i64 x.f2],[.int .i64 x.f3,.int .u64 x.f4,.bool x.f5],rfl,rfl,⟨[.int .i64 x.f3],[.int .u64 x.f4,.bool x.f5],rfl,rfl,⟨[.int .u64 x.f4],[.bool x.f5],rfl,rfl,rfl⟩⟩⟩⟩⟩
def qdZ (xs:List S68) (i:Int):S68:=xs.getD i.toNat z68
theorem qxF {w:World} {A:Option Addr} {n:Nat} {xs:List S68} (h:Kd.C k68 w A n xs) (i:Int) (h0:0≤i) (h1:i < n):∃ ad , A=some ad∧w.cell? (ad.add (i.toNat*6))=some (.int .i64 (qdZ xs i).f0)∧w.cell? ⟨(ad.add (i.toNat*6)).block,(ad.add (i.toNat*6)).off+1,none⟩=some (.int .i64 (qdZ xs i).f1)∧w.cell? ⟨(ad.add (i.toNat*6)).block,(ad.add (i.toNat*6)).off+2,none⟩=some (.int .i64 (qdZ xs i).f2)∧w.cell? ⟨(ad.add (i.toNat*6)).block,(ad.add (i.toNat*6)).off+3,none⟩=some (.int .i64 (qdZ xs i).f3)∧w.cell? ⟨(ad.add (i.toNat*6)).block,(ad.add (i.toNat*6)).off+4,none⟩=some (.int .u64 (qdZ xs i).f4)∧w.cell? ⟨(ad.add (i.toNat*6)).block,(ad.add (i.toNat*6)).off+5,none⟩=some (.bool (qdZ xs i).f5):=by
 obtain ⟨ad,c,e,_,hK,hc0⟩:=Kd.C_get h z68 i h0 h1;have hc:∀ j u,c[j]?=some u→w.cell? (ad.add (i.toNat*6+j))=some u:=hc0;obtain rfl:=qyW hK;exact ⟨ad,e,hc 0 _ rfl,by rw [← qdC _ _ 1 (by omega)];exact hc 1 _ rfl,by rw [← qdC _ _ 2 (by omega)];exact hc 2 _ rfl,by rw [← qdC _ _ 3 (by omega)];exact hc 3 _ rfl,by rw [← qdC _ _ 4 (by omega)];exact hc 4 _ rfl,by rw [← qdC _ _ 5 (by omega)];exact hc 5 _ rfl⟩
end
end Go.Proofs.YtdlimghdimkadaaGreatDoor.PAll
namespace Go.Proofs.YtdlimghdimkadaaGreatDoorW.PrintWords
open Go.RowKit
section
variable {P:Program} {d:Nat} {xs ys:Array Value} {f:Field} {fs:List Field} {a b:Value} {r s:Bool} {w:World}
end
end Go.Proofs.YtdlimghdimkadaaGreatDoorW.PrintWords
namespace Go.Proofs.YtdlimghdimkadaaGreatDoor.PAll
open Go Go.RowKit YtdlimghdimkadaaGreatDoorW.PrintWords YtdlimghdimkadaaGreatDoorW.PrintLast YtdlimghdimkadaaGreatDoorW.PrintMore
attribute [local go_sem] qdG qdE qdY qdX qcJ qcI qdF qdD
section
attribute [local go_sem] qdG qdE qdY qdX qcJ qcI qdF qdD   
end
section
attribute [local go_sem] qdG qdE qdY qdX qcJ qcI qdF qdD   
end
section
attribute [local go_sem] qdG qdE qdY qdX qcJ qcI qdF qdD   
def bits_Get.l0:Nat→List Int→Int→Int→Int→Option (Int)
 | 0,_,_,_,_=>none
 | k+1,x0,x3,x7,x8=>if x8 < x7 then (if 0≤x8 then (if x8 < (x0.length:Int) then (if 0≤(wrap64 (8*x8)) then (bits_Get.l0 k x0 (Go.bits .or .u64 x3 (shl .u64 (IntKind.u64.wrap (rd x0 x8)) (wrap64 (8*x8)))) x7 (wrap64 (x8+1))) else (none)) else (none)) else (none)) else (some x3)
def bits_Get.f (k:Nat) (l0:List Int):Option (Int):=bits_Get.l0 k l0 0 (mn (l0.length:Int) 8) 0
theorem bits_Get.calls (k:Nat) (A0:Option Addr) (c0:Nat) (l0:List Int) (r:Int) (w:World) (hr0:Kd.C (Kd.int .u8) w A0 l0.length l0) (hc0:l0.length≤c0) (h:bits_Get.f k l0=some r) :
  Calls Tryz.prog 150 #[.slice A0 l0.length c0] w fun e w'=>e=.returned (.int .u64 r)∧Below w.heap.size w w':=by
 have HR0:=aM hr0;have HC0:=aM hc0;clear hr0 hc0;have HB:=aM (Below.refl w.heap.size w);have H:(bits_Get.l0 k l0 0 (mn (l0.length:Int) 8) 0)=some r:=h;clear h
 obtain ⟨ji2,hji2⟩:∃ j_:Int,(mn (l0.length:Int) 8)=j_:=⟨_,rfl⟩
 replace H:(bits_Get.l0 k l0 0 ji2 0)=some r:=by first|(rw [hji2] at H;exact H)|(simp only [hji2] at H ⊢;exact H)
 (try (have hji2h:ji2≤8:=by (rw [← hji2];unfold mn;(repeat' split) <;> omega)))
 (try (have hji2g:ji2≤64:=by omega))
 (try (have hji2l:0≤ji2:=by (rw [← hji2];unfold mn;(repeat' split) <;> omega)))
 (try (have hji2m:0≤ji2:=by omega))
 have hji2_:(if 8 < (l0.length:Int) then 8 else (l0.length:Int))=ji2:=hji2;have H':=aM H;clear H;go_enter Tryz.func150,Tryz.ntmps150;go_wp2;go_loopg [3,8] k (fun kq v3 v8 w'=>∃ (x3_1:Int) (x8_1:Int),v3=.int .u64 x3_1∧v8=.int .i64 x8_1∧qaJ (bits_Get.l0 kq l0 x3_1 ji2 x8_1=some r)∧qaJ (kq≤k)∧qaJ (Below w.heap.size w w'));case atStart=>exact ⟨(0),(0),(by first|rfl|(simp;done)|(simp [*];done)),(by first|rfl|(simp;done)|(simp [*];done)),H',⟨Nat.le_refl _⟩,⟨by repeat (first|(with_reducible first|exact HB.out|apply qaA|apply qaD|apply qaF)|exact HB.out)⟩⟩
 case round =>
  clear H';try clear c1
  try clear p2
  obtain ⟨x3_1,x8_1,rfl,rfl,HA,HK1,HB⟩:=hrel
  cases gk with
  | zero=>exact absurd HA.out (by simp [bits_Get.l0])
  | succ k1 =>
   have H:=HA.out;clear HA;simp only [bits_Get.l0] at H
   by_cases c3:x8_1 < ji2
   ·rw [if_pos c3] at H;have c3b0:decide (x8_1 < ji2)=true:=decide_eq_true c3;clear c3
    by_cases c4:0≤x8_1
    ·rw [if_pos c4] at H;have c4b0:decide (0≤x8_1)=true:=decide_eq_true c4;clear c4
     by_cases c5:x8_1 < (l0.length:Int)
     ·rw [if_pos c5] at H;have c5b0:decide (x8_1 < (l0.length:Int))=true:=decide_eq_true c5;clear c5
      obtain ⟨ji6,hji6⟩:∃ j_:Int,(wrap64 (8*x8_1))=j_:=⟨_,rfl⟩
      replace H:(if 0≤(ji6) then (bits_Get.l0 k1 l0 (Go.bits .or .u64 x3_1 (shl .u64 (IntKind.u64.wrap (rd l0 x8_1)) (ji6))) ji2 (wrap64 (x8_1+1))) else (none))=some r:=by first|(rw [hji6] at H;exact H)|(simp only [hji6] at H ⊢;exact H)
      have hji6w:(IntKind.i64.wrap (8*x8_1))=ji6:=(qbL _).trans hji6
      by_cases c7:0≤(ji6)
      ·rw [if_pos c7] at H;have c7b0:=eq_true c7;have c7b1:decide (0≤(ji6))=true:=decide_eq_true c7;clear c7
       obtain ⟨ji8,hji8⟩:∃ j_:Int,(shl .u64 (IntKind.u64.wrap (rd l0 x8_1)) (ji6))=j_:=⟨_,rfl⟩
       replace H:(bits_Get.l0 k1 l0 (Go.bits .or .u64 x3_1 (ji8)) ji2 (wrap64 (x8_1+1)))=some r:=by first|(rw [hji8] at H;exact H)|(simp only [hji8] at H ⊢;exact H)
       have hji8_:(IntKind.u64.wrap ((IntKind.u64.wrap (rd l0 x8_1))*2 ^ min (ji6).toNat 64))=ji8:=hji8;have hji8z:(ji6)≤64→(IntKind.u64.wrap ((IntKind.u64.wrap (rd l0 x8_1))*2 ^ (ji6).toNat))=ji8:=quV hji8;have H':=aM H;clear H;have p118:0≤(x8_1:Int):=of_decide_eq_true (by first|(with_reducible assumption)|assumption);have q118:x8_1 < (l0.length:Int):=of_decide_eq_true (by first|(with_reducible assumption)|assumption);obtain ⟨ad118,e118,hx118_0⟩:=Kd.at_int HR0.out x8_1 p118 q118
       cases e118
       replace hx118_0:=(HB.out.cell (World.block_lt_of_cell? w _ hx118_0)).trans hx118_0;replace p118:=eq_true p118;replace q118:=eq_true q118;go_wp2;go_roundg k1;case measure=>have:=HK1.out;omega
       case rel=>exact ⟨(Go.bits .or .u64 x3_1 (ji8)),(wrap64 (x8_1+1)),(by first|rfl|(simp;done)|(simp only [← hji8] <;> (first|rfl|simp))|(simp [*];done)),(by first|rfl|(simp;done)|(simp [*];done)),H',⟨by have:=HK1.out;omega⟩,⟨by repeat (first|(with_reducible first|exact HB.out|apply qaA|apply qaD|apply qaF)|exact HB.out)⟩⟩
      ·rw [if_neg c7] at H;exact absurd H (by simp)
     ·rw [if_neg c5] at H;exact absurd H (by simp)
    ·rw [if_neg c4] at H;exact absurd H (by simp)
   ·rw [if_neg c3] at H;have c3b0:decide (x8_1 < ji2)=false:=decide_eq_false c3;clear c3;obtain rfl:=Option.some.inj H;go_wp2;go_ret;exact ⟨by first|rfl|(simp [errW_none,errW_some] <;> rfl)|(simp only [← hji2];first|rfl|(simp [errW_none,errW_some] <;> rfl))|(simp [*,errW_none,errW_some] <;> rfl),by repeat (first|(with_reducible first|exact HB.out|apply qaA|apply qaD|apply qaF)|exact HB.out)⟩
mutual
def bits_Sum.l0:Nat→Int→List Int→Int→Int→Option (Int)
 | 0,_,_,_,_=>none
 | k+1,x3,x6,x7,x8=>if x8 < x7 then (if 0≤x8 then (if x8 < (x6.length:Int) then (bits_Sum.l1 k (Go.bits .xor .u32 x3 ((rd x6 x8) % 4294967296)) x6 x7 x8 0) else (none)) else (none)) else (some (Go.bits .xor .u32 4294967295 x3))
def bits_Sum.l1:Nat→Int→List Int→Int→Int→Int→Option (Int)
 | 0,_,_,_,_,_=>none
 | k+1,x3,x6,x7,x8,x16=>if x16 < 8 then (if (Go.bits .and .u32 x3 1)=1 then (bits_Sum.l1 k (Go.bits .xor .u32 (x3 / 2) 3988292384) x6 x7 x8 (wrap64 (x16+1))) else (bits_Sum.l1 k (x3 / 2) x6 x7 x8 (wrap64 (x16+1)))) else (bits_Sum.l0 k x3 x6 x7 (wrap64 (x8+1)))
end
def bits_Sum.f (k:Nat) (l0:List Int):Option (Int):=bits_Sum.l0 k 4294967295 l0 (l0.length:Int) 0
theorem bits_Sum.calls (k:Nat) (A0:Option Addr) (c0:Nat) (l0:List Int) (r:Int) (w:World) (hr0:Kd.C (Kd.int .u8) w A0 l0.length l0) (hc0:l0.length≤c0) (h:bits_Sum.f k l0=some r) :
  Calls Tryz.prog 165 #[.slice A0 l0.length c0] w fun e w'=>e=.returned (.int .u32 r)∧qbU w w':=by
 have HR0:=aM hr0;have HC0:=aM hc0;clear hr0 hc0;have H:(bits_Sum.l0 k 4294967295 l0 (l0.length:Int) 0)=some r:=h;clear h;have H':=aM H;clear H;go_enter Tryz.func165,Tryz.ntmps165;go_wp2;go_loopg [3,8] k (fun kq v3 v8 w'=>∃ (x3_1:Int) (x8_1:Int),v3=.int .u32 x3_1∧v8=.int .i64 x8_1∧qaJ (bits_Sum.l0 kq x3_1 l0 (l0.length:Int) x8_1=some r)∧qaJ (kq≤k)∧qbU w w');case atStart=>exact ⟨(4294967295),(0),(by first|rfl|(simp;done)|(simp [*];done)),(by first|rfl|(simp;done)|(simp [*];done)),H',⟨Nat.le_refl _⟩,by repeat (first|exact qbU.refl _|apply qbU.step)⟩
 case round =>
  clear H';try clear c1
  obtain ⟨x3_1,x8_1,rfl,rfl,HA,HK1,⟨m1,rfl⟩⟩:=hrel
  cases gk with
  | zero=>exact absurd HA.out (by simp [bits_Sum.l0])
  | succ k1 =>
   have H:=HA.out;clear HA;simp only [bits_Sum.l0] at H
   by_cases c2:x8_1 < (l0.length:Int)
   ·rw [if_pos c2] at H;have c2b0:decide (x8_1 < (l0.length:Int))=true:=decide_eq_true c2;clear c2
    by_cases c3:0≤x8_1
    ·rw [if_pos c3] at H;have c3b0:decide (0≤x8_1)=true:=decide_eq_true c3;clear c3
     by_cases c4:x8_1 < (l0.length:Int)
     ·rw [if_pos c4] at H;have c4b0:decide (x8_1 < (l0.length:Int))=true:=decide_eq_true c4;clear c4;have H':=aM H;clear H;have p119:0≤(x8_1:Int):=of_decide_eq_true (by first|(with_reducible assumption)|assumption);have q119:x8_1 < (l0.length:Int):=of_decide_eq_true (by first|(with_reducible assumption)|assumption);obtain ⟨ad119,e119,hx119_0⟩:=Kd.at_int HR0.out x8_1 p119 q119
      cases e119
      replace p119:=eq_true p119;replace q119:=eq_true q119;go_wp2;go_loopg [3,16] k1 (fun kq v3 v16 w'=>∃ (x3_2:Int) (x16_2:Int),v3=.int .u32 x3_2∧v16=.int .i64 x16_2∧qaJ (bits_Sum.l1 kq x3_2 l0 (l0.length:Int) x8_1 x16_2=some r)∧qaJ (kq≤k1)∧qbU w w');case atStart=>exact ⟨(Go.bits .xor .u32 x3_1 ((rd l0 x8_1) % 4294967296)),(0),(by first|rfl|(simp;done)|(simp [*];done)),(by first|rfl|(simp;done)|(simp [*];done)),H',⟨Nat.le_refl _⟩,by repeat (first|exact qbU.refl _|apply qbU.step)⟩
      case round =>
       clear H';try clear c1
       try clear p1
       try clear q1
       try clear hx1
       try clear c2
       try clear c2b0
       try clear p2
       try clear c3
       try clear c3b0
       try clear c4
       try clear c4b0
       try clear hx119_0
       try clear p119
       try clear q119
       obtain ⟨x3_2,x16_2,rfl,rfl,HA,HK2,⟨m2,rfl⟩⟩:=hrel
       cases gk with
       | zero=>exact absurd HA.out (by simp [bits_Sum.l1])
       | succ k2 =>
        have H:=HA.out;clear HA;simp only [bits_Sum.l1] at H
        by_cases c5:x16_2 < 8
        ·rw [if_pos c5] at H;have c5b0:decide (x16_2 < 8)=true:=decide_eq_true c5;clear c5
         by_cases c6:(Go.bits .and .u32 x3_2 1)=1
         ·rw [if_pos c6] at H;have c6b0:((Go.bits .and .u32 x3_2 1)==1)=true:=beq_iff_eq.mpr c6;have c6b1:((Go.bits .and .u32 x3_2 1) != 1)=false:=bne_eq_false_iff_eq.mpr c6;clear c6;have H':=aM H;clear H;go_wp2;go_roundg k2;case measure=>have:=HK1.out;have:=HK2.out;omega
          case rel=>exact ⟨(Go.bits .xor .u32 (x3_2 / 2) 3988292384),(wrap64 (x16_2+1)),(by first|rfl|(simp;done)|(simp [*];done)),(by first|rfl|(simp;done)|(simp [*];done)),H',⟨by have:=HK1.out;have:=HK2.out;omega⟩,by repeat (first|exact qbU.refl _|apply qbU.step)⟩
         ·rw [if_neg c6] at H;have c6b0:((Go.bits .and .u32 x3_2 1)==1)=false:=beq_eq_false_iff_ne.mpr c6;have c6b1:((Go.bits .and .u32 x3_2 1) != 1)=true:=bne_iff_ne.mpr c6;have H':=aM H;clear H;go_wp2;go_roundg k2;case measure=>have:=HK1.out;have:=HK2.out;omega
          case rel=>exact ⟨(x3_2 / 2),(wrap64 (x16_2+1)),(by first|rfl|(simp;done)|(simp [*];done)),(by first|rfl|(simp;done)|(simp [*];done)),H',⟨by have:=HK1.out;have:=HK2.out;omega⟩,by repeat (first|exact qbU.refl _|apply qbU.step)⟩
        ·rw [if_neg c5] at H;have c5b0:decide (x16_2 < 8)=false:=decide_eq_false c5;clear c5;have H':=aM H;clear H;go_wp2;go_roundg k2;case measure=>have:=HK1.out;have:=HK2.out;omega
         case rel=>exact ⟨(x3_2),(wrap64 (x8_1+1)),(by first|rfl|(simp;done)|(simp [*];done)),(by first|rfl|(simp;done)|(simp [*];done)),H',⟨by have:=HK1.out;have:=HK2.out;omega⟩,by repeat (first|exact qbU.refl _|apply qbU.step)⟩
     ·rw [if_neg c4] at H;exact absurd H (by simp)
    ·rw [if_neg c3] at H;exact absurd H (by simp)
   ·rw [if_neg c2] at H;have c2b0:decide (x8_1 < (l0.length:Int))=false:=decide_eq_false c2;clear c2;obtain rfl:=Option.some.inj H;go_wp2;go_ret;exact ⟨by first|rfl|(simp;done)|(simp [*];done),by repeat (first|exact qbU.refl _|apply qbU.step)⟩
def bits_Unframe.j0:Nat→List Int→Int→Bool→Option (List Int × Int × Bool)
 | 0,_,_,_=>none
 | k+1,x0,x5,x26=>if x26=true then (some (([]:List Int),0,false)) else ((some (([]:List Int):List Int)).bind fun y122=>(if 6≤(wrap64 (6+x5)) then (if (wrap64 (6+x5))≤(x0.length:Int) then (if y122.length+((x0.take ((wrap64 (6+x5)):Int).toNat).drop 6).length < 140737488355328 then ((some (y122 ++ ((x0.take ((wrap64 (6+x5)):Int).toNat).drop 6):List Int)).bind fun y126=>((bits_Sum.f k y126).bind fun t129=>(if 2≤6 then (if 6≤(x0.length:Int) then ((bits_Get.f k ((x0.take 6).drop 2)).bind fun t131=>(if (IntKind.u64.wrap (t129))=t131 then (some (y126,wrap64 (6+x5),true)) else (some (([]:List Int),0,false)))) else (none)) else (none)))) else (none)) else (none)) else (none)))
def bits_Unframe.f (k:Nat) (l0:List Int):Option (List Int × Int × Bool):=if (l0.length:Int) < 6 then (some (([]:List Int),0,false)) else (if 2≤(l0.length:Int) then ((bits_Get.f k (l0.take 2)).bind fun t121=>(if (wrap64 (t121))=0 then (bits_Unframe.j0 k l0 (wrap64 (t121)) true) else (if (wrap64 (t121)) > 1024 then (bits_Unframe.j0 k l0 (wrap64 (t121)) true) else (bits_Unframe.j0 k l0 (wrap64 (t121)) (decide ((wrap64 (t121)) > (wrap64 ((l0.length:Int) - 6)))))))) else (none))
theorem bits_Unframe.calls (k:Nat) (A0:Option Addr) (c0:Nat) (l0:List Int) (r1:List Int) (r2:Int) (r3:Bool) (w:World) (hr0:Kd.C (Kd.int .u8) w A0 l0.length l0) (hc0:l0.length≤c0) (h:bits_Unframe.f k l0=some (r1,r2,r3)) :
  Calls Tryz.prog 146 #[.slice A0 l0.length c0] w fun e w'=>∃ v0_:Value,e=.returned (.tuple #[v0_,.int .i64 r2,.bool r3])∧Kd.R (Kd.int .u8) 5 w' w.heap.size (fun _=>True) v0_ r1∧Below w.heap.size w w':=by
 have HR0:=aM hr0;have HC0:=aM hc0;clear hr0 hc0;have HB:=aM (Below.refl w.heap.size w);have H:(if (l0.length:Int) < 6 then (some (([]:List Int),0,false)) else (if 2≤(l0.length:Int) then ((bits_Get.f k (l0.take 2)).bind fun t121=>(if (wrap64 (t121))=0 then (bits_Unframe.j0 k l0 (wrap64 (t121)) true) else (if (wrap64 (t121)) > 1024 then (bits_Unframe.j0 k l0 (wrap64 (t121)) true) else (bits_Unframe.j0 k l0 (wrap64 (t121)) (decide ((wrap64 (t121)) > (wrap64 ((l0.length:Int) - 6)))))))) else (none)))=some (r1,r2,r3):=h;clear h
 by_cases c2:(l0.length:Int) < 6
 ·rw [if_pos c2] at H;have c2b0:decide ((l0.length:Int) < 6)=true:=decide_eq_true c2;have c2b1:decide (l0.length < 6)=true:=decide_eq_true (by omega);clear c2;simp only [Option.some.injEq,Prod.mk.injEq] at H;obtain ⟨rfl,rfl,rfl⟩:=H;go_enter Tryz.func146,Tryz.ntmps146;go_wp2;go_ret3;exact ⟨_,by first|rfl|(simp [errW_none,errW_some] <;> rfl)|(simp [*,errW_none,errW_some] <;> rfl),by first|exact Kd.R_nil _ _ _ _ _|exact Kd.N_nil _ _ _ _ _|exact Kd.V_nil _ _ _ _ _|exact Kd.Q_nil _ _ _ _ _|exact Kd.S_nil _ _ _ _ _,by repeat (first|(with_reducible first|exact HB.out|apply qaA|apply qaD|apply qaF)|exact HB.out)⟩
 ·rw [if_neg c2] at H;have c2b0:decide ((l0.length:Int) < 6)=false:=decide_eq_false c2;have c2b1:decide (l0.length < 6)=false:=decide_eq_false (by omega);clear c2
  by_cases c3:2≤(l0.length:Int)
  ·rw [if_pos c3] at H;have c3b0:=eq_true c3;have c3b1:decide (2≤(l0.length:Int))=true:=decide_eq_true c3;clear c3;replace H:=Option.bind_eq_some_iff.mp H;obtain ⟨t121,A40,H⟩:=H;replace H:(if (wrap64 (t121))=0 then (bits_Unframe.j0 k l0 (wrap64 (t121)) true) else (if (wrap64 (t121)) > 1024 then (bits_Unframe.j0 k l0 (wrap64 (t121)) true) else (bits_Unframe.j0 k l0 (wrap64 (t121)) (decide ((wrap64 (t121)) > (wrap64 ((l0.length:Int) - 6)))))))=some (r1,r2,r3):=H;have A4:=aM A40;clear A40;have HC5:=aM H;clear H;obtain ⟨i06,hi06,_,hsz6,_⟩:=info_parts qfU;obtain ⟨hcut6,hA6,hC6⟩:=qhW (P:=Tryz.prog) (Value.int .u8) 0 35 5 .i64 Tryz.underlying35 hi06 hsz6 A0 c0 l0 2 (by omega) (of_decide_eq_true (by first|(with_reducible assumption)|assumption)) HC0.out;have HR120:=aM (Kd.C_of_reads (h1:=fun _=>rfl) (hA6 _ (Kd.reads_of_C HR0.out)));have HC120:=aM hC6;clear hA6 hC6 hi06 hsz6;go_enter Tryz.func146,Tryz.ntmps146
   go_upto_region 4 with (first|((with_reducible refine qcC (f:=150) rfl ?_);refine qgI (some 12) rfl rfl Tryz.func150 (by kernel_rfl) rfl #[.slice A0 (l0.take 2).length c0] rfl (by (try simp only [List.map_toArray,List.map_cons,List.map_nil]);first|done|(rw [show (l0.take 2).length=2 from (by rw [List.length_take];have h_:(2:Int)≤(l0.length:Int):=of_decide_eq_true (by first|(with_reducible assumption)|assumption);omega)] <;> rfl)|rfl|(simp only [List.length_drop,List.length_take];rfl)) ?_;(with_reducible refine (bits_Get.calls k _ _ (l0.take 2) t121 _ ?side1 ?side2 A4.out).mono ?_);(case side1=>repeat (first|exact HR120.out|(with_reducible refine Kd.C_alloc ?_ _)|(with_reducible refine Kd.C_drewN ?_ _)|(with_reducible refine Kd.C_drew ?_)));(case side2=>exact HC120.out);rintro e w7 ⟨rfl,hb⟩;refine ⟨_,rfl,?_⟩;have n0_:=aM (qaC (by repeat (first|(with_reducible first|exact HB.out|apply qaA|apply qaD|apply qaF)|exact HB.out)) hb);clear HB;have HB:=n0_;clear n0_;(try clear hb);(try clear hb2);(try clear hk);(try clear hi)))
   (try simp only [Act.put,List.setIfInBounds_toArray,List.set_cons_zero,List.set_cons_succ])
   go_cut [26] (fun v26 wc=>∃ (kq:Nat) (x26_4:Bool),v26=.bool x26_4∧qaJ (bits_Unframe.j0 kq l0 (wrap64 (t121)) x26_4=some (r1,r2,r3))∧qaJ (kq≤k)∧qaJ (Below w.heap.size w wc))
   case first =>
    have H:=HC5.out;clear HC5
    by_cases c8:(wrap64 (t121))=0
    ·rw [if_pos c8] at H;have c8b0:((wrap64 (t121))==0)=true:=beq_iff_eq.mpr c8;have c8b1:((wrap64 (t121)) != 0)=false:=bne_eq_false_iff_eq.mpr c8;clear c8
     (first|rw [c8b0]|(simp only [qbL];rw [c8b0])|skip)
     have H':=aM H;clear H;go_wp2;go_meet;case rel=>exact ⟨_,(true),(by first|rfl|(simp;done)|(simp [*];done)),H',⟨by first|omega|exact Nat.le_refl _⟩,⟨by repeat (first|(with_reducible first|exact HB.out|apply qaA|apply qaD|apply qaF)|exact HB.out)⟩⟩
    ·rw [if_neg c8] at H;have c8b0:((wrap64 (t121))==0)=false:=beq_eq_false_iff_ne.mpr c8;have c8b1:((wrap64 (t121)) != 0)=true:=bne_iff_ne.mpr c8
     (first|rw [c8b0]|(simp only [qbL];rw [c8b0])|skip)
     by_cases c9:(wrap64 (t121)) > 1024
     ·rw [if_pos c9] at H;have c9b0:decide (1024 < (wrap64 (t121)))=true:=decide_eq_true c9;clear c9;have H':=aM H;clear H;go_wp2;go_meet;case rel=>exact ⟨_,(true),(by first|rfl|(simp;done)|(simp [*];done)),H',⟨by first|omega|exact Nat.le_refl _⟩,⟨by repeat (first|(with_reducible first|exact HB.out|apply qaA|apply qaD|apply qaF)|exact HB.out)⟩⟩
     ·rw [if_neg c9] at H;have c9b0:decide (1024 < (wrap64 (t121)))=false:=decide_eq_false c9;clear c9;have H':=aM H;clear H;go_wp2;go_meet;case rel=>exact ⟨_,(decide ((wrap64 (t121)) > (wrap64 ((l0.length:Int) - 6)))),(by first|rfl|(simp;done)|(simp [*];done)),H',⟨by first|omega|exact Nat.le_refl _⟩,⟨by repeat (first|(with_reducible first|exact HB.out|apply qaA|apply qaD|apply qaF)|exact HB.out)⟩⟩
   case rest =>
    clear HC5;try clear c1
    try clear c2
    try clear c2b0
    try clear c2b1
    try clear p2
    try clear c3
    try clear c3b0
    try clear c3b1
    try clear p6
    try clear c8
    try clear c8b0
    try clear c8b1
    try clear c9
    try clear c9b0
    obtain ⟨kq,x26_4,rfl,HA,HJ4,HB⟩:=hcut
    cases kq with
    | zero=>exact absurd HA.out (by simp [bits_Unframe.j0])
    | succ kj4 =>
     have H:=HA.out;clear HA;simp only [bits_Unframe.j0] at H
     by_cases c10:x26_4=true
     ·subst c10;have H1:(some (([]:List Int),0,false))=some (r1,r2,r3):=by rw [if_pos rfl] at H;exact H
      clear H;have H:=H1;clear H1;simp only [Option.some.injEq,Prod.mk.injEq] at H;obtain ⟨rfl,rfl,rfl⟩:=H;go_wp2;go_ret3;exact ⟨_,by first|rfl|(simp [errW_none,errW_some] <;> rfl)|(simp [*,errW_none,errW_some] <;> rfl),by first|exact Kd.R_nil _ _ _ _ _|exact Kd.N_nil _ _ _ _ _|exact Kd.V_nil _ _ _ _ _|exact Kd.Q_nil _ _ _ _ _|exact Kd.S_nil _ _ _ _ _,by repeat (first|(with_reducible first|exact HB.out|apply qaA|apply qaD|apply qaF)|exact HB.out)⟩
     ·replace c10:=Bool.eq_false_iff.mpr c10;subst c10;have H1:((some (([]:List Int):List Int)).bind fun y122=>(if 6≤(wrap64 (6+(wrap64 (t121)))) then (if (wrap64 (6+(wrap64 (t121))))≤(l0.length:Int) then (if y122.length+((l0.take ((wrap64 (6+(wrap64 (t121)))):Int).toNat).drop 6).length < 140737488355328 then ((some (y122 ++ ((l0.take ((wrap64 (6+(wrap64 (t121)))):Int).toNat).drop 6):List Int)).bind fun y126=>((bits_Sum.f kj4 y126).bind fun t129=>(if 2≤6 then (if 6≤(l0.length:Int) then ((bits_Get.f kj4 ((l0.take 6).drop 2)).bind fun t131=>(if (IntKind.u64.wrap (t129))=t131 then (some (y126,wrap64 (6+(wrap64 (t121))),true)) else (some (([]:List Int),0,false)))) else (none)) else (none)))) else (none)) else (none)) else (none)))=some (r1,r2,r3):=by rw [if_neg (show ¬ (false=true) by decide)] at H;exact H
      clear H;have H:=H1;clear H1
      obtain ⟨y122,hy122⟩:∃ y_:List Int,y_=(([]:List Int)):=⟨_,rfl⟩
      replace H:(if 6≤(wrap64 (6+(wrap64 (t121)))) then (if (wrap64 (6+(wrap64 (t121))))≤(l0.length:Int) then (if y122.length+((l0.take ((wrap64 (6+(wrap64 (t121)))):Int).toNat).drop 6).length < 140737488355328 then ((some (y122 ++ ((l0.take ((wrap64 (6+(wrap64 (t121)))):Int).toNat).drop 6):List Int)).bind fun y126=>((bits_Sum.f kj4 y126).bind fun t129=>(if 2≤6 then (if 6≤(l0.length:Int) then ((bits_Get.f kj4 ((l0.take 6).drop 2)).bind fun t131=>(if (IntKind.u64.wrap (t129))=t131 then (some (y126,wrap64 (6+(wrap64 (t121))),true)) else (some (([]:List Int),0,false)))) else (none)) else (none)))) else (none)) else (none)) else (none))=some (r1,r2,r3):=by first|(rw [hy122];with_reducible exact H)|(have H2_:=(Option.bind_some _ _).symm.trans H;rw [hy122];with_reducible exact H2_)|(have H2_:=(Option.bind_some _ _).symm.trans H;with_reducible exact H2_)|with_reducible exact H|(rw [hy122];exact H)|exact H
      have Ny122:=aM hy122;clear hy122
      by_cases c11:6≤(wrap64 (6+(wrap64 (t121))))
      ·rw [if_pos c11] at H;have c11b0:=eq_true c11;have c11b1:decide (6≤(wrap64 (6+(wrap64 (t121)))))=true:=decide_eq_true c11
       by_cases c12:(wrap64 (6+(wrap64 (t121))))≤(l0.length:Int)
       ·rw [if_pos c12] at H;have c12b0:=eq_true c12;have c12b1:decide ((wrap64 (6+(wrap64 (t121))))≤(l0.length:Int))=true:=decide_eq_true c12
        by_cases c13:y122.length+((l0.take ((wrap64 (6+(wrap64 (t121)))):Int).toNat).drop 6).length < 140737488355328
        ·rw [if_pos c13] at H;have LMc13:=aM c13;clear c13
         obtain ⟨y126,hy126⟩:∃ y_:List Int,y_=(y122 ++ ((l0.take ((wrap64 (6+(wrap64 (t121)))):Int).toNat).drop 6)):=⟨_,rfl⟩
         replace H:((bits_Sum.f kj4 y126).bind fun t129=>(if 2≤6 then (if 6≤(l0.length:Int) then ((bits_Get.f kj4 ((l0.take 6).drop 2)).bind fun t131=>(if (IntKind.u64.wrap (t129))=t131 then (some (y126,wrap64 (6+(wrap64 (t121))),true)) else (some (([]:List Int),0,false)))) else (none)) else (none)))=some (r1,r2,r3):=by first|(rw [hy126];with_reducible exact H)|(have H2_:=(Option.bind_some _ _).symm.trans H;rw [hy126];with_reducible exact H2_)|(have H2_:=(Option.bind_some _ _).symm.trans H;with_reducible exact H2_)|with_reducible exact H|(rw [hy126];exact H)|exact H
         have Ny126:=aM hy126;clear hy126;replace H:=Option.bind_eq_some_iff.mp H;obtain ⟨t129,A140,H⟩:=H;replace H:(if 2≤6 then (if 6≤(l0.length:Int) then ((bits_Get.f kj4 ((l0.take 6).drop 2)).bind fun t131=>(if (IntKind.u64.wrap (t129))=t131 then (some (y126,wrap64 (6+(wrap64 (t121))),true)) else (some (([]:List Int),0,false)))) else (none)) else (none))=some (r1,r2,r3):=H;have A14:=aM A140;clear A140
         by_cases c15:2≤6
         ·rw [if_pos c15] at H;have c15b0:=eq_true c15;have c15b1:decide (2≤6)=true:=decide_eq_true c15;clear c15
          by_cases c16:6≤(l0.length:Int)
          ·rw [if_pos c16] at H;have c16b0:=eq_true c16;have c16b1:decide (6≤(l0.length:Int))=true:=decide_eq_true c16;clear c16;replace H:=Option.bind_eq_some_iff.mp H;obtain ⟨t131,A170,H⟩:=H;replace H:(if (IntKind.u64.wrap (t129))=t131 then (some (y126,wrap64 (6+(wrap64 (t121))),true)) else (some (([]:List Int),0,false)))=some (r1,r2,r3):=H;have A17:=aM A170;clear A170
           by_cases c18:(IntKind.u64.wrap (t129))=t131
           ·rw [if_pos c18] at H;have c18b0:((IntKind.u64.wrap (t129))==t131)=true:=beq_iff_eq.mpr c18;have c18b1:((IntKind.u64.wrap (t129)) != t131)=false:=bne_eq_false_iff_eq.mpr c18;clear c18;simp only [Option.some.injEq,Prod.mk.injEq] at H;obtain ⟨rfl,rfl,rfl⟩:=H;try go_wp2_with (first|((with_reducible refine qcL (N:=27) rfl ?_);(try (refine qgW (by rfl) ?_;dsimp only));refine Kd.R_lit (Kd.int .u8) _ 5 ?hg (N:=27) ?hd (xs:=([]:List Int)) (inner:=[]) (ok:=fun _=>True) (okp:=fun _=>True) ?hr ?hp (fun _ hk=>hk) trivial (Below.refl _ _) (Nat.le_refl _) (by simp) ?_;(case hd=>rfl);(case hg=>rfl);(case hr=>first|(go_simp;done)|(go_simp;rfl));(case hp=>exact (qeX.none _ _));intro v123 w19 ho20 hb hg_ hnew_;clear hg_ hnew_;(first|rw [← Ny122.out] at ho20|(simp only [Int.reduceToNat] at ho20;rw [← Ny122.out] at ho20));have n0_:=aM (Kd.R_lower ho20 (qaI (by repeat (first|(with_reducible first|exact HB.out|apply qaA|apply qaD|apply qaF)|exact HB.out))));have n1_:=aM (qaC (by repeat (first|(with_reducible first|exact HB.out|apply qaA|apply qaD|apply qaF)|exact HB.out)) hb);clear HB;have HO124:=n0_;have HB:=n1_;clear n0_ n1_;clear hb ho20;obtain ⟨i021,hi021,_,hsz21,_⟩:=info_parts qfU;obtain ⟨A21,hcut21,hA21,hC21⟩:=qeQ (P:=Tryz.prog) (Value.int .u8) 0 35 5 .i64 .i64 Tryz.underlying35 hi021 hsz21 A0 c0 l0 6 (wrap64 (6+(wrap64 (t121)))) (by omega) (by first|omega|exact of_decide_eq_true (by first|(with_reducible assumption)|assumption)) (of_decide_eq_true (by first|(with_reducible assumption)|assumption)) HC0.out;have HR125:=aM (Kd.C_of_reads (h1:=fun _=>rfl) (hA21 _ (Kd.reads_of_C HR0.out)));have HC125:=aM hC21;clear hA21 hC21 hi021 hsz21)|((with_reducible refine qbH (b:=.append) (xs:=#[.tmp 27,.tmp 31]) rfl ?_);(try (refine qgW (by rfl) ?_;dsimp only));at_builtin;refine Kd.R_append_rows (Kd.int .u8) (w0:=w) w.heap.size rfl (.tmp 27) (.tmp 31) 35 5 (.int .u8 0) 1 rfl Tryz.underlying35 qfU rfl (by decide) (by omega) v123 y122 ((l0.take ((wrap64 (6+(wrap64 (t121)))):Int).toNat).drop 6) _ _ _ (fun _=>True) (fun _=>False) rfl rfl ?aO ?aR (fun _ _ h=>h) (fun _ h=>h.elim) ?aF ?aB ?aS ?aL ?_;(case aR=>first|(refine qiP (show ((l0.take ((wrap64 (6+(wrap64 (t121)))):Int).toNat).drop 6).length=((wrap64 (6+(wrap64 (t121)))).toNat - 6) from (by rw [List.length_drop,List.length_take];have h_:((wrap64 (6+(wrap64 (t121)))):Int)≤(l0.length:Int):=of_decide_eq_true (by first|(with_reducible assumption)|assumption);omega)) ?_;repeat (first|exact (Kd.C_below HR125.out HB.out)|(with_reducible refine Kd.C_alloc ?_ _)|(with_reducible refine Kd.C_drewN ?_ _)|(with_reducible refine Kd.C_drew ?_));done)|(repeat (first|exact (Kd.C_below HR125.out HB.out)|(with_reducible refine Kd.C_alloc ?_ _)|(with_reducible refine Kd.C_drewN ?_ _)|(with_reducible refine Kd.C_drew ?_))));(case aB=>exact (by repeat (first|(with_reducible first|exact HB.out|apply qaA|apply qaD|apply qaF)|exact HB.out)));(case aF=>exact (fun _ _=>trivial));(case aO=>exact (by (with_reducible repeat (first|apply Kd.R_alloc|apply Kd.R_drewN|apply Kd.R_drew));exact HO124.out));(case aS=>exact (qaI (by repeat (first|(with_reducible first|exact HB.out|apply qaA|apply qaD|apply qaF)|exact HB.out))));(case aL=>have:=LMc13.out;have hlx_:=(show ((l0.take ((wrap64 (6+(wrap64 (t121)))):Int).toNat).drop 6).length=((wrap64 (6+(wrap64 (t121)))).toNat - 6) from (by rw [List.length_drop,List.length_take];have h_:((wrap64 (6+(wrap64 (t121)))):Int)≤(l0.length:Int):=of_decide_eq_true (by first|(with_reducible assumption)|assumption);omega));omega);intro v127 w22 ho hb hg hat;rw [← Ny126.out] at ho;have n0_:=aM (hb);have n1_:=aM (ho);clear HB;clear HO124;have HB:=n0_;have HO128:=n1_;clear n0_ n1_;clear ho hb hg hat))
            have n0_:=aM (Kd.R_drew HO128.out);have n1_:=aM (qaF HB.out);clear HO128;clear HB;have HO128:=n0_;have HB:=n1_;clear n0_ n1_;obtain ⟨i024,hi024,_,hsz24,_⟩:=info_parts qfU;obtain ⟨A24,hcut24,hA24,hC24⟩:=qeQ (P:=Tryz.prog) (Value.int .u8) 0 35 5 .i64 .i64 Tryz.underlying35 hi024 hsz24 A0 c0 l0 2 6 (by omega) (by first|omega|exact of_decide_eq_true (by first|(with_reducible assumption)|assumption)) (of_decide_eq_true (by first|(with_reducible assumption)|assumption)) HC0.out;have HR130:=aM (Kd.C_of_reads (h1:=fun _=>rfl) (hA24 _ (Kd.reads_of_C HR0.out)));have HC130:=aM hC24;clear hA24 hC24 hi024 hsz24;obtain ⟨Ao25,co25,eo25⟩:=Kd.R_slice HO128.out
            (first|subst eo25|(injection eo25 with f1_ f2_ f3_;have f4_:=f1_.symm;have f5_:=f3_.symm;clear f1_ f2_ f3_;subst f4_;subst f5_))
            refine qlX (n:=7) (S:=fun w'=>True) (ds:=[]) #[false,false,false,false,false,false,false] (by kernel_rfl) rfl rfl trivial (fun hHeld=>?_);generalize w22.drew=w23 at HO128 HB HR130 hHeld ⊢;refine qhE (i:=0) (N:=some 33) (v:=?_) (a':=?_) #[true,false,false,false,false,false,false] rfl rfl (by kernel_rfl) (fun _ _ _ h=>h) (Or.inl ⟨by rfl,?_⟩) ?_ ?_;rotate_left
            ·intro w';go_simp
             with_reducible rfl
            rotate_left
            ·simp only [Act.put,List.setIfInBounds_toArray,List.set_cons_zero,List.set_cons_succ,qbL];rfl
            refine qhE (i:=3) (N:=some 36) (v:=?_) (a':=?_) #[true,false,false,true,false,false,false] rfl rfl (by kernel_rfl) (fun _ _ _ h=>h) (Or.inl ⟨by rfl,?_⟩) ?_ ?_;rotate_left
            ·intro w';go_simp
             with_reducible rfl
            rotate_left
            ·simp only [Act.put,List.setIfInBounds_toArray,List.set_cons_zero,List.set_cons_succ,qbL];rfl
            refine qhE (i:=4) (N:=some 37) (v:=?_) (a':=?_) #[true,false,false,true,true,false,false] rfl rfl (by kernel_rfl) (fun _ _ _ h=>h) (Or.inl ⟨by rfl,?_⟩) ?_ ?_;rotate_left
            ·intro w';go_simp
             with_reducible rfl
            rotate_left
            ·simp only [Act.put,List.setIfInBounds_toArray,List.set_cons_zero,List.set_cons_succ,qbL];rfl
            refine qyI (i:=1) (N:=some 34) #[true,true,false,true,true,false,false] rfl rfl (by kernel_rfl) (by decide) (fun K hK=>?_);refine qtK Tryz.func165 (by kernel_rfl) rfl #[.slice Ao25 y126.length co25] (by rfl) rfl rfl (by (try simp only [List.map_toArray,List.map_cons,List.map_nil]);first|done|rfl|(simp only [List.length_drop,List.length_take];rfl)) ?_
            with_reducible refine (bits_Sum.calls kj4 _ _ y126 t129 _ ?side1 ?side2 A14.out).mono ?_
            (case side1=>repeat (first|exact (Kd.R_reads' HO128.out).2.2|(with_reducible refine Kd.C_alloc ?_ _)|(with_reducible refine Kd.C_drewN ?_ _)|(with_reducible refine Kd.C_drew ?_)))
            (case side2=>exact (Kd.R_reads' HO128.out).2.1)
            rintro e w' ⟨rfl,⟨nd,rfl⟩⟩;refine ⟨_,rfl,?_⟩;refine hK.out _ _ trivial (fun hHeld=>?_);clear hK K;refine qgG (a':=?_) ?_ ?_;rotate_left
            ·show Act.put _ (some 34) _=_;simp only [Act.put,List.setIfInBounds_toArray,List.set_cons_zero,List.set_cons_succ,qbL];rfl
            refine qhE (i:=2) (N:=some 35) (v:=?_) (a':=?_) #[true,true,true,true,true,false,false] rfl rfl (by kernel_rfl) (fun _ _ _ h=>h) (Or.inl ⟨by rfl,?_⟩) ?_ ?_;rotate_left
            ·intro w';go_simp
             with_reducible rfl
            rotate_left
            ·simp only [Act.put,List.setIfInBounds_toArray,List.set_cons_zero,List.set_cons_succ,qbL];rfl
            refine qyI (i:=5) (N:=some 38) #[true,true,true,true,true,true,false] rfl rfl (by kernel_rfl) (by decide) (fun K hK=>?_);refine qtK Tryz.func150 (by kernel_rfl) rfl #[.slice A24 ((l0.take 6).drop 2).length (c0 - 2)] (by rfl) rfl rfl (by (try simp only [List.map_toArray,List.map_cons,List.map_nil]);first|done|(rw [show ((l0.take 6).drop 2).length=(6 - 2) from (by rw [List.length_drop,List.length_take];have h_:(6:Int)≤(l0.length:Int):=of_decide_eq_true (by first|(with_reducible assumption)|assumption);omega)] <;> rfl)|rfl|(simp only [List.length_drop,List.length_take];rfl)) ?_
            with_reducible refine (bits_Get.calls kj4 _ _ ((l0.take 6).drop 2) t131 _ ?side1 ?side2 A17.out).mono ?_
            (case side1=>repeat (first|exact (Kd.C_below HR130.out (by repeat (first|(with_reducible first|exact HB.out|apply qaA|apply qaD|apply qaF)|exact HB.out)))|(with_reducible refine Kd.C_alloc ?_ _)|(with_reducible refine Kd.C_drewN ?_ _)|(with_reducible refine Kd.C_drew ?_)))
            (case side2=>exact HC130.out)
            rintro e w26 ⟨rfl,hb⟩;refine ⟨_,rfl,?_⟩;have n0_:=aM (Kd.R_below (by (with_reducible repeat (first|apply Kd.R_alloc|apply Kd.R_drewN|apply Kd.R_drew));exact HO128.out) hb);have n1_:=aM (qaC (by repeat (first|(with_reducible first|exact HB.out|apply qaA|apply qaD|apply qaF)|exact HB.out)) hb);clear HO128;clear HB;have HO128:=n0_;have HB:=n1_;clear n0_ n1_
            (try clear hb)
            (try clear hb2)
            (try clear hk)
            (try clear hi)
            refine hK.out _ _ trivial (fun hHeld=>?_);clear hK K;refine qgG (a':=?_) ?_ ?_;rotate_left
            ·show Act.put _ (some 38) _=_;simp only [Act.put,List.setIfInBounds_toArray,List.set_cons_zero,List.set_cons_succ,qbL];rfl
            refine qhE (i:=6) (N:=some 39) (v:=?_) (a':=?_) #[true,true,true,true,true,true,true] rfl rfl (by kernel_rfl) (fun _ _ _ h=>h) (Or.inl ⟨by rfl,?_⟩) ?_ ?_;rotate_left
            ·intro w';go_simp
             with_reducible rfl
            rotate_left
            ·simp only [Act.put,List.setIfInBounds_toArray,List.set_cons_zero,List.set_cons_succ,qbL];rfl
            refine vcM (by kernel_rfl) ?_;try go_wp2
            go_ret3;exact ⟨_,by first|rfl|(simp [errW_none,errW_some] <;> rfl)|(simp [*,errW_none,errW_some] <;> rfl),by (with_reducible repeat (first|apply Kd.R_alloc|apply Kd.R_drewN|apply Kd.R_drew));exact HO128.out,by repeat (first|(with_reducible first|exact HB.out|apply qaA|apply qaD|apply qaF)|exact HB.out)⟩
           ·rw [if_neg c18] at H;have c18b0:((IntKind.u64.wrap (t129))==t131)=false:=beq_eq_false_iff_ne.mpr c18;have c18b1:((IntKind.u64.wrap (t129)) != t131)=true:=bne_iff_ne.mpr c18;simp only [Option.some.injEq,Prod.mk.injEq] at H;obtain ⟨rfl,rfl,rfl⟩:=H;try go_wp2_with (first|((with_reducible refine qcL (N:=27) rfl ?_);(try (refine qgW (by rfl) ?_;dsimp only));refine Kd.R_lit (Kd.int .u8) _ 5 ?hg (N:=27) ?hd (xs:=([]:List Int)) (inner:=[]) (ok:=fun _=>True) (okp:=fun _=>True) ?hr ?hp (fun _ hk=>hk) trivial (Below.refl _ _) (Nat.le_refl _) (by simp) ?_;(case hd=>rfl);(case hg=>rfl);(case hr=>first|(go_simp;done)|(go_simp;rfl));(case hp=>exact (qeX.none _ _));intro v123 w27 ho28 hb hg_ hnew_;clear hg_ hnew_;(first|rw [← Ny122.out] at ho28|(simp only [Int.reduceToNat] at ho28;rw [← Ny122.out] at ho28));have n0_:=aM (Kd.R_lower ho28 (qaI (by repeat (first|(with_reducible first|exact HB.out|apply qaA|apply qaD|apply qaF)|exact HB.out))));have n1_:=aM (qaC (by repeat (first|(with_reducible first|exact HB.out|apply qaA|apply qaD|apply qaF)|exact HB.out)) hb);clear HB;have HO124:=n0_;have HB:=n1_;clear n0_ n1_;clear hb ho28;obtain ⟨i029,hi029,_,hsz29,_⟩:=info_parts qfU;obtain ⟨A29,hcut29,hA29,hC29⟩:=qeQ (P:=Tryz.prog) (Value.int .u8) 0 35 5 .i64 .i64 Tryz.underlying35 hi029 hsz29 A0 c0 l0 6 (wrap64 (6+(wrap64 (t121)))) (by omega) (by first|omega|exact of_decide_eq_true (by first|(with_reducible assumption)|assumption)) (of_decide_eq_true (by first|(with_reducible assumption)|assumption)) HC0.out;have HR125:=aM (Kd.C_of_reads (h1:=fun _=>rfl) (hA29 _ (Kd.reads_of_C HR0.out)));have HC125:=aM hC29;clear hA29 hC29 hi029 hsz29)|((with_reducible refine qbH (b:=.append) (xs:=#[.tmp 27,.tmp 31]) rfl ?_);(try (refine qgW (by rfl) ?_;dsimp only));at_builtin;refine Kd.R_append_rows (Kd.int .u8) (w0:=w) w.heap.size rfl (.tmp 27) (.tmp 31) 35 5 (.int .u8 0) 1 rfl Tryz.underlying35 qfU rfl (by decide) (by omega) v123 y122 ((l0.take ((wrap64 (6+(wrap64 (t121)))):Int).toNat).drop 6) _ _ _ (fun _=>True) (fun _=>False) rfl rfl ?aO ?aR (fun _ _ h=>h) (fun _ h=>h.elim) ?aF ?aB ?aS ?aL ?_;(case aR=>first|(refine qiP (show ((l0.take ((wrap64 (6+(wrap64 (t121)))):Int).toNat).drop 6).length=((wrap64 (6+(wrap64 (t121)))).toNat - 6) from (by rw [List.length_drop,List.length_take];have h_:((wrap64 (6+(wrap64 (t121)))):Int)≤(l0.length:Int):=of_decide_eq_true (by first|(with_reducible assumption)|assumption);omega)) ?_;repeat (first|exact (Kd.C_below HR125.out HB.out)|(with_reducible refine Kd.C_alloc ?_ _)|(with_reducible refine Kd.C_drewN ?_ _)|(with_reducible refine Kd.C_drew ?_));done)|(repeat (first|exact (Kd.C_below HR125.out HB.out)|(with_reducible refine Kd.C_alloc ?_ _)|(with_reducible refine Kd.C_drewN ?_ _)|(with_reducible refine Kd.C_drew ?_))));(case aB=>exact (by repeat (first|(with_reducible first|exact HB.out|apply qaA|apply qaD|apply qaF)|exact HB.out)));(case aF=>exact (fun _ _=>trivial));(case aO=>exact (by (with_reducible repeat (first|apply Kd.R_alloc|apply Kd.R_drewN|apply Kd.R_drew));exact HO124.out));(case aS=>exact (qaI (by repeat (first|(with_reducible first|exact HB.out|apply qaA|apply qaD|apply qaF)|exact HB.out))));(case aL=>have:=LMc13.out;have hlx_:=(show ((l0.take ((wrap64 (6+(wrap64 (t121)))):Int).toNat).drop 6).length=((wrap64 (6+(wrap64 (t121)))).toNat - 6) from (by rw [List.length_drop,List.length_take];have h_:((wrap64 (6+(wrap64 (t121)))):Int)≤(l0.length:Int):=of_decide_eq_true (by first|(with_reducible assumption)|assumption);omega));omega);intro v127 w30 ho hb hg hat;rw [← Ny126.out] at ho;have n0_:=aM (hb);have n1_:=aM (ho);clear HB;clear HO124;have HB:=n0_;have HO128:=n1_;clear n0_ n1_;clear ho hb hg hat))
            have n0_:=aM (Kd.R_drew HO128.out);have n1_:=aM (qaF HB.out);clear HO128;clear HB;have HO128:=n0_;have HB:=n1_;clear n0_ n1_;obtain ⟨i032,hi032,_,hsz32,_⟩:=info_parts qfU;obtain ⟨A32,hcut32,hA32,hC32⟩:=qeQ (P:=Tryz.prog) (Value.int .u8) 0 35 5 .i64 .i64 Tryz.underlying35 hi032 hsz32 A0 c0 l0 2 6 (by omega) (by first|omega|exact of_decide_eq_true (by first|(with_reducible assumption)|assumption)) (of_decide_eq_true (by first|(with_reducible assumption)|assumption)) HC0.out;have HR130:=aM (Kd.C_of_reads (h1:=fun _=>rfl) (hA32 _ (Kd.reads_of_C HR0.out)));have HC130:=aM hC32;clear hA32 hC32 hi032 hsz32;obtain ⟨Ao33,co33,eo33⟩:=Kd.R_slice HO128.out
            (first|subst eo33|(injection eo33 with f1_ f2_ f3_;have f4_:=f1_.symm;have f5_:=f3_.symm;clear f1_ f2_ f3_;subst f4_;subst f5_))
            refine qlX (n:=7) (S:=fun w'=>True) (ds:=[]) #[false,false,false,false,false,false,false] (by kernel_rfl) rfl rfl trivial (fun hHeld=>?_);generalize w30.drew=w31 at HO128 HB HR130 hHeld ⊢;refine qhE (i:=0) (N:=some 33) (v:=?_) (a':=?_) #[true,false,false,false,false,false,false] rfl rfl (by kernel_rfl) (fun _ _ _ h=>h) (Or.inl ⟨by rfl,?_⟩) ?_ ?_;rotate_left
            ·intro w';go_simp
             with_reducible rfl
            rotate_left
            ·simp only [Act.put,List.setIfInBounds_toArray,List.set_cons_zero,List.set_cons_succ,qbL];rfl
            refine qhE (i:=3) (N:=some 36) (v:=?_) (a':=?_) #[true,false,false,true,false,false,false] rfl rfl (by kernel_rfl) (fun _ _ _ h=>h) (Or.inl ⟨by rfl,?_⟩) ?_ ?_;rotate_left
            ·intro w';go_simp
             with_reducible rfl
            rotate_left
            ·simp only [Act.put,List.setIfInBounds_toArray,List.set_cons_zero,List.set_cons_succ,qbL];rfl
            refine qhE (i:=4) (N:=some 37) (v:=?_) (a':=?_) #[true,false,false,true,true,false,false] rfl rfl (by kernel_rfl) (fun _ _ _ h=>h) (Or.inl ⟨by rfl,?_⟩) ?_ ?_;rotate_left
            ·intro w';go_simp
             with_reducible rfl
            rotate_left
            ·simp only [Act.put,List.setIfInBounds_toArray,List.set_cons_zero,List.set_cons_succ,qbL];rfl
            refine qyI (i:=1) (N:=some 34) #[true,true,false,true,true,false,false] rfl rfl (by kernel_rfl) (by decide) (fun K hK=>?_);refine qtK Tryz.func165 (by kernel_rfl) rfl #[.slice Ao33 y126.length co33] (by rfl) rfl rfl (by (try simp only [List.map_toArray,List.map_cons,List.map_nil]);first|done|rfl|(simp only [List.length_drop,List.length_take];rfl)) ?_
            with_reducible refine (bits_Sum.calls kj4 _ _ y126 t129 _ ?side1 ?side2 A14.out).mono ?_
            (case side1=>repeat (first|exact (Kd.R_reads' HO128.out).2.2|(with_reducible refine Kd.C_alloc ?_ _)|(with_reducible refine Kd.C_drewN ?_ _)|(with_reducible refine Kd.C_drew ?_)))
            (case side2=>exact (Kd.R_reads' HO128.out).2.1)
            rintro e w' ⟨rfl,⟨nd,rfl⟩⟩;refine ⟨_,rfl,?_⟩;refine hK.out _ _ trivial (fun hHeld=>?_);clear hK K;refine qgG (a':=?_) ?_ ?_;rotate_left
            ·show Act.put _ (some 34) _=_;simp only [Act.put,List.setIfInBounds_toArray,List.set_cons_zero,List.set_cons_succ,qbL];rfl
            refine qhE (i:=2) (N:=some 35) (v:=?_) (a':=?_) #[true,true,true,true,true,false,false] rfl rfl (by kernel_rfl) (fun _ _ _ h=>h) (Or.inl ⟨by rfl,?_⟩) ?_ ?_;rotate_left
            ·intro w';go_simp
             with_reducible rfl
            rotate_left
            ·simp only [Act.put,List.setIfInBounds_toArray,List.set_cons_zero,List.set_cons_succ,qbL];rfl
            refine qyI (i:=5) (N:=some 38) #[true,true,true,true,true,true,false] rfl rfl (by kernel_rfl) (by decide) (fun K hK=>?_);refine qtK Tryz.func150 (by kernel_rfl) rfl #[.slice A32 ((l0.take 6).drop 2).length (c0 - 2)] (by rfl) rfl rfl (by (try simp only [List.map_toArray,List.map_cons,List.map_nil]);first|done|(rw [show ((l0.take 6).drop 2).length=(6 - 2) from (by rw [List.length_drop,List.length_take];have h_:(6:Int)≤(l0.length:Int):=of_decide_eq_true (by first|(with_reducible assumption)|assumption);omega)] <;> rfl)|rfl|(simp only [List.length_drop,List.length_take];rfl)) ?_
            with_reducible refine (bits_Get.calls kj4 _ _ ((l0.take 6).drop 2) t131 _ ?side1 ?side2 A17.out).mono ?_
            (case side1=>repeat (first|exact (Kd.C_below HR130.out (by repeat (first|(with_reducible first|exact HB.out|apply qaA|apply qaD|apply qaF)|exact HB.out)))|(with_reducible refine Kd.C_alloc ?_ _)|(with_reducible refine Kd.C_drewN ?_ _)|(with_reducible refine Kd.C_drew ?_)))
            (case side2=>exact HC130.out)
            rintro e w34 ⟨rfl,hb⟩;refine ⟨_,rfl,?_⟩;have n0_:=aM (Kd.R_below (by (with_reducible repeat (first|apply Kd.R_alloc|apply Kd.R_drewN|apply Kd.R_drew));exact HO128.out) hb);have n1_:=aM (qaC (by repeat (first|(with_reducible first|exact HB.out|apply qaA|apply qaD|apply qaF)|exact HB.out)) hb);clear HO128;clear HB;have HO128:=n0_;have HB:=n1_;clear n0_ n1_
            (try clear hb)
            (try clear hb2)
            (try clear hk)
            (try clear hi)
            refine hK.out _ _ trivial (fun hHeld=>?_);clear hK K;refine qgG (a':=?_) ?_ ?_;rotate_left
            ·show Act.put _ (some 38) _=_;simp only [Act.put,List.setIfInBounds_toArray,List.set_cons_zero,List.set_cons_succ,qbL];rfl
            refine qhE (i:=6) (N:=some 39) (v:=?_) (a':=?_) #[true,true,true,true,true,true,true] rfl rfl (by kernel_rfl) (fun _ _ _ h=>h) (Or.inl ⟨by rfl,?_⟩) ?_ ?_;rotate_left
            ·intro w';go_simp
             with_reducible rfl
            rotate_left
            ·simp only [Act.put,List.setIfInBounds_toArray,List.set_cons_zero,List.set_cons_succ,qbL];rfl
            refine vcM (by kernel_rfl) ?_;try go_wp2
            go_ret3;exact ⟨_,by first|rfl|(simp [errW_none,errW_some] <;> rfl)|(simp [*,errW_none,errW_some] <;> rfl),by first|exact Kd.R_nil _ _ _ _ _|exact Kd.N_nil _ _ _ _ _|exact Kd.V_nil _ _ _ _ _|exact Kd.Q_nil _ _ _ _ _|exact Kd.S_nil _ _ _ _ _,by repeat (first|(with_reducible first|exact HB.out|apply qaA|apply qaD|apply qaF)|exact HB.out)⟩
          ·rw [if_neg c16] at H;exact absurd H (by simp)
         ·rw [if_neg c15] at H;exact absurd H (by simp)
        ·rw [if_neg c13] at H;exact absurd H (by simp)
       ·rw [if_neg c12] at H;exact absurd H (by simp)
      ·rw [if_neg c11] at H;exact absurd H (by simp)
  ·rw [if_neg c3] at H;exact absurd H (by simp)
def bits_Blank.l0:Nat→List Int→Int→Int→Option (Bool)
 | 0,_,_,_=>none
 | k+1,x5,x6,x7=>if x7 < x6 then (if 0≤x7 then (if x7 < (x5.length:Int) then (if (rd x5 x7)=255 then (bits_Blank.l0 k x5 x6 (wrap64 (x7+1))) else (some false)) else (none)) else (none)) else (some true)
def bits_Blank.f (k:Nat) (l0:List Int):Option (Bool):=bits_Blank.l0 k l0 (l0.length:Int) 0
theorem bits_Blank.calls (k:Nat) (A0:Option Addr) (c0:Nat) (l0:List Int) (r:Bool) (w:World) (hr0:Kd.C (Kd.int .u8) w A0 l0.length l0) (hc0:l0.length≤c0) (h:bits_Blank.f k l0=some r) :
  Calls Tryz.prog 147 #[.slice A0 l0.length c0] w fun e w'=>e=.returned (.bool r)∧qbU w w':=by
 have HR0:=aM hr0;have HC0:=aM hc0;clear hr0 hc0;have H:(bits_Blank.l0 k l0 (l0.length:Int) 0)=some r:=h;clear h;have H':=aM H;clear H;go_enter Tryz.func147,Tryz.ntmps147;go_wp2;go_loopg [7] k (fun kq v7 w'=>∃ (x7_1:Int),v7=.int .i64 x7_1∧qaJ (bits_Blank.l0 kq l0 (l0.length:Int) x7_1=some r)∧qaJ (kq≤k)∧qbU w w');case atStart=>exact ⟨(0),(by first|rfl|(simp;done)|(simp [*];done)),H',⟨Nat.le_refl _⟩,by repeat (first|exact qbU.refl _|apply qbU.step)⟩
 case round =>
  clear H';try clear c1
  obtain ⟨x7_1,rfl,HA,HK1,⟨m1,rfl⟩⟩:=hrel
  cases gk with
  | zero=>exact absurd HA.out (by simp [bits_Blank.l0])
  | succ k1 =>
   have H:=HA.out;clear HA;simp only [bits_Blank.l0] at H
   by_cases c2:x7_1 < (l0.length:Int)
   ·rw [if_pos c2] at H;have c2b0:decide (x7_1 < (l0.length:Int))=true:=decide_eq_true c2;clear c2
    by_cases c3:0≤x7_1
    ·rw [if_pos c3] at H;have c3b0:decide (0≤x7_1)=true:=decide_eq_true c3;clear c3
     by_cases c4:x7_1 < (l0.length:Int)
     ·rw [if_pos c4] at H;have c4b0:decide (x7_1 < (l0.length:Int))=true:=decide_eq_true c4;clear c4
      by_cases c5:(rd l0 x7_1)=255
      ·rw [if_pos c5] at H;have c5b0:((rd l0 x7_1)==255)=true:=beq_iff_eq.mpr c5;have c5b1:((rd l0 x7_1) != 255)=false:=bne_eq_false_iff_eq.mpr c5;clear c5;have H':=aM H;clear H;have p132:0≤(x7_1:Int):=of_decide_eq_true (by first|(with_reducible assumption)|assumption);have q132:x7_1 < (l0.length:Int):=of_decide_eq_true (by first|(with_reducible assumption)|assumption);obtain ⟨ad132,e132,hx132_0⟩:=Kd.at_int HR0.out x7_1 p132 q132
       cases e132
       replace p132:=eq_true p132;replace q132:=eq_true q132;go_wp2;go_roundg k1;case measure=>have:=HK1.out;omega
       case rel=>exact ⟨(wrap64 (x7_1+1)),(by first|rfl|(simp;done)|(simp [*];done)),H',⟨by have:=HK1.out;omega⟩,by repeat (first|exact qbU.refl _|apply qbU.step)⟩
      ·rw [if_neg c5] at H;have c5b0:((rd l0 x7_1)==255)=false:=beq_eq_false_iff_ne.mpr c5;have c5b1:((rd l0 x7_1) != 255)=true:=bne_iff_ne.mpr c5;obtain rfl:=Option.some.inj H;have p132:0≤(x7_1:Int):=of_decide_eq_true (by first|(with_reducible assumption)|assumption);have q132:x7_1 < (l0.length:Int):=of_decide_eq_true (by first|(with_reducible assumption)|assumption);obtain ⟨ad132,e132,hx132_0⟩:=Kd.at_int HR0.out x7_1 p132 q132
       cases e132
       replace p132:=eq_true p132;replace q132:=eq_true q132;go_wp2;go_ret;exact ⟨by first|rfl|(simp;done)|(simp [*];done),by repeat (first|exact qbU.refl _|apply qbU.step)⟩
     ·rw [if_neg c4] at H;exact absurd H (by simp)
    ·rw [if_neg c3] at H;exact absurd H (by simp)
   ·rw [if_neg c2] at H;have c2b0:decide (x7_1 < (l0.length:Int))=false:=decide_eq_false c2;clear c2;obtain rfl:=Option.some.inj H;go_wp2;go_ret;exact ⟨by first|rfl|(simp;done)|(simp [*];done),by repeat (first|exact qbU.refl _|apply qbU.step)⟩
end
section
attribute [local go_sem] qdG qdE qdY qdX qcJ qcI qdF qdD   
def pumicelaw03_Small.f :Option (Int × Int × Int × Int):=some (16,16,128,2)
theorem pumicelaw03_Small.calls  (r1:Int) (r2:Int) (r3:Int) (r4:Int) (w:World) (h:pumicelaw03_Small.f =some (r1,r2,r3,r4)) :
  Calls Tryz.prog 55 #[] w fun e w'=>e=.returned (.agg #[.int .i64 r1,.int .i64 r2,.int .i64 r3,.int .i64 r4])∧Below w.heap.size w w':=by
 have hu23:=Tryz.underlying23;have HB:=aM (Below.refl w.heap.size w);have H:(some (16,16,128,2))=some (r1,r2,r3,r4):=h;clear h;simp only [Option.some.injEq,Prod.mk.injEq] at H;obtain ⟨rfl,rfl,rfl,rfl⟩:=H;go_enter Tryz.func55,Tryz.ntmps55;go_wp2_with (first|((with_reducible refine qcL (N:=0) rfl ?_);refine qiJ ?hg (N:=0) ?hd (cs:=#[.int .i64 0,.int .i64 0,.int .i64 0,.int .i64 0]) (t:=23) ?hr ?_;(case hd=>rfl);(case hg=>rfl);(case hr=>first|(go_simp;done)|(go_simp;rfl));intro gb136 hg w1 hbox hb;have n0_:=aM (qaC (by repeat (first|(with_reducible first|exact HB.out|apply qaA|apply qaD|apply qaF)|exact HB.out)) hb);have n1_:=aM (hbox);have n2_:=aM ((by rw [hg];exact (qaI (by repeat (first|(with_reducible first|exact HB.out|apply qaA|apply qaD|apply qaF)|exact HB.out))):w.heap.size≤gb136));have n3_:=aM ((by rw [hg];exact (qaI (by repeat (first|(with_reducible first|exact HB.out|apply qaA|apply qaD|apply qaF)|exact HB.out))):w.heap.size≤gb136));clear HB;have HB:=n0_;have BK136:=n1_;have GW136:=n2_;have GE136:=n3_;clear n0_ n1_ n2_ n3_;clear hb hbox hg;have hcz2_0:w1.cell? ⟨gb136,0,none⟩=some (.int .i64 0):=(qaP BK136.out 0).trans rfl;have hcz2_1:w1.cell? ⟨gb136,1,none⟩=some (.int .i64 0):=(qaP BK136.out 1).trans rfl;have hcz2_2:w1.cell? ⟨gb136,2,none⟩=some (.int .i64 0):=(qaP BK136.out 2).trans rfl;have hcz2_3:w1.cell? ⟨gb136,3,none⟩=some (.int .i64 0):=(qaP BK136.out 3).trans rfl;have hfz2_0:=qaE BK136.out 0;have hfz2_1:=qaE BK136.out 1;have hfz2_2:=qaE BK136.out 2;have hfz2_3:=qaE BK136.out 3))
 refine bodyPost_ret (results_cell_row rfl _ _ gb136 23 #[.int .i64 16,.int .i64 16,.int .i64 128,.int .i64 2] (0,0) _ rfl (by (with_reducible repeat (first|refine blk_drewN ?_ _|refine qbI ?_|refine qaS ?_ _));refine qaR (cs:=#[.int .i64 16,.int .i64 16,.int .i64 128,.int .i64 0]) ?_ 3 _ rfl;(with_reducible repeat (first|refine blk_drewN ?_ _|refine qbI ?_|refine qaS ?_ _));refine qaR (cs:=#[.int .i64 16,.int .i64 16,.int .i64 0,.int .i64 0]) ?_ 2 _ rfl;(with_reducible repeat (first|refine blk_drewN ?_ _|refine qbI ?_|refine qaS ?_ _));refine qaR (cs:=#[.int .i64 16,.int .i64 0,.int .i64 0,.int .i64 0]) ?_ 1 _ rfl;(with_reducible repeat (first|refine blk_drewN ?_ _|refine qbI ?_|refine qaS ?_ _));refine qaR (cs:=#[.int .i64 0,.int .i64 0,.int .i64 0,.int .i64 0]) ?_ 0 _ rfl;(with_reducible repeat (first|refine blk_drewN ?_ _|refine qbI ?_|refine qaS ?_ _));exact BK136.out) Tryz.underlying23 rfl (by kernel_rfl)) rfl ?_;exact ⟨by first|rfl|(simp [errW_none,errW_some] <;> rfl)|(simp [*,errW_none,errW_some] <;> rfl),by repeat (first|(with_reducible first|exact HB.out|apply qaA|apply qaD|apply qaF|refine qaK ?_ GE136.out)|exact HB.out)⟩
end
section
attribute [local go_sem] qdG qdE qdY qdX qcJ qcI qdF qdD   
def scan_Good.l0:Nat→Int→List (S68)→Int→Int→Option (Int)
 | 0,_,_,_,_=>none
 | k+1,x3,x6,x7,x8=>if x8 < x7 then (if 0≤x8 then (if x8 < (x6.length:Int) then (if ((qdZ x6 x8).f0)=1 then (scan_Good.l0 k x3 x6 x7 (wrap64 (x8+1))) else (scan_Good.l0 k (wrap64 (x3+1)) x6 x7 (wrap64 (x8+1)))) else (none)) else (none)) else (some x3)
def scan_Good.f (k:Nat) (l0:List (S68)):Option (Int):=scan_Good.l0 k 0 l0 (l0.length:Int) 0
theorem scan_Good.calls (k:Nat) (A0:Option Addr) (c0:Nat) (l0:List (S68)) (r:Int) (w:World) (hr0:Kd.C k68 w A0 l0.length l0) (hc0:l0.length≤c0) (h:scan_Good.f k l0=some r) :
  Calls Tryz.prog 61 #[.slice A0 l0.length c0] w fun e w'=>e=.returned (.int .i64 r)∧Below w.heap.size w w':=by
 have hu68:=Tryz.underlying68;have HR0:=aM hr0;have HC0:=aM hc0;clear hr0 hc0;have HB:=aM (Below.refl w.heap.size w);have H:(scan_Good.l0 k 0 l0 (l0.length:Int) 0)=some r:=h;clear h;have H':=aM H;clear H;go_enter Tryz.func61,Tryz.ntmps61;go_wp2;go_loopg [3,8] k (fun kq v3 v8 w'=>∃ (x3_1:Int) (x8_1:Int),v3=.int .i64 x3_1∧v8=.int .i64 x8_1∧qaJ (scan_Good.l0 kq x3_1 l0 (l0.length:Int) x8_1=some r)∧qaJ (kq≤k)∧qaJ (Below w.heap.size w w'));case atStart=>exact ⟨(0),(0),(by first|rfl|(simp;done)|(simp [*];done)),(by first|rfl|(simp;done)|(simp [*];done)),H',⟨Nat.le_refl _⟩,⟨by repeat (first|(with_reducible first|exact HB.out|apply qaA|apply qaD|apply qaF)|exact HB.out)⟩⟩
 case round =>
  clear H';obtain ⟨x3_1,x8_1,rfl,rfl,HA,HK1,HB⟩:=hrel
  cases gk with
  | zero=>exact absurd HA.out (by simp [scan_Good.l0])
  | succ k1 =>
   have H:=HA.out;clear HA;simp only [scan_Good.l0] at H
   by_cases c2:x8_1 < (l0.length:Int)
   ·rw [if_pos c2] at H;have c2b0:decide (x8_1 < (l0.length:Int))=true:=decide_eq_true c2;clear c2
    by_cases c3:0≤x8_1
    ·rw [if_pos c3] at H;have c3b0:decide (0≤x8_1)=true:=decide_eq_true c3;clear c3
     by_cases c4:x8_1 < (l0.length:Int)
     ·rw [if_pos c4] at H;have c4b0:decide (x8_1 < (l0.length:Int))=true:=decide_eq_true c4;clear c4
      by_cases c5:((qdZ l0 x8_1).f0)=1
      ·rw [if_pos c5] at H;have c5b0:(((qdZ l0 x8_1).f0)==1)=true:=beq_iff_eq.mpr c5;have c5b1:(((qdZ l0 x8_1).f0) != 1)=false:=bne_eq_false_iff_eq.mpr c5;clear c5;have H':=aM H;clear H;have p205:0≤(x8_1:Int):=of_decide_eq_true (by first|(with_reducible assumption)|assumption);have q205:x8_1 < (l0.length:Int):=of_decide_eq_true (by first|(with_reducible assumption)|assumption);obtain ⟨ad205,e205,hx205_0,hx205_1,hx205_2,hx205_3,hx205_4,hx205_5⟩:=qxF HR0.out x8_1 p205 q205
       cases e205
       replace hx205_0:=(HB.out.cell (World.block_lt_of_cell? w _ hx205_0)).trans hx205_0;replace hx205_1:=(HB.out.cell (World.block_lt_of_cell? w _ hx205_1)).trans hx205_1;replace hx205_2:=(HB.out.cell (World.block_lt_of_cell? w _ hx205_2)).trans hx205_2;replace hx205_3:=(HB.out.cell (World.block_lt_of_cell? w _ hx205_3)).trans hx205_3;replace hx205_4:=(HB.out.cell (World.block_lt_of_cell? w _ hx205_4)).trans hx205_4;replace hx205_5:=(HB.out.cell (World.block_lt_of_cell? w _ hx205_5)).trans hx205_5;replace p205:=eq_true p205;replace q205:=eq_true q205;go_wp2_with (first|((with_reducible refine qcL (N:=5) rfl ?_);refine qiJ ?hg (N:=5) ?hd (cs:=#[.int .i64 0,.int .i64 0,.int .i64 0,.int .i64 0,.int .u64 0,.bool false]) (t:=68) ?hr ?_;(case hd=>rfl);(case hg=>rfl);(case hr=>first|(go_simp;done)|(go_simp;rfl));intro gb206 hg w6 hbox hb;have n0_:=aM (qaC (by repeat (first|(with_reducible first|exact HB.out|apply qaA|apply qaD|apply qaF)|exact HB.out)) hb);have n1_:=aM (hbox);have n2_:=aM ((by rw [hg];exact (qaI (by repeat (first|(with_reducible first|exact HB.out|apply qaA|apply qaD|apply qaF)|exact HB.out))):w.heap.size≤gb206));have n3_:=aM ((by rw [hg];exact (qaI (by repeat (first|(with_reducible first|exact HB.out|apply qaA|apply qaD|apply qaF)|exact HB.out))):w.heap.size≤gb206));clear HB;have HB:=n0_;have BK206:=n1_;have GW206:=n2_;have GE206:=n3_;clear n0_ n1_ n2_ n3_;clear hb hbox hg;have hcz7_0:w6.cell? ⟨gb206,0,none⟩=some (.int .i64 0):=(qaP BK206.out 0).trans rfl;have hcz7_1:w6.cell? ⟨gb206,1,none⟩=some (.int .i64 0):=(qaP BK206.out 1).trans rfl;have hcz7_2:w6.cell? ⟨gb206,2,none⟩=some (.int .i64 0):=(qaP BK206.out 2).trans rfl;have hcz7_3:w6.cell? ⟨gb206,3,none⟩=some (.int .i64 0):=(qaP BK206.out 3).trans rfl;have hcz7_4:w6.cell? ⟨gb206,4,none⟩=some (.int .u64 0):=(qaP BK206.out 4).trans rfl;have hcz7_5:w6.cell? ⟨gb206,5,none⟩=some (.bool false):=(qaP BK206.out 5).trans rfl;have hfz7_0:=qaE BK206.out 0;have hfz7_1:=qaE BK206.out 1;have hfz7_2:=qaE BK206.out 2;have hfz7_3:=qaE BK206.out 3;have hfz7_4:=qaE BK206.out 4;have hfz7_5:=qaE BK206.out 5))
       go_roundg k1;case measure=>have:=HK1.out;omega
       case rel=>exact ⟨(x3_1),(wrap64 (x8_1+1)),(by first|rfl|(simp;done)|(simp [*];done)),(by first|rfl|(simp;done)|(simp [*];done)),H',⟨by have:=HK1.out;omega⟩,⟨by repeat (first|(with_reducible first|exact HB.out|apply qaA|apply qaD|apply qaF|refine qaK ?_ GE206.out)|exact HB.out)⟩⟩
      ·rw [if_neg c5] at H;have c5b0:(((qdZ l0 x8_1).f0)==1)=false:=beq_eq_false_iff_ne.mpr c5;have c5b1:(((qdZ l0 x8_1).f0) != 1)=true:=bne_iff_ne.mpr c5;have H':=aM H;clear H;have p205:0≤(x8_1:Int):=of_decide_eq_true (by first|(with_reducible assumption)|assumption);have q205:x8_1 < (l0.length:Int):=of_decide_eq_true (by first|(with_reducible assumption)|assumption);obtain ⟨ad205,e205,hx205_0,hx205_1,hx205_2,hx205_3,hx205_4,hx205_5⟩:=qxF HR0.out x8_1 p205 q205
       cases e205
       replace hx205_0:=(HB.out.cell (World.block_lt_of_cell? w _ hx205_0)).trans hx205_0;replace hx205_1:=(HB.out.cell (World.block_lt_of_cell? w _ hx205_1)).trans hx205_1;replace hx205_2:=(HB.out.cell (World.block_lt_of_cell? w _ hx205_2)).trans hx205_2;replace hx205_3:=(HB.out.cell (World.block_lt_of_cell? w _ hx205_3)).trans hx205_3;replace hx205_4:=(HB.out.cell (World.block_lt_of_cell? w _ hx205_4)).trans hx205_4;replace hx205_5:=(HB.out.cell (World.block_lt_of_cell? w _ hx205_5)).trans hx205_5;replace p205:=eq_true p205;replace q205:=eq_true q205;go_wp2_with (first|((with_reducible refine qcL (N:=5) rfl ?_);refine qiJ ?hg (N:=5) ?hd (cs:=#[.int .i64 0,.int .i64 0,.int .i64 0,.int .i64 0,.int .u64 0,.bool false]) (t:=68) ?hr ?_;(case hd=>rfl);(case hg=>rfl);(case hr=>first|(go_simp;done)|(go_simp;rfl));intro gb206 hg w8 hbox hb;have n0_:=aM (qaC (by repeat (first|(with_reducible first|exact HB.out|apply qaA|apply qaD|apply qaF)|exact HB.out)) hb);have n1_:=aM (hbox);have n2_:=aM ((by rw [hg];exact (qaI (by repeat (first|(with_reducible first|exact HB.out|apply qaA|apply qaD|apply qaF)|exact HB.out))):w.heap.size≤gb206));have n3_:=aM ((by rw [hg];exact (qaI (by repeat (first|(with_reducible first|exact HB.out|apply qaA|apply qaD|apply qaF)|exact HB.out))):w.heap.size≤gb206));clear HB;have HB:=n0_;have BK206:=n1_;have GW206:=n2_;have GE206:=n3_;clear n0_ n1_ n2_ n3_;clear hb hbox hg;have hcz9_0:w8.cell? ⟨gb206,0,none⟩=some (.int .i64 0):=(qaP BK206.out 0).trans rfl;have hcz9_1:w8.cell? ⟨gb206,1,none⟩=some (.int .i64 0):=(qaP BK206.out 1).trans rfl;have hcz9_2:w8.cell? ⟨gb206,2,none⟩=some (.int .i64 0):=(qaP BK206.out 2).trans rfl;have hcz9_3:w8.cell? ⟨gb206,3,none⟩=some (.int .i64 0):=(qaP BK206.out 3).trans rfl;have hcz9_4:w8.cell? ⟨gb206,4,none⟩=some (.int .u64 0):=(qaP BK206.out 4).trans rfl;have hcz9_5:w8.cell? ⟨gb206,5,none⟩=some (.bool false):=(qaP BK206.out 5).trans rfl;have hfz9_0:=qaE BK206.out 0;have hfz9_1:=qaE BK206.out 1;have hfz9_2:=qaE BK206.out 2;have hfz9_3:=qaE BK206.out 3;have hfz9_4:=qaE BK206.out 4;have hfz9_5:=qaE BK206.out 5))
       go_roundg k1;case measure=>have:=HK1.out;omega
       case rel=>exact ⟨(wrap64 (x3_1+1)),(wrap64 (x8_1+1)),(by first|rfl|(simp;done)|(simp [*];done)),(by first|rfl|(simp;done)|(simp [*];done)),H',⟨by have:=HK1.out;omega⟩,⟨by repeat (first|(with_reducible first|exact HB.out|apply qaA|apply qaD|apply qaF|refine qaK ?_ GE206.out)|exact HB.out)⟩⟩
     ·rw [if_neg c4] at H;exact absurd H (by simp)
    ·rw [if_neg c3] at H;exact absurd H (by simp)
   ·rw [if_neg c2] at H;have c2b0:decide (x8_1 < (l0.length:Int))=false:=decide_eq_false c2;clear c2;obtain rfl:=Option.some.inj H;go_wp2;go_ret;exact ⟨by first|rfl|(simp [errW_none,errW_some] <;> rfl)|(simp [*,errW_none,errW_some] <;> rfl),by repeat (first|(with_reducible first|exact HB.out|apply qaA|apply qaD|apply qaF)|exact HB.out)⟩
end
section
attribute [local go_sem] qdG qdE qdY qdX qcJ qcI qdF qdD   
end
section
attribute [local go_sem] qdG qdE qdY qdX qcJ qcI qdF qdD   
end
section
attribute [local go_sem] qdG qdE qdY qdX qcJ qcI qdF qdD   
end
end Go.Proofs.YtdlimghdimkadaaGreatDoor.PAll

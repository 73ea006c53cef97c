/- Part 11 of what the law EbmFormats rests on. -/
import Derived.Test.YtdlimghdimkadaaGreatDoorU10
import Derived.BigQuiet
set_option maxRecDepth 100000
set_option maxHeartbeats 32000000
set_option linter.unusedSimpArgs false
set_option linter.unusedVariables false
namespace Go.Proofs.YtdlimghdimkadaaGreatDoor.PAll
open Go Go.RowKit YtdlimghdimkadaaGreatDoorW.PrintWords YtdlimghdimkadaaGreatDoorW.PrintLast YtdlimghdimkadaaGreatDoorW.PrintMore
attribute [local go_sem] qdG qdE qdY qdX qcJ qcI qdF qdD
section
open Go.Shelf Plain
variable {n:Nat} {ex:Int} {a a':AC} {m m':AM} {D:Nat→List (List Int)}
def qzH:Nat→Nat→AC→AM→Int × AC × AM
 | 0,_,a,m=>(0,a,m)
 | k+1,i,a,m=>if (m.l.getD i default).f0=1 then qzH k (i+1) a m
  else if (qcF a (m.put i { m.l.getD i default with f1:=(qaQ (qbW a (i:Int) 0).1).1 }) i).1=0 then qzH k (i+1) (qcF a (m.put i { m.l.getD i default with f1:=(qaQ (qbW a (i:Int) 0).1).1 }) i).2.1 (qcF a (m.put i { m.l.getD i default with f1:=(qaQ (qbW a (i:Int) 0).1).1 }) i).2.2
  else qcF a (m.put i { m.l.getD i default with f1:=(qaQ (qbW a (i:Int) 0).1).1 }) i
structure veY (n:Nat) (c:Nat→Int) (i:Nat) (a:AC) (m:AM):Prop where
 off:a.off=false
 pl:a.pl=[]
 dead:m.dead=false
 rg:qbQ a.g.B a.g.P a.g.Z a.g.R=true
 gok:GOK a.g
 by_:qbV a
 len:m.l.length=a.g.B
 ct:∀ j,j < a.g.B→0≤c j∧c j+1+(n:Int) < 2147483647
 lo:∀ j,j < i→j < a.g.B→m.l.getD j default=⟨2,c j+1,0,0,0,false⟩∧qgP a.g (a.bk j) (c j+1)
 hi:∀ j,i≤j→j < a.g.B→¬ (m.l.getD j default).f0=1∧(a.bk j).bad=false∧(a.bk j).er=c j∧(qaQ (qbW a (j:Int) 0).1).1=c j
theorem qsS {i:Nat} (h:qsH i a a') {j:Nat} (hj:j ≠ i) (p:Int):qbW a' (j:Int) p=qbW a (j:Int) p:=by
 unfold qbW;rw [h.off,h.g,Int.toNat_natCast,h.bk j hj]
theorem vaJ (c:Nat→Int):∀ (k i:Nat) (a:AC) (m:AM),veY n c i a m→i+k=a.g.B→∃ a' m',qzH k i a m=(0,a',m')∧veY n c (i+k) a' m'∧a'.g=a.g∧a'.wrong=a.wrong∧m'.lebs=m.lebs∧m'.seq=m.seq
 | 0,i,a,m,h,_=>⟨a,m,rfl,h,rfl,rfl,rfl,rfl⟩
 | k+1,i,a,m,h,hk=>by
  have hi:i < a.g.B:=by omega
  obtain ⟨h1,h2,h3,h4⟩:=h.hi i (Nat.le_refl _) hi;have hct:=h.ct i hi;have hlen:=h.len
  have hg1:((m.put i { m.l.getD i default with f1:=(qaQ (qbW a (i:Int) 0).1).1 }).l.getD i default).f1=c i:=by
   show ((m.l.set i _).getD i default).f1=c i;rw [qdU _ _ _ _ _ (by omega),if_pos rfl];exact h4
  obtain ⟨a1,e1,ht,hf,hby⟩:=qwJ (m:=m.put i { m.l.getD i default with f1:=(qaQ (qbW a (i:Int) 0).1).1 }) h.off h.pl h.gok hi h2 h3 hg1 ⟨hct.1,by omega⟩ h.by_
  have hset:((m.put i { m.l.getD i default with f1:=(qaQ (qbW a (i:Int) 0).1).1 }).put i ⟨2,c i+1,0,0,0,false⟩)=m.put i ⟨2,c i+1,0,0,0,false⟩:=by
   unfold AM.put;simp only [List.set_set]
  rw [hset] at e1;have hget:∀ j,(m.l.set i (⟨2,c i+1,0,0,0,false⟩:Blk)).getD j default=if j=i then ⟨2,c i+1,0,0,0,false⟩ else m.l.getD j default:=fun j=>qdU _ _ _ _ _ (by omega)
  have hI:veY n c (i+1) a1 (m.put i ⟨2,c i+1,0,0,0,false⟩):=by
   refine { off:=ht.off.trans h.off,pl:=ht.pl.trans h.pl,dead:=h.dead,rg:=?_,gok:=?_,by_:=hby,len:=?_,ct:=?_,lo:=?_,hi:=?_ }
   ·rw [ht.g];exact h.rg
   ·rw [ht.g];exact h.gok
   ·rw [ht.g];exact (List.length_set ..).trans hlen
   ·rw [ht.g];exact h.ct
   ·intro j hj hjB;rw [ht.g] at hjB ⊢;show (m.l.set i _).getD j default=_∧_;rw [hget j]
    by_cases hji:j=i
    ·subst hji;rw [if_pos rfl];exact ⟨rfl,hf⟩
    ·rw [if_neg hji,ht.bk j hji];exact h.lo j (by omega) hjB
   ·intro j hj hjB;rw [ht.g] at hjB;have hji:j ≠ i:=by omega
    show ¬ ((m.l.set i _).getD j default).f0=1∧_;rw [hget j,if_neg hji,ht.bk j hji,qsS ht hji];exact h.hi j (by omega) hjB
  obtain ⟨a',m',e2,hI2,g1,g2,g3,g4⟩:=vaJ c k (i+1) a1 _ hI (by rw [ht.g];omega);refine ⟨a',m',?_,by rw [show i+(k+1)=i+1+k by omega];exact hI2,g1.trans ht.g,g2.trans ht.wr,g3,g4⟩;unfold qzH;rw [if_neg h1,e1,if_pos rfl];exact e2
structure vdI (n:Nat) (c:Nat→Int) (a:AC) (l:List Blk):Prop where
 off:a.off=false
 pl:a.pl=[]
 rg:qbQ a.g.B a.g.P a.g.Z a.g.R=true
 gok:GOK a.g
 by_:qbV a
 len:l.length=a.g.B
 ct:∀ j,j < a.g.B→0≤c j∧c j+1+(n:Int) < 2147483647
 hi:∀ j,j < a.g.B→¬ (l.getD j default).f0=1∧(a.bk j).bad=false∧(a.bk j).er=c j∧(qaQ (qbW a (j:Int) 0).1).1=c j
theorem qnH {α:Type} (q k:Nat) (x d:α) (h:k < q):(List.replicate q x).getD k d=x:=by
 rw [List.getD_eq_getElem?_getD,List.getElem?_replicate,if_pos h];rfl
theorem vdI.format {c:Nat→Int} {l:List Blk} (h:vdI n c a l) (hn:(n:Int) < 4611686018427387904) (nl:Nat) (hnl:(nl:Int)=qeJ a.g.B a.g.P a.g.Z a.g.R):∃ a' m',qzH a.g.B 0 a ⟨l,List.replicate nl (-1),0,false⟩=(0,a',m')∧qbG n (-1) a' m' (fun _=>[])∧a'.g=a.g∧a'.wrong=a.wrong∧m'.lebs.length=nl∧∀ i,i < a.g.B→m'.l.getD i default=⟨2,c i+1,0,0,0,false⟩:=by
 have hI:veY n c 0 a ⟨l,List.replicate nl (-1),0,false⟩:=⟨h.off,h.pl,rfl,h.rg,h.gok,h.by_,h.len,h.ct,fun j hj _=>absurd hj (Nat.not_lt_zero j),fun j _ hj=>h.hi j hj⟩
 obtain ⟨a',m',e,hF,g1,g2,g3,g4⟩:=vaJ c a.g.B 0 a _ hI (by omega);rw [Nat.zero_add] at hF;have g3':m'.lebs=List.replicate nl (-1):=g3;have g4':m'.seq=0:=g4;refine ⟨a',m',e,{ off:=hF.off,pl:=hF.pl,dead:=hF.dead,rg:=hF.rg,gok:=hF.gok,by_:=hF.by_,len:=hF.len,lbs:=?_,sq:=?_,ct:=?_,lv:=?_,bl:=?_,xb:=fun i hi e=>by omega },g1,g2,by rw [g3',List.length_replicate],fun i hi=>(hF.lo i hi (by rw [g1];exact hi)).1⟩
 ·rw [g3',List.length_replicate,g1];exact hnl
 ·rw [g4'];omega
 ·intro i hi;rw [g1] at hi;rw [(hF.lo i hi (by rw [g1];exact hi)).1];have:=h.ct i hi;show 0≤c i+1∧c i+1+(n:Int) < _;omega
 ·intro k hk;rw [g3',List.length_replicate] at hk;refine .inl ⟨?_,rfl⟩;rw [g3'];exact qnH _ _ _ _ hk
 ·intro i hi _;have:=hF.lo i (by rw [g1] at hi;exact hi) hi;refine .inl ?_;rw [this.1];exact ⟨rfl,this.2⟩
theorem qbG.fpre (h:qbG (n+1) (-1) a m D):vdI n (fun i=>(m.l.getD i default).f1) a (qcM a):=by
 obtain ⟨hln,hget⟩:=h.scan;refine ⟨h.off,h.pl,h.rg,h.gok,h.by_,hln,fun j hj=>?_,fun j hj=>?_⟩
 ·have:=h.ct j hj;show 0≤(m.l.getD j default).f1∧(m.l.getD j default).f1+1+(n:Int) < _;omega
 ·have hct:=h.ct j hj;have hgZ:=h.gok.2.2;have hgP:=h.gok.2.1
  have hcnt:∀ b:ABk,b.pg 0=⟨1,qbE (countP (m.l.getD j default).f1) a.g.Z⟩→b=a.bk j→(qaQ (qbW a (j:Int) 0).1).1=(m.l.getD j default).f1:=fun b e e2=>by
   subst e2;have e3:qbW a (j:Int) ((0:Nat):Int)=_:=qhV h.off hj (by omega) e;have e4:qbW a (j:Int) 0=_:=e3;rw [e4,qcP,show a.g.Z - (a.g.Z:Int).toNat=0 by omega];show (qaQ (qbE (countP (m.l.getD j default).f1) a.g.Z ++ [])).1=_;rw [List.append_nil,qhF (by omega) (by omega)]
  obtain ⟨⟨f0,f1,f2⟩,hor⟩:=hget j hj
  rcases hor with ⟨hl,hf⟩|⟨q,seq,l2,g1,g3,g4,g5,g6⟩
  ·rw [f1] at hf;exact ⟨by rw [hl];exact of_decide_eq_true rfl,hf.bad,hf.er,hcnt _ hf.p0 rfl⟩
  ·rw [f1] at g5;exact ⟨by rw [g4];exact of_decide_eq_true rfl,g5.bad,g5.er,hcnt _ g5.p0 rfl⟩
theorem vfO:qcT [255,255]=65535:=by decide
theorem qqC (Z:Nat):qaQ (List.replicate Z 255)=(0,false):=by
 have hu:(qbB (List.replicate Z 255)).2.2=false:=by
  unfold qbB
  by_cases h6:(List.replicate Z (255:Int)).length < 6
  ·rw [if_pos h6]
  ·rw [if_neg h6];rw [List.length_replicate] at h6
   have e:(List.replicate Z (255:Int)).take 2=[255,255]:=by
    rw [List.take_replicate,show min 2 Z=2 by omega];rfl
   rw [e,vfO,if_pos (.inr (.inl (by decide)))]
 have ho:qgE (List.replicate Z 255) 69 5=none:=by
  unfold qgE
  by_cases h:(List.replicate Z (255:Int)).length < 64∨512 < (List.replicate Z (255:Int)).length
  ·rw [if_pos h]
  ·rw [if_neg h,if_neg (fun h2=>by rw [hu] at h2;exact absurd h2.1 (by decide))]
 unfold qaQ;rw [ho]
theorem qyQ (g:Geo) (hg:GOK g) (i:Nat) (hi:i < g.B):qdO (qpP g []) (i:Int)=(⟨3,0,0,0,0,false⟩,false):=by
 refine qpF ?_ ?_
 ·rw [qqT (a:=qpP g []) hi];rfl
 ·rw [qiA (a:=qpP g []) hi];rfl
theorem quT (ls:List (Blk × Bool)) (h:∀ x,x ∈ ls→x.2=false):∀ s:Int × Int,ls.foldl quU s=s:=by
 induction ls with
 | nil=>intro s;rfl
 | cons x r ih =>
  intro s;rw [List.foldl_cons]
  have e:quU s x=s:=by
   unfold quU;rw [if_neg (by rw [h x (by simp)];decide)]
  rw [e];exact ih (fun y hy=>h y (by simp [hy])) s
theorem qxY (g:Geo) (hg:GOK g):(qcM (qpP g [])).length=g.B∧∀ i,i < g.B→(qcM (qpP g [])).getD i default=⟨3,0,0,0,0,false⟩:=by
 have hls:qbK (qpP g []) g.B=List.replicate g.B (⟨3,0,0,0,0,false⟩,false):=by
  unfold qbK;rw [List.eq_replicate_iff];refine ⟨by simp,fun x hx=>?_⟩;obtain ⟨i,hi,rfl⟩:=List.mem_map.1 hx;exact qyQ g hg i (List.mem_range.1 hi)
 have he:qcM (qpP g [])=List.replicate g.B ⟨3,0,0,0,0,false⟩:=by
  unfold qcM;show qoN (qnM (qbK (qpP g []) g.B))=_;rw [hls]
  have e1:qnM (List.replicate g.B ((⟨3,0,0,0,0,false⟩:Blk),false))=List.replicate g.B ⟨3,0,0,0,0,false⟩:=by
   unfold qnM qjC;rw [quT _ (fun x hx=>by rw [List.eq_of_mem_replicate hx]),List.map_replicate];rfl
  rw [e1];refine qrO _ fun i j hi hj h1 _ _=>?_
  rw [qnH _ _ _ _ (by simpa using hi)] at h1;exact absurd h1 (of_decide_eq_true rfl)
 rw [he];exact ⟨by simp,fun i hi=>qnH _ _ _ _ hi⟩
theorem qzG (g:Geo) (hg:GOK g) (hr:qbQ g.B g.P g.Z g.R=true) (hn:(n:Int) < 2147483000):vdI n (fun _=>0) (qpP g []) (qcM (qpP g [])):=by
 obtain ⟨h1,h2⟩:=qxY g hg;refine ⟨rfl,rfl,hr,hg,(fun i j _ h=>nomatch h),h1,fun j hj=>⟨Int.le_refl _,by omega⟩,fun j hj=>⟨by rw [h2 j hj];decide,rfl,rfl,?_⟩⟩;have hgP:=hg.2.1;have e3:qbW (qpP g []) (j:Int) ((0:Nat):Int)=_:=qnX rfl hj (by show 0 < g.P;omega) rfl;have e4:qbW (qpP g []) (j:Int) 0=_:=e3;rw [e4,qqC]
theorem vdI.spent {c:Nat→Int} {l:List Blk} (h:vdI n c a l) (m:AM) (hm:m.l=l) (hb:(m.lebs.length:Int)=qeJ a.g.B a.g.P a.g.Z a.g.R):qeH m=false:=by
 have hlen:=h.len
 have e:qlR m.l=m.l.length:=qkS _ fun i hi=>by
  rw [hm] at hi ⊢;exact (h.hi i (by omega)).1
 unfold qeH;rw [e,hm,hlen];obtain ⟨h3,h4,-⟩:=qeI h.rg;exact decide_eq_false (by omega)
end
section
open Go.Shelf Plain
variable {n:Nat} {ex:Int} {a a':AC} {m m':AM} {D:Nat→List (List Int)}
def AM.leb (m:AM) (k:Nat) (v:Int):AM:={ m with lebs:=m.lebs.set k v }
abbrev pkL:Bool→AM→Int:=fun _ o=>qgH o.l
abbrev pg0:AC→AM→List (List Int):=fun _ _=>[]
def qgN (q:Nat) (a:AC) (m:AM) (k:Nat):Int × AC × AM :=
 if m.lebs.getD k 0 < 0 then
  (if (qaV pkL pg0 (k:Int) 0 q true a m).2.1=0 then (0,(qaV pkL pg0 (k:Int) 0 q true a m).2.2.1,(qaV pkL pg0 (k:Int) 0 q true a m).2.2.2.leb k (qaV pkL pg0 (k:Int) 0 q true a m).1)
  else ((qaV pkL pg0 (k:Int) 0 q true a m).2.1,(qaV pkL pg0 (k:Int) 0 q true a m).2.2.1,(qaV pkL pg0 (k:Int) 0 q true a m).2.2.2))
 else (0,a,m)
def AM.more (m:AM) (i:Nat):AM:=m.put i { m.l.getD i default with f3:=wrap64 ((m.l.getD i default).f3+1) }
def qfS (rt:AC→AM→Int × AC × AM):Nat→AC→AM→Nat→List Int→Int × AC × AM
 | 0,a,m,_,_=>(30,a,m)
 | q+1,a,m,k,x=>if (qaZ a (m.lebs.getD k 0) ((qcA m (k:Int)).1.f3+2) x).1=0 then (0,(qaZ a (m.lebs.getD k 0) ((qcA m (k:Int)).1.f3+2) x).2,m.more (m.lebs.getD k 0).toNat)
  else if (qaZ a (m.lebs.getD k 0) ((qcA m (k:Int)).1.f3+2) x).1=5 then
   (if (rt (qaZ a (m.lebs.getD k 0) ((qcA m (k:Int)).1.f3+2) x).2 m).1=0 then qfS rt q (rt (qaZ a (m.lebs.getD k 0) ((qcA m (k:Int)).1.f3+2) x).2 m).2.1 (rt (qaZ a (m.lebs.getD k 0) ((qcA m (k:Int)).1.f3+2) x).2 m).2.2 k x
   else rt (qaZ a (m.lebs.getD k 0) ((qcA m (k:Int)).1.f3+2) x).2 m)
  else ((qaZ a (m.lebs.getD k 0) ((qcA m (k:Int)).1.f3+2) x).1,(qaZ a (m.lebs.getD k 0) ((qcA m (k:Int)).1.f3+2) x).2,m.die (qaZ a (m.lebs.getD k 0) ((qcA m (k:Int)).1.f3+2) x).1)
def vaE (pk:Bool→AM→Int) (pg:AC→AM→List (List Int)) (q:Nat) (a:AC) (m:AM) (k:Nat) (least:Int):Int × AC × AM :=
 if (qaV pk pg (k:Int) least q true a m).2.1=0 then
  (if m.lebs.getD k 0 < 0 then (0,(qaV pk pg (k:Int) least q true a m).2.2.1,(qaV pk pg (k:Int) least q true a m).2.2.2.leb k (qaV pk pg (k:Int) least q true a m).1)
  else qcF (qaV pk pg (k:Int) least q true a m).2.2.1 ((qaV pk pg (k:Int) least q true a m).2.2.2.leb k (qaV pk pg (k:Int) least q true a m).1) (m.lebs.getD k 0).toNat)
 else ((qaV pk pg (k:Int) least q true a m).2.1,(qaV pk pg (k:Int) least q true a m).2.2.1,(qaV pk pg (k:Int) least q true a m).2.2.2)
theorem qrG {pk:Bool→AM→Int} {pg:AC→AM→List (List Int)} {leb least:Int} {q:Nat} {st:Bool} {i:Nat} (h:pk st m=(i:Int)) (hf:qbM a m i leb least (pg a m)=(0,a',m')):qaV pk pg leb least (q+1) st a m=((i:Int),0,a',m'):=by
 unfold qaV;rw [h,if_neg (by omega),Int.toNat_natCast,hf,if_neg (of_decide_eq_true rfl)]
theorem qbG.ex1 (h:qbG n ex a m D) (e:ex=-1):qbG n (-1) a m D:=e ▸ h
theorem qbG.claim (h:qbG (n+1) (-1) a m D) {k:Nat} (hk:k < m.lebs.length) (q:Nat):∃ a' m',qgN (q+1) a m k=(0,a',m')∧qbG n (-1) a' m' D∧a'.g=a.g∧a'.wrong=a.wrong∧m'.lebs.length=m.lebs.length∧∃ i:Nat,m'.lebs.getD k 0=(i:Int):=by
 unfold qgN
 rcases h.lv k hk with ⟨e5,e6⟩|⟨i,h2,-,e5,e6,e7⟩
 ·obtain ⟨i,hi,e1,e2⟩:=h.pick;have hgP:=h.gok.2.1;obtain ⟨a1,e3,g1,g2,hG⟩:=h.fill hk hi e2 0 [] ⟨Int.le_refl _,Int.le_refl _⟩ (by show 0+2≤a.g.P;omega) (fun x hx=>nomatch hx) (fun x hx=>nomatch hx);have e4:=qrG (pk:=pkL) (pg:=pg0) (q:=q) (st:=true) (a:=a) (m:=m) (leb:=(k:Int)) (least:=0) e1 e3;rw [if_pos (by omega),e4];refine ⟨_,_,if_pos rfl,?_,g1,g2,List.length_set ..,i,?_⟩
  ·have h9:=hG.ex1 e5;rw [show qlI D k []=D by rw [← e6];exact quP D k] at h9;exact h9
  ·show (m.lebs.set k (i:Int)).getD k 0=_;rw [qdU _ _ _ _ _ hk,if_pos rfl]
 ·rw [if_neg (by omega)];exact ⟨a,m,rfl,h.less (by omega),rfl,rfl,rfl,i,e5⟩
theorem qbG.write (h:qbG n (-1) a m D) {k:Nat} (hk:k < m.lebs.length) {i:Nat} (e:m.lebs.getD k 0=(i:Int)) {x:List Int} (hx:(D k).length+2 < a.g.P) (hz:x.length≤a.g.Z) (hxb:qbA x) (rt:AC→AM→Int × AC × AM) (q:Nat) :
  ∃ a' m',qfS rt (q+1) a m k x=(0,a',m')∧a'.g=a.g∧a'.wrong=a.wrong∧m'.lebs.length=m.lebs.length∧qbG n (-1) a' m' (qlI D k (D k ++ [x])):=by
 obtain ⟨a',e2,g1,g2,hG⟩:=h.prog hk e hx hz hxb;obtain ⟨hi,seq,least,s,e1,hm,hs⟩:=h.at hk e;have hgP:=h.gok.2.1;have hf3:=(h.blk hk).1;unfold qfS;rw [e,hf3,e2,if_pos rfl,Int.toNat_natCast];refine ⟨_,_,rfl,g1,g2,rfl,?_⟩;have e4:(m.l.getD i default).f3=((D k).length:Int):=by rw [e1]
 have e5:wrap64 ((m.l.getD i default).f3+1)=((D k).length:Int)+1:=by rw [e4];unfold wrap64;omega
 unfold AM.more;rw [e5];exact hG
theorem qbG.moved (h:qbG (n+2) (-1) a m D) {k:Nat} (hk:k < m.lebs.length) {pk:Bool→AM→Int} {pg:AC→AM→List (List Int)} {i:Nat} (hi:i < a.g.B) (e1:pk true m=(i:Int)) (hf:(m.l.getD i default).f0=2) (least:Int) (hle:0≤least∧least≤((pg a m).length:Int)) (hx:(pg a m).length+2≤a.g.P) (hz:∀ x,x ∈ pg a m→x.length≤a.g.Z) (hxb:∀ x,x ∈ pg a m→qbA x) (q:Nat) :
  ∃ a' m',vaE pk pg (q+1) a m k least=(0,a',m')∧a'.g=a.g∧a'.wrong=a.wrong∧m'.lebs.length=m.lebs.length∧qbG n (-1) a' m' (qlI D k (pg a m)):=by
 obtain ⟨a1,e3,g1,g2,hG⟩:=h.fill hk hi hf least (pg a m) hle hx hz hxb;have e4:=qrG (pk:=pk) (pg:=pg) (q:=q) (st:=true) e1 e3;unfold vaE;rw [e4,if_pos rfl]
 rcases h.lv k hk with ⟨e5,e6⟩|⟨j,h2,-,e5,e6,e7⟩
 ·rw [if_pos (by omega)];exact ⟨_,_,rfl,g1,g2,List.length_set ..,(hG.ex1 e5).less (by omega)⟩
 ·rw [if_neg (by omega),e5,Int.toNat_natCast];rw [e5] at hG;obtain ⟨a2,e8,g3,g4,hG2⟩:=hG.free (by rw [g1];exact h2);exact ⟨_,_,e8,g3.trans g1,g4.trans g2,List.length_set ..,hG2⟩
def qhO (a:AC) (m:AM) (k:Nat):Int × AC × AM :=
 if m.lebs.getD k 0 < 0 then (0,a,m) else qcF a (m.leb k (-1)) (m.lebs.getD k 0).toNat
theorem qbG.unmap (h:qbG (n+1) (-1) a m D) {k:Nat} (hk:k < m.lebs.length):∃ a' m',qhO a m k=(0,a',m')∧a'.g=a.g∧a'.wrong=a.wrong∧m'.lebs.length=m.lebs.length∧qbG n (-1) a' m' (qlI D k []):=by
 unfold qhO
 rcases h.lv k hk with ⟨e5,e6⟩|⟨j,h2,-,e5,e6,e7⟩
 ·rw [if_pos (by omega)];refine ⟨_,_,rfl,rfl,rfl,rfl,?_⟩;rw [← e6,quP];exact h.less (by omega)
 ·rw [if_neg (by omega),e5,Int.toNat_natCast];have hG:=h.drop hk;rw [e5] at hG;obtain ⟨a2,e8,g3,g4,hG2⟩:=hG.free h2;exact ⟨_,_,e8,g3,g4,List.length_set ..,hG2⟩
def qmS (a:AC) (m:AM) (leb page:Int):List Int × Int :=
 if leb < 0∨(m.lebs.length:Int)≤leb∨page < 0∨(a.g.P:Int) - 2≤page then ([],22)
 else if ¬ qjD a m=0 then ([],qjD a m)
 else if (qcA m leb).1.f3≤page then (List.replicate a.g.Z 255,0)
 else qbW a (m.lebs.getD leb.toNat 0) (page+2)
theorem qbG.read (h:qbG n (-1) a m D) {k:Nat} (hk:k < m.lebs.length) {p:Nat} (hp:p+2 < a.g.P):qmS a m (k:Int) (p:Int)=((D k).getD p [] ++ List.replicate (a.g.Z - ((D k).getD p []).length) 255,0):=by
 have hf3:=(h.blk hk).1;have hpw:qjD a m=0:=by unfold qjD;rw [h.dead,h.off];rfl
 unfold qmS;rw [if_neg (by omega),if_neg (by rw [hpw];decide),hf3]
 by_cases hlt:p < (D k).length
 ·rw [if_neg (by omega)]
  rcases h.lv k hk with ⟨e5,e6⟩|⟨i,h2,-,e5,e6,e7⟩
  ·rw [e6] at hlt;exact absurd hlt (Nat.not_lt_zero _)
  ·obtain ⟨hi,seq,least,s,e1,hm,hs⟩:=h.at hk e5;rw [Int.toNat_natCast,e5,show (p:Int)+2=((p+2:Nat):Int) by push_cast;rfl];exact qhV h.off hi hp (hm.pd p hlt)
 ·rw [if_pos (by omega)]
  have e:(D k).getD p []=[]:=by
   rw [List.getD_eq_getElem?_getD,List.getElem?_eq_none (by omega)];rfl
  rw [e];rfl
end
section
open Go.Shelf Plain
variable {w0 W W':World} {gm gc gl cl ge ce:Nat} {a a':AC} {m m':AM}
def fld (b:Blk):Nat→Value
 | 0=>.int .i64 b.f0
 | 1=>.int .i64 b.f1
 | 2=>.int .i64 b.f2
 | 3=>.int .i64 b.f3
 | 4=>.int .u64 b.f4
 | _=>.bool b.f5
theorem Rows.putF {g:Nat} {xs:List Blk} (h:Rows W g xs) (i:Nat) (hi:i < xs.length) (b:Blk) (j:Nat) (hj:j < 6) (he:∀ t,t < 6→t ≠ j→fld b t=fld xs[i] t):Rows (W.setCell ⟨g,i*6+j,none⟩ (fld b j)) g (xs.set i b):=by
 obtain ⟨cells,hg,hc⟩:=h;refine ⟨cells.setIfInBounds (i*6+j) (fld b j),qaR hg _ _ rfl,fun k hk0=>?_⟩;have hk:k < xs.length:=by rw [List.length_set] at hk0;exact hk0
 have hall:∀ (k:Nat) (hk:k < xs.length) (t:Nat),t < 6→cells[k*6+t]?=some (fld xs[k] t):=fun k hk t ht=>by
  obtain ⟨h0,h1,h2,h3,h4,h5⟩:=hc k hk
  match t,ht with
  | 0,_=>exact h0
  | 1,_=>exact h1
  | 2,_=>exact h2
  | 3,_=>exact h3
  | 4,_=>exact h4
  | 5,_=>exact h5
 have hsz:i*6+j < cells.size:=(Array.getElem?_eq_some_iff.1 (hall i hi j hj)).1
 have key:∀ t,t < 6→(cells.setIfInBounds (i*6+j) (fld b j))[k*6+t]?=some (fld (xs.set i b)[k] t):=fun t ht=>by
  by_cases hki:k=i
  ·subst hki;rw [List.getElem_set_self]
   by_cases htj:t=j
   ·subst htj;rw [Array.getElem?_setIfInBounds_self_of_lt hsz]
   ·rw [Array.getElem?_setIfInBounds_ne (by omega),hall k hk t ht,he t ht htj]
  ·rw [List.getElem_set_ne (fun e=>hki e.symm),Array.getElem?_setIfInBounds_ne (by omega)];exact hall k hk t ht
 exact ⟨key 0 (by omega),key 1 (by omega),key 2 (by omega),key 3 (by omega),key 4 (by omega),key 5 (by omega)⟩
theorem Man.setF (h:Man w0 W gm gc gl cl ge ce a m) (i:Nat) (hi:i < m.l.length) (b:Blk) (j:Nat) (hj:j < 6) (he:∀ t,t < 6→t ≠ j→fld b t=fld m.l[i] t):Man w0 (W.setCell ⟨gl,i*6+j,none⟩ (fld b j)) gm gc gl cl ge ce a (m.put i b):=by
 obtain ⟨cells,h1,h2⟩:=h.l;refine ⟨?_,h.chip.far h1 h.el (by decide) (by decide) (by decide) (by decide) (by decide) _ _,h.l.putF i hi b j hj he,h.b.keep (Below.heap_setCell _ _ _ _ (h.b.ne h1 (by decide))),h.em,h.el,h.ee,?_,h.hb,?_,h.lb⟩
 ·have hm:mC gc a.g gl cl ge ce (m.put i b)=mC gc a.g gl cl ge ce m:=by unfold mC AM.put;rw [List.length_set]
  rw [hm,Below.heap_setCell _ _ _ _ (h.l.ne h.c (by decide)).symm];exact h.c
 ·show (m.l.set i b).length≤cl;rw [List.length_set];exact h.hl
 ·show (m.l.set i b).length=a.g.B;rw [List.length_set];exact h.ln
theorem MK.setF {s:List Nat} {cs:Array Value} (h:MK s W W') (hg:W'.heap[gl]?=some (.cells cs 68 (0,0))) (o:Nat) (v:Value) (hs:gl ∈ s:=by simp):MK s W (W'.setCell ⟨gl,o,none⟩ v):=fun x cs2 t2 fr a' b' c d hx=>by
 have h5:=h x cs2 t2 fr a' b' c d hx
 have hne:x ≠ gl:=fun e9=>by
  subst e9;rw [h5] at hg;simp only [Option.some.injEq,Obj.cells.injEq] at hg
  rcases d with ⟨d1,d2,d3,d4⟩|d
  ·exact d2 hg.2.1
  ·exact d hs
 exact (Below.heap_setCell W' ⟨gl,o,none⟩ v x hne).trans h5
theorem qqY (W:World):Calls Tryz.prog 89 #[.nilIface] W fun x w'=>x=.returned (.int .i64 0)∧Below W.heap.size W w':=by
 go_enter Tryz.func89,Tryz.ntmps89;go_wp2;go_ret;exact ⟨rfl,qaA (Below.refl _ _) _⟩
def qnR (Z:Nat) (xss:List (List Int)):Bool:=xss.any fun x=>decide (Z < x.length)
def qbS (a:AC) (m:AM) (leb:Int) (xss:List (List Int)):Int :=
 if leb < 0∨(m.lebs.length:Int)≤leb∨(a.g.P:Int) - 2 < xss.length∨qnR a.g.Z xss=true then 22 else if ¬ qjD a m=0 then qjD a m else if qeH m=true then 30 else 0
theorem qvA (h:Man w0 W gm gc gl cl ge ce a m) (ab:Addr) (hab:W.cell? ab=some (kp gm)) (A:Option Addr) (len c:Nat):Calls Tryz.prog 136 #[.slice A len c,.pointer (some ab)] W fun x w'=>x=.returned (.bool (decide (a.g.Z < len)))∧Below W.heap.size W w':=by
 have c3:W.cell? ⟨gm,3,none⟩=some (.int .i64 a.g.Z):=h.cell 3;clear h
 by_cases hlt:a.g.Z < len
 ·have d0:decide ((a.g.Z:Int) < (len:Int))=true:=decide_eq_true (by omega);have HE:=aM (show decide (a.g.Z < len)=true from decide_eq_true hlt);have hq:(a.g.Z < len)=True:=eq_true hlt;clear hlt;go_enter Tryz.func136,Tryz.ntmps136;go_wp2;go_ret;rw [HE.out];exact ⟨rfl,Below.refl _ _⟩
 ·have d0:decide ((a.g.Z:Int) < (len:Int))=false:=decide_eq_false (by omega);have HE:=aM (show decide (a.g.Z < len)=false from decide_eq_false hlt);have hq:(a.g.Z < len)=False:=eq_false hlt;clear hlt;go_enter Tryz.func136,Tryz.ntmps136;go_wp2;go_ret;rw [HE.out];exact ⟨rfl,Below.refl _ _⟩
theorem qzD (h:Man w0 W gm gc gl cl ge ce a m) (ab:Addr) (hab:W.cell? ab=some (kp gm)) (s:List Nat) (A:Option Addr) (c:Nat) (xss:List (List Int)) (hc:xss.length≤c) (hp:qcY s w0 W A xss):Calls Tryz.prog 158 #[.slice A xss.length c,fnV 136 #[] #[.pointer (some ab)]] W fun x w'=>∃ r:Int,x=.returned (.int .i64 r)∧decide (0≤r)=qnR a.g.Z xss∧Below W.heap.size W w':=by
 have H:=aM h;have HAB:=aM hab;have HP:=aM hp;have hmx:=hp.1;clear h hab hp;go_enter Tryz.func158,Tryz.ntmps158
 go_upto_region 2 with (fail)
 go_loopw [8] (fun v8 wr=>∃ i:Nat,i≤xss.length∧v8=.int .i64 i∧qaJ (qnR a.g.Z (xss.take i)=false)∧qaJ (Below W.heap.size W wr)) (fun v8 _=>xss.length - (intOf v8).toNat);case atStart=>exact ⟨0,Nat.zero_le _,rfl,⟨rfl⟩,⟨Below.refl _ _⟩⟩
 case round =>
  obtain ⟨i,hi,rfl,HB,HBr⟩:=hrel
  by_cases hlt:i < xss.length
  ·have d0:decide ((i:Int) < (xss.length:Int))=true:=decide_eq_true (by omega);have hq:(i < xss.length)=True:=eq_true hlt;have hqi:((i:Int) < (xss.length:Int))=True:=eq_true (by omega);have hwj:wrap64 ((i:Int)+1)=(i:Int)+1:=by unfold wrap64;omega
   obtain ⟨ad,Aj,cj,eA,lj,hat⟩:=HP.out.2 i hlt;subst eA;have z0:=(hat wr (H.out.grow HBr.out).chip.below (MK.of_below HBr.out)).1
   have HTK:=aM (show qnR a.g.Z (xss.take (i+1))=decide (a.g.Z < (xss.getD i []).length) by
    unfold qnR at HB ⊢;rw [List.take_add_one,List.any_append,HB.out,List.getD_eq_getElem?_getD,List.getElem?_eq_getElem hlt]
    simp)
   have HALL:=aM (show decide (a.g.Z < (xss.getD i []).length)=true→qnR a.g.Z xss=true from fun hd=>by
    unfold qnR;rw [List.any_eq_true];refine ⟨xss[i],List.getElem_mem hlt,?_⟩;rw [List.getD_eq_getElem?_getD,List.getElem?_eq_getElem hlt] at hd
    exact hd)
   generalize xss.getD i []=l at lj hat HTK HALL z0;have HR1:=aM (qvA (H.out.grow HBr.out) ab (qaH HAB.out HBr.out) Aj l.length cj);have HLT:=aM hlt;clear hat lj hi
   by_cases hbig:a.g.Z < l.length
   ·rw [decide_eq_true hbig] at HR1 HALL;have HBG:=aM (HALL.out rfl);clear hbig;go_wp2_with (first|(go_at_call 136;(with_reducible refine HR1.out.mono ?_);rintro x w1 ⟨rfl,hb1⟩;have HB1:=aM (qaC HBr.out hb1);clear hb1));go_ret;exact ⟨_,rfl,by rw [HBG.out];exact decide_eq_true (by omega),HB1.out⟩
   ·rw [decide_eq_false hbig] at HR1 HTK;clear hbig;go_wp2_with (first|(go_at_call 136;(with_reducible refine HR1.out.mono ?_);rintro x w1 ⟨rfl,hb1⟩;have HB1:=aM (qaC HBr.out hb1);clear hb1));go_roundw;case rel=>exact ⟨i+1,HLT.out,by push_cast;rfl,HTK,HB1⟩
    case measure=>have:=HLT.out;simp [intOf];omega
  ·obtain rfl:i=xss.length:=by omega
   have d0:decide ((xss.length:Int) < (xss.length:Int))=false:=decide_eq_false (by omega);have hq:(xss.length < xss.length)=False:=eq_false (by omega);rw [List.take_length] at HB;go_wp2;go_ret;exact ⟨_,rfl,by rw [HB.out];rfl,HBr.out⟩
theorem qdK (h:Man w0 W gm gc gl cl ge ce a m) (ab:Addr) (hab:W.cell? ab=some (kp gm)) (s:List Nat) (A:Option Addr) (c:Nat) (xss:List (List Int)) (hc:xss.length≤c) (hp:qcY s w0 W A xss):Calls Tryz.prog 135 #[.slice A xss.length c,fnV 136 #[] #[.pointer (some ab)]] W fun x w'=>x=.returned (.bool (qnR a.g.Z xss))∧Below W.heap.size W w':=by
 have HIX:=aM (qzD h ab hab s A c xss hc hp);clear h hab hp hc;go_enter Tryz.func135,Tryz.ntmps135;go_wp2_with (first|(go_at_call 158;(with_reducible refine HIX.out.mono ?_);rintro x w1 ⟨r,rfl,hr,hb1⟩;have HR:=aM hr;have HB1:=aM hb1;clear hb1 hr));go_ret;rw [← HR.out];exact ⟨rfl,HB1.out⟩
end
section
open Go.Shelf Plain
variable {w0 W W':World} {gm gc gl cl ge ce:Nat} {a a':AC} {m m':AM}
theorem qfJ (h:Man w0 W gm gc gl cl ge ce a m) (leb:Int) (s:List Nat) (A:Option Addr) (c:Nat) (xss:List (List Int)) (hc:xss.length≤c) (hp:qcY s w0 W A xss):Calls Tryz.prog 90 #[kp gm,.int .i64 leb,.slice A xss.length c] W fun x w'=>x=.returned (.int .i64 (qbS a m leb xss))∧Below W.heap.size W w':=by
 have H:=aM h;have HP:=aM hp;have HC:=aM hc;have hgP:=h.chip.gok.2.1;have hmx:=hp.1;clear h hp hc
 by_cases h1:leb < 0
 ·have d0:decide (leb < 0)=true:=decide_eq_true h1;have d0n:(leb < 0)=True:=eq_true h1;have HE:=aM (show qbS a m leb xss=22 from if_pos (.inl h1));clear h1 hgP;go_enter Tryz.func90,Tryz.ntmps90
  go_upto_region 1 with (fail)
  generalize hW:W.alloc (.cells #[kp gm] 49)=W1;have hb1:Below W.heap.size W W1:=by rw [← hW];exact qaA (Below.refl _ _) _
  have HB1:=aM hb1;have hab:W1.cell? ⟨W.heap.size,0,none⟩=some (kp gm):=by rw [← hW];exact Joins.cell_of_block (qaM _ _ _) 0
  have HAB:=aM hab;have H1:=aM (H.out.grow hb1);have y6:W1.cell? ⟨gm,6,none⟩=some (.slice (some ⟨ge,0,none⟩) m.lebs.length ce):=H1.out.cell 6;have HMP:=aM (fun (w:World) (hb:Below W1.heap.size W1 w)=>qcO (H1.out.grow hb));have HCN:=aM (fun (w:World) (hb:Below W1.heap.size W1 w)=>qdK (H1.out.grow hb) ⟨W.heap.size,0,none⟩ (qaH HAB.out hb) s A c xss HC.out (HP.out.later (MK.of_below (qaC HB1.out hb))));have HPW:=aM (fun (w:World) (hb:Below W1.heap.size W1 w)=>qdR (H1.out.grow hb));have HSP:=aM (fun (w:World) (hb:Below W1.heap.size W1 w)=>qcZ (H1.out.grow hb));clear hW hb1;go_wp2;go_ret;rw [HE.out];exact ⟨rfl,HB1.out⟩
 have d0:decide (leb < 0)=false:=decide_eq_false h1;have d0n:(leb < 0)=False:=eq_false h1
 by_cases h2:(m.lebs.length:Int)≤leb
 ·have d1:decide ((m.lebs.length:Int)≤leb)=true:=decide_eq_true h2;have d1n:((m.lebs.length:Int)≤leb)=True:=eq_true h2;have HE:=aM (show qbS a m leb xss=22 from if_pos (.inr (.inl h2)));clear h1 h2 hgP;go_enter Tryz.func90,Tryz.ntmps90
  go_upto_region 1 with (fail)
  generalize hW:W.alloc (.cells #[kp gm] 49)=W1;have hb1:Below W.heap.size W W1:=by rw [← hW];exact qaA (Below.refl _ _) _
  have HB1:=aM hb1;have hab:W1.cell? ⟨W.heap.size,0,none⟩=some (kp gm):=by rw [← hW];exact Joins.cell_of_block (qaM _ _ _) 0
  have HAB:=aM hab;have H1:=aM (H.out.grow hb1);have y6:W1.cell? ⟨gm,6,none⟩=some (.slice (some ⟨ge,0,none⟩) m.lebs.length ce):=H1.out.cell 6;have HMP:=aM (fun (w:World) (hb:Below W1.heap.size W1 w)=>qcO (H1.out.grow hb));have HCN:=aM (fun (w:World) (hb:Below W1.heap.size W1 w)=>qdK (H1.out.grow hb) ⟨W.heap.size,0,none⟩ (qaH HAB.out hb) s A c xss HC.out (HP.out.later (MK.of_below (qaC HB1.out hb))));have HPW:=aM (fun (w:World) (hb:Below W1.heap.size W1 w)=>qdR (H1.out.grow hb));have HSP:=aM (fun (w:World) (hb:Below W1.heap.size W1 w)=>qcZ (H1.out.grow hb));clear hW hb1;go_wp2;go_ret;rw [HE.out];exact ⟨rfl,HB1.out⟩
 have d1:decide ((m.lebs.length:Int)≤leb)=false:=decide_eq_false h2;have d1n:((m.lebs.length:Int)≤leb)=False:=eq_false h2
 by_cases h3:(a.g.P:Int) - 2 < xss.length
 ·have d2:decide ((a.g.P:Int) - 2 < (xss.length:Int))=true:=decide_eq_true h3;have d2n:((a.g.P:Int) - 2 < (xss.length:Int))=True:=eq_true h3;have HE:=aM (show qbS a m leb xss=22 from if_pos (.inr (.inr (.inl h3))));clear h1 h2 h3 hgP;go_enter Tryz.func90,Tryz.ntmps90
  go_upto_region 1 with (fail)
  generalize hW:W.alloc (.cells #[kp gm] 49)=W1;have hb1:Below W.heap.size W W1:=by rw [← hW];exact qaA (Below.refl _ _) _
  have HB1:=aM hb1;have hab:W1.cell? ⟨W.heap.size,0,none⟩=some (kp gm):=by rw [← hW];exact Joins.cell_of_block (qaM _ _ _) 0
  have HAB:=aM hab;have H1:=aM (H.out.grow hb1);have y6:W1.cell? ⟨gm,6,none⟩=some (.slice (some ⟨ge,0,none⟩) m.lebs.length ce):=H1.out.cell 6;have HMP:=aM (fun (w:World) (hb:Below W1.heap.size W1 w)=>qcO (H1.out.grow hb));have HCN:=aM (fun (w:World) (hb:Below W1.heap.size W1 w)=>qdK (H1.out.grow hb) ⟨W.heap.size,0,none⟩ (qaH HAB.out hb) s A c xss HC.out (HP.out.later (MK.of_below (qaC HB1.out hb))));have HPW:=aM (fun (w:World) (hb:Below W1.heap.size W1 w)=>qdR (H1.out.grow hb));have HSP:=aM (fun (w:World) (hb:Below W1.heap.size W1 w)=>qcZ (H1.out.grow hb));clear hW hb1
  go_wp2_with (first
   | (go_at_call 26;(with_reducible refine (HMP.out _ (Below.refl _ _)).mono ?_);rintro x w2 ⟨rfl,hb2⟩;have HB2:=aM hb2;have ab2:=qaH hab hb2;clear hb2)
   | (go_at_call 135;(with_reducible refine (HCN.out _ HB2.out).mono ?_);rintro x w3 ⟨rfl,hb3⟩;have HB3:=aM (qaC HB2.out hb3);have ab3:=qaH hab HB3.out;clear hb3)
   | (go_at_call 96;(with_reducible refine (HPW.out _ HB3.out).mono ?_);rintro x w4 ⟨rfl,hb4⟩;have HB4:=aM (qaC HB3.out hb4);have ab4:=qaH hab HB4.out;clear hb4)
   | (go_at_call 40;(with_reducible refine (HSP.out _ HB4.out).mono ?_);rintro x w5 ⟨rfl,hb5⟩;have HB5:=aM (qaC HB4.out hb5);clear hb5))
  go_ret;rw [HE.out];exact ⟨rfl,qaC HB1.out HB2.out⟩
 have d2:decide ((a.g.P:Int) - 2 < (xss.length:Int))=false:=decide_eq_false h3;have d2n:((a.g.P:Int) - 2 < (xss.length:Int))=False:=eq_false h3
 cases h4:qnR a.g.Z xss with
 | true =>
  have HE:=aM (show qbS a m leb xss=22 from if_pos (.inr (.inr (.inr h4))));clear h1 h2 h3 hgP;go_enter Tryz.func90,Tryz.ntmps90
  go_upto_region 1 with (fail)
  generalize hW:W.alloc (.cells #[kp gm] 49)=W1;have hb1:Below W.heap.size W W1:=by rw [← hW];exact qaA (Below.refl _ _) _
  have HB1:=aM hb1;have hab:W1.cell? ⟨W.heap.size,0,none⟩=some (kp gm):=by rw [← hW];exact Joins.cell_of_block (qaM _ _ _) 0
  have HAB:=aM hab;have H1:=aM (H.out.grow hb1);have y6:W1.cell? ⟨gm,6,none⟩=some (.slice (some ⟨ge,0,none⟩) m.lebs.length ce):=H1.out.cell 6;have HMP:=aM (fun (w:World) (hb:Below W1.heap.size W1 w)=>qcO (H1.out.grow hb));have HCN:=aM (fun (w:World) (hb:Below W1.heap.size W1 w)=>qdK (H1.out.grow hb) ⟨W.heap.size,0,none⟩ (qaH HAB.out hb) s A c xss HC.out (HP.out.later (MK.of_below (qaC HB1.out hb))));have HPW:=aM (fun (w:World) (hb:Below W1.heap.size W1 w)=>qdR (H1.out.grow hb));have HSP:=aM (fun (w:World) (hb:Below W1.heap.size W1 w)=>qcZ (H1.out.grow hb));clear hW hb1;rw [h4] at HCN;clear h4
  go_wp2_with (first
   | (go_at_call 26;(with_reducible refine (HMP.out _ (Below.refl _ _)).mono ?_);rintro x w2 ⟨rfl,hb2⟩;have HB2:=aM hb2;have ab2:=qaH hab hb2;clear hb2)
   | (go_at_call 135;(with_reducible refine (HCN.out _ HB2.out).mono ?_);rintro x w3 ⟨rfl,hb3⟩;have HB3:=aM (qaC HB2.out hb3);have ab3:=qaH hab HB3.out;clear hb3)
   | (go_at_call 96;(with_reducible refine (HPW.out _ HB3.out).mono ?_);rintro x w4 ⟨rfl,hb4⟩;have HB4:=aM (qaC HB3.out hb4);have ab4:=qaH hab HB4.out;clear hb4)
   | (go_at_call 40;(with_reducible refine (HSP.out _ HB4.out).mono ?_);rintro x w5 ⟨rfl,hb5⟩;have HB5:=aM (qaC HB4.out hb5);clear hb5))
  go_ret;rw [HE.out];exact ⟨rfl,qaC HB1.out HB3.out⟩
 | false =>
  have HEE:=aM (show qbS a m leb xss=if ¬ qjD a m=0 then qjD a m else if qeH m=true then 30 else 0 from if_neg (fun h=>by
   rcases h with h|h|h|h
   ·exact h1 h
   ·exact h2 h
   ·exact h3 h
   ·rw [h4] at h;exact absurd h (by decide)))
  by_cases hpw:qjD a m=0
  ·rw [hpw,if_neg (by decide)] at HEE
   cases hsp:qeH m with
   | true =>
    rw [hsp,if_pos rfl] at HEE;clear h1 h2 h3 hgP;go_enter Tryz.func90,Tryz.ntmps90
    go_upto_region 1 with (fail)
    generalize hW:W.alloc (.cells #[kp gm] 49)=W1;have hb1:Below W.heap.size W W1:=by rw [← hW];exact qaA (Below.refl _ _) _
    have HB1:=aM hb1;have hab:W1.cell? ⟨W.heap.size,0,none⟩=some (kp gm):=by rw [← hW];exact Joins.cell_of_block (qaM _ _ _) 0
    have HAB:=aM hab;have H1:=aM (H.out.grow hb1);have y6:W1.cell? ⟨gm,6,none⟩=some (.slice (some ⟨ge,0,none⟩) m.lebs.length ce):=H1.out.cell 6;have HMP:=aM (fun (w:World) (hb:Below W1.heap.size W1 w)=>qcO (H1.out.grow hb));have HCN:=aM (fun (w:World) (hb:Below W1.heap.size W1 w)=>qdK (H1.out.grow hb) ⟨W.heap.size,0,none⟩ (qaH HAB.out hb) s A c xss HC.out (HP.out.later (MK.of_below (qaC HB1.out hb))));have HPW:=aM (fun (w:World) (hb:Below W1.heap.size W1 w)=>qdR (H1.out.grow hb));have HSP:=aM (fun (w:World) (hb:Below W1.heap.size W1 w)=>qcZ (H1.out.grow hb));clear hW hb1;rw [h4] at HCN;rw [hpw] at HPW;rw [hsp] at HSP;clear h4 hpw hsp
    go_wp2_with (first
     | (go_at_call 26;(with_reducible refine (HMP.out _ (Below.refl _ _)).mono ?_);rintro x w2 ⟨rfl,hb2⟩;have HB2:=aM hb2;have ab2:=qaH hab hb2;clear hb2)
     | (go_at_call 135;(with_reducible refine (HCN.out _ HB2.out).mono ?_);rintro x w3 ⟨rfl,hb3⟩;have HB3:=aM (qaC HB2.out hb3);have ab3:=qaH hab HB3.out;clear hb3)
     | (go_at_call 96;(with_reducible refine (HPW.out _ HB3.out).mono ?_);rintro x w4 ⟨rfl,hb4⟩;have HB4:=aM (qaC HB3.out hb4);have ab4:=qaH hab HB4.out;clear hb4)
     | (go_at_call 40;(with_reducible refine (HSP.out _ HB4.out).mono ?_);rintro x w5 ⟨rfl,hb5⟩;have HB5:=aM (qaC HB4.out hb5);clear hb5))
    go_ret;rw [HEE.out];exact ⟨rfl,qaC HB1.out HB5.out⟩
   | false =>
    rw [hsp,if_neg (by decide)] at HEE;clear h1 h2 h3 hgP;go_enter Tryz.func90,Tryz.ntmps90
    go_upto_region 1 with (fail)
    generalize hW:W.alloc (.cells #[kp gm] 49)=W1;have hb1:Below W.heap.size W W1:=by rw [← hW];exact qaA (Below.refl _ _) _
    have HB1:=aM hb1;have hab:W1.cell? ⟨W.heap.size,0,none⟩=some (kp gm):=by rw [← hW];exact Joins.cell_of_block (qaM _ _ _) 0
    have HAB:=aM hab;have H1:=aM (H.out.grow hb1);have y6:W1.cell? ⟨gm,6,none⟩=some (.slice (some ⟨ge,0,none⟩) m.lebs.length ce):=H1.out.cell 6;have HMP:=aM (fun (w:World) (hb:Below W1.heap.size W1 w)=>qcO (H1.out.grow hb));have HCN:=aM (fun (w:World) (hb:Below W1.heap.size W1 w)=>qdK (H1.out.grow hb) ⟨W.heap.size,0,none⟩ (qaH HAB.out hb) s A c xss HC.out (HP.out.later (MK.of_below (qaC HB1.out hb))));have HPW:=aM (fun (w:World) (hb:Below W1.heap.size W1 w)=>qdR (H1.out.grow hb));have HSP:=aM (fun (w:World) (hb:Below W1.heap.size W1 w)=>qcZ (H1.out.grow hb));clear hW hb1;rw [h4] at HCN;rw [hpw] at HPW;rw [hsp] at HSP;clear h4 hpw hsp
    go_wp2_with (first
     | (go_at_call 26;(with_reducible refine (HMP.out _ (Below.refl _ _)).mono ?_);rintro x w2 ⟨rfl,hb2⟩;have HB2:=aM hb2;have ab2:=qaH hab hb2;clear hb2)
     | (go_at_call 135;(with_reducible refine (HCN.out _ HB2.out).mono ?_);rintro x w3 ⟨rfl,hb3⟩;have HB3:=aM (qaC HB2.out hb3);have ab3:=qaH hab HB3.out;clear hb3)
     | (go_at_call 96;(with_reducible refine (HPW.out _ HB3.out).mono ?_);rintro x w4 ⟨rfl,hb4⟩;have HB4:=aM (qaC HB3.out hb4);have ab4:=qaH hab HB4.out;clear hb4)
     | (go_at_call 40;(with_reducible refine (HSP.out _ HB4.out).mono ?_);rintro x w5 ⟨rfl,hb5⟩;have HB5:=aM (qaC HB4.out hb5);clear hb5))
    go_ret;rw [HEE.out];exact ⟨rfl,qaC HB1.out HB5.out⟩
  ·rw [if_pos hpw] at HEE;have d6:(qjD a m==0)=false:=by simp only [beq_eq_false_iff_ne];exact hpw
   have d6p:(qjD a m=0)=False:=eq_false hpw;clear h1 h2 h3 hgP;go_enter Tryz.func90,Tryz.ntmps90
   go_upto_region 1 with (fail)
   generalize hW:W.alloc (.cells #[kp gm] 49)=W1;have hb1:Below W.heap.size W W1:=by rw [← hW];exact qaA (Below.refl _ _) _
   have HB1:=aM hb1;have hab:W1.cell? ⟨W.heap.size,0,none⟩=some (kp gm):=by rw [← hW];exact Joins.cell_of_block (qaM _ _ _) 0
   have HAB:=aM hab;have H1:=aM (H.out.grow hb1);have y6:W1.cell? ⟨gm,6,none⟩=some (.slice (some ⟨ge,0,none⟩) m.lebs.length ce):=H1.out.cell 6;have HMP:=aM (fun (w:World) (hb:Below W1.heap.size W1 w)=>qcO (H1.out.grow hb));have HCN:=aM (fun (w:World) (hb:Below W1.heap.size W1 w)=>qdK (H1.out.grow hb) ⟨W.heap.size,0,none⟩ (qaH HAB.out hb) s A c xss HC.out (HP.out.later (MK.of_below (qaC HB1.out hb))));have HPW:=aM (fun (w:World) (hb:Below W1.heap.size W1 w)=>qdR (H1.out.grow hb));have HSP:=aM (fun (w:World) (hb:Below W1.heap.size W1 w)=>qcZ (H1.out.grow hb));clear hW hb1;rw [h4] at HCN;clear h4
   go_wp2_with (first
    | (go_at_call 26;(with_reducible refine (HMP.out _ (Below.refl _ _)).mono ?_);rintro x w2 ⟨rfl,hb2⟩;have HB2:=aM hb2;have ab2:=qaH hab hb2;clear hb2)
    | (go_at_call 135;(with_reducible refine (HCN.out _ HB2.out).mono ?_);rintro x w3 ⟨rfl,hb3⟩;have HB3:=aM (qaC HB2.out hb3);have ab3:=qaH hab HB3.out;clear hb3)
    | (go_at_call 96;(with_reducible refine (HPW.out _ HB3.out).mono ?_);rintro x w4 ⟨rfl,hb4⟩;have HB4:=aM (qaC HB3.out hb4);have ab4:=qaH hab HB4.out;clear hb4)
    | (go_at_call 40;(with_reducible refine (HSP.out _ HB4.out).mono ?_);rintro x w5 ⟨rfl,hb5⟩;have HB5:=aM (qaC HB4.out hb5);clear hb5))
   go_ret;rw [HEE.out];exact ⟨rfl,qaC HB1.out HB4.out⟩
end
section
open Go.Shelf Plain
variable {w0 W W':World} {gm gc gl cl ge ce:Nat} {a a':AC} {m m':AM}
theorem qvH (h:Man w0 W gm gc gl cl ge ce a m) (hs:0≤m.seq) (leb:Int):Calls Tryz.prog 137 #[kp gm,.int .i64 leb,.int .i64 0,fnV 138 #[] #[],fnV 95 #[kp gm] #[]] W fun x w'=>∃ v:Value,x=.returned (.tuple #[.int .i64 (qaV pkL pg0 leb 0 (qbX m.l+1) true a m).1,v])∧EV w' v (qaV pkL pg0 leb 0 (qbX m.l+1) true a m).2.1∧Man w0 w' gm gc gl cl ge ce (qaV pkL pg0 leb 0 (qbX m.l+1) true a m).2.2.1 (qaV pkL pg0 leb 0 (qbX m.l+1) true a m).2.2.2∧MK [gm,gl] W w' :=
 vbQ h [gm,gl] (by simp) (by simp) leb 0 hs (qbX m.l+1) (Nat.lt_succ_self _) pkL pg0 (fun _ _ _=>True) (fun _ _=>True) trivial trivial (fun _ _ _ _ _=>trivial)
  (fun _ _ o _=>qhI o.l)
  (fun _ w b o hm _ _=>(qkI hm).mono (by rintro x w' ⟨rfl,hb⟩;exact ⟨rfl,hm.grow hb,trivial,MK.of_below hb⟩))
  (fun _ w b o hm _ _=>(qsY w).mono (by rintro x w' ⟨rfl,hb⟩;exact ⟨none,0,rfl,Nat.le_refl _,qcY.nil _ _ _ _,hm.grow hb,MK.of_below hb⟩))
  (fun _ _ _ _ _ _ _ _ _=>trivial)
theorem qgR (pk:Bool→AM→Int) (pg:AC→AM→List (List Int)) (leb least:Int):∀ (q:Nat) (st:Bool) (a:AC) (m:AM),(qaV pk pg leb least q st a m).2.2.2.lebs=m.lebs
 | 0,_,_,_=>rfl
 | q+1,st,a,m=>by
  have key:(qbM a m (pk st m).toNat leb least (pg a m)).2.2.lebs=m.lebs:=by
   unfold qbM
   split
   ·rfl
   split <;> rfl
  unfold qaV
  split
  ·rfl
  split
  ·rw [qgR pk pg leb least q];exact key
  ·exact key
def qeG (rt:AC→AM→Int × AC × AM) (q:Nat) (a:AC) (m:AM) (k:Nat) (x:List Int):Int × AC × AM :=
 if (qgN (qbX m.l+1) a m k).1=0 then qfS rt q (qgN (qbX m.l+1) a m k).2.1 (qgN (qbX m.l+1) a m k).2.2 k x else qgN (qbX m.l+1) a m k
theorem qxR (h:Man w0 W gm gc gl cl ge ce a m) (hs:0≤m.seq) (k:Nat) (hk:k < m.lebs.length) (A:Option Addr) (c:Nat) (x:List Int) (hx:∀ w',Below w0.heap.size w0 w'→MK [gm,gl,ge] W w'→Kd.C kB w' A x.length x) (hc:x.length≤c)
  (rt:AC→AM→Int × AC × AM) (q:Nat) (I:Nat→AC→AM→Prop) (hI:(qgN (qbX m.l+1) a m k).1=0→I q (qgN (qbX m.l+1) a m k).2.1 (qgN (qbX m.l+1) a m k).2.2) (hI0:∀ b o,¬ I 0 b o)
  (hIk:∀ q b o,I (q+1) b o→o.ok∧k < o.lebs.length∧(∃ i:Nat,o.lebs.getD k 0=(i:Int))∧0≤(qcA o (k:Int)).1.f3∧(qcA o (k:Int)).1.f3≤1000)
  (hrt:∀ q w b o,I (q+1) b o→(qaZ b (o.lebs.getD k 0) ((qcA o (k:Int)).1.f3+2) x).1=5→Man w0 w gm gc gl cl ge ce (qaZ b (o.lebs.getD k 0) ((qcA o (k:Int)).1.f3+2) x).2 o→Calls Tryz.prog 139 #[kp gm,.int .i64 k] w fun z w'=>∃ v:Value,z=.returned v∧EV w' v (rt (qaZ b (o.lebs.getD k 0) ((qcA o (k:Int)).1.f3+2) x).2 o).1∧Man w0 w' gm gc gl cl ge ce (rt (qaZ b (o.lebs.getD k 0) ((qcA o (k:Int)).1.f3+2) x).2 o).2.1 (rt (qaZ b (o.lebs.getD k 0) ((qcA o (k:Int)).1.f3+2) x).2 o).2.2∧MK [gm,gl,ge] w w'∧((rt (qaZ b (o.lebs.getD k 0) ((qcA o (k:Int)).1.f3+2) x).2 o).1=0→I q (rt (qaZ b (o.lebs.getD k 0) ((qcA o (k:Int)).1.f3+2) x).2 o).2.1 (rt (qaZ b (o.lebs.getD k 0) ((qcA o (k:Int)).1.f3+2) x).2 o).2.2)) :
  Calls Tryz.prog 91 #[kp gm,.int .i64 k,.slice A x.length c] W fun z w'=>∃ v:Value,z=.returned v∧EV w' v (qeG rt q a m k x).1∧Man w0 w' gm gc gl cl ge ce (qeG rt q a m k x).2.1 (qeG rt q a m k x).2.2∧MK [gm,gl,ge] W w':=by
 have H:=aM h;have HXD:=aM (qvH h hs (k:Int));have HX:=aM hx;have HXC:=aM hc;have HI0:=aM hI0;have HIK:=aM hIk;have HRT:=aM hrt;have HQ:=aM hk;have HSS:=aM (show ∀ z,z ∈ [gm,gl]→z ∈ [gm,gl,ge] from fun z hz=>by simp only [List.mem_cons,List.not_mem_nil,or_false] at hz ⊢;rcases hz with h|h;exact .inl h;exact .inr (.inl h));have y6:W.cell? ⟨gm,6,none⟩=some (.slice (some ⟨ge,0,none⟩) m.lebs.length ce):=h.cell 6
 obtain ⟨p,hp⟩:∃ p,p=m.lebs.getD k 0:=⟨_,rfl⟩
 have yk:W.cell? ⟨ge,k,none⟩=some (.int .i64 p):=by
  have:=h.b.cell k hk;rw [hp,List.getD_eq_getElem?_getD,List.getElem?_eq_getElem hk];exact this
 have hq:(k < m.lebs.length)=True:=eq_true hk;have hqi:((k:Int) < (m.lebs.length:Int))=True:=eq_true (by omega)
 by_cases hneg:p < 0
 ·have d0:decide (p < 0)=true:=decide_eq_true hneg;have d0n:(p < 0)=True:=eq_true hneg;have HCL:=aM (show qgN (qbX m.l+1) a m k=if (qaV pkL pg0 (k:Int) 0 (qbX m.l+1) true a m).2.1=0 then (0,(qaV pkL pg0 (k:Int) 0 (qbX m.l+1) true a m).2.2.1,(qaV pkL pg0 (k:Int) 0 (qbX m.l+1) true a m).2.2.2.leb k (qaV pkL pg0 (k:Int) 0 (qbX m.l+1) true a m).1) else ((qaV pkL pg0 (k:Int) 0 (qbX m.l+1) true a m).2.1,(qaV pkL pg0 (k:Int) 0 (qbX m.l+1) true a m).2.2.1,(qaV pkL pg0 (k:Int) 0 (qbX m.l+1) true a m).2.2.2) from if_pos (by rw [← hp];exact hneg));have HLB:=aM (qgR pkL pg0 (k:Int) 0 (qbX m.l+1) true a m);generalize qaV pkL pg0 (k:Int) 0 (qbX m.l+1) true a m=r at HXD HCL HLB;obtain ⟨i1,e1,a1,m1⟩:=r;simp only at HXD HCL HLB;clear h hs hx hc hI0 hIk hrt hk hp hneg;go_enter Tryz.func91,Tryz.ntmps91
  go_upto_region 3 with (first
   | (go_at_call 137;(with_reducible refine HXD.out.mono ?_);rintro z w1 ⟨v1,rfl,hv1,h1,hk1⟩;have HV1:=aM hv1;have H1:=aM h1;have HK1:=aM (hk1.mono HSS.out);clear hv1 h1 hk1))
  clear y6 yk
  by_cases h0:e1=0
  ·subst h0;have HCL2:=aM (HCL.out.trans (if_pos rfl));have HE0:=aM (show qeG rt q a m k x=qfS rt q a1 (m1.leb k i1) k x by unfold qeG;rw [HCL2.out];exact if_pos rfl);have HI1:=aM (show I q a1 (m1.leb k i1) by rw [HCL2.out] at hI;exact hI rfl)
   rcases HV1.out.symm with ⟨h9,-⟩|⟨-,hv⟩
   ·exact absurd rfl h9
   subst hv;have hk1:k < m1.lebs.length:=by rw [HLB.out];exact HQ.out
   have y6:w1.cell? ⟨gm,6,none⟩=some (.slice (some ⟨ge,0,none⟩) m1.lebs.length ce):=H1.out.cell 6
   obtain ⟨pw1,yk⟩:∃ pw1:Int,w1.cell? ⟨ge,k,none⟩=some (.int .i64 pw1):=⟨_,H1.out.b.cell k hk1⟩
   have fk:=H1.out.b.frozen k;have hq:(k < m1.lebs.length)=True:=eq_true hk1;have hqi:((k:Int) < (m1.lebs.length:Int))=True:=eq_true (by omega);have H2:=aM (H1.out.setI k hk1 i1);have HK2:=aM (by obtain ⟨cells,hg,-⟩:=H1.out.b;exact HK1.out.set hg (.inr (.inl rfl)) k (.int .i64 i1));clear hI HCL HCL2 HV1 hk1
   go_upto_region 6 with (fail)
   generalize w1.setCell ⟨ge,k,none⟩ (.int .i64 i1)=W2 at H2 HK2 ⊢;clear y6 yk fk hq hqi H1 HK1 HLB d0 d0n;have H1:=aM (show Man w0 W2 gm gc gl cl ge ce a1 (m1.leb k i1) from H2.out);have HK1:=HK2;clear H2 HK2;clear H HQ HXD;go_loopg [] q (fun kq wr=>∃ (b:AC) (o:AM),qaJ (qeG rt q a m k x=qfS rt kq b o k x)∧qaJ (Man w0 wr gm gc gl cl ge ce b o)∧qaJ (MK [gm,gl,ge] W wr)∧qaJ (I kq b o)∧qaJ (kq≤q));case atStart=>exact ⟨_,_,HE0,H1,HK1,HI1,⟨Nat.le_refl _⟩⟩
   case round =>
    clear HE0 H1 HK1 HI1;obtain ⟨b,o,HP,HM,HK,HI,HKN⟩:=hrel
    cases gk with
    | zero=>exact absurd HI.out (HI0.out b o)
    | succ k1 =>
     obtain ⟨hok,hkl,⟨i,hli⟩,hf3⟩:=HIK.out k1 b o HI.out;have hil:i < o.l.length:=by have:=hok k hkl;omega
     have hib:i < b.g.B:=by have:=HM.out.ln;omega
     obtain ⟨u,hu⟩:∃ u,u=(qcA o (k:Int)).1.f3:=⟨_,rfl⟩
     have HU:=aM (fun (w:World) (hb:Below wr.heap.size wr w)=>qeR (HM.out.grow hb) hok (k:Int));rw [← hu] at HU hf3;have y6:wr.cell? ⟨gm,6,none⟩=some (.slice (some ⟨ge,0,none⟩) o.lebs.length ce):=HM.out.cell 6;have y0:wr.cell? ⟨gm,0,none⟩=some (cp gc):=HM.out.cell 0
     have yk:wr.cell? ⟨ge,k,none⟩=some (.int .i64 i):=by
      have:=HM.out.b.cell k hkl;rw [← hli,List.getD_eq_getElem?_getD,List.getElem?_eq_getElem hkl];exact this
     have hq:(k < o.lebs.length)=True:=eq_true hkl;have hqi:((k:Int) < (o.lebs.length:Int))=True:=eq_true (by omega);have hwu:wrap64 (u+2)=u+2:=by unfold wrap64;omega
     have hwk:IntKind.i64.wrap (u+2)=u+2:=by rw [qbL];exact hwu
     have HPR:=aM (fun (w:World) (hb:Below wr.heap.size wr w)=>(HM.out.grow hb).chip.program (i:Int) (u+2) A c x (fun w' hb2 hk2=>HX.out w' hb2 ((HK.out.trans (MK.of_below hb)).trans (MK.of_keeps hk2))) HXC.out);have HG:=aM (qeP b (i:Int) (u+2) x)
     have HPS:=aM (show qeG rt q a m k x=if (qaZ b (i:Int) (u+2) x).1=0 then (0,(qaZ b (i:Int) (u+2) x).2,o.more i) else if (qaZ b (i:Int) (u+2) x).1=5 then (if (rt (qaZ b (i:Int) (u+2) x).2 o).1=0 then qfS rt k1 (rt (qaZ b (i:Int) (u+2) x).2 o).2.1 (rt (qaZ b (i:Int) (u+2) x).2 o).2.2 k x else rt (qaZ b (i:Int) (u+2) x).2 o) else ((qaZ b (i:Int) (u+2) x).1,(qaZ b (i:Int) (u+2) x).2,o.die (qaZ b (i:Int) (u+2) x).1) by
      rw [HP.out]
      conv=>lhs;unfold qfS
      rw [hli,← hu,Int.toNat_natCast])
     have HRT1:=aM (fun (w:World)=>HRT.out k1 w b o HI.out);rw [hli,← hu] at HRT1;generalize qaZ b (i:Int) (u+2) x=r at HPR HG HPS HRT1;obtain ⟨e1,b1⟩:=r;simp only at HPR HG HPS HRT1;have HIL:=aM hil;clear hu hok hkl hil hib hf3 hli HI
     go_upto_region 7 with (fail)
     go_cut [9,10] from 38 to 82 (fun v9 v10 wx=>v9=.int .i64 i∧qaJ (FV wx v10 e1)∧qaJ (Man w0 wx gm gc gl cl ge ce b1 (o.die e1))∧qaJ (MK [gm,gl,ge] W wx))
     case first =>
      go_region_with (first
       | (go_at_call 27;(with_reducible refine (HU.out _ (by first|exact qaO (Below.refl _ _)|exact Below.refl _ _)).mono ?_);rintro z w1 ⟨rfl,hb1⟩;have HB1:=aM (qaC (qaO (Below.refl _ _)) hb1);have z0:=qaH y0 HB1.out;clear hb1)
       | (go_at_call 58;(with_reducible refine (HPR.out _ HB1.out).mono ?_);rintro z w2 ⟨rfl,hc2,hk2⟩;have H2:=aM ((HM.out.grow HB1.out).onChip hc2 hk2 HG.out);have HK2:=aM ((HK.out.trans (MK.of_below HB1.out)).trans (MK.of_keeps hk2));clear hc2 hk2)
       | (go_at_call 131;(with_reducible refine (qgL H2.out (i:Int) e1).mono ?_);rintro z w3 ⟨v3,rfl,hv,h3,hk3⟩;have HV:=aM hv;have H3:=aM h3;have HK3:=aM (HK2.out.trans (hk3.mono HSS.out));clear hv h3 hk3))
      all_goals go_wp2
      all_goals go_meet
      all_goals exact ⟨rfl,HV,H3,HK3⟩
     case rest =>
      obtain ⟨rfl,HV,H4,HK4⟩:=hcut;generalize wc=w4 at HV H4 HK4 ⊢;clear y0 y6 yk HM HK HU HPR
      by_cases h0:e1=0
      ·subst h0;have HE:=aM (HPS.out.trans (if_pos rfl))
       rcases HV.out.symm with ⟨h9,-⟩|⟨-,hv⟩
       ·exact absurd rfl h9
       subst hv;rw [qgZ o (show (0:Int) ≠ 6 by decide)] at H4
       obtain ⟨f,hf⟩:∃ f,f=(o.l.getD i default).f3:=⟨_,rfl⟩
       have hml:i < o.l.length:=HIL.out;have hfl:(o.l[i]'hml).f3=f:=by rw [hf,qbO hml]
       have y5:w4.cell? ⟨gm,5,none⟩=some (.slice (some ⟨gl,0,none⟩) o.l.length cl):=H4.out.cell 5;obtain ⟨-,-,-,z3,-,-⟩:=H4.out.l.cell i HIL.out;rw [hfl] at z3;have f3:=H4.out.l.frozen (i*6+3);have hq:(i < o.l.length)=True:=eq_true HIL.out;have hqi:((i:Int) < (o.l.length:Int))=True:=eq_true (by have:=HIL.out;omega);have hu:=Tryz.underlying68;have HNW:=aM (H4.out.setF i HIL.out { o.l.getD i default with f3:=wrap64 (f+1) } 3 (by decide) (fun t ht htj=>by rw [qbO hml];match t,ht,htj with | 0,_,_=>rfl | 1,_,_=>rfl | 2,_,_=>rfl | 4,_,_=>rfl | 5,_,_=>rfl));have HNK:=aM (by obtain ⟨cells,hg,-⟩:=H4.out.l;exact HK4.out.setF hg (i*6+3) (.int .i64 (wrap64 (f+1))));have HMO:=aM (show o.more i=o.put i { o.l.getD i default with f3:=wrap64 (f+1) } by unfold AM.more;rw [hf]);clear hf hml hfl HV HRT1;go_wp2;go_ret;rw [HE.out,HMO.out];exact ⟨_,rfl,.inl ⟨rfl,rfl⟩,HNW.out,HNK.out⟩
      ·have HPS2:=aM (HPS.out.trans (if_neg h0));have HIS:=aM (qeS HV.out.ev 5 (by decide))
       rcases HV.out with ⟨h9,-⟩|⟨h9,g,bb,hv,hf⟩
       ·exact absurd h9 h0
       subst hv;clear hf h9
       by_cases h5:e1=5
       ·subst h5;have HE:=aM (HPS2.out.trans (if_pos rfl));rw [show ((5:Int)==5)=true from rfl] at HIS;rw [qgZ o (show (5:Int) ≠ 6 by decide)] at H4;have HR5:=aM (fun (w:World)=>HRT1.out w rfl);generalize rt b1 o=t at HE HR5;obtain ⟨e6,b6,o6⟩:=t;simp only at HE HR5;clear h0 HPS2
        by_cases h6:e6=0
        ·subst h6;have HEE:=aM (HE.out.trans (if_pos rfl))
         go_wp2_with (first
          | (go_at_call 129;(with_reducible refine HIS.out.mono ?_);rintro z w5 ⟨rfl,hb⟩;have H5:=aM (H4.out.grow hb);have HK5:=aM (HK4.out.trans (MK.of_below hb));clear hb)
          | (go_at_call 139;(with_reducible refine (HR5.out _ H5.out).mono ?_);rintro z w6 ⟨v6,rfl,hv6,h6,hk6,hi6⟩;(rcases hv6.symm with ⟨h9,-⟩|⟨-,rfl⟩;exact absurd rfl h9);have H6:=aM h6;have HK6:=aM (HK5.out.trans hk6);have HI6:=aM (hi6 (by trivial));clear h6 hk6 hi6))
         go_roundg k1;case measure=>have:=HKN.out;omega
         case rel=>exact ⟨_,_,HEE,H6,HK6,HI6,⟨by have:=HKN.out;omega⟩⟩
        ·have HEE:=aM (HE.out.trans (if_neg h6));have HN6:=aM h6;clear h6
         go_upto_region 14 with (first
          | (go_at_call 129;(with_reducible refine HIS.out.mono ?_);rintro z w5 ⟨rfl,hb⟩;have H5:=aM (H4.out.grow hb);have HK5:=aM (HK4.out.trans (MK.of_below hb));clear hb)
          | (go_at_call 139;(with_reducible refine (HR5.out _ H5.out).mono ?_);rintro z w6 ⟨v6,rfl,hv6,h6,hk6,hi6⟩;have HV6:=aM hv6;have H6:=aM h6;have HK6:=aM (HK5.out.trans hk6);clear hv6 h6 hk6 hi6))
         rcases HV6.out with ⟨h9,-⟩|⟨h9,hv|⟨g2,bb2,hv,hf⟩⟩
         ·exact absurd h9 HN6.out
         ·subst hv;clear h9;go_wp2;go_ret;rw [HEE.out];exact ⟨_,rfl,HV6.out,H6.out,HK6.out⟩
         ·subst hv;clear h9 hf;go_wp2;go_ret;rw [HEE.out];exact ⟨_,rfl,HV6.out,H6.out,HK6.out⟩
       ·have HE:=aM (HPS2.out.trans (if_neg h5));rw [show (e1==5)=false by simp only [beq_eq_false_iff_ne];exact h5] at HIS;clear h0 h5 HPS2 HRT1
        go_wp2_with (first
         | (go_at_call 129;(with_reducible refine HIS.out.mono ?_);rintro z w5 ⟨rfl,hb⟩;have HB5:=aM hb;clear hb))
        go_ret;rw [HE.out];exact ⟨_,rfl,(HV.out.grow HB5.out).ev,H4.out.grow HB5.out,HK4.out.trans (MK.of_below HB5.out)⟩
  ·have HCL2:=aM (HCL.out.trans (if_neg h0));have HE0:=aM (show qeG rt q a m k x=(e1,a1,m1) by unfold qeG;rw [HCL2.out];exact if_neg h0)
   rcases HV1.out with ⟨h9,-⟩|⟨h9,hv|⟨g2,bb2,hv,hf⟩⟩
   ·exact absurd h9 h0
   ·subst hv;clear h9 h0 hI;go_wp2;go_ret;rw [HE0.out];exact ⟨_,rfl,HV1.out,H1.out,HK1.out⟩
   ·subst hv;clear h9 hf h0 hI;go_wp2;go_ret;rw [HE0.out];exact ⟨_,rfl,HV1.out,H1.out,HK1.out⟩
 ·have d0:decide (p < 0)=false:=decide_eq_false hneg;have d0n:(p < 0)=False:=eq_false hneg;have HCL:=aM (show qgN (qbX m.l+1) a m k=(0,a,m) from if_neg (by rw [← hp];exact hneg));have HE0:=aM (show qeG rt q a m k x=qfS rt q a m k x by unfold qeG;rw [HCL.out];exact if_pos rfl);have HI1:=aM (show I q a m by rw [HCL.out] at hI;exact hI rfl);have H1:=H;have HK1:=aM (MK.refl [gm,gl,ge] W);clear h hs hx hc hI hI0 hIk hrt hk hp hneg HCL;go_enter Tryz.func91,Tryz.ntmps91
  go_upto_region 6 with (fail)
  clear y6 yk d0 d0n hq hqi;clear H HQ HXD;go_loopg [] q (fun kq wr=>∃ (b:AC) (o:AM),qaJ (qeG rt q a m k x=qfS rt kq b o k x)∧qaJ (Man w0 wr gm gc gl cl ge ce b o)∧qaJ (MK [gm,gl,ge] W wr)∧qaJ (I kq b o)∧qaJ (kq≤q));case atStart=>exact ⟨_,_,HE0,H1,HK1,HI1,⟨Nat.le_refl _⟩⟩
  case round =>
   clear HE0 H1 HK1 HI1;obtain ⟨b,o,HP,HM,HK,HI,HKN⟩:=hrel
   cases gk with
   | zero=>exact absurd HI.out (HI0.out b o)
   | succ k1 =>
    obtain ⟨hok,hkl,⟨i,hli⟩,hf3⟩:=HIK.out k1 b o HI.out;have hil:i < o.l.length:=by have:=hok k hkl;omega
    have hib:i < b.g.B:=by have:=HM.out.ln;omega
    obtain ⟨u,hu⟩:∃ u,u=(qcA o (k:Int)).1.f3:=⟨_,rfl⟩
    have HU:=aM (fun (w:World) (hb:Below wr.heap.size wr w)=>qeR (HM.out.grow hb) hok (k:Int));rw [← hu] at HU hf3;have y6:wr.cell? ⟨gm,6,none⟩=some (.slice (some ⟨ge,0,none⟩) o.lebs.length ce):=HM.out.cell 6;have y0:wr.cell? ⟨gm,0,none⟩=some (cp gc):=HM.out.cell 0
    have yk:wr.cell? ⟨ge,k,none⟩=some (.int .i64 i):=by
     have:=HM.out.b.cell k hkl;rw [← hli,List.getD_eq_getElem?_getD,List.getElem?_eq_getElem hkl];exact this
    have hq:(k < o.lebs.length)=True:=eq_true hkl;have hqi:((k:Int) < (o.lebs.length:Int))=True:=eq_true (by omega);have hwu:wrap64 (u+2)=u+2:=by unfold wrap64;omega
    have hwk:IntKind.i64.wrap (u+2)=u+2:=by rw [qbL];exact hwu
    have HPR:=aM (fun (w:World) (hb:Below wr.heap.size wr w)=>(HM.out.grow hb).chip.program (i:Int) (u+2) A c x (fun w' hb2 hk2=>HX.out w' hb2 ((HK.out.trans (MK.of_below hb)).trans (MK.of_keeps hk2))) HXC.out);have HG:=aM (qeP b (i:Int) (u+2) x)
    have HPS:=aM (show qeG rt q a m k x=if (qaZ b (i:Int) (u+2) x).1=0 then (0,(qaZ b (i:Int) (u+2) x).2,o.more i) else if (qaZ b (i:Int) (u+2) x).1=5 then (if (rt (qaZ b (i:Int) (u+2) x).2 o).1=0 then qfS rt k1 (rt (qaZ b (i:Int) (u+2) x).2 o).2.1 (rt (qaZ b (i:Int) (u+2) x).2 o).2.2 k x else rt (qaZ b (i:Int) (u+2) x).2 o) else ((qaZ b (i:Int) (u+2) x).1,(qaZ b (i:Int) (u+2) x).2,o.die (qaZ b (i:Int) (u+2) x).1) by
     rw [HP.out]
     conv=>lhs;unfold qfS
     rw [hli,← hu,Int.toNat_natCast])
    have HRT1:=aM (fun (w:World)=>HRT.out k1 w b o HI.out);rw [hli,← hu] at HRT1;generalize qaZ b (i:Int) (u+2) x=r at HPR HG HPS HRT1;obtain ⟨e1,b1⟩:=r;simp only at HPR HG HPS HRT1;have HIL:=aM hil;clear hu hok hkl hil hib hf3 hli HI
    go_upto_region 7 with (fail)
    go_cut [9,10] from 38 to 82 (fun v9 v10 wx=>v9=.int .i64 i∧qaJ (FV wx v10 e1)∧qaJ (Man w0 wx gm gc gl cl ge ce b1 (o.die e1))∧qaJ (MK [gm,gl,ge] W wx))
    case first =>
     go_region_with (first
      | (go_at_call 27;(with_reducible refine (HU.out _ (by first|exact qaO (Below.refl _ _)|exact Below.refl _ _)).mono ?_);rintro z w1 ⟨rfl,hb1⟩;have HB1:=aM (qaC (qaO (Below.refl _ _)) hb1);have z0:=qaH y0 HB1.out;clear hb1)
      | (go_at_call 58;(with_reducible refine (HPR.out _ HB1.out).mono ?_);rintro z w2 ⟨rfl,hc2,hk2⟩;have H2:=aM ((HM.out.grow HB1.out).onChip hc2 hk2 HG.out);have HK2:=aM ((HK.out.trans (MK.of_below HB1.out)).trans (MK.of_keeps hk2));clear hc2 hk2)
      | (go_at_call 131;(with_reducible refine (qgL H2.out (i:Int) e1).mono ?_);rintro z w3 ⟨v3,rfl,hv,h3,hk3⟩;have HV:=aM hv;have H3:=aM h3;have HK3:=aM (HK2.out.trans (hk3.mono HSS.out));clear hv h3 hk3))
     all_goals go_wp2
     all_goals go_meet
     all_goals exact ⟨rfl,HV,H3,HK3⟩
    case rest =>
     obtain ⟨rfl,HV,H4,HK4⟩:=hcut;generalize wc=w4 at HV H4 HK4 ⊢;clear y0 y6 yk HM HK HU HPR
     by_cases h0:e1=0
     ·subst h0;have HE:=aM (HPS.out.trans (if_pos rfl))
      rcases HV.out.symm with ⟨h9,-⟩|⟨-,hv⟩
      ·exact absurd rfl h9
      subst hv;rw [qgZ o (show (0:Int) ≠ 6 by decide)] at H4
      obtain ⟨f,hf⟩:∃ f,f=(o.l.getD i default).f3:=⟨_,rfl⟩
      have hml:i < o.l.length:=HIL.out;have hfl:(o.l[i]'hml).f3=f:=by rw [hf,qbO hml]
      have y5:w4.cell? ⟨gm,5,none⟩=some (.slice (some ⟨gl,0,none⟩) o.l.length cl):=H4.out.cell 5;obtain ⟨-,-,-,z3,-,-⟩:=H4.out.l.cell i HIL.out;rw [hfl] at z3;have f3:=H4.out.l.frozen (i*6+3);have hq:(i < o.l.length)=True:=eq_true HIL.out;have hqi:((i:Int) < (o.l.length:Int))=True:=eq_true (by have:=HIL.out;omega);have hu:=Tryz.underlying68;have HNW:=aM (H4.out.setF i HIL.out { o.l.getD i default with f3:=wrap64 (f+1) } 3 (by decide) (fun t ht htj=>by rw [qbO hml];match t,ht,htj with | 0,_,_=>rfl | 1,_,_=>rfl | 2,_,_=>rfl | 4,_,_=>rfl | 5,_,_=>rfl));have HNK:=aM (by obtain ⟨cells,hg,-⟩:=H4.out.l;exact HK4.out.setF hg (i*6+3) (.int .i64 (wrap64 (f+1))));have HMO:=aM (show o.more i=o.put i { o.l.getD i default with f3:=wrap64 (f+1) } by unfold AM.more;rw [hf]);clear hf hml hfl HV HRT1;go_wp2;go_ret;rw [HE.out,HMO.out];exact ⟨_,rfl,.inl ⟨rfl,rfl⟩,HNW.out,HNK.out⟩
     ·have HPS2:=aM (HPS.out.trans (if_neg h0));have HIS:=aM (qeS HV.out.ev 5 (by decide))
      rcases HV.out with ⟨h9,-⟩|⟨h9,g,bb,hv,hf⟩
      ·exact absurd h9 h0
      subst hv;clear hf h9
      by_cases h5:e1=5
      ·subst h5;have HE:=aM (HPS2.out.trans (if_pos rfl));rw [show ((5:Int)==5)=true from rfl] at HIS;rw [qgZ o (show (5:Int) ≠ 6 by decide)] at H4;have HR5:=aM (fun (w:World)=>HRT1.out w rfl);generalize rt b1 o=t at HE HR5;obtain ⟨e6,b6,o6⟩:=t;simp only at HE HR5;clear h0 HPS2
       by_cases h6:e6=0
       ·subst h6;have HEE:=aM (HE.out.trans (if_pos rfl))
        go_wp2_with (first
         | (go_at_call 129;(with_reducible refine HIS.out.mono ?_);rintro z w5 ⟨rfl,hb⟩;have H5:=aM (H4.out.grow hb);have HK5:=aM (HK4.out.trans (MK.of_below hb));clear hb)
         | (go_at_call 139;(with_reducible refine (HR5.out _ H5.out).mono ?_);rintro z w6 ⟨v6,rfl,hv6,h6,hk6,hi6⟩;(rcases hv6.symm with ⟨h9,-⟩|⟨-,rfl⟩;exact absurd rfl h9);have H6:=aM h6;have HK6:=aM (HK5.out.trans hk6);have HI6:=aM (hi6 (by trivial));clear h6 hk6 hi6))
        go_roundg k1;case measure=>have:=HKN.out;omega
        case rel=>exact ⟨_,_,HEE,H6,HK6,HI6,⟨by have:=HKN.out;omega⟩⟩
       ·have HEE:=aM (HE.out.trans (if_neg h6));have HN6:=aM h6;clear h6
        go_upto_region 14 with (first
         | (go_at_call 129;(with_reducible refine HIS.out.mono ?_);rintro z w5 ⟨rfl,hb⟩;have H5:=aM (H4.out.grow hb);have HK5:=aM (HK4.out.trans (MK.of_below hb));clear hb)
         | (go_at_call 139;(with_reducible refine (HR5.out _ H5.out).mono ?_);rintro z w6 ⟨v6,rfl,hv6,h6,hk6,hi6⟩;have HV6:=aM hv6;have H6:=aM h6;have HK6:=aM (HK5.out.trans hk6);clear hv6 h6 hk6 hi6))
        rcases HV6.out with ⟨h9,-⟩|⟨h9,hv|⟨g2,bb2,hv,hf⟩⟩
        ·exact absurd h9 HN6.out
        ·subst hv;clear h9;go_wp2;go_ret;rw [HEE.out];exact ⟨_,rfl,HV6.out,H6.out,HK6.out⟩
        ·subst hv;clear h9 hf;go_wp2;go_ret;rw [HEE.out];exact ⟨_,rfl,HV6.out,H6.out,HK6.out⟩
      ·have HE:=aM (HPS2.out.trans (if_neg h5));rw [show (e1==5)=false by simp only [beq_eq_false_iff_ne];exact h5] at HIS;clear h0 h5 HPS2 HRT1
       go_wp2_with (first
        | (go_at_call 129;(with_reducible refine HIS.out.mono ?_);rintro z w5 ⟨rfl,hb⟩;have HB5:=aM hb;clear hb))
       go_ret;rw [HE.out];exact ⟨_,rfl,(HV.out.grow HB5.out).ev,H4.out.grow HB5.out,HK4.out.trans (MK.of_below HB5.out)⟩
end
section
open Go.Shelf Plain
variable {w0 W W':World} {gm gc gl cl ge ce:Nat} {a a':AC} {m m':AM}
theorem qqB (pk:Bool→AM→Int) (pg:AC→AM→List (List Int)) (leb least:Int):∀ (q:Nat) (st:Bool) (a:AC) (m:AM),(qaV pk pg leb least q st a m).2.2.1.g=a.g
 | 0,_,_,_=>rfl
 | q+1,st,a,m=>by
  unfold qaV
  split
  ·rfl
  split
  ·rw [qqB pk pg leb least q,qrL];exact qoV _ _ _ _ _ _
  ·exact qoV _ _ _ _ _ _
def qmD (r:Int × Int × AC × AM) (m:AM) (k:Nat):Int × AC × AM :=
 if r.2.1=0 then (if m.lebs.getD k 0 < 0 then (0,r.2.2.1,r.2.2.2.leb k r.1) else qcF r.2.2.1 (r.2.2.2.leb k r.1) (m.lebs.getD k 0).toNat) else (r.2.1,r.2.2.1,r.2.2.2)
theorem qrK (h:Man w0 W gm gc gl cl ge ce a m) (k:Nat) (hk:k < m.lebs.length) (s:List Nat) (hs:∀ x,x ∈ [gm,gl,ge]→x ∈ s) (least:Int) (pv kv:Value) (r:Int × Int × AC × AM)
  (hpl:Calls Tryz.prog 137 #[kp gm,.int .i64 k,.int .i64 least,pv,kv] W fun x w'=>∃ v:Value,x=.returned (.tuple #[.int .i64 r.1,v])∧EV w' v r.2.1∧Man w0 w' gm gc gl cl ge ce r.2.2.1 r.2.2.2∧MK s W w')
  (hl:r.2.2.2.lebs=m.lebs) (hold:m.lebs.getD k 0 < m.l.length) (hg:r.2.2.1.g=a.g) :
  Calls Tryz.prog 93 #[kp gm,.int .i64 k,.int .i64 least,pv,kv] W fun x w'=>∃ v:Value,x=.returned v∧EV w' v (qmD r m k).1∧Man w0 w' gm gc gl cl ge ce (qmD r m k).2.1 (qmD r m k).2.2∧MK s W w':=by
 have HPL:=aM hpl;have HL:=aM hl;have HQ:=aM hk;have HGE:=aM (hs ge (by simp));have HSS:=aM (show ∀ z,z ∈ [gm,gl]→z ∈ s from fun z hz=>hs z (by simp only [List.mem_cons,List.not_mem_nil,or_false] at hz ⊢;rcases hz with h|h;exact .inl h;exact .inr (.inl h)));have y6:W.cell? ⟨gm,6,none⟩=some (.slice (some ⟨ge,0,none⟩) m.lebs.length ce):=h.cell 6
 obtain ⟨p,hp⟩:∃ p,p=m.lebs.getD k 0:=⟨_,rfl⟩
 have yk:W.cell? ⟨ge,k,none⟩=some (.int .i64 p):=by
  have:=h.b.cell k hk;rw [hp,List.getD_eq_getElem?_getD,List.getElem?_eq_getElem hk];exact this
 have HPB:=aM (show p < r.2.2.1.g.B by rw [hg,← h.ln,hp];exact hold);have hq:(k < m.lebs.length)=True:=eq_true hk;have hqi:((k:Int) < (m.lebs.length:Int))=True:=eq_true (by omega);have HR:=aM (show qmD r m k=if r.2.1=0 then (if p < 0 then (0,r.2.2.1,r.2.2.2.leb k r.1) else qcF r.2.2.1 (r.2.2.2.leb k r.1) p.toNat) else (r.2.1,r.2.2.1,r.2.2.2) by rw [hp];rfl);obtain ⟨i1,e1,a1,m1⟩:=r;simp only at HPL HL HR HPB;clear h hk hs hpl hl hold hp hg;go_enter Tryz.func93,Tryz.ntmps93
 go_upto_region 3 with (first
  | (go_at_call 137;(with_reducible refine HPL.out.mono ?_);rintro z w1 ⟨v1,rfl,hv1,h1,hk1⟩;have HV1:=aM hv1;have H1:=aM h1;have HK1:=aM hk1;clear hv1 h1 hk1))
 clear y6 yk
 by_cases h0:e1=0
 ·subst h0;have HR2:=aM (HR.out.trans (if_pos rfl))
  rcases HV1.out.symm with ⟨h9,-⟩|⟨-,hv⟩
  ·exact absurd rfl h9
  subst hv;have hk1:k < m1.lebs.length:=by rw [HL.out];exact HQ.out
  have y6:w1.cell? ⟨gm,6,none⟩=some (.slice (some ⟨ge,0,none⟩) m1.lebs.length ce):=H1.out.cell 6
  obtain ⟨pw1,yk⟩:∃ pw1:Int,w1.cell? ⟨ge,k,none⟩=some (.int .i64 pw1):=⟨_,H1.out.b.cell k hk1⟩
  have fk:=H1.out.b.frozen k;have hq:(k < m1.lebs.length)=True:=eq_true hk1;have hqi:((k:Int) < (m1.lebs.length:Int))=True:=eq_true (by omega);have H2:=aM (H1.out.setI k hk1 i1);have HK2:=aM (by obtain ⟨cells,hg,-⟩:=H1.out.b;exact HK1.out.set hg (.inr (.inl rfl)) k (.int .i64 i1) HGE.out);clear HV1 hk1 HR
  go_upto_region 6 with (fail)
  generalize w1.setCell ⟨ge,k,none⟩ (.int .i64 i1)=W2 at H2 HK2 ⊢;clear y6 yk fk hq hqi H1 HK1 HL;have H1:=aM (show Man w0 W2 gm gc gl cl ge ce a1 (m1.leb k i1) from H2.out);clear H2
  by_cases hneg:p < 0
  ·have d0:decide (p < 0)=true:=decide_eq_true hneg;have d0n:(p < 0)=True:=eq_true hneg;have HR3:=aM (HR2.out.trans (if_pos hneg));clear hneg HR2;go_wp2;go_ret;rw [HR3.out];exact ⟨_,rfl,.inl ⟨rfl,rfl⟩,H1.out,HK2.out⟩
  ·have d0:decide (p < 0)=false:=decide_eq_false hneg;have d0n:(p < 0)=False:=eq_false hneg;have HR3:=aM (HR2.out.trans (if_neg hneg))
   obtain ⟨j,rfl⟩:∃ j:Nat,p=(j:Int):=⟨p.toNat,by omega⟩
   rw [Int.toNat_natCast] at HR3;have HFR:=aM (qnJ H1.out j (by have:=HPB.out;omega));generalize qcF a1 (m1.leb k i1) j=t at HFR HR3;obtain ⟨e4,a4,m4⟩:=t;simp only at HFR HR3;clear hneg HR2
   go_wp2_with (first
    | (go_at_call 88;(with_reducible refine HFR.out.mono ?_);rintro z w4 ⟨v4,rfl,hv4,h4,hk4⟩;have HV4:=aM hv4.ev;have H4:=aM h4;have HK4:=aM (HK2.out.trans (hk4.mono HSS.out));clear hv4 h4 hk4))
   go_ret;rw [HR3.out];exact ⟨_,rfl,HV4.out,H4.out,HK4.out⟩
 ·have HR2:=aM (HR.out.trans (if_neg h0))
  rcases HV1.out with ⟨h9,-⟩|⟨h9,hv|⟨g2,bb2,hv,hf⟩⟩
  ·exact absurd h9 h0
  ·subst hv;clear h9 h0 HR;go_wp2;go_ret;rw [HR2.out];exact ⟨_,rfl,HV1.out,H1.out,HK1.out⟩
  ·subst hv;clear h9 hf h0 HR;go_wp2;go_ret;rw [HR2.out];exact ⟨_,rfl,HV1.out,H1.out,HK1.out⟩
theorem qhZ {s:List Nat} {A:Option Addr} {c:Nat} {x:List Int} {g:Nat} (hg:W.heap[g]?=some (.cells #[.slice A x.length c] 35 (0,0))) (hc:x.length≤c) (hx:∀ w',Below w0.heap.size w0 w'→MK s W w'→Kd.C kB w' A x.length x):qcY s w0 W (some ⟨g,0,none⟩) [x]:=by
 refine ⟨by simp,fun j hj=>?_⟩;obtain rfl:j=0:=by have:j < 1:=hj;omega
 refine ⟨⟨g,0,none⟩,A,c,rfl,hc,fun w' hb hk=>⟨?_,hx w' hb hk⟩⟩;exact Joins.cell_of_block (hk.far (by decide) hg) 0
theorem qxI (h:Man w0 W gm gc gl cl ge ce a m) (leb:Int) (A:Option Addr) (c:Nat) (x:List Int) (hc:x.length≤c) (hx:∀ w',Below w0.heap.size w0 w'→MK [gm,gl,ge] W w'→Kd.C kB w' A x.length x) (hr:¬ qbS a m leb [x]=0) :
  Calls Tryz.prog 25 #[kp gm,.int .i64 leb,.slice A x.length c] W fun z w'=>z=.returned (.int .i64 (qbS a m leb [x]))∧Below W.heap.size W w':=by
 have HRD:=aM (show ∀ (w:World) (g:Nat),Below W.heap.size W w→w.heap[g]?=some (.cells #[.slice A x.length c] 35 (0,0))→Calls Tryz.prog 90 #[kp gm,.int .i64 leb,.slice (some ⟨g,0,none⟩) 1 1] w (fun z w'=>z=.returned (.int .i64 (qbS a m leb [x]))∧Below w.heap.size w w') from fun w g hb hg=>qfJ (h.grow hb) leb [gm,gl,ge] (some ⟨g,0,none⟩) 1 [x] (Nat.le_refl _) (qhZ hg hc (fun w' hb2 hk2=>hx w' hb2 ((MK.of_below hb).trans hk2))));have d0:(qbS a m leb [x]==0)=false:=by simp only [beq_eq_false_iff_ne];exact hr
 have d0p:(qbS a m leb [x]=0)=False:=eq_false hr;generalize qbS a m leb [x]=e at HRD d0 d0p;clear h hc hx hr;go_enter Tryz.func25,Tryz.ntmps25
 go_wp2_with (first
  | (go_at_call 90;(with_reducible refine (HRD.out _ W.heap.size (qaA (Below.refl _ _) _) (qaM _ _ _)).mono ?_);rintro z w1 ⟨rfl,hb1⟩;have HB1:=aM (qaC (qaA (Below.refl _ _) _) hb1);clear hb1))
 go_ret;exact ⟨rfl,HB1.out⟩
theorem quG (h:Man w0 W gm gc gl cl ge ce a m) (hok:m.ok) (leb:Int) (A:Option Addr) (c:Nat) (x:List Int) (hc:x.length≤c) (hx:∀ w',Below w0.heap.size w0 w'→MK [gm,gl,ge] W w'→Kd.C kB w' A x.length x) (hr:qbS a m leb [x]=0) (hcl:(qcA m leb).1.f5=false) (hf:(a.g.P:Int) - 2≤(qcA m leb).1.f3) :
  Calls Tryz.prog 25 #[kp gm,.int .i64 leb,.slice A x.length c] W fun z w'=>z=.returned (.int .i64 28)∧Below W.heap.size W w':=by
 have HRD:=aM (show ∀ (w:World) (g:Nat),Below W.heap.size W w→w.heap[g]?=some (.cells #[.slice A x.length c] 35 (0,0))→Calls Tryz.prog 90 #[kp gm,.int .i64 leb,.slice (some ⟨g,0,none⟩) 1 1] w (fun z w'=>z=.returned (.int .i64 0)∧Below w.heap.size w w') from fun w g hb hg=>hr ▸ qfJ (h.grow hb) leb [gm,gl,ge] (some ⟨g,0,none⟩) 1 [x] (Nat.le_refl _) (qhZ hg hc (fun w' hb2 hk2=>hx w' hb2 ((MK.of_below hb).trans hk2))));have HCL:=aM (fun (w:World) (hb:Below W.heap.size W w)=>qiS (h.grow hb) hok leb);have HUS:=aM (fun (w:World) (hb:Below W.heap.size W w)=>qeR (h.grow hb) hok leb);have HPG:=aM (fun (w:World) (hb:Below W.heap.size W w)=>qcO (h.grow hb));rw [hcl] at HCL;generalize (qcA m leb).1.f3=u at hf HUS;have d0:decide ((a.g.P:Int) - 2≤u)=true:=decide_eq_true hf;have d0n:((a.g.P:Int) - 2≤u)=True:=eq_true hf;clear h hc hx hr hok hcl hf;go_enter Tryz.func25,Tryz.ntmps25
 go_wp2_with (first
  | (go_at_call 90;(with_reducible refine (HRD.out _ W.heap.size (qaA (Below.refl _ _) _) (qaM _ _ _)).mono ?_);rintro z w1 ⟨rfl,hb1⟩;have HB1:=aM (qaC (qaA (Below.refl _ _) _) hb1);clear hb1)
  | (go_at_call 34;(with_reducible refine (HCL.out _ HB1.out).mono ?_);rintro z w2 ⟨rfl,hb2⟩;have HB2:=aM (qaC HB1.out hb2);clear hb2)
  | (go_at_call 27;(with_reducible refine (HUS.out _ HB2.out).mono ?_);rintro z w3 ⟨rfl,hb3⟩;have HB3:=aM (qaC HB2.out hb3);clear hb3)
  | (go_at_call 26;(with_reducible refine (HPG.out _ HB3.out).mono ?_);rintro z w4 ⟨rfl,hb4⟩;have HB4:=aM (qaC HB3.out hb4);clear hb4))
 go_ret;exact ⟨rfl,HB4.out⟩
theorem qzY (h:Man w0 W gm gc gl cl ge ce a m) (hok:m.ok) (leb:Int) (A:Option Addr) (c:Nat) (x:List Int) (hc:x.length≤c) (hx:∀ w',Below w0.heap.size w0 w'→MK [gm,gl,ge] W w'→Kd.C kB w' A x.length x) (hr:qbS a m leb [x]=0) (hcl:(qcA m leb).1.f5=false) (hf:(qcA m leb).1.f3 < (a.g.P:Int) - 2) (r:Int × AC × AM)
  (hw:∀ w,Below W.heap.size W w→Calls Tryz.prog 91 #[kp gm,.int .i64 leb,.slice A x.length c] w fun z w'=>∃ v:Value,z=.returned v∧EV w' v r.1∧Man w0 w' gm gc gl cl ge ce r.2.1 r.2.2∧MK [gm,gl,ge] w w')
  (ht:∀ w v,MK [gm,gl,ge] W w→EV w v r.1→Calls Tryz.prog 89 #[v] w fun z w'=>z=.returned (.int .i64 r.1)∧Below w.heap.size w w') :
  Calls Tryz.prog 25 #[kp gm,.int .i64 leb,.slice A x.length c] W fun z w'=>z=.returned (.int .i64 r.1)∧Man w0 w' gm gc gl cl ge ce r.2.1 r.2.2∧MK [gm,gl,ge] W w':=by
 have HRD:=aM (show ∀ (w:World) (g:Nat),Below W.heap.size W w→w.heap[g]?=some (.cells #[.slice A x.length c] 35 (0,0))→Calls Tryz.prog 90 #[kp gm,.int .i64 leb,.slice (some ⟨g,0,none⟩) 1 1] w (fun z w'=>z=.returned (.int .i64 0)∧Below w.heap.size w w') from fun w g hb hg=>hr ▸ qfJ (h.grow hb) leb [gm,gl,ge] (some ⟨g,0,none⟩) 1 [x] (Nat.le_refl _) (qhZ hg hc (fun w' hb2 hk2=>hx w' hb2 ((MK.of_below hb).trans hk2))));have HCL:=aM (fun (w:World) (hb:Below W.heap.size W w)=>qiS (h.grow hb) hok leb);have HUS:=aM (fun (w:World) (hb:Below W.heap.size W w)=>qeR (h.grow hb) hok leb);have HPG:=aM (fun (w:World) (hb:Below W.heap.size W w)=>qcO (h.grow hb));have HW:=aM hw;have HT:=aM ht;rw [hcl] at HCL;generalize (qcA m leb).1.f3=u at hf HUS;have d0:decide ((a.g.P:Int) - 2≤u)=false:=decide_eq_false (by omega);have d0n:((a.g.P:Int) - 2≤u)=False:=eq_false (by omega);clear h hc hx hr hok hcl hf hw ht;go_enter Tryz.func25,Tryz.ntmps25
 go_wp2_with (first
  | (go_at_call 90;(with_reducible refine (HRD.out _ W.heap.size (qaA (Below.refl _ _) _) (qaM _ _ _)).mono ?_);rintro z w1 ⟨rfl,hb1⟩;have HB1:=aM (qaC (qaA (Below.refl _ _) _) hb1);clear hb1)
  | (go_at_call 34;(with_reducible refine (HCL.out _ HB1.out).mono ?_);rintro z w2 ⟨rfl,hb2⟩;have HB2:=aM (qaC HB1.out hb2);clear hb2)
  | (go_at_call 27;(with_reducible refine (HUS.out _ HB2.out).mono ?_);rintro z w3 ⟨rfl,hb3⟩;have HB3:=aM (qaC HB2.out hb3);clear hb3)
  | (go_at_call 26;(with_reducible refine (HPG.out _ HB3.out).mono ?_);rintro z w4 ⟨rfl,hb4⟩;have HB4:=aM (qaC HB3.out hb4);clear hb4)
  | (go_at_call 91;(with_reducible refine (HW.out _ HB4.out).mono ?_);rintro z w5 ⟨v5,rfl,hv5,h5,hk5⟩;have HV5:=aM hv5;have H5:=aM h5;have HK5:=aM ((MK.of_below HB4.out).trans hk5);clear hv5 h5 hk5)
  | (go_at_call 89;(with_reducible refine (HT.out _ _ HK5.out HV5.out).mono ?_);rintro z w6 ⟨rfl,hb6⟩;have HB6:=aM hb6;clear hb6))
 go_ret;exact ⟨rfl,H5.out.grow HB6.out,HK5.out.trans (MK.of_below HB6.out)⟩
theorem qpW (r:Int) (h:r=0) (w:World) (v:Value) (hv:EV w v r):Calls Tryz.prog 89 #[v] w fun z w'=>z=.returned (.int .i64 r)∧Below w.heap.size w w':=by
 subst h
 rcases hv.symm with ⟨h9,-⟩|⟨-,hv⟩
 ·exact absurd rfl h9
 ·subst hv;exact qqY w
end
section
open Go.Shelf Plain
variable {w0 W W':World} {gm gc gl cl ge ce:Nat} {a a':AC} {m m':AM}
theorem quC (g:Nat) (A:Option Addr) (n c:Nat) (hg:W.heap[g]?=some (.cells #[.slice A n c] 55 (0,0))):Calls Tryz.prog 94 #[.pointer (some ⟨g,0,none⟩)] W fun x w'=>x=.returned (.tuple #[.slice A n c,.nilIface])∧Below W.heap.size W w':=by
 have y0:W.cell? ⟨g,0,none⟩=some (.slice A n c):=Joins.cell_of_block hg 0;clear hg;go_enter Tryz.func94,Tryz.ntmps94;go_wp2;go_ret2;exact ⟨rfl,Below.refl _ _⟩
theorem qvI (h:Man w0 W gm gc gl cl ge ce a m) (hs:0≤m.seq) (leb least:Int) (A:Option Addr) (c:Nat) (xss:List (List Int)) (hc:xss.length≤c) (hp:qcY [gm,gl] w0 W A xss) (g:Nat) (hg:W.heap[g]?=some (.cells #[.slice A xss.length c] 55 (0,0))) :
  Calls Tryz.prog 137 #[kp gm,.int .i64 leb,.int .i64 least,fnV 94 #[] #[.pointer (some ⟨g,0,none⟩)],fnV 95 #[kp gm] #[]] W fun x w'=>∃ v:Value,x=.returned (.tuple #[.int .i64 (qaV pkL (fun _ _=>xss) leb least (qbX m.l+1) true a m).1,v])∧EV w' v (qaV pkL (fun _ _=>xss) leb least (qbX m.l+1) true a m).2.1∧Man w0 w' gm gc gl cl ge ce (qaV pkL (fun _ _=>xss) leb least (qbX m.l+1) true a m).2.2.1 (qaV pkL (fun _ _=>xss) leb least (qbX m.l+1) true a m).2.2.2∧MK [gm,gl] W w' :=
 vbS ⟨g,0,none⟩ h [gm,gl] (by simp) (by simp) leb least hs (qbX m.l+1) (Nat.lt_succ_self _) pkL (fun _ _=>xss) (fun _ _ _=>True) (fun _ w=>MK [gm,gl] W w) trivial (MK.refl _ _) (fun _ _ _ hx hk=>hx.trans hk)
  (fun _ _ o _=>qhI o.l)
  (fun _ w b o hm _ hx=>(qkI hm).mono (by rintro x w' ⟨rfl,hb⟩;exact ⟨rfl,hm.grow hb,hx.trans (MK.of_below hb),MK.of_below hb⟩))
  (fun _ w b o hm _ hx=>(quC g A xss.length c (hx.far (by decide) hg)).mono (by rintro x w' ⟨rfl,hb⟩;exact ⟨A,c,rfl,hc,hp.later (hx.trans (MK.of_below hb)),hm.grow hb,MK.of_below hb⟩))
  (fun _ _ _ _ _ _ _ _ _=>trivial)
theorem quJ (h:Man w0 W gm gc gl cl ge ce a m) (leb:Int) (A:Option Addr) (c:Nat) (xss:List (List Int)) (hc:xss.length≤c) (hp:qcY [gm,gl,ge] w0 W A xss) (hr:¬ qbS a m leb xss=0) :
  Calls Tryz.prog 28 #[kp gm,.int .i64 leb,.slice A xss.length c] W fun z w'=>z=.returned (.int .i64 (qbS a m leb xss))∧Below W.heap.size W w':=by
 have HRD:=aM (fun (w:World) (hb:Below W.heap.size W w)=>qfJ (h.grow hb) leb [gm,gl,ge] A c xss hc (hp.later (MK.of_below hb)));have d0:(qbS a m leb xss==0)=false:=by simp only [beq_eq_false_iff_ne];exact hr
 have d0p:(qbS a m leb xss=0)=False:=eq_false hr;generalize qbS a m leb xss=e at HRD d0 d0p;clear h hc hp hr;go_enter Tryz.func28,Tryz.ntmps28
 go_upto_region 1 with (fail)
 generalize hW:W.alloc (.cells #[.slice A xss.length c] 55)=W1;have HB1:=aM (show Below W.heap.size W W1 by rw [← hW];exact qaA (Below.refl _ _) _);have y0:W1.cell? ⟨W.heap.size,0,none⟩=some (.slice A xss.length c):=by rw [← hW];exact Joins.cell_of_block (qaM _ _ _) 0
 clear hW
 go_wp2_with (first
  | (go_at_call 90;(with_reducible refine (HRD.out _ HB1.out).mono ?_);rintro z w1 ⟨rfl,hb1⟩;have HB2:=aM (qaC HB1.out hb1);clear hb1))
 go_ret;exact ⟨rfl,HB2.out⟩
theorem qxN (h:Man w0 W gm gc gl cl ge ce a m) (leb:Int) (A:Option Addr) (c:Nat) (xss:List (List Int)) (hc:xss.length≤c) (hp:qcY [gm,gl,ge] w0 W A xss) (hr:qbS a m leb xss=0) (r:Int × AC × AM)
  (hw:∀ w g,Below W.heap.size W w→w.heap[g]?=some (.cells #[.slice A xss.length c] 55 (0,0))→Calls Tryz.prog 93 #[kp gm,.int .i64 leb,.int .i64 xss.length,fnV 94 #[] #[.pointer (some ⟨g,0,none⟩)],fnV 95 #[kp gm] #[]] w fun z w'=>∃ v:Value,z=.returned v∧EV w' v r.1∧Man w0 w' gm gc gl cl ge ce r.2.1 r.2.2∧MK [gm,gl,ge] w w')
  (ht:∀ w v,MK [gm,gl,ge] W w→EV w v r.1→Calls Tryz.prog 89 #[v] w fun z w'=>z=.returned (.int .i64 r.1)∧Below w.heap.size w w') :
  Calls Tryz.prog 28 #[kp gm,.int .i64 leb,.slice A xss.length c] W fun z w'=>z=.returned (.int .i64 r.1)∧Man w0 w' gm gc gl cl ge ce r.2.1 r.2.2∧MK [gm,gl,ge] W w':=by
 have HRD:=aM (show ∀ (w:World),Below W.heap.size W w→Calls Tryz.prog 90 #[kp gm,.int .i64 leb,.slice A xss.length c] w (fun z w'=>z=.returned (.int .i64 0)∧Below w.heap.size w w') from fun w hb=>hr ▸ qfJ (h.grow hb) leb [gm,gl,ge] A c xss hc (hp.later (MK.of_below hb)));have HW:=aM hw;have HT:=aM ht;have hmx:=hp.1;clear h hc hp hr hw ht;go_enter Tryz.func28,Tryz.ntmps28
 go_upto_region 1 with (fail)
 generalize hW:W.alloc (.cells #[.slice A xss.length c] 55)=W1;have HB1:=aM (show Below W.heap.size W W1 by rw [← hW];exact qaA (Below.refl _ _) _);have HG1:=aM (show W1.heap[W.heap.size]?=some (.cells #[.slice A xss.length c] 55 (0,0)) by rw [← hW];exact qaM _ _ _);have y0:W1.cell? ⟨W.heap.size,0,none⟩=some (.slice A xss.length c):=Joins.cell_of_block HG1.out 0;clear hW
 go_wp2_with (first
  | (go_at_call 90;(with_reducible refine (HRD.out _ HB1.out).mono ?_);rintro z w2 ⟨rfl,hb1⟩;have HG2:=aM (qaB HG1.out hb1);have HB2:=aM (qaC HB1.out hb1);have y2:=qaH y0 hb1;clear hb1)
  | (go_at_call 93;(with_reducible refine (HW.out _ _ HB2.out HG2.out).mono ?_);rintro z w5 ⟨v5,rfl,hv5,h5,hk5⟩;have HV5:=aM hv5;have H5:=aM h5;have HK5:=aM ((MK.of_below HB2.out).trans hk5);clear hv5 h5 hk5)
  | (go_at_call 89;(with_reducible refine (HT.out _ _ HK5.out HV5.out).mono ?_);rintro z w6 ⟨rfl,hb6⟩;have HB6:=aM hb6;clear hb6))
 go_ret;exact ⟨rfl,H5.out.grow HB6.out,HK5.out.trans (MK.of_below HB6.out)⟩
theorem qxJ (h:Man w0 W gm gc gl cl ge ce a m) (leb:Int) (hr:¬ qbS a m leb []=0) :
  Calls Tryz.prog 37 #[kp gm,.int .i64 leb] W fun z w'=>z=.returned (.int .i64 (qbS a m leb []))∧Below W.heap.size W w':=by
 have HRD:=aM (show Calls Tryz.prog 90 #[kp gm,.int .i64 leb,.slice none 0 0] W (fun z w'=>z=.returned (.int .i64 (qbS a m leb []))∧Below W.heap.size W w') from qfJ h leb [gm,gl,ge] none 0 [] (Nat.le_refl _) (qcY.nil _ _ _ _));have d0:(qbS a m leb []==0)=false:=by simp only [beq_eq_false_iff_ne];exact hr
 have d0p:(qbS a m leb []=0)=False:=eq_false hr;generalize qbS a m leb []=e at HRD d0 d0p;clear h hr;go_enter Tryz.func37,Tryz.ntmps37
 go_wp2_with (first
  | (go_at_call 90;(with_reducible refine HRD.out.mono ?_);rintro z w1 ⟨rfl,hb1⟩;have HB2:=aM hb1;clear hb1))
 go_ret;exact ⟨rfl,HB2.out⟩
theorem qzZ (h:Man w0 W gm gc gl cl ge ce a m) (hok:m.ok) (k:Nat) (hk:k < m.lebs.length) (hr:qbS a m (k:Int) []=0)
  (ht:∀ w v,MK [gm,gl,ge] W w→EV w v (qhO a m k).1→Calls Tryz.prog 89 #[v] w fun z w'=>z=.returned (.int .i64 (qhO a m k).1)∧Below w.heap.size w w') :
  Calls Tryz.prog 37 #[kp gm,.int .i64 k] W fun z w'=>z=.returned (.int .i64 (qhO a m k).1)∧Man w0 w' gm gc gl cl ge ce (qhO a m k).2.1 (qhO a m k).2.2∧MK [gm,gl,ge] W w':=by
 have HRD:=aM (show Calls Tryz.prog 90 #[kp gm,.int .i64 k,.slice none 0 0] W (fun z w'=>z=.returned (.int .i64 0)∧Below W.heap.size W w') from hr ▸ qfJ h (k:Int) [gm,gl,ge] none 0 [] (Nat.le_refl _) (qcY.nil _ _ _ _));have HT:=aM ht;have H:=aM h;have HKL:=aM hk
 obtain ⟨p,hp⟩:∃ p,p=m.lebs.getD k 0:=⟨_,rfl⟩
 have HYK:=aM (show ∀ q (hq:q < m.lebs.length),q=k→m.lebs[q]=p by rintro q hq rfl;rw [hp,List.getD_eq_getElem?_getD,List.getElem?_eq_getElem hq];rfl);have HPB:=aM (show p < a.g.B by rw [← h.ln,hp];exact hok k hk);have HR:=aM (show qhO a m k=if p < 0 then (0,a,m) else qcF a (m.leb k (-1)) p.toNat by rw [hp];rfl);have hq:(k < m.lebs.length)=True:=eq_true hk;have hqi:((k:Int) < (m.lebs.length:Int))=True:=eq_true (by omega);generalize qhO a m k=r at HT HR ⊢;clear h hr hok hk hp ht;go_enter Tryz.func37,Tryz.ntmps37
 go_upto_region 4 with (first
  | (go_at_call 90;(with_reducible refine HRD.out.mono ?_);rintro z w1 ⟨rfl,hb1⟩;have HB1:=aM hb1;clear hb1))
 have H1:=aM (H.out.grow HB1.out);have y6:w1.cell? ⟨gm,6,none⟩=some (.slice (some ⟨ge,0,none⟩) m.lebs.length ce):=H1.out.cell 6;have yk:w1.cell? ⟨ge,k,none⟩=some (.int .i64 p):=by rw [← HYK.out k HKL.out rfl];exact H1.out.b.cell k HKL.out
 have fk:=H1.out.b.frozen k
 by_cases hneg:p < 0
 ·have d0:decide (p < 0)=true:=decide_eq_true hneg;have d0n:(p < 0)=True:=eq_true hneg;have HR3:=aM (HR.out.trans (if_pos hneg));clear hneg HR;go_wp2;go_ret;rw [HR3.out];exact ⟨rfl,H1.out,MK.of_below HB1.out⟩
 ·have d0:decide (p < 0)=false:=decide_eq_false hneg;have d0n:(p < 0)=False:=eq_false hneg;have HR3:=aM (HR.out.trans (if_neg hneg))
  obtain ⟨j,rfl⟩:∃ j:Nat,p=(j:Int):=⟨p.toNat,by omega⟩
  rw [Int.toNat_natCast] at HR3;have H2:=aM (show Man w0 (w1.setCell ⟨ge,k,none⟩ (.int .i64 (-1))) gm gc gl cl ge ce a (m.leb k (-1)) from H1.out.setI k HKL.out (-1));have HK2:=aM (show MK [gm,gl,ge] W (w1.setCell ⟨ge,k,none⟩ (.int .i64 (-1))) by obtain ⟨cells,hg,-⟩:=H1.out.b;exact (MK.of_below HB1.out).set hg (.inr (.inl rfl)) k (.int .i64 (-1)))
  go_upto_region 8 with (fail)
  generalize w1.setCell ⟨ge,k,none⟩ (.int .i64 (-1))=W2 at H2 HK2 ⊢;have HFR:=aM (qnJ H2.out j (by have:=HPB.out;omega));rw [← HR3.out] at HFR;clear hneg HR
  go_wp2_with (first
   | (go_at_call 88;(with_reducible refine HFR.out.mono ?_);rintro z w4 ⟨v4,rfl,hv4,h4,hk4⟩;have HV4:=aM hv4.ev;have H4:=aM h4;have HK4:=aM (HK2.out.trans (hk4.mono (fun z hz=>by simp only [List.mem_cons,List.not_mem_nil,or_false] at hz ⊢;rcases hz with h|h;exact .inl h;exact .inr (.inl h))));clear hv4 h4 hk4)
   | (go_at_call 89;(with_reducible refine (HT.out _ _ HK4.out HV4.out).mono ?_);rintro z w6 ⟨rfl,hb6⟩;have HB6:=aM hb6;clear hb6))
  go_ret;exact ⟨rfl,H4.out.grow HB6.out,HK4.out.trans (MK.of_below HB6.out)⟩
end
section
open Go.Shelf Plain
variable {w0 W W':World} {gm gc gl cl ge ce:Nat} {a a':AC} {m m':AM}
theorem qzA:(Tryz.prog.info? 3).map (fun i=>(i.zero.map Value.cells,i.size,i.bytes))=some (some #[.int .i64 0],1,8):=by kernel_rfl
def qjE (xs:List Blk) (nl i:Nat):List Int:=(List.range nl).map fun (j:Nat)=>if j < i then qfO (j:Int) xs 0 else 0
theorem qdH (xs:List Blk) (nl i:Nat):(qjE xs nl i).length=nl:=by simp [qjE]
theorem qyT (xs:List Blk) (nl:Nat):qjE xs nl nl=(List.range nl).map fun (j:Nat)=>qfO (j:Int) xs 0:=by
 unfold qjE;apply List.map_congr_left;intro j hj;rw [if_pos (List.mem_range.1 hj)]
theorem qyS (xs:List Blk) (nl i:Nat) (h:i < nl):(qjE xs nl i).set i (qfO (i:Int) xs 0)=qjE xs nl (i+1):=by
 apply List.ext_getElem?;intro j
 by_cases hj:j < nl
 ·by_cases hji:j=i
  ·subst hji;rw [List.getElem?_set_self (by rw [qdH];exact hj)];unfold qjE;rw [List.getElem?_map,List.getElem?_range hj];simp
  ·rw [List.getElem?_set_ne (fun e=>hji e.symm)];unfold qjE;rw [List.getElem?_map,List.getElem?_map,List.getElem?_range hj];have:(j < i)↔(j < i+1):=by omega
   simp [this]
 ·rw [List.getElem?_eq_none (by rw [List.length_set,qdH];omega),List.getElem?_eq_none (by rw [qdH];omega)]
theorem qwD (xs:List Blk) (nl g:Nat) (h:W.heap[g]?=some (.cells (madeCells #[.int .i64 0] nl) 3 (0,0))):qpQ W g (qjE xs nl 0):=by
 refine ⟨_,h,fun k hk=>?_⟩;rw [qdH] at hk;rw [qnB _ _ _ hk];have e:(qjE xs nl 0)[k]'(by rw [qdH];exact hk)=0:=by simp [qjE]
 rw [e];simp [Nat.mod_one]
theorem qxX (xs:List Blk) (j:Nat) (h:j < xs.length):(xs.take (j+1)).foldl qmR 0=qmR ((xs.take j).foldl qmR 0) xs[j]:=by
 rw [List.take_add_one,List.getElem?_eq_getElem h,Option.toList_some,List.foldl_append];rfl
theorem qlG (h:qdW w0 W gc a) (hby:qbV a) (aE:Addr) (hgE:gNone W aE) (hon:a.off=false) (nl:Nat) (hnl:(nl:Int)=qeJ a.g.B a.g.P a.g.Z a.g.R) (hnb:nl≤a.g.B) :
  Calls Tryz.prog 86 #[cp gc] W fun x w'=>∃ gm gl cl ge ce:Nat,x=.returned (.tuple #[kp gm,.int .i64 0])∧Man w0 w' gm gc gl cl ge ce a (qcD (qcM a) nl)∧Below W.heap.size W w'∧W.heap.size≤gm∧W.heap.size≤gl∧W.heap.size≤ge:=by
 have H:=aM h;have HW0:=aM (qaI h.below);have hgok:=h.gok.1;have HSC:=aM (qxK h hby aE hgE hon);have HLN:=aM (qgA a);have HGM:=aM (fun (w:World) (hb:Below W.heap.size W w)=>(H.out.grow hb).geometry);have HLB:=aM (show ∀ w,Calls Tryz.prog 13 #[gV a.g.B a.g.P a.g.Z a.g.R] w (fun e w'=>e=.returned (.int .i64 nl)∧Below w.heap.size w w') from fun w=>hnl ▸ qvZ a.g.B a.g.P a.g.Z a.g.R w)
 have hmk:∀ w,(Instr.makeSlice 127 (.int .i64 nl) (.int .i64 nl)).run Tryz.prog w=.ok (.slice (some ⟨w.heap.size,0,none⟩) nl nl) (w.alloc (.cells (madeCells #[.int .i64 0] nl) 3)):=fun w=>by
  have:=qkJ _ _ _ 1 8 nl Tryz.underlying127 qzA (by omega) (by omega) w;rw [Nat.mul_one] at this;exact this
 have hu23:=Tryz.underlying23;have hu129:=Tryz.underlying129;have hu68:=Tryz.underlying68;have HNB:=aM hnb;clear h hby hgE hon hnl;generalize qcM a=xs at HSC HLN ⊢;have HMS:=aM (show xs.length≤256 by rw [HLN.out];exact hgok.2);go_enter Tryz.func86,Tryz.ntmps86
 go_upto_region 4 with (first
  | (go_at_call 18;(with_reducible refine HSC.out.mono ?_);rintro z w1 ⟨gl,cl,rfl,hcl,hrw,hb,hgl⟩;have HCL:=aM hcl;have HRW:=aM hrw;have HB1:=aM hb;have HGL:=aM hgl;clear hcl hrw hb hgl))
 go_upto_region 5 with (first
  | (go_at_call 69;(with_reducible refine (HGM.out _ HB1.out).mono ?_);rintro z w2 ⟨rfl,hb⟩;have HB2:=aM hb;clear hb))
 obtain ⟨gm,hgm⟩:∃ gm,gm=w2.heap.size:=⟨_,rfl⟩
 generalize hW:w2.alloc (.cells #[cp gc,.int .i64 a.g.B,.int .i64 a.g.P,.int .i64 a.g.Z,.int .i64 a.g.R,.slice (some ⟨gl,0,none⟩) xs.length cl,.slice none 0 0,.int .u64 0,.bool false] 129)=W3;have hc3:W3.heap[gm]?=some (.cells #[cp gc,.int .i64 a.g.B,.int .i64 a.g.P,.int .i64 a.g.Z,.int .i64 a.g.R,.slice (some ⟨gl,0,none⟩) xs.length cl,.slice none 0 0,.int .u64 0,.bool false] 129 (0,0)):=by rw [← hW,hgm];exact qaM _ _ _
 have hb3:Below w2.heap.size w2 W3:=by rw [← hW];exact qaA (Below.refl _ _) _
 have HB12:=aM (qaC HB1.out HB2.out);have HC3:=aM hc3;have HB3:=aM (qaC HB12.out hb3);have HRW3:=aM (show Rows W3 gl xs from (HRW.out.keep (HB2.out.block _ HRW.out.lt)).keep (hb3.block _ (HRW.out.keep (HB2.out.block _ HRW.out.lt)).lt));have HGMW:=aM (show W.heap.size≤gm by rw [hgm];exact qaI HB12.out);have y1:=Joins.cell_of_block hc3 1;have y2:=Joins.cell_of_block hc3 2;have y3:=Joins.cell_of_block hc3 3;have y4:=Joins.cell_of_block hc3 4;rw [← hgm];clear hW hc3 hb3 hgm
 go_upto_region 6 with (first
  | (go_at_call 13;(with_reducible refine (HLB.out _).mono ?_);rintro z w4 ⟨rfl,hb⟩;have HB4:=aM hb;have f6:=qaE (qaS (qaB HC3.out hb) (.cells (madeCells #[.int .i64 0] nl) 3)) 6;have x6:(w4.alloc (.cells (madeCells #[.int .i64 0] nl) 3)).cell? ⟨gm,6,none⟩=some (.slice none 0 0):=Joins.cell_of_block (qaS (qaB HC3.out hb) (.cells (madeCells #[.int .i64 0] nl) 3)) 6;clear hb))
 obtain ⟨ge,hge⟩:∃ ge,ge=w4.heap.size:=⟨_,rfl⟩
 rw [← hge];generalize hW:(w4.alloc (.cells (madeCells #[.int .i64 0] nl) 3)).setCell ⟨gm,6,none⟩ (.slice (some ⟨ge,0,none⟩) nl nl)=W5;have HGEW:=aM (show W.heap.size≤ge by rw [hge];exact qaI (qaC HB3.out HB4.out));have hab:Below W.heap.size W (w4.alloc (.cells (madeCells #[.int .i64 0] nl) 3)):=qaA (qaC HB3.out HB4.out) _;have HB5:=aM (show Below W.heap.size W W5 by rw [← hW];exact qaK hab HGMW.out);have hc4:(w4.alloc (.cells (madeCells #[.int .i64 0] nl) 3)).heap[gm]?=some (.cells #[cp gc,.int .i64 a.g.B,.int .i64 a.g.P,.int .i64 a.g.Z,.int .i64 a.g.R,.slice (some ⟨gl,0,none⟩) xs.length cl,.slice none 0 0,.int .u64 0,.bool false] 129 (0,0)):=qaS (qaB HC3.out HB4.out) _;have hrw4:Rows (w4.alloc (.cells (madeCells #[.int .i64 0] nl) 3)) gl xs:=(HRW3.out.keep (HB4.out.block _ HRW3.out.lt)).keep (Below.heap_alloc _ _ _ (HRW3.out.keep (HB4.out.block _ HRW3.out.lt)).lt);have hgg:gl ≠ gm:=hrw4.ne hc4 (by decide)
 have hgi:ge ≠ gm:=fun e=>by
  have h1:=qaM w4 (madeCells #[.int .i64 0] nl) 3;rw [← hge,e,hc4] at h1;simp only [Option.some.injEq,Obj.cells.injEq] at h1;exact absurd h1.2.1 (by decide)
 have H5:=aM (show Man w0 W5 gm gc gl cl ge nl a ⟨xs,qjE xs nl 0,0,false⟩ by
  refine ⟨?_,?_,?_,?_,by have:=HW0.out;have:=HGMW.out;omega,by have:=HW0.out;have:=HGL.out;omega,by have:=HW0.out;have:=HGEW.out;omega,HCL.out,by rw [qdH];exact Nat.le_refl _,HLN.out,by rw [qdH];exact HNB.out⟩
  ·rw [← hW];unfold mC;rw [qdH];exact qcB hc4 6 _
  ·rw [← hW];exact (H.out.grow hab).far hc4 (by have:=HW0.out;have:=HGMW.out;omega) (by decide) (by decide) (by decide) (by decide) (by decide) _ _
  ·rw [← hW];exact hrw4.keep (Below.heap_setCell _ _ _ _ hgg)
  ·rw [← hW]
   exact (qwD xs nl ge (by rw [hge];exact qaM _ _ _)).keep (Below.heap_setCell _ _ _ _ hgi))
 clear hW hab hc4 hrw4 hgg hgi hge f6 x6 y1 y2 y3 y4 hmk hnb;clear HC3 HRW3 HRW HB3 HB4 HB12 HB1 HB2 HSC HGM HLB;have c6:W5.cell? ⟨gm,6,none⟩=some (.slice (some ⟨ge,0,none⟩) (qjE xs nl 0).length nl):=H5.out.cell 6;rw [qdH] at c6
 go_upto_region 7 with (fail)
 clear c6;go_loopw [38] (fun v38 wr=>∃ i:Nat,i≤nl∧v38=.int .i64 i∧qaJ (Man w0 wr gm gc gl cl ge nl a ⟨xs,qjE xs nl i,0,false⟩)∧qaJ (Below W.heap.size W wr)) (fun v38 _=>nl - (intOf v38).toNat);case atStart=>exact ⟨0,Nat.zero_le _,rfl,H5,HB5⟩
 case round =>
  clear H5 HB5;obtain ⟨i,hi,rfl,HM,HB⟩:=hrel
  by_cases hlt:i < nl
  ·have d0:decide ((i:Int) < (nl:Int))=true:=decide_eq_true (by omega);have hq:(i < nl)=True:=eq_true hlt;have hqi:((i:Int) < (nl:Int))=True:=eq_true (by omega);have hwj:wrap64 ((i:Int)+1)=(i:Int)+1:=by have:=HNB.out;unfold wrap64;omega
   have hwk:IntKind.i64.wrap ((i:Int)+1)=(i:Int)+1:=by rw [qbL];exact hwj
   have y6:wr.cell? ⟨gm,6,none⟩=some (.slice (some ⟨ge,0,none⟩) (qjE xs nl i).length nl):=HM.out.cell 6;rw [qdH] at y6;have HFD:=aM (fun (w:World) (hb:Below wr.heap.size wr w)=>vcI (some ⟨gl,0,none⟩) cl xs (i:Int) w ((HM.out.grow hb).l.reads (by have:=HMS.out;show xs.length≤_;omega)) (by have:=HMS.out;omega))
   have HST:=aM (fun (w:World) (hb:Below wr.heap.size wr w)=>(show Man w0 (w.setCell ⟨ge,i,none⟩ (.int .i64 (qfO (i:Int) xs 0))) gm gc gl cl ge nl a ⟨xs,qjE xs nl (i+1),0,false⟩ by
    have:=(HM.out.grow hb).setI i (by show i < (qjE xs nl i).length;rw [qdH];exact hlt) (qfO (i:Int) xs 0);rw [show (⟨xs,qjE xs nl (i+1),0,false⟩:AM)={ (⟨xs,qjE xs nl i,0,false⟩:AM) with lebs:=(qjE xs nl i).set i (qfO (i:Int) xs 0) } by rw [qyS xs nl i hlt]]
    exact this))
   generalize qfO (i:Int) xs 0=fv at HFD HST;have HLT:=aM hlt;clear hi hlt
   go_upto_region 9 with (fail)
   go_region_with (first
    | (go_at_call 59;(with_reducible refine (HFD.out _ (by first|exact qaO (Below.refl _ _)|exact Below.refl _ _)).mono ?_);rintro z w6 ⟨rfl,hb⟩;have HB6:=aM (qaC (qaO (Below.refl _ _)) hb);have z6:=qaH y6 HB6.out;obtain ⟨fo,fz⟩:∃ fo:Int,w6.cell? ⟨ge,i,none⟩=some (.int .i64 fo):=⟨_,(HM.out.grow HB6.out).b.cell i (by show i < (qjE xs nl i).length;rw [qdH];exact HLT.out)⟩;have fi:=(HM.out.grow HB6.out).b.frozen i;clear hb))
   all_goals go_wp2
   all_goals go_roundw
   all_goals first
    | exact ⟨i+1,HLT.out,by push_cast;rfl,⟨HST.out _ HB6.out⟩,⟨qaK (qaC HB.out HB6.out) HGEW.out⟩⟩
    | (have:=HLT.out;simp [intOf];omega)
  ·obtain rfl:i=nl:=by omega
   have d0:decide ((i:Int) < (i:Int))=false:=decide_eq_false (by omega);clear hlt hi
   go_upto_region 12 with (fail)
   rename_i _
   have H5:=HM;have HB5:=HB;clear HM HB d0;go_loopw [53] (fun v53 wr=>∃ j:Nat,j≤xs.length∧v53=.int .i64 j∧qaJ (Man w0 wr gm gc gl cl ge i a ⟨xs,qjE xs i i,(xs.take j).foldl qmR 0,false⟩)∧qaJ (Below W.heap.size W wr)) (fun v53 _=>xs.length - (intOf v53).toNat);case atStart=>exact ⟨0,Nat.zero_le _,rfl,H5,HB5⟩
   case round =>
    clear H5 HB5;obtain ⟨j,hj,rfl,HM,HB⟩:=hrel
    by_cases hlt:j < xs.length
    ·have d0:decide ((j:Int) < (xs.length:Int))=true:=decide_eq_true (by omega);have hq:(j < xs.length)=True:=eq_true hlt;have hqi:((j:Int) < (xs.length:Int))=True:=eq_true (by omega);have hwj:wrap64 ((j:Int)+1)=(j:Int)+1:=by have:=HMS.out;unfold wrap64;omega
     have hwk:IntKind.i64.wrap ((j:Int)+1)=(j:Int)+1:=by rw [qbL];exact hwj
     have HSQ:=aM (qxX xs j hlt);obtain ⟨z0,z1,z2,z3,z4,z5⟩:=HM.out.l.cell j hlt;generalize (xs.take j).foldl qmR 0=sq at HM HSQ;have HLT:=aM hlt
     obtain ⟨b,hb⟩:∃ b,b=xs[j]:=⟨_,rfl⟩
     rw [← hb] at HSQ;have HBJ:=aM hb;replace z0:wr.cell? ⟨gl,j*6,none⟩=some (.int .i64 b.f0):=by rw [hb];exact z0
     replace z1:wr.cell? ⟨gl,j*6+1,none⟩=some (.int .i64 b.f1):=by rw [hb];exact z1
     replace z2:wr.cell? ⟨gl,j*6+2,none⟩=some (.int .i64 b.f2):=by rw [hb];exact z2
     replace z3:wr.cell? ⟨gl,j*6+3,none⟩=some (.int .i64 b.f3):=by rw [hb];exact z3
     replace z4:wr.cell? ⟨gl,j*6+4,none⟩=some (.int .u64 b.f4):=by rw [hb];exact z4
     replace z5:wr.cell? ⟨gl,j*6+5,none⟩=some (.bool b.f5):=by rw [hb];exact z5
     clear HBJ hb hj hlt
     go_upto_region 14 with (fail)
     generalize hW:wr.alloc (.cells (bC b) 68)=W5
     obtain ⟨g9,hg9⟩:∃ g9,g9=wr.heap.size:=⟨_,rfl⟩
     rw [← hg9];have H5:=aM (show Man w0 W5 gm gc gl cl ge i a ⟨xs,qjE xs i i,sq,false⟩ by rw [← hW];exact HM.out.grow (qaA (Below.refl _ _) _));have HB5:=aM (show Below W.heap.size W W5 by rw [← hW];exact qaA HB.out _);have hx5:W5.heap[g9]?=some (.cells (bC b) 68 (0,0)):=by rw [← hW,hg9];exact qaM _ _ _
     have x0:=Joins.cell_of_block hx5 0;have x4:=Joins.cell_of_block hx5 4;have y7:W5.cell? ⟨gm,7,none⟩=some (.int .u64 sq):=H5.out.cell 7;have f7:=qaE H5.out.c 7;clear hW hx5 z0 z1 z2 z3 z4 z5 HM HB hg9
     by_cases h4:b.f0=4
     ·have e0:(b.f0==4)=true:=by simp only [beq_iff_eq];exact h4
      have e0n:(b.f0=4)=True:=eq_true h4;have HS4:=aM (HSQ.out.trans (show qmR sq b=max sq (IntKind.u64.wrap (b.f4+1)) from if_pos h4));clear h4
      go_upto_region 15 with (fail)
      go_region;generalize hW9:(W5.setCell ⟨gm,7,none⟩ (.int .u64 (if sq < IntKind.u64.wrap (b.f4+1) then IntKind.u64.wrap (b.f4+1) else sq))).drew=W9;have HMX:=aM (show (if sq < IntKind.u64.wrap (b.f4+1) then IntKind.u64.wrap (b.f4+1) else sq)=max sq (IntKind.u64.wrap (b.f4+1)) by omega)
      have H9:=aM (show Man w0 W9 gm gc gl cl ge i a ⟨xs,qjE xs i i,max sq (IntKind.u64.wrap (b.f4+1)),false⟩ by
       rw [← hW9,HMX.out]
       exact (H5.out.setM (m':=⟨xs,qjE xs i i,max sq (IntKind.u64.wrap (b.f4+1)),false⟩) 7 _ rfl rfl rfl).grow (qaO (Below.refl _ _)))
      have HB9:=aM (show Below W.heap.size W W9 by rw [← hW9];exact qaO (qaK HB5.out HGMW.out));clear hW9 y7 f7 x0 x4 HMX;go_wp2;go_roundw;case rel=>exact ⟨j+1,HLT.out,by push_cast;rfl,⟨by rw [HS4.out];exact H9.out⟩,HB9⟩
      case measure=>have:=HLT.out;simp [intOf];omega
     ·have e0:(b.f0==4)=false:=by simp only [beq_eq_false_iff_ne];exact h4
      have e0n:(b.f0=4)=False:=eq_false h4;have HS4:=aM (HSQ.out.trans (show qmR sq b=sq from if_neg h4));clear h4;go_wp2;go_roundw;case rel=>exact ⟨j+1,HLT.out,by push_cast;rfl,⟨by rw [HS4.out];exact H5.out⟩,HB5⟩
      case measure=>have:=HLT.out;simp [intOf];omega
    ·obtain rfl:j=xs.length:=by omega
     have d0:decide ((xs.length:Int) < (xs.length:Int))=false:=decide_eq_false (by omega);rw [List.take_length,qyT] at HM;clear hlt hj;go_wp2;go_ret2;exact ⟨gm,gl,cl,ge,i,rfl,HM.out,HB.out,HGMW.out,HGL.out,HGEW.out⟩
end
end Go.Proofs.YtdlimghdimkadaaGreatDoor.PAll

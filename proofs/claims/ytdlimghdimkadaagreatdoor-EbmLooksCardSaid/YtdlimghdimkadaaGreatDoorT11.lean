/- Part 11 of what the law EbmLooks rests on. -/
import Derived.Test.YtdlimghdimkadaaGreatDoorT10
import Derived.BigQuiet
set_option maxRecDepth 100000
set_option maxHeartbeats 32000000
set_option linter.unusedSimpArgs false
set_option linter.unusedVariables false
namespace Go.Proofs.YtdlimghdimkadaaGreatDoor.PAll
open Go Go.RowKit YtdlimghdimkadaaGreatDoorW.PrintWords YtdlimghdimkadaaGreatDoorW.PrintLast YtdlimghdimkadaaGreatDoorW.PrintMore
attribute [local go_sem] qdA qcY qdU qdT qcH qcG qcZ qcX
section
open Go.Shelf Plain
variable {n:Nat} {ex:Int} {a a':AC} {m m':AM} {D:Nat→List (List Int)}
def AM.leb (m:AM) (k:Nat) (v:Int):AM:={ m with lebs:=m.lebs.set k v }
abbrev pkL:Bool→AM→Int:=fun _ o=>qhS o.l
abbrev pg0:AC→AM→List (List Int):=fun _ _=>[]
def qgI (q:Nat) (a:AC) (m:AM) (k:Nat):Int × AC × AM :=
 if m.lebs.getD k 0 < 0 then
  (if (qaZ pkL pg0 (k:Int) 0 q true a m).2.1=0 then (0,(qaZ pkL pg0 (k:Int) 0 q true a m).2.2.1,(qaZ pkL pg0 (k:Int) 0 q true a m).2.2.2.leb k (qaZ pkL pg0 (k:Int) 0 q true a m).1)
  else ((qaZ pkL pg0 (k:Int) 0 q true a m).2.1,(qaZ pkL pg0 (k:Int) 0 q true a m).2.2.1,(qaZ pkL pg0 (k:Int) 0 q true a m).2.2.2))
 else (0,a,m)
def AM.more (m:AM) (i:Nat):AM:=m.put i { m.l.getD i default with f3:=wrap64 ((m.l.getD i default).f3+1) }
def qfN (rt:AC→AM→Int × AC × AM):Nat→AC→AM→Nat→List Int→Int × AC × AM
 | 0,a,m,_,_=>(30,a,m)
 | q+1,a,m,k,x=>if (qaY a (m.lebs.getD k 0) ((qcB m (k:Int)).1.f3+2) x).1=0 then (0,(qaY a (m.lebs.getD k 0) ((qcB m (k:Int)).1.f3+2) x).2,m.more (m.lebs.getD k 0).toNat)
  else if (qaY a (m.lebs.getD k 0) ((qcB m (k:Int)).1.f3+2) x).1=5 then
   (if (rt (qaY a (m.lebs.getD k 0) ((qcB m (k:Int)).1.f3+2) x).2 m).1=0 then qfN rt q (rt (qaY a (m.lebs.getD k 0) ((qcB m (k:Int)).1.f3+2) x).2 m).2.1 (rt (qaY a (m.lebs.getD k 0) ((qcB m (k:Int)).1.f3+2) x).2 m).2.2 k x
   else rt (qaY a (m.lebs.getD k 0) ((qcB m (k:Int)).1.f3+2) x).2 m)
  else ((qaY a (m.lebs.getD k 0) ((qcB m (k:Int)).1.f3+2) x).1,(qaY a (m.lebs.getD k 0) ((qcB m (k:Int)).1.f3+2) x).2,m.die (qaY a (m.lebs.getD k 0) ((qcB m (k:Int)).1.f3+2) x).1)
def qzR (pk:Bool→AM→Int) (pg:AC→AM→List (List Int)) (q:Nat) (a:AC) (m:AM) (k:Nat) (least:Int):Int × AC × AM :=
 if (qaZ pk pg (k:Int) least q true a m).2.1=0 then
  (if m.lebs.getD k 0 < 0 then (0,(qaZ pk pg (k:Int) least q true a m).2.2.1,(qaZ pk pg (k:Int) least q true a m).2.2.2.leb k (qaZ pk pg (k:Int) least q true a m).1)
  else qcC (qaZ pk pg (k:Int) least q true a m).2.2.1 ((qaZ pk pg (k:Int) least q true a m).2.2.2.leb k (qaZ pk pg (k:Int) least q true a m).1) (m.lebs.getD k 0).toNat)
 else ((qaZ pk pg (k:Int) least q true a m).2.1,(qaZ pk pg (k:Int) least q true a m).2.2.1,(qaZ pk pg (k:Int) least q true a m).2.2.2)
theorem qqT {pk:Bool→AM→Int} {pg:AC→AM→List (List Int)} {leb least:Int} {q:Nat} {st:Bool} {i:Nat} (h:pk st m=(i:Int)) (hf:qbV a m i leb least (pg a m)=(0,a',m')):qaZ pk pg leb least (q+1) st a m=((i:Int),0,a',m'):=by
 unfold qaZ;rw [h,if_neg (by omega),Int.toNat_natCast,hf,if_neg (of_decide_eq_true rfl)]
theorem qbP.ex1 (h:qbP n ex a m D) (e:ex=-1):qbP n (-1) a m D:=e ▸ h
theorem qbP.claim (h:qbP (n+1) (-1) a m D) {k:Nat} (hk:k < m.lebs.length) (q:Nat):∃ a' m',qgI (q+1) a m k=(0,a',m')∧qbP n (-1) a' m' D∧a'.g=a.g∧a'.wrong=a.wrong∧m'.lebs.length=m.lebs.length∧∃ i:Nat,m'.lebs.getD k 0=(i:Int):=by
 unfold qgI
 rcases h.lv k hk with ⟨e5,e6⟩|⟨i,h2,-,e5,e6,e7⟩
 ·obtain ⟨i,hi,e1,e2⟩:=h.pick;have hgP:=h.gok.2.1;obtain ⟨a1,e3,g1,g2,hG⟩:=h.fill hk hi e2 0 [] ⟨Int.le_refl _,Int.le_refl _⟩ (by show 0+2≤a.g.P;omega) (fun x hx=>nomatch hx) (fun x hx=>nomatch hx);have e4:=qqT (pk:=pkL) (pg:=pg0) (q:=q) (st:=true) (a:=a) (m:=m) (leb:=(k:Int)) (least:=0) e1 e3;rw [if_pos (by omega),e4];refine ⟨_,_,if_pos rfl,?_,g1,g2,List.length_set ..,i,?_⟩
  ·have h9:=hG.ex1 e5;rw [show qlH D k []=D by rw [← e6];exact quC D k] at h9;exact h9
  ·show (m.lebs.set k (i:Int)).getD k 0=_;rw [qdR _ _ _ _ _ hk,if_pos rfl]
 ·rw [if_neg (by omega)];exact ⟨a,m,rfl,h.less (by omega),rfl,rfl,rfl,i,e5⟩
theorem qbP.write (h:qbP n (-1) a m D) {k:Nat} (hk:k < m.lebs.length) {i:Nat} (e:m.lebs.getD k 0=(i:Int)) {x:List Int} (hx:(D k).length+2 < a.g.P) (hz:x.length≤a.g.Z) (hxb:qbA x) (rt:AC→AM→Int × AC × AM) (q:Nat) :
  ∃ a' m',qfN rt (q+1) a m k x=(0,a',m')∧a'.g=a.g∧a'.wrong=a.wrong∧m'.lebs.length=m.lebs.length∧qbP n (-1) a' m' (qlH D k (D k ++ [x])):=by
 obtain ⟨a',e2,g1,g2,hG⟩:=h.prog hk e hx hz hxb;obtain ⟨hi,seq,least,s,e1,hm,hs⟩:=h.at hk e;have hgP:=h.gok.2.1;have hf3:=(h.blk hk).1;unfold qfN;rw [e,hf3,e2,if_pos rfl,Int.toNat_natCast];refine ⟨_,_,rfl,g1,g2,rfl,?_⟩;have e4:(m.l.getD i default).f3=((D k).length:Int):=by rw [e1]
 have e5:wrap64 ((m.l.getD i default).f3+1)=((D k).length:Int)+1:=by rw [e4];unfold wrap64;omega
 unfold AM.more;rw [e5];exact hG
theorem qbP.moved (h:qbP (n+2) (-1) a m D) {k:Nat} (hk:k < m.lebs.length) {pk:Bool→AM→Int} {pg:AC→AM→List (List Int)} {i:Nat} (hi:i < a.g.B) (e1:pk true m=(i:Int)) (hf:(m.l.getD i default).f0=2) (least:Int) (hle:0≤least∧least≤((pg a m).length:Int)) (hx:(pg a m).length+2≤a.g.P) (hz:∀ x,x ∈ pg a m→x.length≤a.g.Z) (hxb:∀ x,x ∈ pg a m→qbA x) (q:Nat) :
  ∃ a' m',qzR pk pg (q+1) a m k least=(0,a',m')∧a'.g=a.g∧a'.wrong=a.wrong∧m'.lebs.length=m.lebs.length∧qbP n (-1) a' m' (qlH D k (pg a m)):=by
 obtain ⟨a1,e3,g1,g2,hG⟩:=h.fill hk hi hf least (pg a m) hle hx hz hxb;have e4:=qqT (pk:=pk) (pg:=pg) (q:=q) (st:=true) e1 e3;unfold qzR;rw [e4,if_pos rfl]
 rcases h.lv k hk with ⟨e5,e6⟩|⟨j,h2,-,e5,e6,e7⟩
 ·rw [if_pos (by omega)];exact ⟨_,_,rfl,g1,g2,List.length_set ..,(hG.ex1 e5).less (by omega)⟩
 ·rw [if_neg (by omega),e5,Int.toNat_natCast];rw [e5] at hG;obtain ⟨a2,e8,g3,g4,hG2⟩:=hG.free (by rw [g1];exact h2);exact ⟨_,_,e8,g3.trans g1,g4.trans g2,List.length_set ..,hG2⟩
def qhG (a:AC) (m:AM) (k:Nat):Int × AC × AM :=
 if m.lebs.getD k 0 < 0 then (0,a,m) else qcC a (m.leb k (-1)) (m.lebs.getD k 0).toNat
theorem qbP.unmap (h:qbP (n+1) (-1) a m D) {k:Nat} (hk:k < m.lebs.length):∃ a' m',qhG a m k=(0,a',m')∧a'.g=a.g∧a'.wrong=a.wrong∧m'.lebs.length=m.lebs.length∧qbP n (-1) a' m' (qlH D k []):=by
 unfold qhG
 rcases h.lv k hk with ⟨e5,e6⟩|⟨j,h2,-,e5,e6,e7⟩
 ·rw [if_pos (by omega)];refine ⟨_,_,rfl,rfl,rfl,rfl,?_⟩;rw [← e6,quC];exact h.less (by omega)
 ·rw [if_neg (by omega),e5,Int.toNat_natCast];have hG:=h.drop hk;rw [e5] at hG;obtain ⟨a2,e8,g3,g4,hG2⟩:=hG.free h2;exact ⟨_,_,e8,g3,g4,List.length_set ..,hG2⟩
def qmH (a:AC) (m:AM) (leb page:Int):List Int × Int :=
 if leb < 0∨(m.lebs.length:Int)≤leb∨page < 0∨(a.g.P:Int) - 2≤page then ([],22)
 else if ¬ qjR a m=0 then ([],qjR a m)
 else if (qcB m leb).1.f3≤page then (List.replicate a.g.Z 255,0)
 else qcE a (m.lebs.getD leb.toNat 0) (page+2)
theorem qbP.read (h:qbP n (-1) a m D) {k:Nat} (hk:k < m.lebs.length) {p:Nat} (hp:p+2 < a.g.P):qmH a m (k:Int) (p:Int)=((D k).getD p [] ++ List.replicate (a.g.Z - ((D k).getD p []).length) 255,0):=by
 have hf3:=(h.blk hk).1;have hpw:qjR a m=0:=by unfold qjR;rw [h.dead,h.off];rfl
 unfold qmH;rw [if_neg (by omega),if_neg (by rw [hpw];decide),hf3]
 by_cases hlt:p < (D k).length
 ·rw [if_neg (by omega)]
  rcases h.lv k hk with ⟨e5,e6⟩|⟨i,h2,-,e5,e6,e7⟩
  ·rw [e6] at hlt;exact absurd hlt (Nat.not_lt_zero _)
  ·obtain ⟨hi,seq,least,s,e1,hm,hs⟩:=h.at hk e5;rw [Int.toNat_natCast,e5,show (p:Int)+2=((p+2:Nat):Int) by push_cast;rfl];exact qnK h.off hi hp (hm.pd p hlt)
 ·rw [if_pos (by omega)]
  have e:(D k).getD p []=[]:=by
   rw [List.getD_eq_getElem?_getD,List.getElem?_eq_none (by omega)];rfl
  rw [e];rfl
end
section
open Go.Shelf Plain
variable {w0 W W':World} {gm gc gl cl ge ce:Nat} {a a':AC} {m m':AM}
def fld (b:Blk):Nat→Value
 | 0=>.int .i64 b.f0
 | 1=>.int .i64 b.f1
 | 2=>.int .i64 b.f2
 | 3=>.int .i64 b.f3
 | 4=>.int .u64 b.f4
 | _=>.bool b.f5
theorem Rows.putF {g:Nat} {xs:List Blk} (h:Rows W g xs) (i:Nat) (hi:i < xs.length) (b:Blk) (j:Nat) (hj:j < 6) (he:∀ t,t < 6→t ≠ j→fld b t=fld xs[i] t):Rows (W.setCell ⟨g,i*6+j,none⟩ (fld b j)) g (xs.set i b):=by
 obtain ⟨cells,hg,hc⟩:=h;refine ⟨cells.setIfInBounds (i*6+j) (fld b j),qaR hg _ _ rfl,fun k hk0=>?_⟩;have hk:k < xs.length:=by rw [List.length_set] at hk0;exact hk0
 have hall:∀ (k:Nat) (hk:k < xs.length) (t:Nat),t < 6→cells[k*6+t]?=some (fld xs[k] t):=fun k hk t ht=>by
  obtain ⟨h0,h1,h2,h3,h4,h5⟩:=hc k hk
  match t,ht with
  | 0,_=>exact h0
  | 1,_=>exact h1
  | 2,_=>exact h2
  | 3,_=>exact h3
  | 4,_=>exact h4
  | 5,_=>exact h5
 have hsz:i*6+j < cells.size:=(Array.getElem?_eq_some_iff.1 (hall i hi j hj)).1
 have key:∀ t,t < 6→(cells.setIfInBounds (i*6+j) (fld b j))[k*6+t]?=some (fld (xs.set i b)[k] t):=fun t ht=>by
  by_cases hki:k=i
  ·subst hki;rw [List.getElem_set_self]
   by_cases htj:t=j
   ·subst htj;rw [Array.getElem?_setIfInBounds_self_of_lt hsz]
   ·rw [Array.getElem?_setIfInBounds_ne (by omega),hall k hk t ht,he t ht htj]
  ·rw [List.getElem_set_ne (fun e=>hki e.symm),Array.getElem?_setIfInBounds_ne (by omega)];exact hall k hk t ht
 exact ⟨key 0 (by omega),key 1 (by omega),key 2 (by omega),key 3 (by omega),key 4 (by omega),key 5 (by omega)⟩
theorem Man.setF (h:Man w0 W gm gc gl cl ge ce a m) (i:Nat) (hi:i < m.l.length) (b:Blk) (j:Nat) (hj:j < 6) (he:∀ t,t < 6→t ≠ j→fld b t=fld m.l[i] t):Man w0 (W.setCell ⟨gl,i*6+j,none⟩ (fld b j)) gm gc gl cl ge ce a (m.put i b):=by
 obtain ⟨cells,h1,h2⟩:=h.l;refine ⟨?_,h.chip.far h1 h.el (by decide) (by decide) (by decide) (by decide) (by decide) _ _,h.l.putF i hi b j hj he,h.b.keep (Below.heap_setCell _ _ _ _ (h.b.ne h1 (by decide))),h.em,h.el,h.ee,?_,h.hb,?_,h.lb⟩
 ·have hm:mC gc a.g gl cl ge ce (m.put i b)=mC gc a.g gl cl ge ce m:=by unfold mC AM.put;rw [List.length_set]
  rw [hm,Below.heap_setCell _ _ _ _ (h.l.ne h.c (by decide)).symm];exact h.c
 ·show (m.l.set i b).length≤cl;rw [List.length_set];exact h.hl
 ·show (m.l.set i b).length=a.g.B;rw [List.length_set];exact h.ln
theorem MK.setF {s:List Nat} {cs:Array Value} (h:MK s W W') (hg:W'.heap[gl]?=some (.cells cs 68 (0,0))) (o:Nat) (v:Value) (hs:gl ∈ s:=by simp):MK s W (W'.setCell ⟨gl,o,none⟩ v):=fun x cs2 t2 fr a' b' c d hx=>by
 have h5:=h x cs2 t2 fr a' b' c d hx
 have hne:x ≠ gl:=fun e9=>by
  subst e9;rw [h5] at hg;simp only [Option.some.injEq,Obj.cells.injEq] at hg
  rcases d with ⟨d1,d2,d3,d4⟩|d
  ·exact d2 hg.2.1
  ·exact d hs
 exact (Below.heap_setCell W' ⟨gl,o,none⟩ v x hne).trans h5
theorem qxF (W:World):Calls Tryz.prog 89 #[.nilIface] W fun x w'=>x=.returned (.int .i64 0)∧Below W.heap.size W w':=by
 go_enter Tryz.func89,Tryz.ntmps89;go_wp2;go_ret;exact ⟨rfl,qaA (Below.refl _ _) _⟩
def qwM (Z:Nat) (xss:List (List Int)):Bool:=xss.any fun x=>decide (Z < x.length)
def qfV (a:AC) (m:AM) (leb:Int) (xss:List (List Int)):Int :=
 if leb < 0∨(m.lebs.length:Int)≤leb∨(a.g.P:Int) - 2 < xss.length∨qwM a.g.Z xss=true then 22 else if ¬ qjR a m=0 then qjR a m else if qeE m=true then 30 else 0
theorem quL (h:Man w0 W gm gc gl cl ge ce a m) (ab:Addr) (hab:W.cell? ab=some (kp gm)) (A:Option Addr) (len c:Nat):Calls Tryz.prog 136 #[.slice A len c,.pointer (some ab)] W fun x w'=>x=.returned (.bool (decide (a.g.Z < len)))∧Below W.heap.size W w':=by
 have c3:W.cell? ⟨gm,3,none⟩=some (.int .i64 a.g.Z):=h.cell 3;clear h
 by_cases hlt:a.g.Z < len
 ·have d0:decide ((a.g.Z:Int) < (len:Int))=true:=decide_eq_true (by omega);have HE:=aM (show decide (a.g.Z < len)=true from decide_eq_true hlt);have hq:(a.g.Z < len)=True:=eq_true hlt;clear hlt;go_enter Tryz.func136,Tryz.ntmps136;go_wp2;go_ret;rw [HE.out];exact ⟨rfl,Below.refl _ _⟩
 ·have d0:decide ((a.g.Z:Int) < (len:Int))=false:=decide_eq_false (by omega);have HE:=aM (show decide (a.g.Z < len)=false from decide_eq_false hlt);have hq:(a.g.Z < len)=False:=eq_false hlt;clear hlt;go_enter Tryz.func136,Tryz.ntmps136;go_wp2;go_ret;rw [HE.out];exact ⟨rfl,Below.refl _ _⟩
theorem qyR (h:Man w0 W gm gc gl cl ge ce a m) (ab:Addr) (hab:W.cell? ab=some (kp gm)) (s:List Nat) (A:Option Addr) (c:Nat) (xss:List (List Int)) (hc:xss.length≤c) (hp:qeK s w0 W A xss):Calls Tryz.prog 158 #[.slice A xss.length c,fnV 136 #[] #[.pointer (some ab)]] W fun x w'=>∃ r:Int,x=.returned (.int .i64 r)∧decide (0≤r)=qwM a.g.Z xss∧Below W.heap.size W w':=by
 have H:=aM h;have HAB:=aM hab;have HP:=aM hp;have hmx:=hp.1;clear h hab hp;go_enter Tryz.func158,Tryz.ntmps158
 go_upto_region 2 with (fail)
 go_loopw [8] (fun v8 wr=>∃ i:Nat,i≤xss.length∧v8=.int .i64 i∧qaK (qwM a.g.Z (xss.take i)=false)∧qaK (Below W.heap.size W wr)) (fun v8 _=>xss.length - (intOf v8).toNat);case atStart=>exact ⟨0,Nat.zero_le _,rfl,⟨rfl⟩,⟨Below.refl _ _⟩⟩
 case round =>
  obtain ⟨i,hi,rfl,HB,HBr⟩:=hrel
  by_cases hlt:i < xss.length
  ·have d0:decide ((i:Int) < (xss.length:Int))=true:=decide_eq_true (by omega);have hq:(i < xss.length)=True:=eq_true hlt;have hqi:((i:Int) < (xss.length:Int))=True:=eq_true (by omega);have hwj:wrap64 ((i:Int)+1)=(i:Int)+1:=by unfold wrap64;omega
   obtain ⟨ad,Aj,cj,eA,lj,hat⟩:=HP.out.2 i hlt;subst eA;have z0:=(hat wr (H.out.grow HBr.out).chip.below (MK.of_below HBr.out)).1
   have HTK:=aM (show qwM a.g.Z (xss.take (i+1))=decide (a.g.Z < (xss.getD i []).length) by
    unfold qwM at HB ⊢;rw [List.take_add_one,List.any_append,HB.out,List.getD_eq_getElem?_getD,List.getElem?_eq_getElem hlt]
    simp)
   have HALL:=aM (show decide (a.g.Z < (xss.getD i []).length)=true→qwM a.g.Z xss=true from fun hd=>by
    unfold qwM;rw [List.any_eq_true];refine ⟨xss[i],List.getElem_mem hlt,?_⟩;rw [List.getD_eq_getElem?_getD,List.getElem?_eq_getElem hlt] at hd
    exact hd)
   generalize xss.getD i []=l at lj hat HTK HALL z0;have HR1:=aM (quL (H.out.grow HBr.out) ab (qaF HAB.out HBr.out) Aj l.length cj);have HLT:=aM hlt;clear hat lj hi
   by_cases hbig:a.g.Z < l.length
   ·rw [decide_eq_true hbig] at HR1 HALL;have HBG:=aM (HALL.out rfl);clear hbig;go_wp2_with (first|(go_at_call 136;(with_reducible refine HR1.out.mono ?_);rintro x w1 ⟨rfl,hb1⟩;have HB1:=aM (qaC HBr.out hb1);clear hb1));go_ret;exact ⟨_,rfl,by rw [HBG.out];exact decide_eq_true (by omega),HB1.out⟩
   ·rw [decide_eq_false hbig] at HR1 HTK;clear hbig;go_wp2_with (first|(go_at_call 136;(with_reducible refine HR1.out.mono ?_);rintro x w1 ⟨rfl,hb1⟩;have HB1:=aM (qaC HBr.out hb1);clear hb1));go_roundw;case rel=>exact ⟨i+1,HLT.out,by push_cast;rfl,HTK,HB1⟩
    case measure=>have:=HLT.out;simp [intOf];omega
  ·obtain rfl:i=xss.length:=by omega
   have d0:decide ((xss.length:Int) < (xss.length:Int))=false:=decide_eq_false (by omega);have hq:(xss.length < xss.length)=False:=eq_false (by omega);rw [List.take_length] at HB;go_wp2;go_ret;exact ⟨_,rfl,by rw [HB.out];rfl,HBr.out⟩
theorem qdF (h:Man w0 W gm gc gl cl ge ce a m) (ab:Addr) (hab:W.cell? ab=some (kp gm)) (s:List Nat) (A:Option Addr) (c:Nat) (xss:List (List Int)) (hc:xss.length≤c) (hp:qeK s w0 W A xss):Calls Tryz.prog 135 #[.slice A xss.length c,fnV 136 #[] #[.pointer (some ab)]] W fun x w'=>x=.returned (.bool (qwM a.g.Z xss))∧Below W.heap.size W w':=by
 have HIX:=aM (qyR h ab hab s A c xss hc hp);clear h hab hp hc;go_enter Tryz.func135,Tryz.ntmps135;go_wp2_with (first|(go_at_call 158;(with_reducible refine HIX.out.mono ?_);rintro x w1 ⟨r,rfl,hr,hb1⟩;have HR:=aM hr;have HB1:=aM hb1;clear hb1 hr));go_ret;rw [← HR.out];exact ⟨rfl,HB1.out⟩
end
section
open Go.Shelf Plain
variable {w0 W W':World} {gm gc gl cl ge ce:Nat} {a a':AC} {m m':AM}
theorem qmG (h:Man w0 W gm gc gl cl ge ce a m) (leb:Int) (s:List Nat) (A:Option Addr) (c:Nat) (xss:List (List Int)) (hc:xss.length≤c) (hp:qeK s w0 W A xss):Calls Tryz.prog 90 #[kp gm,.int .i64 leb,.slice A xss.length c] W fun x w'=>x=.returned (.int .i64 (qfV a m leb xss))∧Below W.heap.size W w':=by
 have H:=aM h;have HP:=aM hp;have HC:=aM hc;have hgP:=h.chip.gok.2.1;have hmx:=hp.1;clear h hp hc
 by_cases h1:leb < 0
 ·have d0:decide (leb < 0)=true:=decide_eq_true h1;have d0n:(leb < 0)=True:=eq_true h1;have HE:=aM (show qfV a m leb xss=22 from if_pos (.inl h1));clear h1 hgP;go_enter Tryz.func90,Tryz.ntmps90
  go_upto_region 1 with (fail)
  generalize hW:W.alloc (.cells #[kp gm] 49)=W1;have hb1:Below W.heap.size W W1:=by rw [← hW];exact qaA (Below.refl _ _) _
  have HB1:=aM hb1;have hab:W1.cell? ⟨W.heap.size,0,none⟩=some (kp gm):=by rw [← hW];exact Joins.cell_of_block (qaN _ _ _) 0
  have HAB:=aM hab;have H1:=aM (H.out.grow hb1);have y6:W1.cell? ⟨gm,6,none⟩=some (.slice (some ⟨ge,0,none⟩) m.lebs.length ce):=H1.out.cell 6;have HMP:=aM (fun (w:World) (hb:Below W1.heap.size W1 w)=>qcT (H1.out.grow hb));have HCN:=aM (fun (w:World) (hb:Below W1.heap.size W1 w)=>qdF (H1.out.grow hb) ⟨W.heap.size,0,none⟩ (qaF HAB.out hb) s A c xss HC.out (HP.out.later (MK.of_below (qaC HB1.out hb))));have HPW:=aM (fun (w:World) (hb:Below W1.heap.size W1 w)=>qdQ (H1.out.grow hb));have HSP:=aM (fun (w:World) (hb:Below W1.heap.size W1 w)=>qcS (H1.out.grow hb));clear hW hb1;go_wp2;go_ret;rw [HE.out];exact ⟨rfl,HB1.out⟩
 have d0:decide (leb < 0)=false:=decide_eq_false h1;have d0n:(leb < 0)=False:=eq_false h1
 by_cases h2:(m.lebs.length:Int)≤leb
 ·have d1:decide ((m.lebs.length:Int)≤leb)=true:=decide_eq_true h2;have d1n:((m.lebs.length:Int)≤leb)=True:=eq_true h2;have HE:=aM (show qfV a m leb xss=22 from if_pos (.inr (.inl h2)));clear h1 h2 hgP;go_enter Tryz.func90,Tryz.ntmps90
  go_upto_region 1 with (fail)
  generalize hW:W.alloc (.cells #[kp gm] 49)=W1;have hb1:Below W.heap.size W W1:=by rw [← hW];exact qaA (Below.refl _ _) _
  have HB1:=aM hb1;have hab:W1.cell? ⟨W.heap.size,0,none⟩=some (kp gm):=by rw [← hW];exact Joins.cell_of_block (qaN _ _ _) 0
  have HAB:=aM hab;have H1:=aM (H.out.grow hb1);have y6:W1.cell? ⟨gm,6,none⟩=some (.slice (some ⟨ge,0,none⟩) m.lebs.length ce):=H1.out.cell 6;have HMP:=aM (fun (w:World) (hb:Below W1.heap.size W1 w)=>qcT (H1.out.grow hb));have HCN:=aM (fun (w:World) (hb:Below W1.heap.size W1 w)=>qdF (H1.out.grow hb) ⟨W.heap.size,0,none⟩ (qaF HAB.out hb) s A c xss HC.out (HP.out.later (MK.of_below (qaC HB1.out hb))));have HPW:=aM (fun (w:World) (hb:Below W1.heap.size W1 w)=>qdQ (H1.out.grow hb));have HSP:=aM (fun (w:World) (hb:Below W1.heap.size W1 w)=>qcS (H1.out.grow hb));clear hW hb1;go_wp2;go_ret;rw [HE.out];exact ⟨rfl,HB1.out⟩
 have d1:decide ((m.lebs.length:Int)≤leb)=false:=decide_eq_false h2;have d1n:((m.lebs.length:Int)≤leb)=False:=eq_false h2
 by_cases h3:(a.g.P:Int) - 2 < xss.length
 ·have d2:decide ((a.g.P:Int) - 2 < (xss.length:Int))=true:=decide_eq_true h3;have d2n:((a.g.P:Int) - 2 < (xss.length:Int))=True:=eq_true h3;have HE:=aM (show qfV a m leb xss=22 from if_pos (.inr (.inr (.inl h3))));clear h1 h2 h3 hgP;go_enter Tryz.func90,Tryz.ntmps90
  go_upto_region 1 with (fail)
  generalize hW:W.alloc (.cells #[kp gm] 49)=W1;have hb1:Below W.heap.size W W1:=by rw [← hW];exact qaA (Below.refl _ _) _
  have HB1:=aM hb1;have hab:W1.cell? ⟨W.heap.size,0,none⟩=some (kp gm):=by rw [← hW];exact Joins.cell_of_block (qaN _ _ _) 0
  have HAB:=aM hab;have H1:=aM (H.out.grow hb1);have y6:W1.cell? ⟨gm,6,none⟩=some (.slice (some ⟨ge,0,none⟩) m.lebs.length ce):=H1.out.cell 6;have HMP:=aM (fun (w:World) (hb:Below W1.heap.size W1 w)=>qcT (H1.out.grow hb));have HCN:=aM (fun (w:World) (hb:Below W1.heap.size W1 w)=>qdF (H1.out.grow hb) ⟨W.heap.size,0,none⟩ (qaF HAB.out hb) s A c xss HC.out (HP.out.later (MK.of_below (qaC HB1.out hb))));have HPW:=aM (fun (w:World) (hb:Below W1.heap.size W1 w)=>qdQ (H1.out.grow hb));have HSP:=aM (fun (w:World) (hb:Below W1.heap.size W1 w)=>qcS (H1.out.grow hb));clear hW hb1
  go_wp2_with (first
   | (go_at_call 26;(with_reducible refine (HMP.out _ (Below.refl _ _)).mono ?_);rintro x w2 ⟨rfl,hb2⟩;have HB2:=aM hb2;have ab2:=qaF hab hb2;clear hb2)
   | (go_at_call 135;(with_reducible refine (HCN.out _ HB2.out).mono ?_);rintro x w3 ⟨rfl,hb3⟩;have HB3:=aM (qaC HB2.out hb3);have ab3:=qaF hab HB3.out;clear hb3)
   | (go_at_call 96;(with_reducible refine (HPW.out _ HB3.out).mono ?_);rintro x w4 ⟨rfl,hb4⟩;have HB4:=aM (qaC HB3.out hb4);have ab4:=qaF hab HB4.out;clear hb4)
   | (go_at_call 40;(with_reducible refine (HSP.out _ HB4.out).mono ?_);rintro x w5 ⟨rfl,hb5⟩;have HB5:=aM (qaC HB4.out hb5);clear hb5))
  go_ret;rw [HE.out];exact ⟨rfl,qaC HB1.out HB2.out⟩
 have d2:decide ((a.g.P:Int) - 2 < (xss.length:Int))=false:=decide_eq_false h3;have d2n:((a.g.P:Int) - 2 < (xss.length:Int))=False:=eq_false h3
 cases h4:qwM a.g.Z xss with
 | true =>
  have HE:=aM (show qfV a m leb xss=22 from if_pos (.inr (.inr (.inr h4))));clear h1 h2 h3 hgP;go_enter Tryz.func90,Tryz.ntmps90
  go_upto_region 1 with (fail)
  generalize hW:W.alloc (.cells #[kp gm] 49)=W1;have hb1:Below W.heap.size W W1:=by rw [← hW];exact qaA (Below.refl _ _) _
  have HB1:=aM hb1;have hab:W1.cell? ⟨W.heap.size,0,none⟩=some (kp gm):=by rw [← hW];exact Joins.cell_of_block (qaN _ _ _) 0
  have HAB:=aM hab;have H1:=aM (H.out.grow hb1);have y6:W1.cell? ⟨gm,6,none⟩=some (.slice (some ⟨ge,0,none⟩) m.lebs.length ce):=H1.out.cell 6;have HMP:=aM (fun (w:World) (hb:Below W1.heap.size W1 w)=>qcT (H1.out.grow hb));have HCN:=aM (fun (w:World) (hb:Below W1.heap.size W1 w)=>qdF (H1.out.grow hb) ⟨W.heap.size,0,none⟩ (qaF HAB.out hb) s A c xss HC.out (HP.out.later (MK.of_below (qaC HB1.out hb))));have HPW:=aM (fun (w:World) (hb:Below W1.heap.size W1 w)=>qdQ (H1.out.grow hb));have HSP:=aM (fun (w:World) (hb:Below W1.heap.size W1 w)=>qcS (H1.out.grow hb));clear hW hb1;rw [h4] at HCN;clear h4
  go_wp2_with (first
   | (go_at_call 26;(with_reducible refine (HMP.out _ (Below.refl _ _)).mono ?_);rintro x w2 ⟨rfl,hb2⟩;have HB2:=aM hb2;have ab2:=qaF hab hb2;clear hb2)
   | (go_at_call 135;(with_reducible refine (HCN.out _ HB2.out).mono ?_);rintro x w3 ⟨rfl,hb3⟩;have HB3:=aM (qaC HB2.out hb3);have ab3:=qaF hab HB3.out;clear hb3)
   | (go_at_call 96;(with_reducible refine (HPW.out _ HB3.out).mono ?_);rintro x w4 ⟨rfl,hb4⟩;have HB4:=aM (qaC HB3.out hb4);have ab4:=qaF hab HB4.out;clear hb4)
   | (go_at_call 40;(with_reducible refine (HSP.out _ HB4.out).mono ?_);rintro x w5 ⟨rfl,hb5⟩;have HB5:=aM (qaC HB4.out hb5);clear hb5))
  go_ret;rw [HE.out];exact ⟨rfl,qaC HB1.out HB3.out⟩
 | false =>
  have HEE:=aM (show qfV a m leb xss=if ¬ qjR a m=0 then qjR a m else if qeE m=true then 30 else 0 from if_neg (fun h=>by
   rcases h with h|h|h|h
   ·exact h1 h
   ·exact h2 h
   ·exact h3 h
   ·rw [h4] at h;exact absurd h (by decide)))
  by_cases hpw:qjR a m=0
  ·rw [hpw,if_neg (by decide)] at HEE
   cases hsp:qeE m with
   | true =>
    rw [hsp,if_pos rfl] at HEE;clear h1 h2 h3 hgP;go_enter Tryz.func90,Tryz.ntmps90
    go_upto_region 1 with (fail)
    generalize hW:W.alloc (.cells #[kp gm] 49)=W1;have hb1:Below W.heap.size W W1:=by rw [← hW];exact qaA (Below.refl _ _) _
    have HB1:=aM hb1;have hab:W1.cell? ⟨W.heap.size,0,none⟩=some (kp gm):=by rw [← hW];exact Joins.cell_of_block (qaN _ _ _) 0
    have HAB:=aM hab;have H1:=aM (H.out.grow hb1);have y6:W1.cell? ⟨gm,6,none⟩=some (.slice (some ⟨ge,0,none⟩) m.lebs.length ce):=H1.out.cell 6;have HMP:=aM (fun (w:World) (hb:Below W1.heap.size W1 w)=>qcT (H1.out.grow hb));have HCN:=aM (fun (w:World) (hb:Below W1.heap.size W1 w)=>qdF (H1.out.grow hb) ⟨W.heap.size,0,none⟩ (qaF HAB.out hb) s A c xss HC.out (HP.out.later (MK.of_below (qaC HB1.out hb))));have HPW:=aM (fun (w:World) (hb:Below W1.heap.size W1 w)=>qdQ (H1.out.grow hb));have HSP:=aM (fun (w:World) (hb:Below W1.heap.size W1 w)=>qcS (H1.out.grow hb));clear hW hb1;rw [h4] at HCN;rw [hpw] at HPW;rw [hsp] at HSP;clear h4 hpw hsp
    go_wp2_with (first
     | (go_at_call 26;(with_reducible refine (HMP.out _ (Below.refl _ _)).mono ?_);rintro x w2 ⟨rfl,hb2⟩;have HB2:=aM hb2;have ab2:=qaF hab hb2;clear hb2)
     | (go_at_call 135;(with_reducible refine (HCN.out _ HB2.out).mono ?_);rintro x w3 ⟨rfl,hb3⟩;have HB3:=aM (qaC HB2.out hb3);have ab3:=qaF hab HB3.out;clear hb3)
     | (go_at_call 96;(with_reducible refine (HPW.out _ HB3.out).mono ?_);rintro x w4 ⟨rfl,hb4⟩;have HB4:=aM (qaC HB3.out hb4);have ab4:=qaF hab HB4.out;clear hb4)
     | (go_at_call 40;(with_reducible refine (HSP.out _ HB4.out).mono ?_);rintro x w5 ⟨rfl,hb5⟩;have HB5:=aM (qaC HB4.out hb5);clear hb5))
    go_ret;rw [HEE.out];exact ⟨rfl,qaC HB1.out HB5.out⟩
   | false =>
    rw [hsp,if_neg (by decide)] at HEE;clear h1 h2 h3 hgP;go_enter Tryz.func90,Tryz.ntmps90
    go_upto_region 1 with (fail)
    generalize hW:W.alloc (.cells #[kp gm] 49)=W1;have hb1:Below W.heap.size W W1:=by rw [← hW];exact qaA (Below.refl _ _) _
    have HB1:=aM hb1;have hab:W1.cell? ⟨W.heap.size,0,none⟩=some (kp gm):=by rw [← hW];exact Joins.cell_of_block (qaN _ _ _) 0
    have HAB:=aM hab;have H1:=aM (H.out.grow hb1);have y6:W1.cell? ⟨gm,6,none⟩=some (.slice (some ⟨ge,0,none⟩) m.lebs.length ce):=H1.out.cell 6;have HMP:=aM (fun (w:World) (hb:Below W1.heap.size W1 w)=>qcT (H1.out.grow hb));have HCN:=aM (fun (w:World) (hb:Below W1.heap.size W1 w)=>qdF (H1.out.grow hb) ⟨W.heap.size,0,none⟩ (qaF HAB.out hb) s A c xss HC.out (HP.out.later (MK.of_below (qaC HB1.out hb))));have HPW:=aM (fun (w:World) (hb:Below W1.heap.size W1 w)=>qdQ (H1.out.grow hb));have HSP:=aM (fun (w:World) (hb:Below W1.heap.size W1 w)=>qcS (H1.out.grow hb));clear hW hb1;rw [h4] at HCN;rw [hpw] at HPW;rw [hsp] at HSP;clear h4 hpw hsp
    go_wp2_with (first
     | (go_at_call 26;(with_reducible refine (HMP.out _ (Below.refl _ _)).mono ?_);rintro x w2 ⟨rfl,hb2⟩;have HB2:=aM hb2;have ab2:=qaF hab hb2;clear hb2)
     | (go_at_call 135;(with_reducible refine (HCN.out _ HB2.out).mono ?_);rintro x w3 ⟨rfl,hb3⟩;have HB3:=aM (qaC HB2.out hb3);have ab3:=qaF hab HB3.out;clear hb3)
     | (go_at_call 96;(with_reducible refine (HPW.out _ HB3.out).mono ?_);rintro x w4 ⟨rfl,hb4⟩;have HB4:=aM (qaC HB3.out hb4);have ab4:=qaF hab HB4.out;clear hb4)
     | (go_at_call 40;(with_reducible refine (HSP.out _ HB4.out).mono ?_);rintro x w5 ⟨rfl,hb5⟩;have HB5:=aM (qaC HB4.out hb5);clear hb5))
    go_ret;rw [HEE.out];exact ⟨rfl,qaC HB1.out HB5.out⟩
  ·rw [if_pos hpw] at HEE;have d6:(qjR a m==0)=false:=by simp only [beq_eq_false_iff_ne];exact hpw
   have d6p:(qjR a m=0)=False:=eq_false hpw;clear h1 h2 h3 hgP;go_enter Tryz.func90,Tryz.ntmps90
   go_upto_region 1 with (fail)
   generalize hW:W.alloc (.cells #[kp gm] 49)=W1;have hb1:Below W.heap.size W W1:=by rw [← hW];exact qaA (Below.refl _ _) _
   have HB1:=aM hb1;have hab:W1.cell? ⟨W.heap.size,0,none⟩=some (kp gm):=by rw [← hW];exact Joins.cell_of_block (qaN _ _ _) 0
   have HAB:=aM hab;have H1:=aM (H.out.grow hb1);have y6:W1.cell? ⟨gm,6,none⟩=some (.slice (some ⟨ge,0,none⟩) m.lebs.length ce):=H1.out.cell 6;have HMP:=aM (fun (w:World) (hb:Below W1.heap.size W1 w)=>qcT (H1.out.grow hb));have HCN:=aM (fun (w:World) (hb:Below W1.heap.size W1 w)=>qdF (H1.out.grow hb) ⟨W.heap.size,0,none⟩ (qaF HAB.out hb) s A c xss HC.out (HP.out.later (MK.of_below (qaC HB1.out hb))));have HPW:=aM (fun (w:World) (hb:Below W1.heap.size W1 w)=>qdQ (H1.out.grow hb));have HSP:=aM (fun (w:World) (hb:Below W1.heap.size W1 w)=>qcS (H1.out.grow hb));clear hW hb1;rw [h4] at HCN;clear h4
   go_wp2_with (first
    | (go_at_call 26;(with_reducible refine (HMP.out _ (Below.refl _ _)).mono ?_);rintro x w2 ⟨rfl,hb2⟩;have HB2:=aM hb2;have ab2:=qaF hab hb2;clear hb2)
    | (go_at_call 135;(with_reducible refine (HCN.out _ HB2.out).mono ?_);rintro x w3 ⟨rfl,hb3⟩;have HB3:=aM (qaC HB2.out hb3);have ab3:=qaF hab HB3.out;clear hb3)
    | (go_at_call 96;(with_reducible refine (HPW.out _ HB3.out).mono ?_);rintro x w4 ⟨rfl,hb4⟩;have HB4:=aM (qaC HB3.out hb4);have ab4:=qaF hab HB4.out;clear hb4)
    | (go_at_call 40;(with_reducible refine (HSP.out _ HB4.out).mono ?_);rintro x w5 ⟨rfl,hb5⟩;have HB5:=aM (qaC HB4.out hb5);clear hb5))
   go_ret;rw [HEE.out];exact ⟨rfl,qaC HB1.out HB4.out⟩
end
section
open Go.Shelf Plain
variable {w0 W W':World} {gm gc gl cl ge ce:Nat} {a a':AC} {m m':AM}
theorem quS (h:Man w0 W gm gc gl cl ge ce a m) (hs:0≤m.seq) (leb:Int):Calls Tryz.prog 137 #[kp gm,.int .i64 leb,.int .i64 0,fnV 138 #[] #[],fnV 95 #[kp gm] #[]] W fun x w'=>∃ v:Value,x=.returned (.tuple #[.int .i64 (qaZ pkL pg0 leb 0 (qcA m.l+1) true a m).1,v])∧EV w' v (qaZ pkL pg0 leb 0 (qcA m.l+1) true a m).2.1∧Man w0 w' gm gc gl cl ge ce (qaZ pkL pg0 leb 0 (qcA m.l+1) true a m).2.2.1 (qaZ pkL pg0 leb 0 (qcA m.l+1) true a m).2.2.2∧MK [gm,gl] W w' :=
 vbC h [gm,gl] (by simp) (by simp) leb 0 hs (qcA m.l+1) (Nat.lt_succ_self _) pkL pg0 (fun _ _ _=>True) (fun _ _=>True) trivial trivial (fun _ _ _ _ _=>trivial)
  (fun _ _ o _=>qhA o.l)
  (fun _ w b o hm _ _=>(qoF hm).mono (by rintro x w' ⟨rfl,hb⟩;exact ⟨rfl,hm.grow hb,trivial,MK.of_below hb⟩))
  (fun _ w b o hm _ _=>(qsT w).mono (by rintro x w' ⟨rfl,hb⟩;exact ⟨none,0,rfl,Nat.le_refl _,qeK.nil _ _ _ _,hm.grow hb,MK.of_below hb⟩))
  (fun _ _ _ _ _ _ _ _ _=>trivial)
theorem qiG (pk:Bool→AM→Int) (pg:AC→AM→List (List Int)) (leb least:Int):∀ (q:Nat) (st:Bool) (a:AC) (m:AM),(qaZ pk pg leb least q st a m).2.2.2.lebs=m.lebs
 | 0,_,_,_=>rfl
 | q+1,st,a,m=>by
  have key:(qbV a m (pk st m).toNat leb least (pg a m)).2.2.lebs=m.lebs:=by
   unfold qbV
   split
   ·rfl
   split <;> rfl
  unfold qaZ
  split
  ·rfl
  split
  ·rw [qiG pk pg leb least q];exact key
  ·exact key
def qeD (rt:AC→AM→Int × AC × AM) (q:Nat) (a:AC) (m:AM) (k:Nat) (x:List Int):Int × AC × AM :=
 if (qgI (qcA m.l+1) a m k).1=0 then qfN rt q (qgI (qcA m.l+1) a m k).2.1 (qgI (qcA m.l+1) a m k).2.2 k x else qgI (qcA m.l+1) a m k
theorem qxD (h:Man w0 W gm gc gl cl ge ce a m) (hs:0≤m.seq) (k:Nat) (hk:k < m.lebs.length) (A:Option Addr) (c:Nat) (x:List Int) (hx:∀ w',Below w0.heap.size w0 w'→MK [gm,gl,ge] W w'→Kd.C kB w' A x.length x) (hc:x.length≤c)
  (rt:AC→AM→Int × AC × AM) (q:Nat) (I:Nat→AC→AM→Prop) (hI:(qgI (qcA m.l+1) a m k).1=0→I q (qgI (qcA m.l+1) a m k).2.1 (qgI (qcA m.l+1) a m k).2.2) (hI0:∀ b o,¬ I 0 b o)
  (hIk:∀ q b o,I (q+1) b o→o.ok∧k < o.lebs.length∧(∃ i:Nat,o.lebs.getD k 0=(i:Int))∧0≤(qcB o (k:Int)).1.f3∧(qcB o (k:Int)).1.f3≤1000)
  (hrt:∀ q w b o,I (q+1) b o→(qaY b (o.lebs.getD k 0) ((qcB o (k:Int)).1.f3+2) x).1=5→Man w0 w gm gc gl cl ge ce (qaY b (o.lebs.getD k 0) ((qcB o (k:Int)).1.f3+2) x).2 o→Calls Tryz.prog 139 #[kp gm,.int .i64 k] w fun z w'=>∃ v:Value,z=.returned v∧EV w' v (rt (qaY b (o.lebs.getD k 0) ((qcB o (k:Int)).1.f3+2) x).2 o).1∧Man w0 w' gm gc gl cl ge ce (rt (qaY b (o.lebs.getD k 0) ((qcB o (k:Int)).1.f3+2) x).2 o).2.1 (rt (qaY b (o.lebs.getD k 0) ((qcB o (k:Int)).1.f3+2) x).2 o).2.2∧MK [gm,gl,ge] w w'∧((rt (qaY b (o.lebs.getD k 0) ((qcB o (k:Int)).1.f3+2) x).2 o).1=0→I q (rt (qaY b (o.lebs.getD k 0) ((qcB o (k:Int)).1.f3+2) x).2 o).2.1 (rt (qaY b (o.lebs.getD k 0) ((qcB o (k:Int)).1.f3+2) x).2 o).2.2)) :
  Calls Tryz.prog 91 #[kp gm,.int .i64 k,.slice A x.length c] W fun z w'=>∃ v:Value,z=.returned v∧EV w' v (qeD rt q a m k x).1∧Man w0 w' gm gc gl cl ge ce (qeD rt q a m k x).2.1 (qeD rt q a m k x).2.2∧MK [gm,gl,ge] W w':=by
 have H:=aM h;have HXD:=aM (quS h hs (k:Int));have HX:=aM hx;have HXC:=aM hc;have HI0:=aM hI0;have HIK:=aM hIk;have HRT:=aM hrt;have HQ:=aM hk;have HSS:=aM (show ∀ z,z ∈ [gm,gl]→z ∈ [gm,gl,ge] from fun z hz=>by simp only [List.mem_cons,List.not_mem_nil,or_false] at hz ⊢;rcases hz with h|h;exact .inl h;exact .inr (.inl h));have y6:W.cell? ⟨gm,6,none⟩=some (.slice (some ⟨ge,0,none⟩) m.lebs.length ce):=h.cell 6
 obtain ⟨p,hp⟩:∃ p,p=m.lebs.getD k 0:=⟨_,rfl⟩
 have yk:W.cell? ⟨ge,k,none⟩=some (.int .i64 p):=by
  have:=h.b.cell k hk;rw [hp,List.getD_eq_getElem?_getD,List.getElem?_eq_getElem hk];exact this
 have hq:(k < m.lebs.length)=True:=eq_true hk;have hqi:((k:Int) < (m.lebs.length:Int))=True:=eq_true (by omega)
 by_cases hneg:p < 0
 ·have d0:decide (p < 0)=true:=decide_eq_true hneg;have d0n:(p < 0)=True:=eq_true hneg;have HCL:=aM (show qgI (qcA m.l+1) a m k=if (qaZ pkL pg0 (k:Int) 0 (qcA m.l+1) true a m).2.1=0 then (0,(qaZ pkL pg0 (k:Int) 0 (qcA m.l+1) true a m).2.2.1,(qaZ pkL pg0 (k:Int) 0 (qcA m.l+1) true a m).2.2.2.leb k (qaZ pkL pg0 (k:Int) 0 (qcA m.l+1) true a m).1) else ((qaZ pkL pg0 (k:Int) 0 (qcA m.l+1) true a m).2.1,(qaZ pkL pg0 (k:Int) 0 (qcA m.l+1) true a m).2.2.1,(qaZ pkL pg0 (k:Int) 0 (qcA m.l+1) true a m).2.2.2) from if_pos (by rw [← hp];exact hneg));have HLB:=aM (qiG pkL pg0 (k:Int) 0 (qcA m.l+1) true a m);generalize qaZ pkL pg0 (k:Int) 0 (qcA m.l+1) true a m=r at HXD HCL HLB;obtain ⟨i1,e1,a1,m1⟩:=r;simp only at HXD HCL HLB;clear h hs hx hc hI0 hIk hrt hk hp hneg;go_enter Tryz.func91,Tryz.ntmps91
  go_upto_region 3 with (first
   | (go_at_call 137;(with_reducible refine HXD.out.mono ?_);rintro z w1 ⟨v1,rfl,hv1,h1,hk1⟩;have HV1:=aM hv1;have H1:=aM h1;have HK1:=aM (hk1.mono HSS.out);clear hv1 h1 hk1))
  clear y6 yk
  by_cases h0:e1=0
  ·subst h0;have HCL2:=aM (HCL.out.trans (if_pos rfl));have HE0:=aM (show qeD rt q a m k x=qfN rt q a1 (m1.leb k i1) k x by unfold qeD;rw [HCL2.out];exact if_pos rfl);have HI1:=aM (show I q a1 (m1.leb k i1) by rw [HCL2.out] at hI;exact hI rfl)
   rcases HV1.out.symm with ⟨h9,-⟩|⟨-,hv⟩
   ·exact absurd rfl h9
   subst hv;have hk1:k < m1.lebs.length:=by rw [HLB.out];exact HQ.out
   have y6:w1.cell? ⟨gm,6,none⟩=some (.slice (some ⟨ge,0,none⟩) m1.lebs.length ce):=H1.out.cell 6
   obtain ⟨pw1,yk⟩:∃ pw1:Int,w1.cell? ⟨ge,k,none⟩=some (.int .i64 pw1):=⟨_,H1.out.b.cell k hk1⟩
   have fk:=H1.out.b.frozen k;have hq:(k < m1.lebs.length)=True:=eq_true hk1;have hqi:((k:Int) < (m1.lebs.length:Int))=True:=eq_true (by omega);have H2:=aM (H1.out.setI k hk1 i1);have HK2:=aM (by obtain ⟨cells,hg,-⟩:=H1.out.b;exact HK1.out.set hg (.inr (.inl rfl)) k (.int .i64 i1));clear hI HCL HCL2 HV1 hk1
   go_upto_region 6 with (fail)
   generalize w1.setCell ⟨ge,k,none⟩ (.int .i64 i1)=W2 at H2 HK2 ⊢;clear y6 yk fk hq hqi H1 HK1 HLB d0 d0n;have H1:=aM (show Man w0 W2 gm gc gl cl ge ce a1 (m1.leb k i1) from H2.out);have HK1:=HK2;clear H2 HK2;clear H HQ HXD;go_loopg [] q (fun kq wr=>∃ (b:AC) (o:AM),qaK (qeD rt q a m k x=qfN rt kq b o k x)∧qaK (Man w0 wr gm gc gl cl ge ce b o)∧qaK (MK [gm,gl,ge] W wr)∧qaK (I kq b o)∧qaK (kq≤q));case atStart=>exact ⟨_,_,HE0,H1,HK1,HI1,⟨Nat.le_refl _⟩⟩
   case round =>
    clear HE0 H1 HK1 HI1;obtain ⟨b,o,HP,HM,HK,HI,HKN⟩:=hrel
    cases gk with
    | zero=>exact absurd HI.out (HI0.out b o)
    | succ k1 =>
     obtain ⟨hok,hkl,⟨i,hli⟩,hf3⟩:=HIK.out k1 b o HI.out;have hil:i < o.l.length:=by have:=hok k hkl;omega
     have hib:i < b.g.B:=by have:=HM.out.ln;omega
     obtain ⟨u,hu⟩:∃ u,u=(qcB o (k:Int)).1.f3:=⟨_,rfl⟩
     have HU:=aM (fun (w:World) (hb:Below wr.heap.size wr w)=>qhR (HM.out.grow hb) hok (k:Int));rw [← hu] at HU hf3;have y6:wr.cell? ⟨gm,6,none⟩=some (.slice (some ⟨ge,0,none⟩) o.lebs.length ce):=HM.out.cell 6;have y0:wr.cell? ⟨gm,0,none⟩=some (cp gc):=HM.out.cell 0
     have yk:wr.cell? ⟨ge,k,none⟩=some (.int .i64 i):=by
      have:=HM.out.b.cell k hkl;rw [← hli,List.getD_eq_getElem?_getD,List.getElem?_eq_getElem hkl];exact this
     have hq:(k < o.lebs.length)=True:=eq_true hkl;have hqi:((k:Int) < (o.lebs.length:Int))=True:=eq_true (by omega);have hwu:wrap64 (u+2)=u+2:=by unfold wrap64;omega
     have hwk:IntKind.i64.wrap (u+2)=u+2:=by rw [qbL];exact hwu
     have HPR:=aM (fun (w:World) (hb:Below wr.heap.size wr w)=>(HM.out.grow hb).chip.program (i:Int) (u+2) A c x (fun w' hb2 hk2=>HX.out w' hb2 ((HK.out.trans (MK.of_below hb)).trans (MK.of_keeps hk2))) HXC.out);have HG:=aM (qeM b (i:Int) (u+2) x)
     have HPS:=aM (show qeD rt q a m k x=if (qaY b (i:Int) (u+2) x).1=0 then (0,(qaY b (i:Int) (u+2) x).2,o.more i) else if (qaY b (i:Int) (u+2) x).1=5 then (if (rt (qaY b (i:Int) (u+2) x).2 o).1=0 then qfN rt k1 (rt (qaY b (i:Int) (u+2) x).2 o).2.1 (rt (qaY b (i:Int) (u+2) x).2 o).2.2 k x else rt (qaY b (i:Int) (u+2) x).2 o) else ((qaY b (i:Int) (u+2) x).1,(qaY b (i:Int) (u+2) x).2,o.die (qaY b (i:Int) (u+2) x).1) by
      rw [HP.out]
      conv=>lhs;unfold qfN
      rw [hli,← hu,Int.toNat_natCast])
     have HRT1:=aM (fun (w:World)=>HRT.out k1 w b o HI.out);rw [hli,← hu] at HRT1;generalize qaY b (i:Int) (u+2) x=r at HPR HG HPS HRT1;obtain ⟨e1,b1⟩:=r;simp only at HPR HG HPS HRT1;have HIL:=aM hil;clear hu hok hkl hil hib hf3 hli HI
     go_upto_region 7 with (fail)
     go_cut [9,10] from 38 to 82 (fun v9 v10 wx=>v9=.int .i64 i∧qaK (FV wx v10 e1)∧qaK (Man w0 wx gm gc gl cl ge ce b1 (o.die e1))∧qaK (MK [gm,gl,ge] W wx))
     case first =>
      go_region_with (first
       | (go_at_call 27;(with_reducible refine (HU.out _ (by first|exact qaP (Below.refl _ _)|exact Below.refl _ _)).mono ?_);rintro z w1 ⟨rfl,hb1⟩;have HB1:=aM (qaC (qaP (Below.refl _ _)) hb1);have z0:=qaF y0 HB1.out;clear hb1)
       | (go_at_call 58;(with_reducible refine (HPR.out _ HB1.out).mono ?_);rintro z w2 ⟨rfl,hc2,hk2⟩;have H2:=aM ((HM.out.grow HB1.out).onChip hc2 hk2 HG.out);have HK2:=aM ((HK.out.trans (MK.of_below HB1.out)).trans (MK.of_keeps hk2));clear hc2 hk2)
       | (go_at_call 131;(with_reducible refine (qgG H2.out (i:Int) e1).mono ?_);rintro z w3 ⟨v3,rfl,hv,h3,hk3⟩;have HV:=aM hv;have H3:=aM h3;have HK3:=aM (HK2.out.trans (hk3.mono HSS.out));clear hv h3 hk3))
      all_goals go_wp2
      all_goals go_meet
      all_goals exact ⟨rfl,HV,H3,HK3⟩
     case rest =>
      obtain ⟨rfl,HV,H4,HK4⟩:=hcut;generalize wc=w4 at HV H4 HK4 ⊢;clear y0 y6 yk HM HK HU HPR
      by_cases h0:e1=0
      ·subst h0;have HE:=aM (HPS.out.trans (if_pos rfl))
       rcases HV.out.symm with ⟨h9,-⟩|⟨-,hv⟩
       ·exact absurd rfl h9
       subst hv;rw [qgS o (show (0:Int) ≠ 6 by decide)] at H4
       obtain ⟨f,hf⟩:∃ f,f=(o.l.getD i default).f3:=⟨_,rfl⟩
       have hml:i < o.l.length:=HIL.out;have hfl:(o.l[i]'hml).f3=f:=by rw [hf,qbN hml]
       have y5:w4.cell? ⟨gm,5,none⟩=some (.slice (some ⟨gl,0,none⟩) o.l.length cl):=H4.out.cell 5;obtain ⟨-,-,-,z3,-,-⟩:=H4.out.l.cell i HIL.out;rw [hfl] at z3;have f3:=H4.out.l.frozen (i*6+3);have hq:(i < o.l.length)=True:=eq_true HIL.out;have hqi:((i:Int) < (o.l.length:Int))=True:=eq_true (by have:=HIL.out;omega);have hu:=Tryz.underlying68;have HNW:=aM (H4.out.setF i HIL.out { o.l.getD i default with f3:=wrap64 (f+1) } 3 (by decide) (fun t ht htj=>by rw [qbN hml];match t,ht,htj with | 0,_,_=>rfl | 1,_,_=>rfl | 2,_,_=>rfl | 4,_,_=>rfl | 5,_,_=>rfl));have HNK:=aM (by obtain ⟨cells,hg,-⟩:=H4.out.l;exact HK4.out.setF hg (i*6+3) (.int .i64 (wrap64 (f+1))));have HMO:=aM (show o.more i=o.put i { o.l.getD i default with f3:=wrap64 (f+1) } by unfold AM.more;rw [hf]);clear hf hml hfl HV HRT1;go_wp2;go_ret;rw [HE.out,HMO.out];exact ⟨_,rfl,.inl ⟨rfl,rfl⟩,HNW.out,HNK.out⟩
      ·have HPS2:=aM (HPS.out.trans (if_neg h0));have HIS:=aM (qfH HV.out.ev 5 (by decide))
       rcases HV.out with ⟨h9,-⟩|⟨h9,g,bb,hv,hf⟩
       ·exact absurd h9 h0
       subst hv;clear hf h9
       by_cases h5:e1=5
       ·subst h5;have HE:=aM (HPS2.out.trans (if_pos rfl));rw [show ((5:Int)==5)=true from rfl] at HIS;rw [qgS o (show (5:Int) ≠ 6 by decide)] at H4;have HR5:=aM (fun (w:World)=>HRT1.out w rfl);generalize rt b1 o=t at HE HR5;obtain ⟨e6,b6,o6⟩:=t;simp only at HE HR5;clear h0 HPS2
        by_cases h6:e6=0
        ·subst h6;have HEE:=aM (HE.out.trans (if_pos rfl))
         go_wp2_with (first
          | (go_at_call 129;(with_reducible refine HIS.out.mono ?_);rintro z w5 ⟨rfl,hb⟩;have H5:=aM (H4.out.grow hb);have HK5:=aM (HK4.out.trans (MK.of_below hb));clear hb)
          | (go_at_call 139;(with_reducible refine (HR5.out _ H5.out).mono ?_);rintro z w6 ⟨v6,rfl,hv6,h6,hk6,hi6⟩;(rcases hv6.symm with ⟨h9,-⟩|⟨-,rfl⟩;exact absurd rfl h9);have H6:=aM h6;have HK6:=aM (HK5.out.trans hk6);have HI6:=aM (hi6 (by trivial));clear h6 hk6 hi6))
         go_roundg k1;case measure=>have:=HKN.out;omega
         case rel=>exact ⟨_,_,HEE,H6,HK6,HI6,⟨by have:=HKN.out;omega⟩⟩
        ·have HEE:=aM (HE.out.trans (if_neg h6));have HN6:=aM h6;clear h6
         go_upto_region 14 with (first
          | (go_at_call 129;(with_reducible refine HIS.out.mono ?_);rintro z w5 ⟨rfl,hb⟩;have H5:=aM (H4.out.grow hb);have HK5:=aM (HK4.out.trans (MK.of_below hb));clear hb)
          | (go_at_call 139;(with_reducible refine (HR5.out _ H5.out).mono ?_);rintro z w6 ⟨v6,rfl,hv6,h6,hk6,hi6⟩;have HV6:=aM hv6;have H6:=aM h6;have HK6:=aM (HK5.out.trans hk6);clear hv6 h6 hk6 hi6))
         rcases HV6.out with ⟨h9,-⟩|⟨h9,hv|⟨g2,bb2,hv,hf⟩⟩
         ·exact absurd h9 HN6.out
         ·subst hv;clear h9;go_wp2;go_ret;rw [HEE.out];exact ⟨_,rfl,HV6.out,H6.out,HK6.out⟩
         ·subst hv;clear h9 hf;go_wp2;go_ret;rw [HEE.out];exact ⟨_,rfl,HV6.out,H6.out,HK6.out⟩
       ·have HE:=aM (HPS2.out.trans (if_neg h5));rw [show (e1==5)=false by simp only [beq_eq_false_iff_ne];exact h5] at HIS;clear h0 h5 HPS2 HRT1
        go_wp2_with (first
         | (go_at_call 129;(with_reducible refine HIS.out.mono ?_);rintro z w5 ⟨rfl,hb⟩;have HB5:=aM hb;clear hb))
        go_ret;rw [HE.out];exact ⟨_,rfl,(HV.out.grow HB5.out).ev,H4.out.grow HB5.out,HK4.out.trans (MK.of_below HB5.out)⟩
  ·have HCL2:=aM (HCL.out.trans (if_neg h0));have HE0:=aM (show qeD rt q a m k x=(e1,a1,m1) by unfold qeD;rw [HCL2.out];exact if_neg h0)
   rcases HV1.out with ⟨h9,-⟩|⟨h9,hv|⟨g2,bb2,hv,hf⟩⟩
   ·exact absurd h9 h0
   ·subst hv;clear h9 h0 hI;go_wp2;go_ret;rw [HE0.out];exact ⟨_,rfl,HV1.out,H1.out,HK1.out⟩
   ·subst hv;clear h9 hf h0 hI;go_wp2;go_ret;rw [HE0.out];exact ⟨_,rfl,HV1.out,H1.out,HK1.out⟩
 ·have d0:decide (p < 0)=false:=decide_eq_false hneg;have d0n:(p < 0)=False:=eq_false hneg;have HCL:=aM (show qgI (qcA m.l+1) a m k=(0,a,m) from if_neg (by rw [← hp];exact hneg));have HE0:=aM (show qeD rt q a m k x=qfN rt q a m k x by unfold qeD;rw [HCL.out];exact if_pos rfl);have HI1:=aM (show I q a m by rw [HCL.out] at hI;exact hI rfl);have H1:=H;have HK1:=aM (MK.refl [gm,gl,ge] W);clear h hs hx hc hI hI0 hIk hrt hk hp hneg HCL;go_enter Tryz.func91,Tryz.ntmps91
  go_upto_region 6 with (fail)
  clear y6 yk d0 d0n hq hqi;clear H HQ HXD;go_loopg [] q (fun kq wr=>∃ (b:AC) (o:AM),qaK (qeD rt q a m k x=qfN rt kq b o k x)∧qaK (Man w0 wr gm gc gl cl ge ce b o)∧qaK (MK [gm,gl,ge] W wr)∧qaK (I kq b o)∧qaK (kq≤q));case atStart=>exact ⟨_,_,HE0,H1,HK1,HI1,⟨Nat.le_refl _⟩⟩
  case round =>
   clear HE0 H1 HK1 HI1;obtain ⟨b,o,HP,HM,HK,HI,HKN⟩:=hrel
   cases gk with
   | zero=>exact absurd HI.out (HI0.out b o)
   | succ k1 =>
    obtain ⟨hok,hkl,⟨i,hli⟩,hf3⟩:=HIK.out k1 b o HI.out;have hil:i < o.l.length:=by have:=hok k hkl;omega
    have hib:i < b.g.B:=by have:=HM.out.ln;omega
    obtain ⟨u,hu⟩:∃ u,u=(qcB o (k:Int)).1.f3:=⟨_,rfl⟩
    have HU:=aM (fun (w:World) (hb:Below wr.heap.size wr w)=>qhR (HM.out.grow hb) hok (k:Int));rw [← hu] at HU hf3;have y6:wr.cell? ⟨gm,6,none⟩=some (.slice (some ⟨ge,0,none⟩) o.lebs.length ce):=HM.out.cell 6;have y0:wr.cell? ⟨gm,0,none⟩=some (cp gc):=HM.out.cell 0
    have yk:wr.cell? ⟨ge,k,none⟩=some (.int .i64 i):=by
     have:=HM.out.b.cell k hkl;rw [← hli,List.getD_eq_getElem?_getD,List.getElem?_eq_getElem hkl];exact this
    have hq:(k < o.lebs.length)=True:=eq_true hkl;have hqi:((k:Int) < (o.lebs.length:Int))=True:=eq_true (by omega);have hwu:wrap64 (u+2)=u+2:=by unfold wrap64;omega
    have hwk:IntKind.i64.wrap (u+2)=u+2:=by rw [qbL];exact hwu
    have HPR:=aM (fun (w:World) (hb:Below wr.heap.size wr w)=>(HM.out.grow hb).chip.program (i:Int) (u+2) A c x (fun w' hb2 hk2=>HX.out w' hb2 ((HK.out.trans (MK.of_below hb)).trans (MK.of_keeps hk2))) HXC.out);have HG:=aM (qeM b (i:Int) (u+2) x)
    have HPS:=aM (show qeD rt q a m k x=if (qaY b (i:Int) (u+2) x).1=0 then (0,(qaY b (i:Int) (u+2) x).2,o.more i) else if (qaY b (i:Int) (u+2) x).1=5 then (if (rt (qaY b (i:Int) (u+2) x).2 o).1=0 then qfN rt k1 (rt (qaY b (i:Int) (u+2) x).2 o).2.1 (rt (qaY b (i:Int) (u+2) x).2 o).2.2 k x else rt (qaY b (i:Int) (u+2) x).2 o) else ((qaY b (i:Int) (u+2) x).1,(qaY b (i:Int) (u+2) x).2,o.die (qaY b (i:Int) (u+2) x).1) by
     rw [HP.out]
     conv=>lhs;unfold qfN
     rw [hli,← hu,Int.toNat_natCast])
    have HRT1:=aM (fun (w:World)=>HRT.out k1 w b o HI.out);rw [hli,← hu] at HRT1;generalize qaY b (i:Int) (u+2) x=r at HPR HG HPS HRT1;obtain ⟨e1,b1⟩:=r;simp only at HPR HG HPS HRT1;have HIL:=aM hil;clear hu hok hkl hil hib hf3 hli HI
    go_upto_region 7 with (fail)
    go_cut [9,10] from 38 to 82 (fun v9 v10 wx=>v9=.int .i64 i∧qaK (FV wx v10 e1)∧qaK (Man w0 wx gm gc gl cl ge ce b1 (o.die e1))∧qaK (MK [gm,gl,ge] W wx))
    case first =>
     go_region_with (first
      | (go_at_call 27;(with_reducible refine (HU.out _ (by first|exact qaP (Below.refl _ _)|exact Below.refl _ _)).mono ?_);rintro z w1 ⟨rfl,hb1⟩;have HB1:=aM (qaC (qaP (Below.refl _ _)) hb1);have z0:=qaF y0 HB1.out;clear hb1)
      | (go_at_call 58;(with_reducible refine (HPR.out _ HB1.out).mono ?_);rintro z w2 ⟨rfl,hc2,hk2⟩;have H2:=aM ((HM.out.grow HB1.out).onChip hc2 hk2 HG.out);have HK2:=aM ((HK.out.trans (MK.of_below HB1.out)).trans (MK.of_keeps hk2));clear hc2 hk2)
      | (go_at_call 131;(with_reducible refine (qgG H2.out (i:Int) e1).mono ?_);rintro z w3 ⟨v3,rfl,hv,h3,hk3⟩;have HV:=aM hv;have H3:=aM h3;have HK3:=aM (HK2.out.trans (hk3.mono HSS.out));clear hv h3 hk3))
     all_goals go_wp2
     all_goals go_meet
     all_goals exact ⟨rfl,HV,H3,HK3⟩
    case rest =>
     obtain ⟨rfl,HV,H4,HK4⟩:=hcut;generalize wc=w4 at HV H4 HK4 ⊢;clear y0 y6 yk HM HK HU HPR
     by_cases h0:e1=0
     ·subst h0;have HE:=aM (HPS.out.trans (if_pos rfl))
      rcases HV.out.symm with ⟨h9,-⟩|⟨-,hv⟩
      ·exact absurd rfl h9
      subst hv;rw [qgS o (show (0:Int) ≠ 6 by decide)] at H4
      obtain ⟨f,hf⟩:∃ f,f=(o.l.getD i default).f3:=⟨_,rfl⟩
      have hml:i < o.l.length:=HIL.out;have hfl:(o.l[i]'hml).f3=f:=by rw [hf,qbN hml]
      have y5:w4.cell? ⟨gm,5,none⟩=some (.slice (some ⟨gl,0,none⟩) o.l.length cl):=H4.out.cell 5;obtain ⟨-,-,-,z3,-,-⟩:=H4.out.l.cell i HIL.out;rw [hfl] at z3;have f3:=H4.out.l.frozen (i*6+3);have hq:(i < o.l.length)=True:=eq_true HIL.out;have hqi:((i:Int) < (o.l.length:Int))=True:=eq_true (by have:=HIL.out;omega);have hu:=Tryz.underlying68;have HNW:=aM (H4.out.setF i HIL.out { o.l.getD i default with f3:=wrap64 (f+1) } 3 (by decide) (fun t ht htj=>by rw [qbN hml];match t,ht,htj with | 0,_,_=>rfl | 1,_,_=>rfl | 2,_,_=>rfl | 4,_,_=>rfl | 5,_,_=>rfl));have HNK:=aM (by obtain ⟨cells,hg,-⟩:=H4.out.l;exact HK4.out.setF hg (i*6+3) (.int .i64 (wrap64 (f+1))));have HMO:=aM (show o.more i=o.put i { o.l.getD i default with f3:=wrap64 (f+1) } by unfold AM.more;rw [hf]);clear hf hml hfl HV HRT1;go_wp2;go_ret;rw [HE.out,HMO.out];exact ⟨_,rfl,.inl ⟨rfl,rfl⟩,HNW.out,HNK.out⟩
     ·have HPS2:=aM (HPS.out.trans (if_neg h0));have HIS:=aM (qfH HV.out.ev 5 (by decide))
      rcases HV.out with ⟨h9,-⟩|⟨h9,g,bb,hv,hf⟩
      ·exact absurd h9 h0
      subst hv;clear hf h9
      by_cases h5:e1=5
      ·subst h5;have HE:=aM (HPS2.out.trans (if_pos rfl));rw [show ((5:Int)==5)=true from rfl] at HIS;rw [qgS o (show (5:Int) ≠ 6 by decide)] at H4;have HR5:=aM (fun (w:World)=>HRT1.out w rfl);generalize rt b1 o=t at HE HR5;obtain ⟨e6,b6,o6⟩:=t;simp only at HE HR5;clear h0 HPS2
       by_cases h6:e6=0
       ·subst h6;have HEE:=aM (HE.out.trans (if_pos rfl))
        go_wp2_with (first
         | (go_at_call 129;(with_reducible refine HIS.out.mono ?_);rintro z w5 ⟨rfl,hb⟩;have H5:=aM (H4.out.grow hb);have HK5:=aM (HK4.out.trans (MK.of_below hb));clear hb)
         | (go_at_call 139;(with_reducible refine (HR5.out _ H5.out).mono ?_);rintro z w6 ⟨v6,rfl,hv6,h6,hk6,hi6⟩;(rcases hv6.symm with ⟨h9,-⟩|⟨-,rfl⟩;exact absurd rfl h9);have H6:=aM h6;have HK6:=aM (HK5.out.trans hk6);have HI6:=aM (hi6 (by trivial));clear h6 hk6 hi6))
        go_roundg k1;case measure=>have:=HKN.out;omega
        case rel=>exact ⟨_,_,HEE,H6,HK6,HI6,⟨by have:=HKN.out;omega⟩⟩
       ·have HEE:=aM (HE.out.trans (if_neg h6));have HN6:=aM h6;clear h6
        go_upto_region 14 with (first
         | (go_at_call 129;(with_reducible refine HIS.out.mono ?_);rintro z w5 ⟨rfl,hb⟩;have H5:=aM (H4.out.grow hb);have HK5:=aM (HK4.out.trans (MK.of_below hb));clear hb)
         | (go_at_call 139;(with_reducible refine (HR5.out _ H5.out).mono ?_);rintro z w6 ⟨v6,rfl,hv6,h6,hk6,hi6⟩;have HV6:=aM hv6;have H6:=aM h6;have HK6:=aM (HK5.out.trans hk6);clear hv6 h6 hk6 hi6))
        rcases HV6.out with ⟨h9,-⟩|⟨h9,hv|⟨g2,bb2,hv,hf⟩⟩
        ·exact absurd h9 HN6.out
        ·subst hv;clear h9;go_wp2;go_ret;rw [HEE.out];exact ⟨_,rfl,HV6.out,H6.out,HK6.out⟩
        ·subst hv;clear h9 hf;go_wp2;go_ret;rw [HEE.out];exact ⟨_,rfl,HV6.out,H6.out,HK6.out⟩
      ·have HE:=aM (HPS2.out.trans (if_neg h5));rw [show (e1==5)=false by simp only [beq_eq_false_iff_ne];exact h5] at HIS;clear h0 h5 HPS2 HRT1
       go_wp2_with (first
        | (go_at_call 129;(with_reducible refine HIS.out.mono ?_);rintro z w5 ⟨rfl,hb⟩;have HB5:=aM hb;clear hb))
       go_ret;rw [HE.out];exact ⟨_,rfl,(HV.out.grow HB5.out).ev,H4.out.grow HB5.out,HK4.out.trans (MK.of_below HB5.out)⟩
end
section
open Go.Shelf Plain
variable {w0 W W':World} {gm gc gl cl ge ce:Nat} {a a':AC} {m m':AM}
theorem quU (pk:Bool→AM→Int) (pg:AC→AM→List (List Int)) (leb least:Int):∀ (q:Nat) (st:Bool) (a:AC) (m:AM),(qaZ pk pg leb least q st a m).2.2.1.g=a.g
 | 0,_,_,_=>rfl
 | q+1,st,a,m=>by
  unfold qaZ
  split
  ·rfl
  split
  ·rw [quU pk pg leb least q,qrD];exact qrL _ _ _ _ _ _
  ·exact qrL _ _ _ _ _ _
def qoE (r:Int × Int × AC × AM) (m:AM) (k:Nat):Int × AC × AM :=
 if r.2.1=0 then (if m.lebs.getD k 0 < 0 then (0,r.2.2.1,r.2.2.2.leb k r.1) else qcC r.2.2.1 (r.2.2.2.leb k r.1) (m.lebs.getD k 0).toNat) else (r.2.1,r.2.2.1,r.2.2.2)
theorem qxX (h:Man w0 W gm gc gl cl ge ce a m) (k:Nat) (hk:k < m.lebs.length) (s:List Nat) (hs:∀ x,x ∈ [gm,gl,ge]→x ∈ s) (least:Int) (pv kv:Value) (r:Int × Int × AC × AM)
  (hpl:Calls Tryz.prog 137 #[kp gm,.int .i64 k,.int .i64 least,pv,kv] W fun x w'=>∃ v:Value,x=.returned (.tuple #[.int .i64 r.1,v])∧EV w' v r.2.1∧Man w0 w' gm gc gl cl ge ce r.2.2.1 r.2.2.2∧MK s W w')
  (hl:r.2.2.2.lebs=m.lebs) (hold:m.lebs.getD k 0 < m.l.length) (hg:r.2.2.1.g=a.g) :
  Calls Tryz.prog 93 #[kp gm,.int .i64 k,.int .i64 least,pv,kv] W fun x w'=>∃ v:Value,x=.returned v∧EV w' v (qoE r m k).1∧Man w0 w' gm gc gl cl ge ce (qoE r m k).2.1 (qoE r m k).2.2∧MK s W w':=by
 have HPL:=aM hpl;have HL:=aM hl;have HQ:=aM hk;have HGE:=aM (hs ge (by simp));have HSS:=aM (show ∀ z,z ∈ [gm,gl]→z ∈ s from fun z hz=>hs z (by simp only [List.mem_cons,List.not_mem_nil,or_false] at hz ⊢;rcases hz with h|h;exact .inl h;exact .inr (.inl h)));have y6:W.cell? ⟨gm,6,none⟩=some (.slice (some ⟨ge,0,none⟩) m.lebs.length ce):=h.cell 6
 obtain ⟨p,hp⟩:∃ p,p=m.lebs.getD k 0:=⟨_,rfl⟩
 have yk:W.cell? ⟨ge,k,none⟩=some (.int .i64 p):=by
  have:=h.b.cell k hk;rw [hp,List.getD_eq_getElem?_getD,List.getElem?_eq_getElem hk];exact this
 have HPB:=aM (show p < r.2.2.1.g.B by rw [hg,← h.ln,hp];exact hold);have hq:(k < m.lebs.length)=True:=eq_true hk;have hqi:((k:Int) < (m.lebs.length:Int))=True:=eq_true (by omega);have HR:=aM (show qoE r m k=if r.2.1=0 then (if p < 0 then (0,r.2.2.1,r.2.2.2.leb k r.1) else qcC r.2.2.1 (r.2.2.2.leb k r.1) p.toNat) else (r.2.1,r.2.2.1,r.2.2.2) by rw [hp];rfl);obtain ⟨i1,e1,a1,m1⟩:=r;simp only at HPL HL HR HPB;clear h hk hs hpl hl hold hp hg;go_enter Tryz.func93,Tryz.ntmps93
 go_upto_region 3 with (first
  | (go_at_call 137;(with_reducible refine HPL.out.mono ?_);rintro z w1 ⟨v1,rfl,hv1,h1,hk1⟩;have HV1:=aM hv1;have H1:=aM h1;have HK1:=aM hk1;clear hv1 h1 hk1))
 clear y6 yk
 by_cases h0:e1=0
 ·subst h0;have HR2:=aM (HR.out.trans (if_pos rfl))
  rcases HV1.out.symm with ⟨h9,-⟩|⟨-,hv⟩
  ·exact absurd rfl h9
  subst hv;have hk1:k < m1.lebs.length:=by rw [HL.out];exact HQ.out
  have y6:w1.cell? ⟨gm,6,none⟩=some (.slice (some ⟨ge,0,none⟩) m1.lebs.length ce):=H1.out.cell 6
  obtain ⟨pw1,yk⟩:∃ pw1:Int,w1.cell? ⟨ge,k,none⟩=some (.int .i64 pw1):=⟨_,H1.out.b.cell k hk1⟩
  have fk:=H1.out.b.frozen k;have hq:(k < m1.lebs.length)=True:=eq_true hk1;have hqi:((k:Int) < (m1.lebs.length:Int))=True:=eq_true (by omega);have H2:=aM (H1.out.setI k hk1 i1);have HK2:=aM (by obtain ⟨cells,hg,-⟩:=H1.out.b;exact HK1.out.set hg (.inr (.inl rfl)) k (.int .i64 i1) HGE.out);clear HV1 hk1 HR
  go_upto_region 6 with (fail)
  generalize w1.setCell ⟨ge,k,none⟩ (.int .i64 i1)=W2 at H2 HK2 ⊢;clear y6 yk fk hq hqi H1 HK1 HL;have H1:=aM (show Man w0 W2 gm gc gl cl ge ce a1 (m1.leb k i1) from H2.out);clear H2
  by_cases hneg:p < 0
  ·have d0:decide (p < 0)=true:=decide_eq_true hneg;have d0n:(p < 0)=True:=eq_true hneg;have HR3:=aM (HR2.out.trans (if_pos hneg));clear hneg HR2;go_wp2;go_ret;rw [HR3.out];exact ⟨_,rfl,.inl ⟨rfl,rfl⟩,H1.out,HK2.out⟩
  ·have d0:decide (p < 0)=false:=decide_eq_false hneg;have d0n:(p < 0)=False:=eq_false hneg;have HR3:=aM (HR2.out.trans (if_neg hneg))
   obtain ⟨j,rfl⟩:∃ j:Nat,p=(j:Int):=⟨p.toNat,by omega⟩
   rw [Int.toNat_natCast] at HR3;have HFR:=aM (qmY H1.out j (by have:=HPB.out;omega));generalize qcC a1 (m1.leb k i1) j=t at HFR HR3;obtain ⟨e4,a4,m4⟩:=t;simp only at HFR HR3;clear hneg HR2
   go_wp2_with (first
    | (go_at_call 88;(with_reducible refine HFR.out.mono ?_);rintro z w4 ⟨v4,rfl,hv4,h4,hk4⟩;have HV4:=aM hv4.ev;have H4:=aM h4;have HK4:=aM (HK2.out.trans (hk4.mono HSS.out));clear hv4 h4 hk4))
   go_ret;rw [HR3.out];exact ⟨_,rfl,HV4.out,H4.out,HK4.out⟩
 ·have HR2:=aM (HR.out.trans (if_neg h0))
  rcases HV1.out with ⟨h9,-⟩|⟨h9,hv|⟨g2,bb2,hv,hf⟩⟩
  ·exact absurd h9 h0
  ·subst hv;clear h9 h0 HR;go_wp2;go_ret;rw [HR2.out];exact ⟨_,rfl,HV1.out,H1.out,HK1.out⟩
  ·subst hv;clear h9 hf h0 HR;go_wp2;go_ret;rw [HR2.out];exact ⟨_,rfl,HV1.out,H1.out,HK1.out⟩
theorem qnT {s:List Nat} {A:Option Addr} {c:Nat} {x:List Int} {g:Nat} (hg:W.heap[g]?=some (.cells #[.slice A x.length c] 35 (0,0))) (hc:x.length≤c) (hx:∀ w',Below w0.heap.size w0 w'→MK s W w'→Kd.C kB w' A x.length x):qeK s w0 W (some ⟨g,0,none⟩) [x]:=by
 refine ⟨by simp,fun j hj=>?_⟩;obtain rfl:j=0:=by have:j < 1:=hj;omega
 refine ⟨⟨g,0,none⟩,A,c,rfl,hc,fun w' hb hk=>⟨?_,hx w' hb hk⟩⟩;exact Joins.cell_of_block (hk.far (by decide) hg) 0
theorem qzL (h:Man w0 W gm gc gl cl ge ce a m) (hok:m.ok) (leb:Int) (A:Option Addr) (c:Nat) (x:List Int) (hc:x.length≤c) (hx:∀ w',Below w0.heap.size w0 w'→MK [gm,gl,ge] W w'→Kd.C kB w' A x.length x) (hr:qfV a m leb [x]=0) (hcl:(qcB m leb).1.f5=false) (hf:(qcB m leb).1.f3 < (a.g.P:Int) - 2) (r:Int × AC × AM)
  (hw:∀ w,Below W.heap.size W w→Calls Tryz.prog 91 #[kp gm,.int .i64 leb,.slice A x.length c] w fun z w'=>∃ v:Value,z=.returned v∧EV w' v r.1∧Man w0 w' gm gc gl cl ge ce r.2.1 r.2.2∧MK [gm,gl,ge] w w')
  (ht:∀ w v,MK [gm,gl,ge] W w→EV w v r.1→Calls Tryz.prog 89 #[v] w fun z w'=>z=.returned (.int .i64 r.1)∧Below w.heap.size w w') :
  Calls Tryz.prog 25 #[kp gm,.int .i64 leb,.slice A x.length c] W fun z w'=>z=.returned (.int .i64 r.1)∧Man w0 w' gm gc gl cl ge ce r.2.1 r.2.2∧MK [gm,gl,ge] W w':=by
 have HRD:=aM (show ∀ (w:World) (g:Nat),Below W.heap.size W w→w.heap[g]?=some (.cells #[.slice A x.length c] 35 (0,0))→Calls Tryz.prog 90 #[kp gm,.int .i64 leb,.slice (some ⟨g,0,none⟩) 1 1] w (fun z w'=>z=.returned (.int .i64 0)∧Below w.heap.size w w') from fun w g hb hg=>hr ▸ qmG (h.grow hb) leb [gm,gl,ge] (some ⟨g,0,none⟩) 1 [x] (Nat.le_refl _) (qnT hg hc (fun w' hb2 hk2=>hx w' hb2 ((MK.of_below hb).trans hk2))));have HCL:=aM (fun (w:World) (hb:Below W.heap.size W w)=>qsU (h.grow hb) hok leb);have HUS:=aM (fun (w:World) (hb:Below W.heap.size W w)=>qhR (h.grow hb) hok leb);have HPG:=aM (fun (w:World) (hb:Below W.heap.size W w)=>qcT (h.grow hb));have HW:=aM hw;have HT:=aM ht;rw [hcl] at HCL;generalize (qcB m leb).1.f3=u at hf HUS;have d0:decide ((a.g.P:Int) - 2≤u)=false:=decide_eq_false (by omega);have d0n:((a.g.P:Int) - 2≤u)=False:=eq_false (by omega);clear h hc hx hr hok hcl hf hw ht;go_enter Tryz.func25,Tryz.ntmps25
 go_wp2_with (first
  | (go_at_call 90;(with_reducible refine (HRD.out _ W.heap.size (qaA (Below.refl _ _) _) (qaN _ _ _)).mono ?_);rintro z w1 ⟨rfl,hb1⟩;have HB1:=aM (qaC (qaA (Below.refl _ _) _) hb1);clear hb1)
  | (go_at_call 34;(with_reducible refine (HCL.out _ HB1.out).mono ?_);rintro z w2 ⟨rfl,hb2⟩;have HB2:=aM (qaC HB1.out hb2);clear hb2)
  | (go_at_call 27;(with_reducible refine (HUS.out _ HB2.out).mono ?_);rintro z w3 ⟨rfl,hb3⟩;have HB3:=aM (qaC HB2.out hb3);clear hb3)
  | (go_at_call 26;(with_reducible refine (HPG.out _ HB3.out).mono ?_);rintro z w4 ⟨rfl,hb4⟩;have HB4:=aM (qaC HB3.out hb4);clear hb4)
  | (go_at_call 91;(with_reducible refine (HW.out _ HB4.out).mono ?_);rintro z w5 ⟨v5,rfl,hv5,h5,hk5⟩;have HV5:=aM hv5;have H5:=aM h5;have HK5:=aM ((MK.of_below HB4.out).trans hk5);clear hv5 h5 hk5)
  | (go_at_call 89;(with_reducible refine (HT.out _ _ HK5.out HV5.out).mono ?_);rintro z w6 ⟨rfl,hb6⟩;have HB6:=aM hb6;clear hb6))
 go_ret;exact ⟨rfl,H5.out.grow HB6.out,HK5.out.trans (MK.of_below HB6.out)⟩
theorem qpP (r:Int) (h:r=0) (w:World) (v:Value) (hv:EV w v r):Calls Tryz.prog 89 #[v] w fun z w'=>z=.returned (.int .i64 r)∧Below w.heap.size w w':=by
 subst h
 rcases hv.symm with ⟨h9,-⟩|⟨-,hv⟩
 ·exact absurd rfl h9
 ·subst hv;exact qxF w
end
section
open Go.Shelf Plain
variable {w0 W W':World} {gm gc gl cl ge ce:Nat} {a a':AC} {m m':AM}
theorem qtT (g:Nat) (A:Option Addr) (n c:Nat) (hg:W.heap[g]?=some (.cells #[.slice A n c] 55 (0,0))):Calls Tryz.prog 94 #[.pointer (some ⟨g,0,none⟩)] W fun x w'=>x=.returned (.tuple #[.slice A n c,.nilIface])∧Below W.heap.size W w':=by
 have y0:W.cell? ⟨g,0,none⟩=some (.slice A n c):=Joins.cell_of_block hg 0;clear hg;go_enter Tryz.func94,Tryz.ntmps94;go_wp2;go_ret2;exact ⟨rfl,Below.refl _ _⟩
theorem quT (h:Man w0 W gm gc gl cl ge ce a m) (hs:0≤m.seq) (leb least:Int) (A:Option Addr) (c:Nat) (xss:List (List Int)) (hc:xss.length≤c) (hp:qeK [gm,gl] w0 W A xss) (g:Nat) (hg:W.heap[g]?=some (.cells #[.slice A xss.length c] 55 (0,0))) :
  Calls Tryz.prog 137 #[kp gm,.int .i64 leb,.int .i64 least,fnV 94 #[] #[.pointer (some ⟨g,0,none⟩)],fnV 95 #[kp gm] #[]] W fun x w'=>∃ v:Value,x=.returned (.tuple #[.int .i64 (qaZ pkL (fun _ _=>xss) leb least (qcA m.l+1) true a m).1,v])∧EV w' v (qaZ pkL (fun _ _=>xss) leb least (qcA m.l+1) true a m).2.1∧Man w0 w' gm gc gl cl ge ce (qaZ pkL (fun _ _=>xss) leb least (qcA m.l+1) true a m).2.2.1 (qaZ pkL (fun _ _=>xss) leb least (qcA m.l+1) true a m).2.2.2∧MK [gm,gl] W w' :=
 vbD ⟨g,0,none⟩ h [gm,gl] (by simp) (by simp) leb least hs (qcA m.l+1) (Nat.lt_succ_self _) pkL (fun _ _=>xss) (fun _ _ _=>True) (fun _ w=>MK [gm,gl] W w) trivial (MK.refl _ _) (fun _ _ _ hx hk=>hx.trans hk)
  (fun _ _ o _=>qhA o.l)
  (fun _ w b o hm _ hx=>(qoF hm).mono (by rintro x w' ⟨rfl,hb⟩;exact ⟨rfl,hm.grow hb,hx.trans (MK.of_below hb),MK.of_below hb⟩))
  (fun _ w b o hm _ hx=>(qtT g A xss.length c (hx.far (by decide) hg)).mono (by rintro x w' ⟨rfl,hb⟩;exact ⟨A,c,rfl,hc,hp.later (hx.trans (MK.of_below hb)),hm.grow hb,MK.of_below hb⟩))
  (fun _ _ _ _ _ _ _ _ _=>trivial)
theorem qwZ (h:Man w0 W gm gc gl cl ge ce a m) (leb:Int) (A:Option Addr) (c:Nat) (xss:List (List Int)) (hc:xss.length≤c) (hp:qeK [gm,gl,ge] w0 W A xss) (hr:qfV a m leb xss=0) (r:Int × AC × AM)
  (hw:∀ w g,Below W.heap.size W w→w.heap[g]?=some (.cells #[.slice A xss.length c] 55 (0,0))→Calls Tryz.prog 93 #[kp gm,.int .i64 leb,.int .i64 xss.length,fnV 94 #[] #[.pointer (some ⟨g,0,none⟩)],fnV 95 #[kp gm] #[]] w fun z w'=>∃ v:Value,z=.returned v∧EV w' v r.1∧Man w0 w' gm gc gl cl ge ce r.2.1 r.2.2∧MK [gm,gl,ge] w w')
  (ht:∀ w v,MK [gm,gl,ge] W w→EV w v r.1→Calls Tryz.prog 89 #[v] w fun z w'=>z=.returned (.int .i64 r.1)∧Below w.heap.size w w') :
  Calls Tryz.prog 28 #[kp gm,.int .i64 leb,.slice A xss.length c] W fun z w'=>z=.returned (.int .i64 r.1)∧Man w0 w' gm gc gl cl ge ce r.2.1 r.2.2∧MK [gm,gl,ge] W w':=by
 have HRD:=aM (show ∀ (w:World),Below W.heap.size W w→Calls Tryz.prog 90 #[kp gm,.int .i64 leb,.slice A xss.length c] w (fun z w'=>z=.returned (.int .i64 0)∧Below w.heap.size w w') from fun w hb=>hr ▸ qmG (h.grow hb) leb [gm,gl,ge] A c xss hc (hp.later (MK.of_below hb)));have HW:=aM hw;have HT:=aM ht;have hmx:=hp.1;clear h hc hp hr hw ht;go_enter Tryz.func28,Tryz.ntmps28
 go_upto_region 1 with (fail)
 generalize hW:W.alloc (.cells #[.slice A xss.length c] 55)=W1;have HB1:=aM (show Below W.heap.size W W1 by rw [← hW];exact qaA (Below.refl _ _) _);have HG1:=aM (show W1.heap[W.heap.size]?=some (.cells #[.slice A xss.length c] 55 (0,0)) by rw [← hW];exact qaN _ _ _);have y0:W1.cell? ⟨W.heap.size,0,none⟩=some (.slice A xss.length c):=Joins.cell_of_block HG1.out 0;clear hW
 go_wp2_with (first
  | (go_at_call 90;(with_reducible refine (HRD.out _ HB1.out).mono ?_);rintro z w2 ⟨rfl,hb1⟩;have HG2:=aM (qaB HG1.out hb1);have HB2:=aM (qaC HB1.out hb1);have y2:=qaF y0 hb1;clear hb1)
  | (go_at_call 93;(with_reducible refine (HW.out _ _ HB2.out HG2.out).mono ?_);rintro z w5 ⟨v5,rfl,hv5,h5,hk5⟩;have HV5:=aM hv5;have H5:=aM h5;have HK5:=aM ((MK.of_below HB2.out).trans hk5);clear hv5 h5 hk5)
  | (go_at_call 89;(with_reducible refine (HT.out _ _ HK5.out HV5.out).mono ?_);rintro z w6 ⟨rfl,hb6⟩;have HB6:=aM hb6;clear hb6))
 go_ret;exact ⟨rfl,H5.out.grow HB6.out,HK5.out.trans (MK.of_below HB6.out)⟩
theorem qzM (h:Man w0 W gm gc gl cl ge ce a m) (hok:m.ok) (k:Nat) (hk:k < m.lebs.length) (hr:qfV a m (k:Int) []=0)
  (ht:∀ w v,MK [gm,gl,ge] W w→EV w v (qhG a m k).1→Calls Tryz.prog 89 #[v] w fun z w'=>z=.returned (.int .i64 (qhG a m k).1)∧Below w.heap.size w w') :
  Calls Tryz.prog 37 #[kp gm,.int .i64 k] W fun z w'=>z=.returned (.int .i64 (qhG a m k).1)∧Man w0 w' gm gc gl cl ge ce (qhG a m k).2.1 (qhG a m k).2.2∧MK [gm,gl,ge] W w':=by
 have HRD:=aM (show Calls Tryz.prog 90 #[kp gm,.int .i64 k,.slice none 0 0] W (fun z w'=>z=.returned (.int .i64 0)∧Below W.heap.size W w') from hr ▸ qmG h (k:Int) [gm,gl,ge] none 0 [] (Nat.le_refl _) (qeK.nil _ _ _ _));have HT:=aM ht;have H:=aM h;have HKL:=aM hk
 obtain ⟨p,hp⟩:∃ p,p=m.lebs.getD k 0:=⟨_,rfl⟩
 have HYK:=aM (show ∀ q (hq:q < m.lebs.length),q=k→m.lebs[q]=p by rintro q hq rfl;rw [hp,List.getD_eq_getElem?_getD,List.getElem?_eq_getElem hq];rfl);have HPB:=aM (show p < a.g.B by rw [← h.ln,hp];exact hok k hk);have HR:=aM (show qhG a m k=if p < 0 then (0,a,m) else qcC a (m.leb k (-1)) p.toNat by rw [hp];rfl);have hq:(k < m.lebs.length)=True:=eq_true hk;have hqi:((k:Int) < (m.lebs.length:Int))=True:=eq_true (by omega);generalize qhG a m k=r at HT HR ⊢;clear h hr hok hk hp ht;go_enter Tryz.func37,Tryz.ntmps37
 go_upto_region 4 with (first
  | (go_at_call 90;(with_reducible refine HRD.out.mono ?_);rintro z w1 ⟨rfl,hb1⟩;have HB1:=aM hb1;clear hb1))
 have H1:=aM (H.out.grow HB1.out);have y6:w1.cell? ⟨gm,6,none⟩=some (.slice (some ⟨ge,0,none⟩) m.lebs.length ce):=H1.out.cell 6;have yk:w1.cell? ⟨ge,k,none⟩=some (.int .i64 p):=by rw [← HYK.out k HKL.out rfl];exact H1.out.b.cell k HKL.out
 have fk:=H1.out.b.frozen k
 by_cases hneg:p < 0
 ·have d0:decide (p < 0)=true:=decide_eq_true hneg;have d0n:(p < 0)=True:=eq_true hneg;have HR3:=aM (HR.out.trans (if_pos hneg));clear hneg HR;go_wp2;go_ret;rw [HR3.out];exact ⟨rfl,H1.out,MK.of_below HB1.out⟩
 ·have d0:decide (p < 0)=false:=decide_eq_false hneg;have d0n:(p < 0)=False:=eq_false hneg;have HR3:=aM (HR.out.trans (if_neg hneg))
  obtain ⟨j,rfl⟩:∃ j:Nat,p=(j:Int):=⟨p.toNat,by omega⟩
  rw [Int.toNat_natCast] at HR3;have H2:=aM (show Man w0 (w1.setCell ⟨ge,k,none⟩ (.int .i64 (-1))) gm gc gl cl ge ce a (m.leb k (-1)) from H1.out.setI k HKL.out (-1));have HK2:=aM (show MK [gm,gl,ge] W (w1.setCell ⟨ge,k,none⟩ (.int .i64 (-1))) by obtain ⟨cells,hg,-⟩:=H1.out.b;exact (MK.of_below HB1.out).set hg (.inr (.inl rfl)) k (.int .i64 (-1)))
  go_upto_region 8 with (fail)
  generalize w1.setCell ⟨ge,k,none⟩ (.int .i64 (-1))=W2 at H2 HK2 ⊢;have HFR:=aM (qmY H2.out j (by have:=HPB.out;omega));rw [← HR3.out] at HFR;clear hneg HR
  go_wp2_with (first
   | (go_at_call 88;(with_reducible refine HFR.out.mono ?_);rintro z w4 ⟨v4,rfl,hv4,h4,hk4⟩;have HV4:=aM hv4.ev;have H4:=aM h4;have HK4:=aM (HK2.out.trans (hk4.mono (fun z hz=>by simp only [List.mem_cons,List.not_mem_nil,or_false] at hz ⊢;rcases hz with h|h;exact .inl h;exact .inr (.inl h))));clear hv4 h4 hk4)
   | (go_at_call 89;(with_reducible refine (HT.out _ _ HK4.out HV4.out).mono ?_);rintro z w6 ⟨rfl,hb6⟩;have HB6:=aM hb6;clear hb6))
  go_ret;exact ⟨rfl,H4.out.grow HB6.out,HK4.out.trans (MK.of_below HB6.out)⟩
end
section
open Go.Shelf Plain
variable {w0 W W':World} {gm gc gl cl ge ce:Nat} {a a':AC} {m m':AM}
theorem qyO:(Tryz.prog.info? 3).map (fun i=>(i.zero.map Value.cells,i.size,i.bytes))=some (some #[.int .i64 0],1,8):=by kernel_rfl
def qiT (xs:List Blk) (nl i:Nat):List Int:=(List.range nl).map fun (j:Nat)=>if j < i then qfJ (j:Int) xs 0 else 0
theorem qdB (xs:List Blk) (nl i:Nat):(qiT xs nl i).length=nl:=by simp [qiT]
theorem qyI (xs:List Blk) (nl:Nat):qiT xs nl nl=(List.range nl).map fun (j:Nat)=>qfJ (j:Int) xs 0:=by
 unfold qiT;apply List.map_congr_left;intro j hj;rw [if_pos (List.mem_range.1 hj)]
theorem qyH (xs:List Blk) (nl i:Nat) (h:i < nl):(qiT xs nl i).set i (qfJ (i:Int) xs 0)=qiT xs nl (i+1):=by
 apply List.ext_getElem?;intro j
 by_cases hj:j < nl
 ·by_cases hji:j=i
  ·subst hji;rw [List.getElem?_set_self (by rw [qdB];exact hj)];unfold qiT;rw [List.getElem?_map,List.getElem?_range hj];simp
  ·rw [List.getElem?_set_ne (fun e=>hji e.symm)];unfold qiT;rw [List.getElem?_map,List.getElem?_map,List.getElem?_range hj];have:(j < i)↔(j < i+1):=by omega
   simp [this]
 ·rw [List.getElem?_eq_none (by rw [List.length_set,qdB];omega),List.getElem?_eq_none (by rw [qdB];omega)]
theorem qvQ (xs:List Blk) (nl g:Nat) (h:W.heap[g]?=some (.cells (madeCells #[.int .i64 0] nl) 3 (0,0))):qpL W g (qiT xs nl 0):=by
 refine ⟨_,h,fun k hk=>?_⟩;rw [qdB] at hk;rw [qmQ _ _ _ hk];have e:(qiT xs nl 0)[k]'(by rw [qdB];exact hk)=0:=by simp [qiT]
 rw [e];simp [Nat.mod_one]
theorem qxI (xs:List Blk) (j:Nat) (h:j < xs.length):(xs.take (j+1)).foldl qmF 0=qmF ((xs.take j).foldl qmF 0) xs[j]:=by
 rw [List.take_add_one,List.getElem?_eq_getElem h,Option.toList_some,List.foldl_append];rfl
theorem qkT (h:qdV w0 W gc a) (hby:qbW a) (aE:Addr) (hgE:gNone W aE) (hon:a.off=false) (nl:Nat) (hnl:(nl:Int)=qeF a.g.B a.g.P a.g.Z a.g.R) (hnb:nl≤a.g.B) :
  Calls Tryz.prog 86 #[cp gc] W fun x w'=>∃ gm gl cl ge ce:Nat,x=.returned (.tuple #[kp gm,.int .i64 0])∧Man w0 w' gm gc gl cl ge ce a (qcD (qdE a) nl)∧Below W.heap.size W w'∧W.heap.size≤gm∧W.heap.size≤gl∧W.heap.size≤ge:=by
 have H:=aM h;have HW0:=aM (qaJ h.below);have hgok:=h.gok.1;have HSC:=aM (vcG h hby aE hgE hon);have HLN:=aM (qfU a);have HGM:=aM (fun (w:World) (hb:Below W.heap.size W w)=>(H.out.grow hb).geometry);have HLB:=aM (show ∀ w,Calls Tryz.prog 13 #[gV a.g.B a.g.P a.g.Z a.g.R] w (fun e w'=>e=.returned (.int .i64 nl)∧Below w.heap.size w w') from fun w=>hnl ▸ qpY a.g.B a.g.P a.g.Z a.g.R w)
 have hmk:∀ w,(Instr.makeSlice 127 (.int .i64 nl) (.int .i64 nl)).run Tryz.prog w=.ok (.slice (some ⟨w.heap.size,0,none⟩) nl nl) (w.alloc (.cells (madeCells #[.int .i64 0] nl) 3)):=fun w=>by
  have:=qjY _ _ _ 1 8 nl Tryz.underlying127 qyO (by omega) (by omega) w;rw [Nat.mul_one] at this;exact this
 have hu23:=Tryz.underlying23;have hu129:=Tryz.underlying129;have hu68:=Tryz.underlying68;have HNB:=aM hnb;clear h hby hgE hon hnl;generalize qdE a=xs at HSC HLN ⊢;have HMS:=aM (show xs.length≤256 by rw [HLN.out];exact hgok.2);go_enter Tryz.func86,Tryz.ntmps86
 go_upto_region 4 with (first
  | (go_at_call 18;(with_reducible refine HSC.out.mono ?_);rintro z w1 ⟨gl,cl,rfl,hcl,hrw,hb,hgl⟩;have HCL:=aM hcl;have HRW:=aM hrw;have HB1:=aM hb;have HGL:=aM hgl;clear hcl hrw hb hgl))
 go_upto_region 5 with (first
  | (go_at_call 69;(with_reducible refine (HGM.out _ HB1.out).mono ?_);rintro z w2 ⟨rfl,hb⟩;have HB2:=aM hb;clear hb))
 obtain ⟨gm,hgm⟩:∃ gm,gm=w2.heap.size:=⟨_,rfl⟩
 generalize hW:w2.alloc (.cells #[cp gc,.int .i64 a.g.B,.int .i64 a.g.P,.int .i64 a.g.Z,.int .i64 a.g.R,.slice (some ⟨gl,0,none⟩) xs.length cl,.slice none 0 0,.int .u64 0,.bool false] 129)=W3;have hc3:W3.heap[gm]?=some (.cells #[cp gc,.int .i64 a.g.B,.int .i64 a.g.P,.int .i64 a.g.Z,.int .i64 a.g.R,.slice (some ⟨gl,0,none⟩) xs.length cl,.slice none 0 0,.int .u64 0,.bool false] 129 (0,0)):=by rw [← hW,hgm];exact qaN _ _ _
 have hb3:Below w2.heap.size w2 W3:=by rw [← hW];exact qaA (Below.refl _ _) _
 have HB12:=aM (qaC HB1.out HB2.out);have HC3:=aM hc3;have HB3:=aM (qaC HB12.out hb3);have HRW3:=aM (show Rows W3 gl xs from (HRW.out.keep (HB2.out.block _ HRW.out.lt)).keep (hb3.block _ (HRW.out.keep (HB2.out.block _ HRW.out.lt)).lt));have HGMW:=aM (show W.heap.size≤gm by rw [hgm];exact qaJ HB12.out);have y1:=Joins.cell_of_block hc3 1;have y2:=Joins.cell_of_block hc3 2;have y3:=Joins.cell_of_block hc3 3;have y4:=Joins.cell_of_block hc3 4;rw [← hgm];clear hW hc3 hb3 hgm
 go_upto_region 6 with (first
  | (go_at_call 13;(with_reducible refine (HLB.out _).mono ?_);rintro z w4 ⟨rfl,hb⟩;have HB4:=aM hb;have f6:=qaD (qaS (qaB HC3.out hb) (.cells (madeCells #[.int .i64 0] nl) 3)) 6;have x6:(w4.alloc (.cells (madeCells #[.int .i64 0] nl) 3)).cell? ⟨gm,6,none⟩=some (.slice none 0 0):=Joins.cell_of_block (qaS (qaB HC3.out hb) (.cells (madeCells #[.int .i64 0] nl) 3)) 6;clear hb))
 obtain ⟨ge,hge⟩:∃ ge,ge=w4.heap.size:=⟨_,rfl⟩
 rw [← hge];generalize hW:(w4.alloc (.cells (madeCells #[.int .i64 0] nl) 3)).setCell ⟨gm,6,none⟩ (.slice (some ⟨ge,0,none⟩) nl nl)=W5;have HGEW:=aM (show W.heap.size≤ge by rw [hge];exact qaJ (qaC HB3.out HB4.out));have hab:Below W.heap.size W (w4.alloc (.cells (madeCells #[.int .i64 0] nl) 3)):=qaA (qaC HB3.out HB4.out) _;have HB5:=aM (show Below W.heap.size W W5 by rw [← hW];exact qaI hab HGMW.out);have hc4:(w4.alloc (.cells (madeCells #[.int .i64 0] nl) 3)).heap[gm]?=some (.cells #[cp gc,.int .i64 a.g.B,.int .i64 a.g.P,.int .i64 a.g.Z,.int .i64 a.g.R,.slice (some ⟨gl,0,none⟩) xs.length cl,.slice none 0 0,.int .u64 0,.bool false] 129 (0,0)):=qaS (qaB HC3.out HB4.out) _;have hrw4:Rows (w4.alloc (.cells (madeCells #[.int .i64 0] nl) 3)) gl xs:=(HRW3.out.keep (HB4.out.block _ HRW3.out.lt)).keep (Below.heap_alloc _ _ _ (HRW3.out.keep (HB4.out.block _ HRW3.out.lt)).lt);have hgg:gl ≠ gm:=hrw4.ne hc4 (by decide)
 have hgi:ge ≠ gm:=fun e=>by
  have h1:=qaN w4 (madeCells #[.int .i64 0] nl) 3;rw [← hge,e,hc4] at h1;simp only [Option.some.injEq,Obj.cells.injEq] at h1;exact absurd h1.2.1 (by decide)
 have H5:=aM (show Man w0 W5 gm gc gl cl ge nl a ⟨xs,qiT xs nl 0,0,false⟩ by
  refine ⟨?_,?_,?_,?_,by have:=HW0.out;have:=HGMW.out;omega,by have:=HW0.out;have:=HGL.out;omega,by have:=HW0.out;have:=HGEW.out;omega,HCL.out,by rw [qdB];exact Nat.le_refl _,HLN.out,by rw [qdB];exact HNB.out⟩
  ·rw [← hW];unfold mC;rw [qdB];exact qbX hc4 6 _
  ·rw [← hW];exact (H.out.grow hab).far hc4 (by have:=HW0.out;have:=HGMW.out;omega) (by decide) (by decide) (by decide) (by decide) (by decide) _ _
  ·rw [← hW];exact hrw4.keep (Below.heap_setCell _ _ _ _ hgg)
  ·rw [← hW]
   exact (qvQ xs nl ge (by rw [hge];exact qaN _ _ _)).keep (Below.heap_setCell _ _ _ _ hgi))
 clear hW hab hc4 hrw4 hgg hgi hge f6 x6 y1 y2 y3 y4 hmk hnb;clear HC3 HRW3 HRW HB3 HB4 HB12 HB1 HB2 HSC HGM HLB;have c6:W5.cell? ⟨gm,6,none⟩=some (.slice (some ⟨ge,0,none⟩) (qiT xs nl 0).length nl):=H5.out.cell 6;rw [qdB] at c6
 go_upto_region 7 with (fail)
 clear c6;go_loopw [38] (fun v38 wr=>∃ i:Nat,i≤nl∧v38=.int .i64 i∧qaK (Man w0 wr gm gc gl cl ge nl a ⟨xs,qiT xs nl i,0,false⟩)∧qaK (Below W.heap.size W wr)) (fun v38 _=>nl - (intOf v38).toNat);case atStart=>exact ⟨0,Nat.zero_le _,rfl,H5,HB5⟩
 case round =>
  clear H5 HB5;obtain ⟨i,hi,rfl,HM,HB⟩:=hrel
  by_cases hlt:i < nl
  ·have d0:decide ((i:Int) < (nl:Int))=true:=decide_eq_true (by omega);have hq:(i < nl)=True:=eq_true hlt;have hqi:((i:Int) < (nl:Int))=True:=eq_true (by omega);have hwj:wrap64 ((i:Int)+1)=(i:Int)+1:=by have:=HNB.out;unfold wrap64;omega
   have hwk:IntKind.i64.wrap ((i:Int)+1)=(i:Int)+1:=by rw [qbL];exact hwj
   have y6:wr.cell? ⟨gm,6,none⟩=some (.slice (some ⟨ge,0,none⟩) (qiT xs nl i).length nl):=HM.out.cell 6;rw [qdB] at y6;have HFD:=aM (fun (w:World) (hb:Below wr.heap.size wr w)=>vbR (some ⟨gl,0,none⟩) cl xs (i:Int) w ((HM.out.grow hb).l.reads (by have:=HMS.out;show xs.length≤_;omega)) (by have:=HMS.out;omega))
   have HST:=aM (fun (w:World) (hb:Below wr.heap.size wr w)=>(show Man w0 (w.setCell ⟨ge,i,none⟩ (.int .i64 (qfJ (i:Int) xs 0))) gm gc gl cl ge nl a ⟨xs,qiT xs nl (i+1),0,false⟩ by
    have:=(HM.out.grow hb).setI i (by show i < (qiT xs nl i).length;rw [qdB];exact hlt) (qfJ (i:Int) xs 0);rw [show (⟨xs,qiT xs nl (i+1),0,false⟩:AM)={ (⟨xs,qiT xs nl i,0,false⟩:AM) with lebs:=(qiT xs nl i).set i (qfJ (i:Int) xs 0) } by rw [qyH xs nl i hlt]]
    exact this))
   generalize qfJ (i:Int) xs 0=fv at HFD HST;have HLT:=aM hlt;clear hi hlt
   go_upto_region 9 with (fail)
   go_region_with (first
    | (go_at_call 59;(with_reducible refine (HFD.out _ (by first|exact qaP (Below.refl _ _)|exact Below.refl _ _)).mono ?_);rintro z w6 ⟨rfl,hb⟩;have HB6:=aM (qaC (qaP (Below.refl _ _)) hb);have z6:=qaF y6 HB6.out;obtain ⟨fo,fz⟩:∃ fo:Int,w6.cell? ⟨ge,i,none⟩=some (.int .i64 fo):=⟨_,(HM.out.grow HB6.out).b.cell i (by show i < (qiT xs nl i).length;rw [qdB];exact HLT.out)⟩;have fi:=(HM.out.grow HB6.out).b.frozen i;clear hb))
   all_goals go_wp2
   all_goals go_roundw
   all_goals first
    | exact ⟨i+1,HLT.out,by push_cast;rfl,⟨HST.out _ HB6.out⟩,⟨qaI (qaC HB.out HB6.out) HGEW.out⟩⟩
    | (have:=HLT.out;simp [intOf];omega)
  ·obtain rfl:i=nl:=by omega
   have d0:decide ((i:Int) < (i:Int))=false:=decide_eq_false (by omega);clear hlt hi
   go_upto_region 12 with (fail)
   rename_i _
   have H5:=HM;have HB5:=HB;clear HM HB d0;go_loopw [53] (fun v53 wr=>∃ j:Nat,j≤xs.length∧v53=.int .i64 j∧qaK (Man w0 wr gm gc gl cl ge i a ⟨xs,qiT xs i i,(xs.take j).foldl qmF 0,false⟩)∧qaK (Below W.heap.size W wr)) (fun v53 _=>xs.length - (intOf v53).toNat);case atStart=>exact ⟨0,Nat.zero_le _,rfl,H5,HB5⟩
   case round =>
    clear H5 HB5;obtain ⟨j,hj,rfl,HM,HB⟩:=hrel
    by_cases hlt:j < xs.length
    ·have d0:decide ((j:Int) < (xs.length:Int))=true:=decide_eq_true (by omega);have hq:(j < xs.length)=True:=eq_true hlt;have hqi:((j:Int) < (xs.length:Int))=True:=eq_true (by omega);have hwj:wrap64 ((j:Int)+1)=(j:Int)+1:=by have:=HMS.out;unfold wrap64;omega
     have hwk:IntKind.i64.wrap ((j:Int)+1)=(j:Int)+1:=by rw [qbL];exact hwj
     have HSQ:=aM (qxI xs j hlt);obtain ⟨z0,z1,z2,z3,z4,z5⟩:=HM.out.l.cell j hlt;generalize (xs.take j).foldl qmF 0=sq at HM HSQ;have HLT:=aM hlt
     obtain ⟨b,hb⟩:∃ b,b=xs[j]:=⟨_,rfl⟩
     rw [← hb] at HSQ;have HBJ:=aM hb;replace z0:wr.cell? ⟨gl,j*6,none⟩=some (.int .i64 b.f0):=by rw [hb];exact z0
     replace z1:wr.cell? ⟨gl,j*6+1,none⟩=some (.int .i64 b.f1):=by rw [hb];exact z1
     replace z2:wr.cell? ⟨gl,j*6+2,none⟩=some (.int .i64 b.f2):=by rw [hb];exact z2
     replace z3:wr.cell? ⟨gl,j*6+3,none⟩=some (.int .i64 b.f3):=by rw [hb];exact z3
     replace z4:wr.cell? ⟨gl,j*6+4,none⟩=some (.int .u64 b.f4):=by rw [hb];exact z4
     replace z5:wr.cell? ⟨gl,j*6+5,none⟩=some (.bool b.f5):=by rw [hb];exact z5
     clear HBJ hb hj hlt
     go_upto_region 14 with (fail)
     generalize hW:wr.alloc (.cells (bC b) 68)=W5
     obtain ⟨g9,hg9⟩:∃ g9,g9=wr.heap.size:=⟨_,rfl⟩
     rw [← hg9];have H5:=aM (show Man w0 W5 gm gc gl cl ge i a ⟨xs,qiT xs i i,sq,false⟩ by rw [← hW];exact HM.out.grow (qaA (Below.refl _ _) _));have HB5:=aM (show Below W.heap.size W W5 by rw [← hW];exact qaA HB.out _);have hx5:W5.heap[g9]?=some (.cells (bC b) 68 (0,0)):=by rw [← hW,hg9];exact qaN _ _ _
     have x0:=Joins.cell_of_block hx5 0;have x4:=Joins.cell_of_block hx5 4;have y7:W5.cell? ⟨gm,7,none⟩=some (.int .u64 sq):=H5.out.cell 7;have f7:=qaD H5.out.c 7;clear hW hx5 z0 z1 z2 z3 z4 z5 HM HB hg9
     by_cases h4:b.f0=4
     ·have e0:(b.f0==4)=true:=by simp only [beq_iff_eq];exact h4
      have e0n:(b.f0=4)=True:=eq_true h4;have HS4:=aM (HSQ.out.trans (show qmF sq b=max sq (IntKind.u64.wrap (b.f4+1)) from if_pos h4));clear h4
      go_upto_region 15 with (fail)
      go_region;generalize hW9:(W5.setCell ⟨gm,7,none⟩ (.int .u64 (if sq < IntKind.u64.wrap (b.f4+1) then IntKind.u64.wrap (b.f4+1) else sq))).drew=W9;have HMX:=aM (show (if sq < IntKind.u64.wrap (b.f4+1) then IntKind.u64.wrap (b.f4+1) else sq)=max sq (IntKind.u64.wrap (b.f4+1)) by omega)
      have H9:=aM (show Man w0 W9 gm gc gl cl ge i a ⟨xs,qiT xs i i,max sq (IntKind.u64.wrap (b.f4+1)),false⟩ by
       rw [← hW9,HMX.out]
       exact (H5.out.setM (m':=⟨xs,qiT xs i i,max sq (IntKind.u64.wrap (b.f4+1)),false⟩) 7 _ rfl rfl rfl).grow (qaP (Below.refl _ _)))
      have HB9:=aM (show Below W.heap.size W W9 by rw [← hW9];exact qaP (qaI HB5.out HGMW.out));clear hW9 y7 f7 x0 x4 HMX;go_wp2;go_roundw;case rel=>exact ⟨j+1,HLT.out,by push_cast;rfl,⟨by rw [HS4.out];exact H9.out⟩,HB9⟩
      case measure=>have:=HLT.out;simp [intOf];omega
     ·have e0:(b.f0==4)=false:=by simp only [beq_eq_false_iff_ne];exact h4
      have e0n:(b.f0=4)=False:=eq_false h4;have HS4:=aM (HSQ.out.trans (show qmF sq b=sq from if_neg h4));clear h4;go_wp2;go_roundw;case rel=>exact ⟨j+1,HLT.out,by push_cast;rfl,⟨by rw [HS4.out];exact H5.out⟩,HB5⟩
      case measure=>have:=HLT.out;simp [intOf];omega
    ·obtain rfl:j=xs.length:=by omega
     have d0:decide ((xs.length:Int) < (xs.length:Int))=false:=decide_eq_false (by omega);rw [List.take_length,qyI] at HM;clear hlt hj;go_wp2;go_ret2;exact ⟨gm,gl,cl,ge,i,rfl,HM.out,HB.out,HGMW.out,HGL.out,HGEW.out⟩
end
section
open Go.Shelf Plain
variable {w0 W W':World} {gm gc gl cl ge ce:Nat} {a a':AC} {m m':AM}
theorem qrZ {n:Nat} {b:ABk} (h:qbW a) (hb:∀ j,qbA (b.pg j).d):qbW (a.setBk n b):=fun i j=>by
 show qbA (((if i=n then b else a.bk i):ABk).pg j).d
 by_cases hi:i=n
 ·rw [if_pos hi];exact hb j
 ·rw [if_neg hi];exact h i j
theorem qsA (h:qbW a) (n p:Nat) (st:Int) {d:List Int} (hd:qbA d):qbW (a.put n p st d):=qrZ h fun j=>by
 show qbA ((if j=p then (⟨st,d⟩:APg) else (a.bk n).pg j):APg).d
 by_cases hj:j=p
 ·rw [if_pos hj];exact hd
 ·rw [if_neg hj];exact h n j
theorem vdW (h:qbW a) (n:Nat) (st nx:Int):qbW (a.erased n st nx):=qrZ h fun j=>by
 show qbA ((if j < a.g.P then (⟨st,[]⟩:APg) else (a.bk n).pg j):APg).d
 by_cases hj:j < a.g.P
 ·rw [if_pos hj];exact fun _ h=>nomatch h
 ·rw [if_neg hj];exact h n j
theorem qkQ:qbA []:=fun _ h=>nomatch h
theorem vcE (h:qbW a) (n p:Int) {l:List Int} (hl:qbA l):qbW (qaY a n p l).2:=by
 unfold qaY
 repeat' split
 all_goals first
  | exact h
  | exact qsA (a:=a.tick) h _ _ _ hl
  | exact qsA (a:=a.tick) h _ _ _ qkQ
  | exact qsA (a:=a.tick.cut) h _ _ _ hl
  | exact qsA (a:=a.tick.cut) h _ _ _ qkQ
theorem qzK (h:qbW a) (n:Int):qbW (qbU a n).2:=by
 unfold qbU
 repeat' split
 all_goals first
  | exact h
  | exact vdW (a:=a.tick) h _ _ _
  | exact vdW (a:=a.tick.cut) h _ _ _
  | exact qrZ (a:=a.tick.cut) h (fun j=>h _ j)
theorem qwV (h:qbW a) (n:Int):qbW (qfE a n).2:=by
 unfold qfE
 repeat' split
 all_goals first
  | exact h
  | exact qrZ h (fun j=>h _ j)
theorem qoV (n page:Int):qbA (qdJ n page).1:=by
 unfold qdJ
 split
 ·exact qkQ
 ·exact qhB (qgH _) _
theorem vcF (h:qbW a) (m:AM) (i:Nat):qbW (qcC a m i).2.1:=by
 have h1:=qzK h (i:Int);have h2:=vcE h1 (i:Int) 0 (qoV (wrap64 ((m.l.getD i default).f1+1)) a.g.Z);unfold qcC
 repeat' split
 ·exact h1
 ·exact qwV h1 _
 ·exact h2
 ·exact qwV h2 _
 ·exact h2
theorem qzV (a:AC) (m:AM) (i:Nat):(qcC a m i).2.1.g=a.g:=by
 unfold qcC
 repeat' split
 ·exact qhD _ _
 ·exact (qrD _ _).trans (qhD _ _)
 ·exact (qeM _ _ _ _).trans (qhD _ _)
 ·exact (qrD _ _).trans ((qeM _ _ _ _).trans (qhD _ _))
 ·exact (qeM _ _ _ _).trans (qhD _ _)
theorem MK.fresh {s:List Nat} (h:MK s W W') (hs:∀ x,x ∈ s→W.heap.size≤x):MK [] W W':=fun k cs t fr a b c _ hk=>h k cs t fr a b c (.inr fun hm=>by
 have h1:=hs k hm;have h2:=qcV hk
 omega) hk
def unL (l:List Int) (i:Nat):List Int:=List.replicate i (-1) ++ l.drop i
theorem vaK (l:List Int) (i:Nat) (h:i≤l.length):(unL l i).length=l.length:=by simp [unL];omega
theorem vaJ (l:List Int) (i:Nat) (h:i < l.length):(unL l i).set i (-1)=unL l (i+1):=by
 unfold unL;rw [List.set_append_right _ _ (by simp),List.length_replicate,Nat.sub_self,List.drop_eq_getElem_cons h,List.set_cons_zero,List.replicate_succ',List.append_assoc];rfl
theorem vaL (l:List Int):unL l l.length=List.replicate l.length (-1):=by simp [unL]
theorem qwY (h:qdV w0 W gc a) (hby:qbW a) (aE:Addr) (hgE:gNone w0 aE) (hon:a.off=false) (nl:Nat) (hnl:(nl:Int)=qeF a.g.B a.g.P a.g.Z a.g.R) (hnb:nl≤a.g.B) (hsp:qeE (qcD (qdE a) nl)=false)
  (r:Int × AC × AM) (hr:qyV a.g.B 0 a ⟨qdE a,List.replicate nl (-1),0,false⟩=r) (hr0:r.1=0) :
  Calls Tryz.prog 23 #[cp gc] W fun x w'=>∃ gm gl cl ge ce:Nat,x=.returned (.tuple #[kp gm,.int .i64 0])∧Man w0 w' gm gc gl cl ge ce r.2.1 r.2.2∧MK [] W w'∧W.heap.size≤gm∧W.heap.size≤gl∧W.heap.size≤ge:=by
 have HAT:=aM (qkT h hby aE (qaF hgE h.below) hon nl hnl hnb);have HGE:=aM hgE;have HBY:=aM hby;have HLN:=aM (qfU a);have hgok:=h.gok.1;have HG0:=aM (show ∃ g,g=a.g from ⟨_,rfl⟩);have HML:=aM (show ∃ m0:AM,m0=qcD (qdE a) nl∧m0.l=qdE a∧m0.lebs.length=nl∧m0.dead=false from ⟨_,rfl,rfl,by simp [qcD],rfl⟩);obtain ⟨m0,hm0,hml,hmb,hmd⟩:=HML.out;rw [← hm0] at HAT hsp;have HSP:=aM hsp;have HR:=aM hr;have HR0:=aM hr0;have HNB:=aM hnb;clear HML hm0 h hby hgE hon hnl hnb hsp hr hr0 HG0;generalize qdE a=xs at HR HLN hml;have hu68:=Tryz.underlying68;go_enter Tryz.func23,Tryz.ntmps23
 go_upto_region 4 with (first
  | (go_at_call 86;(with_reducible refine HAT.out.mono ?_);rintro z w1 ⟨gm,gl,cl,ge,ce,rfl,hm,hb,g1,g2,g3⟩;have H1:=aM hm;have HB1:=aM hb;have HF:=aM (show W.heap.size≤gm∧W.heap.size≤gl∧W.heap.size≤ge from ⟨g1,g2,g3⟩);clear hm hb g1 g2 g3))
 have HSPT:=aM (qcS H1.out);rw [HSP.out] at HSPT
 go_upto_region 6 with (first
  | (go_at_call 40;(with_reducible refine HSPT.out.mono ?_);rintro z w2 ⟨rfl,hb⟩;have H2:=aM (H1.out.grow hb);have HK2:=aM (MK.of_below (s:=[gm,gl,ge]) (qaC HB1.out hb));clear hb))
 have c6:w2.cell? ⟨gm,6,none⟩=some (.slice (some ⟨ge,0,none⟩) m0.lebs.length ce):=H2.out.cell 6;rw [hmb] at c6;have HMB:=aM hmb;have HMLL:=aM hml;have HMD:=aM hmd;clear H1 HB1 HSPT HSP HAT hmb hml hmd
 go_upto_region 7 with (fail)
 clear c6;go_loopw [27] (fun v27 wr=>∃ i:Nat,i≤nl∧v27=.int .i64 i∧qaK (Man w0 wr gm gc gl cl ge ce a { m0 with lebs:=unL m0.lebs i })∧qaK (MK [gm,gl,ge] W wr)) (fun v27 _=>nl - (intOf v27).toNat);case atStart=>exact ⟨0,Nat.zero_le _,rfl,⟨by rw [show unL m0.lebs 0=m0.lebs by simp [unL]];exact H2.out⟩,HK2⟩
 case round =>
  clear H2 HK2;obtain ⟨i,hi,rfl,HM,HK⟩:=hrel
  by_cases hlt:i < nl
  ·have d0:decide ((i:Int) < (nl:Int))=true:=decide_eq_true (by omega);have hq:(i < nl)=True:=eq_true hlt;have hqi:((i:Int) < (nl:Int))=True:=eq_true (by omega);have hwj:wrap64 ((i:Int)+1)=(i:Int)+1:=by have:=HNB.out;unfold wrap64;omega
   have hwk:IntKind.i64.wrap ((i:Int)+1)=(i:Int)+1:=by rw [qbL];exact hwj
   have hln:(unL m0.lebs i).length=nl:=by rw [vaK _ _ (by rw [HMB.out];omega),HMB.out]
   have y6:wr.cell? ⟨gm,6,none⟩=some (.slice (some ⟨ge,0,none⟩) (unL m0.lebs i).length ce):=HM.out.cell 6;rw [hln] at y6
   obtain ⟨fo,fz⟩:∃ fo:Int,wr.cell? ⟨ge,i,none⟩=some (.int .i64 fo):=⟨_,HM.out.b.cell i (by show i < (unL m0.lebs i).length;rw [hln];exact hlt)⟩
   have fi:=HM.out.b.frozen i
   have H5:=aM (show Man w0 (wr.setCell ⟨ge,i,none⟩ (.int .i64 (-1))) gm gc gl cl ge ce a { m0 with lebs:=unL m0.lebs (i+1) } by
    have:=HM.out.setI i (by show i < (unL m0.lebs i).length;rw [hln];exact hlt) (-1);rw [← vaJ m0.lebs i (by rw [HMB.out];exact hlt)]
    exact this)
   have HK5:=aM (show MK [gm,gl,ge] W (wr.setCell ⟨ge,i,none⟩ (.int .i64 (-1))) by obtain ⟨cells,hg,-⟩:=HM.out.b;exact HK.out.set hg (.inr (.inl rfl)) i (.int .i64 (-1)));have HLT:=aM hlt;clear hi hlt hln HM HK;go_wp2;go_roundw;case rel=>exact ⟨i+1,HLT.out,by push_cast;rfl,H5,HK5⟩
   case measure=>have:=HLT.out;simp [intOf];omega
  ·obtain rfl:i=nl:=by omega
   have d0:decide ((i:Int) < (i:Int))=false:=decide_eq_false (by omega)
   have hun:unL m0.lebs i=List.replicate i (-1):=by
    have:=vaL m0.lebs;rw [HMB.out] at this;exact this
   rw [hun] at HM;have y7:wr.cell? ⟨gm,7,none⟩=some (.int .u64 m0.seq):=HM.out.cell 7;have f7:=qaD HM.out.c 7
   have H5:=aM (show Man w0 (wr.setCell ⟨gm,7,none⟩ (.int .u64 0)) gm gc gl cl ge ce a ⟨xs,List.replicate i (-1),0,false⟩ by
    have:=HM.out.setM (m':={ m0 with lebs:=List.replicate i (-1),seq:=0 }) 7 (.int .u64 0) rfl rfl rfl;rw [show (⟨xs,List.replicate i (-1),0,false⟩:AM)={ m0 with lebs:=List.replicate i (-1),seq:=0 } by rw [← HMLL.out,← HMD.out]]
    exact this)
   have HK5:=aM (show MK [gm,gl,ge] W (wr.setCell ⟨gm,7,none⟩ (.int .u64 0)) from HK.out.set HM.out.c (.inl rfl) 7 _);clear hun hlt hi HM HK
   go_upto_region 12 with (fail)
   generalize wr.setCell ⟨gm,7,none⟩ (.int .u64 0)=W5 at H5 HK5 ⊢;clear y7 f7 d0;have c5:W5.cell? ⟨gm,5,none⟩=some (.slice (some ⟨gl,0,none⟩) xs.length cl):=H5.out.cell 5;rw [HLN.out] at c5
   go_upto_region 13 with (fail)
   clear c5;have HCN:=HLN;go_loopw [45] (fun v45 wr=>∃ (j:Nat) (b:AC) (o:AM),j≤a.g.B∧v45=.int .i64 j∧qaK (qyV (a.g.B - j) j b o=r)∧qaK (Man w0 wr gm gc gl cl ge ce b o)∧qaK (qbW b)∧qaK (b.g=a.g)∧qaK (MK [gm,gl,ge] W wr)) (fun v45 _=>a.g.B - (intOf v45).toNat);case atStart=>exact ⟨0,a,_,Nat.zero_le _,rfl,⟨by rw [Nat.sub_zero];exact HR.out⟩,H5,HBY,⟨rfl⟩,HK5⟩
   case round =>
    clear H5 HK5 HR HBY;obtain ⟨j,b,o,hj,rfl,HR,HM,HBY,HGG,HK⟩:=hrel
    by_cases hlt:j < a.g.B
    ·have d0:decide ((j:Int) < (a.g.B:Int))=true:=decide_eq_true (by omega);have hq:(j < a.g.B)=True:=eq_true hlt;have hqi:((j:Int) < (a.g.B:Int))=True:=eq_true (by omega);have hwj:wrap64 ((j:Int)+1)=(j:Int)+1:=by unfold wrap64;omega
     have hwk:IntKind.i64.wrap ((j:Int)+1)=(j:Int)+1:=by rw [qbL];exact hwj
     have hlo:o.l.length=a.g.B:=by rw [HM.out.ln,HGG.out]
     have hjo:j < o.l.length:=by omega
     have HJO:=aM hjo;have HJB:=aM (show j < b.g.B by rw [HGG.out];exact hlt)
     have HR1:=aM (show (if (o.l.getD j default).f0=1 then qyV (a.g.B - (j+1)) (j+1) b o
       else if (qcC b (o.put j { o.l.getD j default with f1:=(qaQ (qcE b (j:Int) 0).1).1 }) j).1=0 then qyV (a.g.B - (j+1)) (j+1) (qcC b (o.put j { o.l.getD j default with f1:=(qaQ (qcE b (j:Int) 0).1).1 }) j).2.1 (qcC b (o.put j { o.l.getD j default with f1:=(qaQ (qcE b (j:Int) 0).1).1 }) j).2.2
       else qcC b (o.put j { o.l.getD j default with f1:=(qaQ (qcE b (j:Int) 0).1).1 }) j)=r by
      have h1:=HR.out;rw [show a.g.B - j=(a.g.B - (j+1))+1 by omega] at h1
      exact h1)
     obtain ⟨z0,z1,z2,z3,z4,z5⟩:=HM.out.l.cell j hjo;have HBD:=aM (qbN hjo)
     obtain ⟨x,hx⟩:∃ x,x=o.l.getD j default:=⟨_,rfl⟩
     rw [← hx] at HR1;have hxj:o.l[j]=x:=by rw [hx];exact HBD.out.symm
     have HXJ:=aM (show ∀ q (hq:q < o.l.length),q=j→o.l[q]=x by rintro q hq rfl;exact hxj);rw [hxj] at z0 z1 z2 z3 z4 z5;have HLT:=aM hlt;clear hxj HBD hx hjo hlo hj hlt HR
     go_upto_region 15 with (fail)
     generalize hW:wr.alloc (.cells (bC x) 68)=W5
     obtain ⟨g8,hg8⟩:∃ g8,g8=wr.heap.size:=⟨_,rfl⟩
     rw [← hg8];have H5:=aM (show Man w0 W5 gm gc gl cl ge ce b o by rw [← hW];exact HM.out.grow (qaA (Below.refl _ _) _));have HK5:=aM (show MK [gm,gl,ge] W W5 by rw [← hW];exact HK.out.trans (MK.of_below (qaA (Below.refl _ _) _)));have hx5:W5.heap[g8]?=some (.cells (bC x) 68 (0,0)):=by rw [← hW,hg8];exact qaN _ _ _
     have x0:=Joins.cell_of_block hx5 0;clear hW hx5 z0 z1 z2 z3 z4 z5 HM HK hg8
     by_cases h1:x.f0=1
     ·have e0:(x.f0==1)=true:=by simp only [beq_iff_eq];exact h1
      have e0n:(x.f0=1)=True:=eq_true h1;have HR2:=aM ((if_pos h1).symm.trans HR1.out);clear h1;go_wp2;go_roundw;case rel=>exact ⟨j+1,b,o,HLT.out,by push_cast;rfl,HR2,H5,HBY,HGG,HK5⟩
      case measure=>have:=HLT.out;simp [intOf];omega
     ·have e0:(x.f0==1)=false:=by simp only [beq_eq_false_iff_ne];exact h1
      have e0n:(x.f0=1)=False:=eq_false h1;have HR2:=aM ((if_neg h1).symm.trans HR1.out);have HRD:=aM (H5.out.chip.read (j:Int) 0);have HPB:=aM (qjO HBY.out (j:Int) 0);generalize qcE b (j:Int) 0=rd at HRD HPB HR2;obtain ⟨pg,e9⟩:=rd;simp only at HRD HPB HR2;clear h1 HR1
      go_upto_region 17 with (first
       | (go_at_call 77;(with_reducible refine HRD.out.mono ?_);rintro z w6 ⟨v6,rfl,hr6,hb6⟩;obtain ⟨A6,c6,e6⟩:=Kd.R_slice hr6;subst e6;have HR6:=aM hr6;have HB6:=aM hb6;clear hr6 hb6))
      have HPC:=aM (fun (w:World) (hb:Below w6.heap.size w6 w)=>qhP A6 c6 pg aE w HPB.out (Kd.R_reads' (Kd.R_below HR6.out hb)).2.2 (Kd.R_reads' HR6.out).2.1 (qaF HGE.out (H5.out.grow (qaC HB6.out hb)).chip.below));generalize (qaQ pg).1=ct at HPC HR2
      have HST:=aM (fun (w:World) (hb:Below W5.heap.size W5 w)=>(show Man w0 (w.setCell ⟨gl,j*6+1,none⟩ (.int .i64 ct)) gm gc gl cl ge ce b (o.put j { x with f1:=ct })∧MK [gm,gl,ge] W (w.setCell ⟨gl,j*6+1,none⟩ (.int .i64 ct)) from
       ⟨(H5.out.grow hb).setF j HJO.out { x with f1:=ct } 1 (by decide) (fun t ht htj=>by rw [HXJ.out j HJO.out rfl];match t,ht,htj with | 0,_,_=>rfl | 2,_,_=>rfl | 3,_,_=>rfl | 4,_,_=>rfl | 5,_,_=>rfl),by
        obtain ⟨cells,hg,-⟩:=(H5.out.grow hb).l
        exact (HK5.out.trans (MK.of_below hb)).setF hg _ _⟩))
      have y5:w6.cell? ⟨gm,5,none⟩=some (.slice (some ⟨gl,0,none⟩) o.l.length cl):=(H5.out.grow HB6.out).cell 5;have hq2:(j < o.l.length)=True:=eq_true HJO.out;have hqi2:((j:Int) < (o.l.length:Int))=True:=eq_true (by have:=HJO.out;omega);go_cut [45] from 45 to 78 (fun v45 wx=>v45=.int .i64 j∧qaK (Man w0 wx gm gc gl cl ge ce b (o.put j { x with f1:=ct }))∧qaK (MK [gm,gl,ge] W wx))
      case first =>
       go_region_with (first
        | (go_at_call 87;(with_reducible refine (HPC.out _ (by first|exact qaP (Below.refl _ _)|exact Below.refl _ _)).mono ?_);rintro z w7 ⟨rfl,hb7⟩;have HB7:=aM (qaC (qaP (Below.refl _ _)) hb7);have y57:=qaF y5 HB7.out;have HB57:=aM (qaC HB6.out HB7.out);obtain ⟨-,k1,-,-,-,-⟩:=(H5.out.grow HB57.out).l.cell j HJO.out;have fz:=(H5.out.grow HB57.out).l.frozen (j*6+1);clear hb7))
       all_goals go_wp2
       all_goals go_meet
       all_goals exact ⟨rfl,⟨(HST.out _ HB57.out).1⟩,⟨(HST.out _ HB57.out).2⟩⟩
      case rest =>
       obtain ⟨rfl,H8,HK8⟩:=hcut;generalize wc=w8 at H8 HK8 ⊢;have HFR:=aM (qmY H8.out j HJB.out);have HAB:=aM (vcF HBY.out (o.put j { x with f1:=ct }) j);have HGN:=aM ((qzV b (o.put j { x with f1:=ct }) j).trans HGG.out);generalize qcC b (o.put j { x with f1:=ct }) j=t at HFR HAB HGN HR2;obtain ⟨e10,b10,o10⟩:=t;simp only at HFR HAB HGN HR2
       have h10:e10=0:=by
        have h1:=HR2.out
        by_cases h2:e10=0
        ·exact h2
        ·rw [if_neg h2] at h1;have h3:=HR0.out;rw [← h1] at h3;exact h3
       subst h10;have HR3:=aM ((if_pos rfl).symm.trans HR2.out);clear y5 x0 H5 HK5 HST HPC HR2 HRD
       go_wp2_with (first
        | (go_at_call 88;(with_reducible refine HFR.out.mono ?_);rintro z w9 ⟨v9,rfl,hv9,h9,hk9⟩;(rcases hv9.symm with ⟨h99,-⟩|⟨-,rfl⟩;exact absurd rfl h99);have H9:=aM h9;have HK9:=aM (HK8.out.trans (hk9.mono (fun z hz=>by simp only [List.mem_cons,List.not_mem_nil,or_false] at hz ⊢;rcases hz with h|h;exact .inl h;exact .inr (.inl h))));clear h9 hk9))
       go_roundw;case rel=>exact ⟨j+1,b10,o10,HLT.out,by push_cast;rfl,HR3,H9,HAB,HGN,HK9⟩
       case measure=>have:=HLT.out;simp [intOf];omega
    ·obtain rfl:j=a.g.B:=by omega
     have d0:decide ((a.g.B:Int) < (a.g.B:Int))=false:=decide_eq_false (by omega);have HR1:=aM (show (0,b,o)=r by have h1:=HR.out;rw [Nat.sub_self] at h1;exact h1);clear hlt hj HR;go_wp2;go_ret2;rw [← HR1.out]
     exact ⟨gm,gl,cl,ge,ce,rfl,HM.out,HK.out.fresh (fun z hz=>by
      have hf:=HF.out;simp only [List.mem_cons,List.not_mem_nil,or_false] at hz
      rcases hz with rfl|rfl|rfl
      ·exact hf.1
      ·exact hf.2.1
      ·exact hf.2.2),HF.out⟩
end
section
open Go.Shelf Plain
variable {w0 W W':World} {gm gc gl cl ge ce:Nat} {a a':AC} {m m':AM}
def qzG:Nat→Nat→AC→AM→Int × AC × AM
 | 0,_,a,m=>(0,a,m)
 | k+1,i,a,m=>if ¬ (m.l.getD i default).f0=3∨qeE m=true then qzG k (i+1) a m
  else if (qcC a m i).1=0 then qzG k (i+1) (qcC a m i).2.1 (qcC a m i).2.2
  else qcC a m i
theorem qpF:∀ (k i:Nat) (a:AC) (m:AM),(∀ j,i≤j→j < i+k→¬ (m.l.getD j default).f0=3)→qzG k i a m=(0,a,m)
 | 0,_,_,_,_=>rfl
 | k+1,i,a,m,h=>by
  unfold qzG;rw [if_pos (.inl (h i (Nat.le_refl _) (by omega)))];exact qpF k (i+1) a m (fun j hj hj2=>h j (by omega) (by omega))
theorem qsH (m:AM):qeE m=true∨qeE m=false:=by cases qeE m <;> simp
theorem qxC (h:qdV w0 W gc a) (hby:qbW a) (aE:Addr) (hgE:gNone w0 aE) (hon:a.off=false) (nl:Nat) (hnl:(nl:Int)=qeF a.g.B a.g.P a.g.Z a.g.R) (hnb:nl≤a.g.B)
  (r:Int × AC × AM) (hr:qzG a.g.B 0 a (qcD (qdE a) nl)=r) (hr0:r.1=0) :
  Calls Tryz.prog 29 #[cp gc] W fun x w'=>∃ gm gl cl ge ce:Nat,x=.returned (.tuple #[kp gm,.int .i64 0])∧Man w0 w' gm gc gl cl ge ce r.2.1 r.2.2∧MK [] W w'∧W.heap.size≤gm∧W.heap.size≤gl∧W.heap.size≤ge:=by
 have HAT:=aM (qkT h hby aE (qaF hgE h.below) hon nl hnl hnb);have hgok:=h.gok.1;have HML:=aM (show (qcD (qdE a) nl).l.length=a.g.B from qfU a);have HR:=aM hr;have HR0:=aM hr0;clear h hby hgE hon hnl hnb hr hr0;generalize qcD (qdE a) nl=m0 at HAT HML HR;have hu68:=Tryz.underlying68;go_enter Tryz.func29,Tryz.ntmps29
 go_upto_region 4 with (first
  | (go_at_call 86;(with_reducible refine HAT.out.mono ?_);rintro z w1 ⟨gm,gl,cl,ge,ce,rfl,hm,hb,g1,g2,g3⟩;have H5:=aM hm;have HK5:=aM (MK.of_below (s:=[gm,gl,ge]) hb);have HF:=aM (show W.heap.size≤gm∧W.heap.size≤gl∧W.heap.size≤ge from ⟨g1,g2,g3⟩);clear hm hb g1 g2 g3))
 have c5:w1.cell? ⟨gm,5,none⟩=some (.slice (some ⟨gl,0,none⟩) m0.l.length cl):=H5.out.cell 5;rw [HML.out] at c5
 go_upto_region 5 with (fail)
 clear c5;go_loopw [22] (fun v22 wr=>∃ (j:Nat) (b:AC) (o:AM),j≤a.g.B∧v22=.int .i64 j∧qaK (qzG (a.g.B - j) j b o=r)∧qaK (Man w0 wr gm gc gl cl ge ce b o)∧qaK (b.g=a.g)∧qaK (MK [gm,gl,ge] W wr)) (fun v22 _=>a.g.B - (intOf v22).toNat);case atStart=>exact ⟨0,a,_,Nat.zero_le _,rfl,⟨by rw [Nat.sub_zero];exact HR.out⟩,H5,⟨rfl⟩,HK5⟩
 case round =>
  clear H5 HK5 HR HAT HML;obtain ⟨j,b,o,hj,rfl,HR,HM,HGG,HK⟩:=hrel
  by_cases hlt:j < a.g.B
  ·have d0:decide ((j:Int) < (a.g.B:Int))=true:=decide_eq_true (by omega);have hq:(j < a.g.B)=True:=eq_true hlt;have hqi:((j:Int) < (a.g.B:Int))=True:=eq_true (by omega);have hwj:wrap64 ((j:Int)+1)=(j:Int)+1:=by unfold wrap64;omega
   have hwk:IntKind.i64.wrap ((j:Int)+1)=(j:Int)+1:=by rw [qbL];exact hwj
   have hlo:o.l.length=a.g.B:=by rw [HM.out.ln,HGG.out]
   have hjo:j < o.l.length:=by omega
   have HJB:=aM (show j < b.g.B by rw [HGG.out];exact hlt)
   have HR1:=aM (show (if ¬ (o.l.getD j default).f0=3∨qeE o=true then qzG (a.g.B - (j+1)) (j+1) b o
     else if (qcC b o j).1=0 then qzG (a.g.B - (j+1)) (j+1) (qcC b o j).2.1 (qcC b o j).2.2
     else qcC b o j)=r by
    have h1:=HR.out;rw [show a.g.B - j=(a.g.B - (j+1))+1 by omega] at h1
    exact h1)
   obtain ⟨z0,z1,z2,z3,z4,z5⟩:=HM.out.l.cell j hjo;have HBD:=aM (qbN hjo)
   obtain ⟨x,hx⟩:∃ x,x=o.l.getD j default:=⟨_,rfl⟩
   rw [← hx] at HR1;have hxj:o.l[j]=x:=by rw [hx];exact HBD.out.symm
   rw [hxj] at z0 z1 z2 z3 z4 z5;have HLT:=aM hlt;clear hxj HBD hx hjo hlo hj hlt HR
   go_upto_region 7 with (fail)
   generalize hW:wr.alloc (.cells (bC x) 68)=W5
   obtain ⟨g8,hg8⟩:∃ g8,g8=wr.heap.size:=⟨_,rfl⟩
   rw [← hg8];have H5:=aM (show Man w0 W5 gm gc gl cl ge ce b o by rw [← hW];exact HM.out.grow (qaA (Below.refl _ _) _));have HK5:=aM (show MK [gm,gl,ge] W W5 by rw [← hW];exact HK.out.trans (MK.of_below (qaA (Below.refl _ _) _)));have hx5:W5.heap[g8]?=some (.cells (bC x) 68 (0,0)):=by rw [← hW,hg8];exact qaN _ _ _
   have x0:=Joins.cell_of_block hx5 0;clear hW hx5 z0 z1 z2 z3 z4 z5 HM HK hg8
   by_cases h3:x.f0=3
   ·have e0:(x.f0==3)=true:=by simp only [beq_iff_eq];exact h3
    have e0n:(x.f0 != 3)=false:=by rw [bne,e0];rfl
    have HSPT:=aM (qcS H5.out)
    rcases qsH o with hsp|hsp
    ·have HR2:=aM ((if_pos (.inr hsp)).symm.trans HR1.out);rw [hsp] at HSPT;clear h3 HR1 hsp
     go_wp2_with (first
      | (go_at_call 40;(with_reducible refine HSPT.out.mono ?_);rintro z w2 ⟨rfl,hb⟩;have H6:=aM (H5.out.grow hb);have HK6:=aM (HK5.out.trans (MK.of_below hb));clear hb))
     go_roundw;case rel=>exact ⟨j+1,b,o,HLT.out,by push_cast;rfl,HR2,H6,HGG,HK6⟩
     case measure=>have:=HLT.out;simp [intOf];omega
    ·have HR2:=aM ((if_neg (fun h=>by rcases h with h|h;exact h h3;rw [hsp] at h;exact absurd h (by decide))).symm.trans HR1.out);rw [hsp] at HSPT;clear h3 HR1 hsp
     go_upto_region 8 with (first
      | (go_at_call 40;(with_reducible refine HSPT.out.mono ?_);rintro z w2 ⟨rfl,hb⟩;have H6:=aM (H5.out.grow hb);have HK6:=aM (HK5.out.trans (MK.of_below hb));clear hb))
     have HFR:=aM (qmY H6.out j HJB.out);have HGN:=aM ((qzV b o j).trans HGG.out);generalize qcC b o j=t at HFR HGN HR2;obtain ⟨e10,b10,o10⟩:=t;simp only at HFR HGN HR2
     have h10:e10=0:=by
      have h1:=HR2.out
      by_cases h2:e10=0
      ·exact h2
      ·rw [if_neg h2] at h1;have h3:=HR0.out;rw [← h1] at h3;exact h3
     subst h10;have HR3:=aM ((if_pos rfl).symm.trans HR2.out);clear x0 H5 HK5 HR2 HSPT
     go_wp2_with (first
      | (go_at_call 88;(with_reducible refine HFR.out.mono ?_);rintro z w9 ⟨v9,rfl,hv9,h9,hk9⟩;(rcases hv9.symm with ⟨h99,-⟩|⟨-,rfl⟩;exact absurd rfl h99);have H9:=aM h9;have HK9:=aM (HK6.out.trans (hk9.mono (fun z hz=>by simp only [List.mem_cons,List.not_mem_nil,or_false] at hz ⊢;rcases hz with h|h;exact .inl h;exact .inr (.inl h))));clear h9 hk9))
     go_roundw;case rel=>exact ⟨j+1,b10,o10,HLT.out,by push_cast;rfl,HR3,H9,HGN,HK9⟩
     case measure=>have:=HLT.out;simp [intOf];omega
   ·have e0:(x.f0==3)=false:=by simp only [beq_eq_false_iff_ne];exact h3
    have e0n:(x.f0 != 3)=true:=by rw [bne,e0];rfl
    have HR2:=aM ((if_pos (.inl h3)).symm.trans HR1.out);clear h3 HR1;go_wp2;go_roundw;case rel=>exact ⟨j+1,b,o,HLT.out,by push_cast;rfl,HR2,H5,HGG,HK5⟩
    case measure=>have:=HLT.out;simp [intOf];omega
  ·obtain rfl:j=a.g.B:=by omega
   have d0:decide ((a.g.B:Int) < (a.g.B:Int))=false:=decide_eq_false (by omega);have HR1:=aM (show (0,b,o)=r by have h1:=HR.out;rw [Nat.sub_self] at h1;exact h1);clear hlt hj HR;go_wp2;go_ret2;rw [← HR1.out]
   exact ⟨gm,gl,cl,ge,ce,rfl,HM.out,HK.out.fresh (fun z hz=>by
    have hf:=HF.out;simp only [List.mem_cons,List.not_mem_nil,or_false] at hz
    rcases hz with rfl|rfl|rfl
    ·exact hf.1
    ·exact hf.2.1
    ·exact hf.2.2),HF.out⟩
end
end Go.Proofs.YtdlimghdimkadaaGreatDoor.PAll

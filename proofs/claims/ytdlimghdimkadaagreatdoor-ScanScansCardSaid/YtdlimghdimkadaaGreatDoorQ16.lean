/- Part 16 of what the law ScanScans rests on. -/
import Derived.Test.YtdlimghdimkadaaGreatDoorQ14
import Derived.Test.YtdlimghdimkadaaGreatDoorQ15
import Derived.Test.YtdlimghdimkadaaGreatDoorQ7
import Derived.Deep.Slices
import Derived.SizedLaws
import Derived.ChangeArms
import Derived.Test.YtdlimghdimkadaaGreatDoorQ0
set_option maxRecDepth 100000
set_option maxHeartbeats 32000000
set_option linter.unusedSimpArgs false
set_option linter.unusedVariables false
namespace Go.Proofs.YtdlimghdimkadaaGreatDoor.PAll
open Go Go.RowKit YtdlimghdimkadaaGreatDoorW.PrintWords YtdlimghdimkadaaGreatDoorW.PrintLast YtdlimghdimkadaaGreatDoorW.PrintMore
attribute [local go_sem] qdS qdQ qeJ qeI qcV qcU qdR qdP
section
open Go.Shelf Plain
def qfM:Geo:=⟨16,16,128,2⟩
theorem qnN {W w':World} (h:qbF W w') {base:Nat} {ok:Nat→Prop} {v:Value} {l:List Int} (hr:Kd.R kB 5 W base ok v l):Kd.R kB 5 w' base ok v l :=
 Kd.R_mono (Kd.R_move (Kd.R_bound hr) (fun k hk=>by
  obtain ⟨_,_,_,q,hq,cells,hc⟩:=hk;have hq2:q=5:=by simpa [Kd.int,Kd.scalar] using hq
  subst hq2;rw [hc]
  exact h k _ _ _ (by decide) (by decide) (by decide) hc)) (fun _ hk=>hk.1)
theorem qrB {W w':World} (h:qbF W w') {base:Nat} {ok:Nat→Prop} {A:Option Addr} {c:Nat} {l:List Int} (hr:Kd.R kB 5 W base ok (.slice A l.length c) l):Kd.C kB w' A l.length l:=(Kd.R_reads' (qnN h hr)).2.2
theorem qjK {a:AC} {n p:Nat} {l:List Int} (h1:a.off=false) (h2:n < a.g.B) (h3:p < a.g.P) (h4:l.length≤a.g.Z) (h5:(a.bk n).bad=false) (h6:(a.bk n).nx=(p:Int)) (h7:a.pl=[]):qcT a (n:Int) (p:Int) l=(0,a.tick.put n p 1 l):=by
 unfold qcT;rw [if_neg (by rw [h1];decide),if_neg (by omega),if_neg (by omega),Int.toNat_natCast,if_neg (by rw [h5,h6];simp),Int.toNat_natCast];have:a.hit=none:=by unfold AC.hit;rw [h7];rfl
 rw [this]
theorem qpE {a:AC} {n:Int} (h1:qpN a n=false) (h2:qdY a n=0):qcQ a n=(⟨3,0,0,0,0,false⟩,false):=by
 unfold qcQ;rw [if_neg (by rw [h1];decide),if_pos];unfold qdI;rw [if_pos (by omega)]
section
variable (xa xm:List Int)
def qyV:AC:=((((qmZ qfM []).tick.put 1 0 1 xa).tick.put 4 0 1 xa).tick.put 4 1 1 xm).tick.put 4 2 1 [120]
def qeA:AC:=⟨qfM,[],0,false,4,0,fun x=>if x=4 then ⟨false,0,3,fun j=>if j=2 then ⟨1,[120]⟩ else if j=1 then ⟨1,xm⟩ else if j=0 then ⟨1,xa⟩ else ⟨0,[]⟩⟩ else if x=1 then ⟨false,0,1,fun j=>if j=0 then ⟨1,xa⟩ else ⟨0,[]⟩⟩ else ⟨false,0,0,fun _=>⟨0,[]⟩⟩⟩
variable {xa xm}
theorem qgM (p:Nat) (h:p < 1000000):wrap64 ((p:Int)+1)=(p:Int)+1:=by unfold wrap64;omega
theorem qnL:qyV xa xm=qeA xa xm:=by
 have w0:wrap64 (((0:Nat):Int)+1)=1:=qgM 0 (by decide);have w1:wrap64 (((1:Nat):Int)+1)=2:=qgM 1 (by decide);have w2:wrap64 (((2:Nat):Int)+1)=3:=qgM 2 (by decide);have v0:wrap64 ((0:Int)+1)=1:=w0;have v1:wrap64 ((1:Int)+1)=2:=w1;have v2:wrap64 ((2:Int)+1)=3:=w2;have v3:wrap64 ((3:Int)+1)=4:=qgM 3 (by decide);simp only [qyV,AC.put,AC.setBk,AC.tick,qmZ,ABk.setPg,qeA,w0,w1,w2,v0,v1,v2,v3,AC.mk.injEq,true_and]
 funext x
 by_cases h4:x=4
 ·subst h4;simp
 ·by_cases h1:x=1
  ·subst h1;simp
  ·simp [h1,h4]
theorem qwN (ha:xa.length=128) (hm:xm.length=128):(qcT (qcT (qcT (qcT (qmZ qfM []) 1 0 xa).2 4 0 xa).2 4 1 xm).2 4 2 [120]).2=qyV xa xm:=by
 have e1:=qjK (a:=qmZ qfM []) (n:=1) (p:=0) (l:=xa) rfl (of_decide_eq_true rfl) (of_decide_eq_true rfl) (by rw [ha];exact (of_decide_eq_true rfl)) rfl (by rfl) rfl;have e2:=qjK (a:=(qmZ qfM []).tick.put 1 0 1 xa) (n:=4) (p:=0) (l:=xa) rfl (of_decide_eq_true rfl) (of_decide_eq_true rfl) (by rw [ha];exact (of_decide_eq_true rfl)) rfl (by rfl) rfl;have e3:=qjK (a:=((qmZ qfM []).tick.put 1 0 1 xa).tick.put 4 0 1 xa) (n:=4) (p:=1) (l:=xm) rfl (of_decide_eq_true rfl) (of_decide_eq_true rfl) (by rw [hm];exact (of_decide_eq_true rfl)) rfl (show wrap64 (((0:Nat):Int)+1)=1 from qgM 0 (by decide)) rfl;have e4:=qjK (a:=(((qmZ qfM []).tick.put 1 0 1 xa).tick.put 4 0 1 xa).tick.put 4 1 1 xm) (n:=4) (p:=2) (l:=[120]) rfl (of_decide_eq_true rfl) (of_decide_eq_true rfl) (of_decide_eq_true rfl) rfl (show wrap64 (((1:Nat):Int)+1)=2 from qgM 1 (by decide)) rfl;show (qcT (qcT (qcT (qcT (qmZ qfM []) ((1:Nat):Int) ((0:Nat):Int) xa).2 ((4:Nat):Int) ((0:Nat):Int) xa).2 ((4:Nat):Int) ((1:Nat):Int) xm).2 ((4:Nat):Int) ((2:Nat):Int) [120]).2=_;rw [e1];show (qcT (qcT (qcT ((qmZ qfM []).tick.put 1 0 1 xa) ((4:Nat):Int) ((0:Nat):Int) xa).2 ((4:Nat):Int) ((1:Nat):Int) xm).2 ((4:Nat):Int) ((2:Nat):Int) [120]).2=_;rw [e2];show (qcT (qcT (((qmZ qfM []).tick.put 1 0 1 xa).tick.put 4 0 1 xa) ((4:Nat):Int) ((1:Nat):Int) xm).2 ((4:Nat):Int) ((2:Nat):Int) [120]).2=_
 rw [e3];show (qcT ((((qmZ qfM []).tick.put 1 0 1 xa).tick.put 4 0 1 xa).tick.put 4 1 1 xm) ((4:Nat):Int) ((2:Nat):Int) [120]).2=_;rw [e4];rfl
theorem qkL {a:AC} {n p:Nat} {l:List Int} (h1:a.off=false) (h2:n < a.g.B) (h3:p < a.g.P) (h4:(p:Int) < (a.bk n).nx) (h5:(a.bk n).pg p=⟨1,l⟩) (h6:l.length=a.g.Z):qdI a (n:Int) (p:Int)=(l,true):=by
 have e:qdY a (n:Int)=(a.bk n).nx:=by unfold qdY;rw [if_neg (by omega),Int.toNat_natCast]
 unfold qdI;rw [e,if_neg (by omega)];unfold qbV;rw [if_neg (by rw [h1];decide),if_neg (by omega),if_neg (by omega),Int.toNat_natCast,Int.toNat_natCast,h5,if_neg (of_decide_eq_true rfl),if_pos rfl,h6];simp
theorem qtI:qfP 16 16 128 2=12:=by
 unfold qfP;have h:qcG 16 16 128 2=true:=by kernel_rfl
 rw [if_pos h];unfold wrap64;decide
theorem qvW (ha:xa.length=128) (hp:qaX xa=(5,true)):qcQ (qeA xa xm) 1=(⟨2,5,0,0,0,false⟩,true):=by
 have e1:qdI (qeA xa xm) ((1:Nat):Int) ((0:Nat):Int)=(xa,true):=qkL rfl (of_decide_eq_true rfl) (of_decide_eq_true rfl) (of_decide_eq_true rfl) rfl ha;have e1':qdI (qeA xa xm) 1 0=(xa,true):=e1;unfold qcQ;rw [e1',if_neg (of_decide_eq_true rfl),if_neg (of_decide_eq_true rfl),hp,if_neg (of_decide_eq_true rfl),if_pos (of_decide_eq_true rfl)]
theorem qxZ (ha:xa.length=128) (hm:xm.length=128) (hp:qaX xa=(5,true)) (hq:qbA xm=((2,7,0),true)):qcQ (qeA xa xm) 4=(⟨4,5,2,1,7,false⟩,true):=by
 have e1:qdI (qeA xa xm) 4 0=(xa,true):=qkL (n:=4) (p:=0) rfl (of_decide_eq_true rfl) (of_decide_eq_true rfl) (of_decide_eq_true rfl) rfl ha;have e2:qdI (qeA xa xm) 4 1=(xm,true):=qkL (n:=4) (p:=1) rfl (of_decide_eq_true rfl) (of_decide_eq_true rfl) (of_decide_eq_true rfl) rfl hm;have e3:qhE (qeA xa xm) 4 14 0=(1,false):=by rfl
 unfold qcQ;rw [e1,if_neg (of_decide_eq_true rfl),if_neg (of_decide_eq_true rfl),hp,if_neg (of_decide_eq_true rfl),if_neg (of_decide_eq_true rfl),e2,if_neg (of_decide_eq_true rfl),hq];have e4:(qeA xa xm).g.P - 2=14:=rfl
 have e5:qtE (qeA xa xm) 4 ((2,7,0),true)=true:=by
  unfold qtE;rw [e4,e3];have e6:qfP (qeA xa xm).g.B (qeA xa xm).g.P (qeA xa xm).g.Z (qeA xa xm).g.R=12:=qtI;rw [e6];rfl
 rw [if_pos e5,e4,e3];rfl
def qoK:List (Blk × Bool):=[(⟨3,0,0,0,0,false⟩,false),(⟨2,5,0,0,0,false⟩,true),(⟨3,0,0,0,0,false⟩,false),(⟨3,0,0,0,0,false⟩,false),(⟨4,5,2,1,7,false⟩,true)] ++ List.replicate 11 (⟨3,0,0,0,0,false⟩,false)
theorem qxY (ha:xa.length=128) (hm:xm.length=128) (hp:qaX xa=(5,true)) (hq:qbA xm=((2,7,0),true)):qbB (qeA xa xm) 16=qoK:=by
 have hb:∀ n:Nat,n < 16→n ≠ 1→n ≠ 4→qcQ (qeA xa xm) (n:Int)=(⟨3,0,0,0,0,false⟩,false):=fun n hn h1 h4=>by
  have hbk:(qeA xa xm).bk n=⟨false,0,0,fun _=>⟨0,[]⟩⟩:=by
   simp only [qeA,if_neg h1,if_neg h4]
  refine qpE ?_ ?_
  ·unfold qpN;rw [if_neg (by show ¬ ((n:Int) < 0∨((16:Nat):Int)≤n);omega),Int.toNat_natCast,hbk]
  ·unfold qdY;rw [if_neg (by show ¬ ((n:Int) < 0∨((16:Nat):Int)≤n);omega),Int.toNat_natCast,hbk]
 unfold qbB;have e:List.range 16=[0,1,2,3,4,5,6,7,8,9,10,11,12,13,14,15]:=rfl;rw [e];simp only [List.map_cons,List.map_nil];rw [hb 0 (by omega) (by omega) (by omega),hb 2 (by omega) (by omega) (by omega),hb 3 (by omega) (by omega) (by omega),hb 5 (by omega) (by omega) (by omega),hb 6 (by omega) (by omega) (by omega),hb 7 (by omega) (by omega) (by omega),hb 8 (by omega) (by omega) (by omega),hb 9 (by omega) (by omega) (by omega),hb 10 (by omega) (by omega) (by omega),hb 11 (by omega) (by omega) (by omega),hb 12 (by omega) (by omega) (by omega),hb 13 (by omega) (by omega) (by omega),hb 14 (by omega) (by omega) (by omega),hb 15 (by omega) (by omega) (by omega)];have f1:qcQ (qeA xa xm) ((1:Nat):Int)=_:=qvW ha hp;have f4:qcQ (qeA xa xm) ((4:Nat):Int)=_:=qxZ ha hm hp hq;rw [f1,f4];rfl
def qjE:List Blk:=[⟨3,5,0,0,0,false⟩,⟨2,5,0,0,0,false⟩,⟨3,5,0,0,0,false⟩,⟨3,5,0,0,0,false⟩,⟨4,5,2,1,7,false⟩] ++ List.replicate 11 ⟨3,5,0,0,0,false⟩
theorem qsR (ha:xa.length=128) (hm:xm.length=128) (hp:qaX xa=(5,true)) (hq:qbA xm=((2,7,0),true)):qgF (qyV xa xm)=qjE:=by
 rw [qnL];have e:qgF (qeA xa xm)=qoM (qfQ (qbB (qeA xa xm) 16)):=rfl;rw [e,qxY ha hm hp hq];have a1:wrap64 5=5:=by unfold wrap64;decide
 have a2:wrap64 10=10:=by unfold wrap64;decide
 have a3:wrap64 1=1:=by unfold wrap64;decide
 have a4:wrap64 2=2:=by unfold wrap64;decide
 have hs:qdC qoK=(10,2):=by
  simp [qdC,qoK,qxE,List.replicate,a1,a2,a3,a4]
 have he:qfQ qoK=qjE:=by
  unfold qfQ;rw [hs];have a5:wrap64 (Int.tdiv 10 2)=5:=a1;simp [qoK,qdJ,qjE,List.replicate,a5,a1]
 rw [he];rfl
end
end
section
open Go.Shelf Plain
theorem qwK {n page:Int} (hn:0≤n∧n≤2147483647) (hp:64≤page∧page≤512):qmE n page=(qeK (countP n) page,0):=by
 unfold qmE;rw [if_neg (by omega)]
theorem vbB {leb seq pages page:Int} (h1:0≤leb∧leb < 256) (h3:0≤pages∧pages≤64) (hp:64≤page∧page≤512):vcF leb seq pages page=(qeK (qoJ leb seq pages) page,0):=by
 unfold vcF;rw [if_neg (by omega)]
theorem quV (n:Int) (hn:0≤n∧n≤2147483647):∃ xa:List Int,xa.length=128∧qbN xa∧qaX xa=(n,true)∧∀ w,Calls Tryz.prog 56 #[.int .i64 n,.int .i64 128] w fun e w'=>∃ v:Value,e=.returned (.tuple #[v,.int .i64 0])∧Kd.R kB 5 w' w.heap.size (fun _=>True) v xa∧Below w.heap.size w w':=by
 refine ⟨qeK (countP n) 128,by rw [qgK];rfl,qkP (qjB n) 128,qpZ hn (by decide),fun w=>?_⟩;have h:=quU n 128 w;rw [qwK hn (by decide)] at h;exact h
theorem vaD (leb seq pages:Int) (h1:0≤leb∧leb < 256) (h2:0≤seq∧seq < 18446744073709551616) (h3:0≤pages∧pages≤64):∃ xm:List Int,xm.length=128∧qbN xm∧qbA xm=((leb,seq,pages),true)∧∀ w,Calls Tryz.prog 57 #[.agg #[.int .i64 leb,.int .u64 seq,.int .i64 pages],.int .i64 128] w fun e w'=>∃ v:Value,e=.returned (.tuple #[v,.int .i64 0])∧Kd.R kB 5 w' w.heap.size (fun _=>True) v xm∧Below w.heap.size w w':=by
 refine ⟨qeK (qoJ leb seq pages) 128,by rw [qgK];rfl,qkP (qlY leb seq pages (by omega)) 128,qvK h1 h2 h3 (by decide),fun w=>?_⟩;have h:=qpR leb seq pages 128 h2.1 w;rw [vbB h1 h3 (by decide)] at h;exact h
theorem qvQ (w:World):Calls Tryz.prog 11 #[.agg #[.int .i64 16,.int .i64 16,.int .i64 128,.int .i64 2],.slice none 0 0] w fun e w'=>∃ gc:Nat,e=.returned (.tuple #[cp gc,.int .i64 0])∧qdG w w' gc (qmZ qfM []) :=
 qsH qfM none 0 [] w ⟨rfl,by decide,fun h=>by cases h⟩ (Nat.le_refl _) (by kernel_rfl) (by rfl)
theorem qxF (w:World):Calls Tryz.prog 55 #[] w fun e w'=>e=.returned (.agg #[.int .i64 16,.int .i64 16,.int .i64 128,.int .i64 2])∧Below w.heap.size w w':=pumicelaw03_Small.calls 16 16 128 2 w rfl
theorem qqV {xa xm:List Int} (ha:qbN xa) (hm:qbN xm):qdH (qeA xa xm):=by
 have h1:qbN [120]:=fun x hx=>by simp at hx;subst hx;decide
 have h0:qbN []:=fun x hx=>by cases hx
 intro i j
 by_cases h4:i=4
 ·subst h4
  by_cases j2:j=2
  ·subst j2;exact h1
  by_cases j1:j=1
  ·subst j1;exact hm
  by_cases j0:j=0
  ·subst j0;exact ha
  simp only [qeA,if_pos,if_neg j2,if_neg j1,if_neg j0];exact h0
 by_cases hi1:i=1
 ·subst hi1
  by_cases j0:j=0
  ·subst j0;exact ha
  simp only [qeA,if_neg h4,if_pos,if_neg j0];exact h0
 simp only [qeA,if_neg h4,if_neg hi1];exact h0
theorem qnR (aE:Addr) (w:World) (hg:gNone w aE):Calls Tryz.prog 15 #[] w fun e w'=>e=.returned (.bool true)∧Below w.heap.size w w':=by
 obtain ⟨xa,la,ba,pa,HCa⟩:=quV 5 (by decide);obtain ⟨xm,lm,bm,pm,HMa⟩:=vaD 2 7 0 (by decide) (by decide) (by decide);have HC:=aM HCa;have HM:=aM HMa;have HSM:=aM qxF;have HNW:=aM qvQ;have HRUN:=aM ((qwN la lm).trans qnL);have HBY:=aM (qqV ba bm);have HSC:=aM (show qgF (qeA xa xm)=qjE by rw [← qnL];exact qsR la lm pa pm);have HG:=aM hg;have hcv:=fun (w:World) (x:Int)=>Lib.run_convert_bytes_const (P:=Tryz.prog) w 35 5 #[.int .u8 x] 1 1 Tryz.underlying35 Tryz.underlying5
 clear la ba pa HCa lm bm pm HMa hg;go_enter Tryz.func15,Tryz.ntmps15
 go_upto_region 4 with (first
  | (go_at_call 55;(with_reducible refine (HSM.out _).mono ?_);rintro e w1 ⟨rfl,hb1⟩;have HB1:=aM hb1;clear hb1)
  | (go_at_call 11;(with_reducible refine (HNW.out _).mono ?_);rintro e w2 ⟨gc,rfl,hc2⟩;have HC2:=aM (hc2.lower HB1.out);clear hc2))
 go_upto_region 6 with (first
  | (go_at_call 56;(with_reducible refine (HC.out _).mono ?_);rintro e w3 ⟨v3,rfl,hr3,hb3⟩;obtain ⟨A3,c3,rfl⟩:=Kd.R_slice hr3;have HC3:=aM (HC2.out.grow hb3);have HA3:=aM hr3;clear hr3 hb3)
  | (go_at_call 57;(with_reducible refine (HM.out _).mono ?_);rintro e w4 ⟨v4,rfl,hr4,hb4⟩;obtain ⟨A4,c4,rfl⟩:=Kd.R_slice hr4;have HC4:=aM (HC3.out.grow hb4);have HA4:=aM (Kd.R_below HA3.out hb4);have HM4:=aM hr4;clear hr4 hb4))
 have HP5:=aM (HC4.out.program 1 0 A3 c3 xa (fun w' _ hk=>qrB hk HA4.out) (Kd.R_reads' HA4.out).2.1)
 go_upto_region 7 with (first
  | (go_at_call 58;(with_reducible refine HP5.out.mono ?_);rintro e w5 ⟨rfl,hc5,hk5⟩;have HC5:=aM hc5;have HA5:=aM (qnN hk5 HA4.out);have HM5:=aM (qnN hk5 HM4.out);clear hc5 hk5))
 have HP6:=aM (HC5.out.program 4 0 A3 c3 xa (fun w' _ hk=>qrB hk HA5.out) (Kd.R_reads' HA5.out).2.1)
 go_upto_region 8 with (first
  | (go_at_call 58;(with_reducible refine HP6.out.mono ?_);rintro e w6 ⟨rfl,hc6,hk6⟩;have HC6:=aM hc6;have HM6:=aM (qnN hk6 HM5.out);clear hc6 hk6))
 have HP7:=aM (HC6.out.program 4 1 A4 c4 xm (fun w' _ hk=>qrB hk HM6.out) (Kd.R_reads' HM6.out).2.1)
 go_upto_region 9 with (first
  | (go_at_call 58;(with_reducible refine HP7.out.mono ?_);rintro e w7 ⟨rfl,hc7,hk7⟩;have HC7:=aM hc7;clear hc7 hk7))
 have HX7:=aM (World.alloc_heap_new w7 (.cells #[.int .u8 120] 5 (1,2)));have HC8:=aM (HC7.out.grow (qaA (Below.refl _ _) (.cells #[.int .u8 120] 5 (1,2))))
 have HP8:=aM (show Calls Tryz.prog 58 #[cp gc,.int .i64 4,.int .i64 2,.slice (some ⟨w7.heap.size,0,none⟩) 1 1] (w7.alloc (.cells #[.int .u8 120] 5 (1,2))) _ from HC8.out.program 4 2 (some ⟨w7.heap.size,0,none⟩) 1 [120] (fun w' _ hk=>by
  refine ⟨rfl,by decide,fun _=>⟨_,rfl,fun j p hj=>?_⟩⟩;have hx:=hk _ _ _ _ (by decide) (by decide) (by decide) HX7.out
  match j,hj with
  | 0,hj =>
   cases hj
   refine ⟨[.int .u8 120],rfl,rfl,fun i u hi=>?_⟩
   match i,hi with
   | 0,hi=>cases hi;simp [World.cell?,hx,Addr.add]
   | i+1,hi=>simp at hi
  | j+1,hj=>simp at hj) (by decide))
 go_upto_region 10 with (first
  | (go_at_call 58;(with_reducible refine HP8.out.mono ?_);rintro e w8 ⟨rfl,hc8,hk8⟩;have HC9:=aM (show qdG w w8 gc (qeA xa xm) from (by rw [← HRUN.out];exact hc8));clear hc8 hk8))
 have HGE:=aM (qbI HG.out HC9.out.below)
 have HSCAN:=aM (show Calls Tryz.prog 18 #[cp gc] w8 (fun e w'=>∃ (g c:Nat),e=.returned (.tuple #[.slice (some ⟨g,0,none⟩) 16 c,.int .i64 0])∧16≤c∧Rows w' g qjE∧Below w8.heap.size w8 w') from by
  have h:=qwY HC9.out HBY.out aE HGE.out rfl;rw [HSC.out] at h
  exact h)
 go_wp2_with (first
  | (go_at_call 18;(with_reducible refine HSCAN.out.mono ?_);rintro e w9 ⟨gl,cl,rfl,hcl,hR,hb9⟩;have HB9:=aM (qaF HC9.out.below hb9);have HR9:=aM hR;have HCL:=aM hcl;have z0:w9.cell? ⟨gl,0,none⟩=some (.int .i64 3):=(hR.cell 0 (by decide)).1;have z1:w9.cell? ⟨gl,1,none⟩=some (.int .i64 5):=(hR.cell 0 (by decide)).2.1;have z6:w9.cell? ⟨gl,6,none⟩=some (.int .i64 2):=(hR.cell 1 (by decide)).1;have z24:w9.cell? ⟨gl,24,none⟩=some (.int .i64 4):=(hR.cell 4 (by decide)).1;have z26:w9.cell? ⟨gl,26,none⟩=some (.int .i64 2):=(hR.cell 4 (by decide)).2.2.1;have z27:w9.cell? ⟨gl,27,none⟩=some (.int .i64 1):=(hR.cell 4 (by decide)).2.2.2.1;have HFI:=aM (show Calls Tryz.prog 59 #[.slice (some ⟨gl,0,none⟩) 16 cl,.int .i64 2] w9 (fun e w'=>e=.returned (.int .i64 4)∧Below w9.heap.size w9 w') from vbK (some ⟨gl,0,none⟩) cl qjE 2 w9 (hR.reads (by decide)) (by decide));clear hR hcl hb9)
  | (go_at_call 59;(with_reducible refine HFI.out.mono ?_);rintro e w10 ⟨rfl,hb10⟩;have HB10:=aM (qaF HB9.out hb10);have HR10:=aM (HR9.out.keep (hb10.block gl HR9.out.lt));have HLE:=aM (show Calls Tryz.prog 60 #[.slice (some ⟨gl,0,none⟩) 16 cl] w10 (fun e w'=>e=.returned (.int .i64 1)∧Below w10.heap.size w10 w') from qyA (some ⟨gl,0,none⟩) cl qjE w10 (HR10.out.reads (by decide)) (by decide));clear hb10 z0 z1 z6 z24 z26 z27)
  | (go_at_call 60;(with_reducible refine HLE.out.mono ?_);rintro e w11 ⟨rfl,hb11⟩;have HB11:=aM (qaF HB10.out hb11);have HR11:=aM (HR10.out.keep (hb11.block gl HR10.out.lt));have HGO:=aM (show Calls Tryz.prog 61 #[.slice (some ⟨gl,0,none⟩) 16 cl] w11 (fun e w'=>e=.returned (.int .i64 16)∧Below w11.heap.size w11 w') from vbJ (some ⟨gl,0,none⟩) cl qjE w11 (HR11.out.reads (by decide)) HCL.out (by decide));clear hb11)
  | (go_at_call 61;(with_reducible refine HGO.out.mono ?_);rintro e w12 ⟨rfl,hb12⟩;have HB12:=aM (qaF HB11.out hb12);clear hb12))
 go_ret;exact ⟨rfl,HB12.out⟩
end
section
open Go.Shelf Plain
theorem eqG (d:Nat) (w:World) (x0 y0 x1 y1 x2 y2 x3 y3:Int) :
  (Op.equalIn (d+2) 23 (.agg #[.int .i64 x0,.int .i64 x1,.int .i64 x2,.int .i64 x3]) (.agg #[.int .i64 y0,.int .i64 y1,.int .i64 y2,.int .i64 y3])).run Tryz.prog w=.ok (x0==y0 && (x1==y1 && (x2==y2 && (x3==y3)))) w:=by
 refine qzN Tryz.underlying23 (by kernel_rfl) ?_;refine qfG (by rfl) (by go_simp;rfl) (by go_simp;rfl) (by go_simp) ?_;refine qfG (by rfl) (by go_simp;rfl) (by go_simp;rfl) (by go_simp) ?_;refine qfG (by rfl) (by go_simp;rfl) (by go_simp;rfl) (by go_simp) ?_;exact qsA (by rfl) (by go_simp;rfl) (by go_simp;rfl) (by go_simp)
attribute [local go_sem high] eqG
variable {w0 W:World} {gc gd:Nat} {a:AC}
theorem quM (xs:List Blk) (hl:xs.length < 4611686018427387904):∀ m i:Nat,i+m=xs.length→pumicelaw07_same.l0 (m+1) xs xs (i:Int)=some true
 | 0,i,h=>by
  unfold pumicelaw07_same.l0;rw [if_neg (by omega)]
 | m+1,i,h=>by
  unfold pumicelaw07_same.l0;rw [if_pos (by omega),if_pos (by omega),if_pos (by omega),if_neg (by simp),quG i (by omega)];exact quM xs hl m (i+1) (by omega)
theorem quN (A0:Option Addr) (c0:Nat) (xs:List Blk) (A1:Option Addr) (c1:Nat) (ys:List qzC) (w:World) (he:ys.map qgX=xs) (hr0:Kd.C qtJ w A0 xs.length xs) (hc0:xs.length≤c0) (hr1:Kd.C kR w A1 ys.length ys) (hc1:ys.length≤c1) (hl:xs.length≤2932031007402) :
  Calls Tryz.prog 20 #[.slice A0 xs.length c0,.slice A1 ys.length c1] w fun e w'=>e=.returned (.bool true)∧Below w.heap.size w w':=by
 have hlen:xs.length=ys.length:=by rw [← he,List.length_map]
 refine pumicelaw07_same.calls (ys.length+1) A0 c0 xs A1 c1 ys true w hr0 hc0 hr1 hc1 ?_;unfold pumicelaw07_same.f pumicelaw07_Own.f;have h1:=qzI ys (by omega) ys.length 0 (by omega);rw [List.take_zero] at h1;rw [if_pos (by omega)];rw [show pumicelaw07_Own.l0 (ys.length+1) ys ([]:List Blk) 0=some (ys.map qgX) from h1,he,Option.bind_some,← hlen];exact quM xs (by omega) xs.length 0 (by omega)
theorem vcB (A0:Option Addr) (c0:Nat) (A1:Option Addr) (c1:Nat) (l:List Int) (w:World) (hr0:Kd.C kB w A0 l.length l) (hc0:l.length≤c0) (hr1:Kd.C kB w A1 l.length l) (hc1:l.length≤c1) :
  Calls Tryz.prog 32 #[.slice A0 l.length c0,.slice A1 l.length c1] w fun e w'=>e=.returned (.bool true)∧Below w.heap.size w w':=by
 refine (pumicelaw01_Same.calls A0 c0 l A1 c1 l true w hr0 hc0 hr1 hc1 (by unfold pumicelaw01_Same.f;simp)).mono ?_;rintro e w' ⟨rfl,hd⟩;exact ⟨rfl,hd.below⟩
theorem qvP (h:qdG w0 W gc a) (h2:qbT w0 W gd a) (hw:AWF a) (n p:Int) :
  Calls Tryz.prog 21 #[cp gc,cp gd,.int .i64 n,.int .i64 p] W fun e w'=>e=.returned (.bool true)∧Below W.heap.size W w':=by
 have HRA:=aM (h.read n p);have HRB:=aM (fun w1 (hb:Below W.heap.size W w1)=>(h2.grow hb).read (fun i j=>((hw.2 i).2.2 j).2.1) (fun i j=>((hw.2 i).2.2 j).2.2) n p);have HB1a:=aM (fun w1 (hb:Below W.heap.size W w1)=>(h.grow hb).bad n);have HB1b:=aM (fun w1 (hb:Below W.heap.size W w1)=>(h2.grow hb).bad n);have HB2a:=aM (fun w1 (hb:Below W.heap.size W w1)=>(h.grow hb).next n);have HB2b:=aM (fun w1 (hb:Below W.heap.size W w1)=>(h2.grow hb).next n);have HB3a:=aM (fun w1 (hb:Below W.heap.size W w1)=>(h.grow hb).erases n);have HB3b:=aM (fun w1 (hb:Below W.heap.size W w1)=>(h2.grow hb).erases n);have HB4a:=aM (fun w1 (hb:Below W.heap.size W w1)=>(h.grow hb).on);have HB4b:=aM (fun w1 (hb:Below W.heap.size W w1)=>(h2.grow hb).on);have HB5a:=aM (fun w1 (hb:Below W.heap.size W w1)=>(h.grow hb).ops);have HB5b:=aM (fun w1 (hb:Below W.heap.size W w1)=>(h2.grow hb).ops);have HB6a:=aM (fun w1 (hb:Below W.heap.size W w1)=>(h.grow hb).wrong);have HB6b:=aM (fun w1 (hb:Below W.heap.size W w1)=>(h2.grow hb).wrong);have HB7a:=aM (show ∀ w1,Below W.heap.size W w1→Calls Tryz.prog 69 #[cp gc] w1 (fun e w'=>e=.returned (.agg #[.int .i64 a.g.B,.int .i64 a.g.P,.int .i64 a.g.Z,.int .i64 a.g.R])∧Below w1.heap.size w1 w') from fun w1 hb=>(h.grow hb).geometry);have HB7b:=aM (show ∀ w1,Below W.heap.size W w1→Calls Tryz.prog 73 #[cp gd] w1 (fun e w'=>e=.returned (.agg #[.int .i64 a.g.B,.int .i64 a.g.P,.int .i64 a.g.Z,.int .i64 a.g.R])∧Below w1.heap.size w1 w') from fun w1 hb=>(h2.grow hb).geometry)
 generalize qbV a n p=r at HRA HRB;obtain ⟨l,k⟩:=r;simp only at HRA HRB;generalize qpN a n=b1 at HB1a HB1b;generalize qdY a n=b2 at HB2a HB2b;generalize qgB a n=b3 at HB3a HB3b;generalize (!a.off)=b4 at HB4a HB4b;have hu23:=Tryz.underlying23;clear h h2 hw;go_enter Tryz.func21,Tryz.ntmps21
 go_upto_region 3 with (first
  | (go_at_call 77;(with_reducible refine HRA.out.mono ?_);rintro e w1 ⟨v1,rfl,hr1,hb1⟩;have HV1:=aM hr1;have HB1:=aM hb1;clear hr1 hb1)
  | (go_at_call 78;(with_reducible refine (HRB.out _ HB1.out).mono ?_);rintro e w2 ⟨v2,rfl,hr2,hb2⟩;have HV2:=aM hr2;have HB2:=aM (qaF HB1.out hb2);have HW1:=aM (Kd.R_below HV1.out hb2);clear hr2 hb2))
 obtain ⟨A1,c1,e1⟩:=Kd.R_slice HW1.out;obtain ⟨A2,c2,e2⟩:=Kd.R_slice HV2.out;subst e1;subst e2;have r1:=Kd.R_reads' HW1.out;have r2:=Kd.R_reads' HV2.out;have HSA:=aM (vcB A1 c1 A2 c2 l w2 r1.2.2 r1.2.1 r2.2.2 r2.2.1);clear r1 r2
 go_wp2_with (first
  | (go_at_call 32;(with_reducible refine HSA.out.mono ?_);rintro e w3 ⟨rfl,hb⟩;have K3:=aM (qaF HB2.out hb);clear hb)
  | (go_at_call 79;(with_reducible refine (HB1a.out _ K3.out).mono ?_);rintro e x0 ⟨rfl,hb⟩;have M0:=aM (qaF K3.out hb);clear hb)
  | (go_at_call 80;(with_reducible refine (HB1b.out _ M0.out).mono ?_);rintro e x1 ⟨rfl,hb⟩;have M1:=aM (qaF M0.out hb);clear hb)
  | (go_at_call 81;(with_reducible refine (HB2a.out _ M1.out).mono ?_);rintro e x2 ⟨rfl,hb⟩;have M2:=aM (qaF M1.out hb);clear hb)
  | (go_at_call 82;(with_reducible refine (HB2b.out _ M2.out).mono ?_);rintro e x3 ⟨rfl,hb⟩;have M3:=aM (qaF M2.out hb);clear hb)
  | (go_at_call 35;(with_reducible refine (HB3a.out _ M3.out).mono ?_);rintro e x4 ⟨rfl,hb⟩;have M4:=aM (qaF M3.out hb);clear hb)
  | (go_at_call 83;(with_reducible refine (HB3b.out _ M4.out).mono ?_);rintro e x5 ⟨rfl,hb⟩;have M5:=aM (qaF M4.out hb);clear hb)
  | (go_at_call 48;(with_reducible refine (HB4a.out _ M5.out).mono ?_);rintro e x6 ⟨rfl,hb⟩;have M6:=aM (qaF M5.out hb);clear hb)
  | (go_at_call 72;(with_reducible refine (HB4b.out _ M6.out).mono ?_);rintro e x7 ⟨rfl,hb⟩;have M7:=aM (qaF M6.out hb);clear hb)
  | (go_at_call 17;(with_reducible refine (HB5a.out _ M7.out).mono ?_);rintro e x8 ⟨rfl,hb⟩;have M8:=aM (qaF M7.out hb);clear hb)
  | (go_at_call 84;(with_reducible refine (HB5b.out _ M8.out).mono ?_);rintro e x9 ⟨rfl,hb⟩;have M9:=aM (qaF M8.out hb);clear hb)
  | (go_at_call 30;(with_reducible refine (HB6a.out _ M9.out).mono ?_);rintro e x10 ⟨rfl,hb⟩;have M10:=aM (qaF M9.out hb);clear hb)
  | (go_at_call 85;(with_reducible refine (HB6b.out _ M10.out).mono ?_);rintro e x11 ⟨rfl,hb⟩;have M11:=aM (qaF M10.out hb);clear hb)
  | (go_at_call 69;(with_reducible refine (HB7a.out _ M11.out).mono ?_);rintro e x12 ⟨rfl,hb⟩;have M12:=aM (qaF M11.out hb);clear hb)
  | (go_at_call 73;(with_reducible refine (HB7b.out _ M12.out).mono ?_);rintro e x13 ⟨rfl,hb⟩;have M13:=aM (qaF M12.out hb);clear hb))
 go_ret;exact ⟨by first|rfl|(simp;done),M13.out⟩
theorem qxI (h:qdG w0 W gc a) (ho:a.off=true):Calls Tryz.prog 18 #[cp gc] W fun e w'=>e=.returned (.tuple #[.slice none 0 0,.int .i64 6])∧Below W.heap.size W w':=by
 have hon:=h.on;rw [ho] at hon;have HON:=aM (show Calls Tryz.prog 48 #[cp gc] W fun e w'=>e=.returned (.bool false)∧Below W.heap.size W w' from hon);clear h ho hon;go_enter Tryz.func18,Tryz.ntmps18;go_wp2_with (first|(go_at_call 48;(with_reducible refine HON.out.mono ?_);rintro e w1 ⟨rfl,hb1⟩;have HB1:=aM hb1;clear hb1));go_ret2;exact ⟨rfl,HB1.out⟩
end
end Go.Proofs.YtdlimghdimkadaaGreatDoor.PAll
namespace Go.Proofs.YtdlimghdimkadaaGreatDoor.Opens
open Go Go.Deep YtdlimghdimkadaaGreatDoorW.PrintWords
def Opens {α:Type} (P:Program) (t:TypeId) (d:Kd α) (G:α→Prop):Prop :=
 ∀ {H:Type} (enc:TypeId × Value→H) (W:World) (held:Bool) (fuel:Nat) (cs:List Value) (x:DataW H) (ps:List MemPlace),DataW.trod enc P W 0 (fun _=>true) held fuel t cs=some (x,ps)→(∀ n ∈ x.weights P t,n≤reachBytes)→∃ a:α,d.K W a cs∧G a
theorem Opens.int {P:Program} {t:TypeId} {k:IntKind} (ht:P.underlying t=some (.int k)):Opens P t (Kd.int k) (fun n=>(Lit.int k n).wf=true):=by
 intro H enc W held fuel cs x ps h _;obtain ⟨n,rfl,_,hw⟩:=DataW.trod_int ht h;exact ⟨n,rfl,hw⟩
theorem qyW {W:World} {base n:Nat} {a:Addr} {cs:List Value} (h:W.cells? base a n=some cs):cs.length=n∧∀ j u,cs[j]?=some u→W.cell? (a.add j)=some u:=by
 obtain ⟨_,hl,he⟩:=World.cells?_some h;refine ⟨hl,fun j u hu=>?_⟩
 have hj:j < n:=by
  have:=(List.getElem?_eq_some_iff.1 hu).1;omega
 rw [he j hj];exact hu
theorem Opens.slice {α:Type} {P:Program} {t e:TypeId} {d:Kd α} {G:α→Prop} (ht:P.underlying t=some (.slice e)) (hsz:P.cellsOf e=d.sz) (he:Opens P e d G) :
  Opens P t (Kd.slice e d) (fun l=>l.length*P.bytesOf e≤reachBytes∧∀ a ∈ l,G a):=by
 intro H enc W held fuel cs x ps h hw
 rcases open_slice ht h with ⟨rfl,_⟩|⟨a,len,cap,m,n,D,Pl,rfl,_,hl,hm,hmm,hx,hel⟩
 ·exact ⟨[],⟨none,0,rfl,Nat.le_refl _,Kd.C_nil d W⟩,by simp,by simp⟩
 ·obtain rfl:m=cap:=by simpa using hmm
  obtain ⟨rfl,_⟩:=Prod.mk.inj hx;simp only [DataW.weights,ht,List.mem_cons,List.mem_append,List.length_map,List.length_range] at hw
  have hall:∀ i,i < len→∃ b:α,∃ c:List Value,(d.K W b c∧∀ j u,c[j]?=some u→W.cell? ((a.add (i*d.sz)).add j)=some u)∧G b:=by
   intro i hi;obtain ⟨cs',hc,htr⟩:=hel i (by omega);rw [hsz] at hc
   have hwi:∀ n ∈ (D i).weights P e,n≤reachBytes:=by
    intro n hn;refine hw n (.inr (.inl ?_));clear hw hx hel
    have:∀ (l:List Nat),i ∈ l→n ∈ DataW.weightsAll P e (l.map D):=by
     intro l
     induction l with
     | nil=>simp
     | cons j l ih =>
      intro hm;simp only [List.map_cons,DataW.weightsAll,List.mem_append]
      rcases List.mem_cons.1 hm with rfl|hm
      ·exact .inl hn
      ·exact .inr (ih hm)
    exact this _ (List.mem_range.2 hi)
   obtain ⟨b,hb,hG⟩:=he enc W held n cs' (D i) (Pl i) htr hwi;exact ⟨b,cs',⟨hb,(qyW hc).2⟩,hG⟩
  have hf:∃ l:List α,l.length=len∧∀ i b,l[i]?=some b→(∃ c:List Value,d.K W b c∧∀ j u,c[j]?=some u→W.cell? ((a.add (i*d.sz)).add j)=some u)∧G b:=by
   clear hw hx hel hl hmm h
   induction len with
   | zero=>exact ⟨[],rfl,by simp⟩
   | succ len ih =>
    obtain ⟨l,h1,h2⟩:=ih (fun i hi=>hall i (by omega));obtain ⟨b,c,hb,hG⟩:=hall len (by omega);refine ⟨l ++ [b],by simp [h1],fun i b' hi=>?_⟩
    rcases Nat.lt_or_ge i l.length with hil|hil
    ·rw [List.getElem?_append_left hil] at hi;exact h2 i b' hi
    ·rw [List.getElem?_append_right hil] at hi
     obtain rfl:i=len:=by
      have:=(List.getElem?_eq_some_iff.1 hi).1;simp at this;omega
     rw [h1] at hi;simp at hi;subst hi;exact ⟨⟨c,hb⟩,hG⟩
  obtain ⟨l,hll,hl2⟩:=hf;subst hll;have hb:l.length*P.bytesOf e≤reachBytes:=Nat.le_trans (Nat.mul_le_mul_right _ (by omega)) (hw _ (.inl rfl));clear hw hx hall h hmm;refine ⟨l,⟨some a,m,rfl,hl,rfl,by unfold maxLen at hm;omega,fun _=>⟨a,rfl,fun j p hj=>?_⟩⟩,hb,?_⟩
  ·obtain ⟨⟨c,hK,hc⟩,_⟩:=hl2 j p hj;exact ⟨c,d.K_len hK,hK,fun i u hu=>by rw [← Deep.add_add];exact hc i u hu⟩
  ·intro b hb;obtain ⟨i,hi⟩:=List.getElem?_of_mem hb;exact (hl2 i b hi).2
def qeC {α:Type} (P:Program) (fs:List Field) (off:Nat) (d:Kd α) (G:α→Prop):Prop :=
 ∀ {H:Type} (enc:TypeId × Value→H) (W:World) (held:Bool) (fuel:Nat) (cs:List Value) (xs:List (DataW H × List MemPlace)),
  (∀ (i:Nat) (f:Field),fs[i]?=some f→DataW.trod enc P W 0 (fun _=>true) held fuel f.type ((cs.drop f.offset).take (P.cellsOf f.type))=xs[i]?)→xs.length=fs.length →
  (∀ n ∈ DataW.weightsEach P (fs.map (·.type)) (xs.map (·.1)),n≤reachBytes)→∃ a:α,d.K W a ((cs.drop off).take d.sz)∧G a
theorem qeC.one {α:Type} {P:Program} {f:Field} {d:Kd α} {G:α→Prop} (hsz:P.cellsOf f.type=d.sz) (h:Opens P f.type d G):qeC P [f] f.offset d G:=by
 intro H enc W held fuel cs xs hf hl hw
 match xs,hl with
 | [x],_ =>
  have h0:=hf 0 f rfl;rw [hsz] at h0;exact h enc W held fuel _ x.1 x.2 h0 (fun n hn=>hw n (by simp [DataW.weightsEach,hn]))
theorem qeC.cons {α β:Type} {P:Program} {f:Field} {fs:List Field} {off:Nat} {d:Kd α} {d2:Kd β} {G:α→Prop} {G2:β→Prop} (hsz:P.cellsOf f.type=d.sz) (hoff:off=f.offset+d.sz) (h:Opens P f.type d G) (h2:qeC P fs off d2 G2) :
  qeC P (f :: fs) f.offset (Kd.pair d d2) (fun x=>G x.1∧G2 x.2):=by
 intro H enc W held fuel cs xs hf hl hw
 match xs,hl with
 | x :: xs,hl =>
  have h0:=hf 0 f rfl;rw [hsz] at h0;obtain ⟨a,ha,hG⟩:=h enc W held fuel _ x.1 x.2 h0 (fun n hn=>hw n (by simp [DataW.weightsEach,hn]));obtain ⟨b,hb,hG2⟩:=h2 enc W held fuel cs xs (fun i g hg=>by simpa using hf (i+1) g (by simpa using hg)) (by simpa using hl) (fun n hn=>hw n (by simp [DataW.weightsEach,hn]));refine ⟨(a,b),⟨_,_,?_,ha,hb⟩,hG,hG2⟩;show (cs.drop f.offset).take (d.sz+d2.sz)=_;rw [List.take_add,List.drop_drop,hoff]
theorem Opens.struct {α:Type} {P:Program} {t:TypeId} {fs:Array Field} {d:Kd α} {G:α→Prop} (ht:P.underlying t=some (.struct fs)) (hsz:P.cellsOf t=d.sz) (h:qeC P fs.toList 0 d G):Opens P t d G:=by
 intro H enc W held fuel cs x ps hx hw;obtain ⟨xs,n,_,he,hl,hlen,hf⟩:=DataW.trod_struct ht hx;obtain ⟨rfl,_⟩:=Prod.mk.inj he;obtain ⟨a,ha,hG⟩:=h enc W held n cs xs (fun i f hi=>hf i f (by simpa using hi)) (by simpa using hlen) (fun n hn=>hw n (by simpa [DataW.weights,ht] using hn));refine ⟨a,?_,hG⟩;rw [List.drop_zero,List.take_of_length_le (by omega)] at ha;exact ha
theorem Opens.iso {α β:Type} {P:Program} {t:TypeId} {d:Kd α} {G:α→Prop} (f:β→α) (g:α→β) (hfg:∀ a,f (g a)=a) (h:Opens P t d G):Opens P t (Kd.iso d f) (fun b=>G (f b)):=by
 intro H enc W held fuel cs x ps hx hw;obtain ⟨a,ha,hG⟩:=h enc W held fuel cs x ps hx hw;exact ⟨g a,by show d.K W (f (g a)) cs;rw [hfg];exact ha,by show G (f (g a));rw [hfg];exact hG⟩
theorem Opens.imp {α:Type} {P:Program} {t:TypeId} {d:Kd α} {G G':α→Prop} (h:Opens P t d G) (hg:∀ a,G a→G' a):Opens P t d G':=by
 intro H enc W held fuel cs x ps hx hw;obtain ⟨a,ha,hG⟩:=h enc W held fuel cs x ps hx hw;exact ⟨a,ha,hg a hG⟩
theorem Opens.arg {α:Type} {P:Program} {t:TypeId} {d:Kd α} {G:α→Prop} (h:Opens P t d G) {H:Type} {enc:TypeId × Value→H} {W:World} {held:Bool} {v:Value} {x:DataW H} {ps:List MemPlace} {ts:List TypeId} {ds:List (DataW H)} (j:Nat)
  (hsz:(DataW.weightsEach P ts ds).all (·≤reachBytes)=true) (ht:ts[j]?=some t) (hd:ds[j]?=some x) (hv:DataW.Trod enc P W 0 (fun _=>true) held t v x ps):∃ a:α,d.K W a v.cells.toList∧G a:=by
 obtain ⟨fuel,hf⟩:=hv;refine h enc W held fuel _ x ps hf (fun n hn=>?_)
 simpa using List.all_eq_true.1 hsz n (DataW.weights_mem_each ht hd n hn)
end Go.Proofs.YtdlimghdimkadaaGreatDoor.Opens
namespace Go.Proofs.YtdlimghdimkadaaGreatDoor.PAll
open Go Go.RowKit YtdlimghdimkadaaGreatDoorW.PrintWords YtdlimghdimkadaaGreatDoorW.PrintLast YtdlimghdimkadaaGreatDoorW.PrintMore
attribute [local go_sem] qdS qdQ qeJ qeI qcV qcU qdR qdP
section
open Go.Shelf Plain Opens
theorem qiB:qbN []:=fun _ h=>nomatch h
theorem qgC {a:AC} (h:qdH a) (n:Nat) (b:ABk) (hb:∀ j,qbN (b.pg j).d):qdH (a.setBk n b):=fun i j=>by
 unfold AC.setBk
 by_cases hi:i=n
 ·subst hi;simp;exact hb j
 ·simp [hi];exact h i j
theorem qiA {a:AC} (h:qdH a) (n p:Nat) (st:Int) (d:List Int) (hd:qbN d):qdH (a.put n p st d):=by
 unfold AC.put;refine qgC h n _ (fun j=>?_)
 by_cases hj:j=p
 ·subst hj;simp [ABk.setPg];exact hd
 ·simp [ABk.setPg,hj];exact h n j
theorem qjD {a:AC} (h:qdH a) (n:Nat) (st nx:Int):qdH (a.erased n st nx):=by
 unfold AC.erased;refine qgC h n _ (fun j=>?_)
 by_cases hj:j < a.g.P
 ·simp [ABk.clr,hj];exact qiB
 ·simp [ABk.clr,hj];exact h n j
theorem qsQ {a:AC} (h:qdH a) (o:SOp) (ho:qbN o.d):qdH (qfI a o):=by
 unfold qfI
 split
 ·unfold qcT;have ht:qdH a.tick:=h;have hc:qdH a.tick.cut:=h
  repeat' split
  all_goals first|exact h|exact qiA ht _ _ _ _ ho|exact qiA hc _ _ _ _ ho|exact qiA ht _ _ _ _ qiB|exact qiA hc _ _ _ _ qiB
 split
 ·unfold qdX;have ht:qdH a.tick:=h;have hc:qdH a.tick.cut:=h
  repeat' split
  all_goals first|exact h|exact qjD ht _ _ _|exact qjD hc _ _ _|exact qgC hc _ _ (fun j=>h _ j)
 split
 ·unfold qfO
  repeat' split
  all_goals first|exact h|exact qgC h _ _ (fun j=>h _ j)
 split
 ·exact h
 split
 ·unfold qqY
  split <;> exact h
 ·exact h
theorem quL (B P Z R:Int) (A:Option Addr) (n c:Nat) (Wi:World) (hg:qcG B P Z R=false) (aE:Addr) (hgE:gNone Wi aE) :
  Calls Tryz.prog 3 #[gV B P Z R,.slice A n c] Wi fun e w'=>e=.returned (.bool true)∧Below Wi.heap.size Wi w':=by
 have HGE:=aM hgE;have HNB:=aM (show ∀ W:World,Calls Tryz.prog 11 #[gV B P Z R,.slice none 0 0] W (fun e w'=>e=.returned (.tuple #[.pointer none,.int .i64 22])∧Below W.heap.size W w') from fun W=>vaW B P Z R none 0 [] W ⟨rfl,by decide,fun h=>absurd h (by decide)⟩ (Nat.le_refl _) (by rw [hg];rfl));have HDB:=aM (fun (W:World)=>qyR B P Z R none 0 0 W hg);have hu28:=Tryz.underlying23;clear hg hgE;go_enter Tryz.func3,Tryz.ntmps3
 go_upto_region 1 with (fail)
 obtain ⟨gx,hgx⟩:∃ gx,gx=Wi.heap.size:=⟨_,rfl⟩
 generalize hW:Wi.alloc (.cells #[.int .i64 B,.int .i64 P,.int .i64 Z,.int .i64 R] 23)=W1;have hb:Below Wi.heap.size Wi W1:=by rw [← hW];exact qaA (Below.refl _ _) _
 have hx:W1.heap[gx]?=some (.cells #[.int .i64 B,.int .i64 P,.int .i64 Z,.int .i64 R] 23 (0,0)):=by rw [← hW,hgx];exact qaV _ _ _
 have HB:=aM hb;have HG:=aM hx;have a0:=jC hx 0;have a1:=jC hx 1;have a2:=jC hx 2;have a3:=jC hx 3;rw [← hgx];clear hW hb hx hgx
 go_upto_region 3 with (first
  | (go_at_call 11;(with_reducible refine (HNB.out _).mono ?_);rintro e w2 ⟨rfl,hb2⟩;have HB2:=aM (qaF HB.out hb2);have HG2:=aM (qaE HG.out hb2);have b0:=jC HG2.out 0;have b1:=jC HG2.out 1;have b2:=jC HG2.out 2;have b3:=jC HG2.out 3;clear hb2)
  | (go_at_call 12;(with_reducible refine (HDB.out _).mono ?_);rintro e w4 ⟨rfl,hb4⟩;have HB4:=aM (qaF HB2.out hb4);have HG4:=aM (qaE HG2.out hb4);clear hb4))
 clear a0 a1 a2 a3 b0 b1 b2 b3;generalize w4=W4 at HB4 HG4 ⊢
 obtain ⟨lb,hlb⟩:∃ lb,lb=qfP B P Z R:=⟨_,rfl⟩
 have HL1:=aM (show ∀ w',Below W4.heap.size W4 w'→Calls Tryz.prog 13 #[gV B P Z R] w' (fun e w''=>e=.returned (.int .i64 lb)∧Below w'.heap.size w' w'') from fun w' _=>by rw [hlb];exact qqE B P Z R w');have HL2:=aM (show ∀ w',Below W4.heap.size W4 w'→Calls Tryz.prog 14 #[gV B P Z R] w' (fun e w''=>e=.returned (.int .i64 lb)∧Below w'.heap.size w' w'') from fun w' _=>by rw [hlb];exact qmO B P Z R w');have HAL:=aM (fun w' (hb:Below W4.heap.size W4 w')=>qnR aE w' (qbI HGE.out (qaF HB4.out hb)));have hne:(lb != lb)=false:=by simp
 clear hlb;refine Reg.det [(0,23,?r1v0),(1,24,?r1v1),(2,25,?r1v2),(3,26,?r1v3),(4,27,?r1v4),(5,28,?r1v5),(6,29,?r1v6),(7,30,?r1v7),(8,31,?r1v8)] (fun w'=>Below W4.heap.size W4 w') (by rfl) rfl (by kernel_rfl) ?r1S ?r1steps ?r1okv ?r1hlt ?r1fin;case r1S=>exact qaW (Below.refl _ _)
 case r1steps =>
  refine Reg.fS 0 rfl rfl (fun a w hS hK K hC=>?_) ?_
  ·refine Reg.sO ?_;have e2:=hK.off 2 _ rfl rfl;have hy:=qaE HG4.out hS;have y0:=jC hy 0;have y1:=jC hy 1;have y2:=jC hy 2;have y3:=jC hy 3;clear hy;clear hK;go_simp;exact hC _ hS
  refine Reg.fS 1 rfl rfl (fun a w hS hK K hC=>?_) ?_
  ·refine Reg.sO ?_;have e23:=hK.sl 0 rfl;clear hK;go_simp;go_at_call 13;(with_reducible refine (HL1.out w hS).mono ?_);rintro e w' ⟨rfl,hb⟩;exact hC w' (qaF hS hb)
  refine Reg.fS 2 rfl rfl (fun a w hS hK K hC=>?_) ?_
  ·refine Reg.sO ?_;have e2:=hK.off 2 _ rfl rfl;have hy:=qaE HG4.out hS;have y0:=jC hy 0;have y1:=jC hy 1;have y2:=jC hy 2;have y3:=jC hy 3;clear hy;clear hK;go_simp;exact hC _ hS
  refine Reg.fS 3 rfl rfl (fun a w hS hK K hC=>?_) ?_
  ·refine Reg.sO ?_;have e25:=hK.sl 2 rfl;clear hK;go_simp;go_at_call 14;(with_reducible refine (HL2.out w hS).mono ?_);rintro e w' ⟨rfl,hb⟩;exact hC w' (qaF hS hb)
  refine Reg.fS 4 rfl rfl (fun a w hS hK K hC=>?_) ?_
  ·refine Reg.sO ?_;have e24:=hK.sl 1 rfl;have e26:=hK.sl 3 rfl;clear hK;go_simp;exact hC _ hS
  refine Reg.fS 5 rfl rfl (fun a w hS hK K hC=>?_) ?_
  ·refine Reg.sO ?_;have e27:=hK.sl 4 rfl;clear hK;go_simp;exact hC _ hS
  refine Reg.fS 6 rfl rfl (fun a w hS hK K hC=>?_) ?_
  ·refine Reg.step_on (qaL (g:=5) rfl rfl rfl (hK.sl 5 rfl)) ?_;clear hK;go_simp;go_at_call 15;(with_reducible refine (HAL.out w hS).mono ?_);rintro e w' ⟨rfl,hb⟩;exact hC w' (qaF hS hb)
  refine Reg.fS 7 rfl rfl (fun a w hS hK K hC=>?_) ?_
  ·refine Reg.step_on (qaL (g:=5) rfl rfl rfl (hK.sl 5 rfl)) ?_;have e29:=hK.sl 6 rfl;clear hK;go_simp;exact hC _ hS
  refine Reg.fS 8 rfl rfl (fun a w hS hK K hC=>?_) ?_
  ·refine Reg.sO ?_;have e28:=hK.sl 5 rfl;have e30:=hK.sl 7 rfl;clear hK;go_simp;exact hC _ hS
  exact Reg.from_nil
 case r1okv=>rfl
 case r1hlt=>rfl
 case r1fin =>
  intro wz hS;simp only [Reg.putV,List.foldl_cons,List.foldl_nil,Act.put,List.setIfInBounds_toArray,List.set_cons_zero,List.set_cons_succ];have HBz:=aM (qaF HB4.out hS);clear hS hne;go_wp2;go_ret;exact ⟨by first|rfl|(simp;done),HBz.out⟩
theorem qxH (g:Geo) (A:Option Addr) (c:Nat) (l:List SOp) (Wi:World) (hr:Kd.C kOp Wi A l.length l) (hc:l.length≤c) (hby:∀ o ∈ l,qbN o.d) (hg:qcG g.B g.P g.Z g.R=true) (aE:Addr) (hgE:gNone Wi aE) :
  Calls Tryz.prog 3 #[gV g.B g.P g.Z g.R,.slice A l.length c] Wi fun e w'=>e=.returned (.bool true)∧Below Wi.heap.size Wi w':=by
 have hmx:=Kd.C_max hr;have HGE:=aM hgE;have HR:=aM hr;have HBY:=aM hby;have HNW:=aM (show ∀ W:World,Calls Tryz.prog 11 #[gV g.B g.P g.Z g.R,.slice none 0 0] W (fun e w'=>∃ gc:Nat,e=.returned (.tuple #[cp gc,.int .i64 0])∧qdG W w' gc (qmZ g [])) from fun W=>qsH g none 0 [] W ⟨rfl,by decide,fun h=>absurd h (by decide)⟩ (Nat.le_refl _) hg rfl);have HDN:=aM (fun (W:World)=>vbM g W hg);have HGO:=aM (qkB hg);have hu28:=Tryz.underlying23;have hu58:=Tryz.underlying38;clear hg hgE hr hby;go_enter Tryz.func3,Tryz.ntmps3
 go_upto_region 1 with (fail)
 obtain ⟨gx,hgx⟩:∃ gx,gx=Wi.heap.size:=⟨_,rfl⟩
 generalize hW:Wi.alloc (.cells #[.int .i64 g.B,.int .i64 g.P,.int .i64 g.Z,.int .i64 g.R] 23)=W1;have hb:Below Wi.heap.size Wi W1:=by rw [← hW];exact qaA (Below.refl _ _) _
 have hx:W1.heap[gx]?=some (.cells #[.int .i64 g.B,.int .i64 g.P,.int .i64 g.Z,.int .i64 g.R] 23 (0,0)):=by rw [← hW,hgx];exact qaV _ _ _
 have HB1:=aM hb;have HG1:=aM hx;have a0:=jC hx 0;have a1:=jC hx 1;have a2:=jC hx 2;have a3:=jC hx 3;rw [← hgx];clear hW hb hx hgx
 go_upto_region 3 with (first
  | (go_at_call 11;(with_reducible refine (HNW.out _).mono ?_);rintro e w2 ⟨gc,rfl,h2⟩;have HC2:=aM (h2.lower HB1.out);have HB2:=aM h2.below;have HG2:=aM (qaE HG1.out h2.below);have b0:=jC HG2.out 0;have b1:=jC HG2.out 1;have b2:=jC HG2.out 2;have b3:=jC HG2.out 3;clear h2)
  | (go_at_call 12;(with_reducible refine (HDN.out _).mono ?_);rintro e w4 ⟨gd,rfl,h4,hb4⟩;have HD4:=aM (h4.lower (qaF HB1.out HB2.out));have HC4:=aM (HC2.out.grow hb4);have HB4:=aM (qaF HB1.out (qaF HB2.out hb4));have HG4:=aM (qaE HG2.out hb4);clear h4 hb4))
 clear a0 a1 a2 a3 b0 b1 b2 b3;generalize w4=W4 at HB4 HG4 HC4 HD4 ⊢
 obtain ⟨lb,hlb⟩:∃ lb,lb=qfP g.B g.P g.Z g.R:=⟨_,rfl⟩
 have HL1:=aM (show ∀ w',Below W4.heap.size W4 w'→Calls Tryz.prog 13 #[gV g.B g.P g.Z g.R] w' (fun e w''=>e=.returned (.int .i64 lb)∧Below w'.heap.size w' w'') from fun w' _=>by rw [hlb];exact qqE g.B g.P g.Z g.R w');have HL2:=aM (show ∀ w',Below W4.heap.size W4 w'→Calls Tryz.prog 14 #[gV g.B g.P g.Z g.R] w' (fun e w''=>e=.returned (.int .i64 lb)∧Below w'.heap.size w' w'') from fun w' _=>by rw [hlb];exact qmO g.B g.P g.Z g.R w');have HAL:=aM (fun w' (hb:Below W4.heap.size W4 w')=>qnR aE w' (qbI HGE.out (qaF HB4.out hb)));have hne:(lb != lb)=false:=by simp
 clear hlb;refine Reg.det [(0,23,?r2v0),(1,24,?r2v1),(2,25,?r2v2),(3,26,?r2v3),(4,27,?r2v4),(5,28,?r2v5),(6,29,?r2v6),(7,30,?r2v7),(8,31,?r2v8)] (fun w'=>Below W4.heap.size W4 w') (by rfl) rfl (by kernel_rfl) ?r2S ?r2steps ?r2okv ?r2hlt ?r2fin;case r2S=>exact qaW (Below.refl _ _)
 case r2steps =>
  refine Reg.fS 0 rfl rfl (fun a w hS hK K hC=>?_) ?_
  ·refine Reg.sO ?_;have e2:=hK.off 2 _ rfl rfl;have hy:=qaE HG4.out hS;have y0:=jC hy 0;have y1:=jC hy 1;have y2:=jC hy 2;have y3:=jC hy 3;clear hy;clear hK;go_simp;exact hC _ hS
  refine Reg.fS 1 rfl rfl (fun a w hS hK K hC=>?_) ?_
  ·refine Reg.sO ?_;have e23:=hK.sl 0 rfl;clear hK;go_simp;go_at_call 13;(with_reducible refine (HL1.out w hS).mono ?_);rintro e w' ⟨rfl,hb⟩;exact hC w' (qaF hS hb)
  refine Reg.fS 2 rfl rfl (fun a w hS hK K hC=>?_) ?_
  ·refine Reg.sO ?_;have e2:=hK.off 2 _ rfl rfl;have hy:=qaE HG4.out hS;have y0:=jC hy 0;have y1:=jC hy 1;have y2:=jC hy 2;have y3:=jC hy 3;clear hy;clear hK;go_simp;exact hC _ hS
  refine Reg.fS 3 rfl rfl (fun a w hS hK K hC=>?_) ?_
  ·refine Reg.sO ?_;have e25:=hK.sl 2 rfl;clear hK;go_simp;go_at_call 14;(with_reducible refine (HL2.out w hS).mono ?_);rintro e w' ⟨rfl,hb⟩;exact hC w' (qaF hS hb)
  refine Reg.fS 4 rfl rfl (fun a w hS hK K hC=>?_) ?_
  ·refine Reg.sO ?_;have e24:=hK.sl 1 rfl;have e26:=hK.sl 3 rfl;clear hK;go_simp;exact hC _ hS
  refine Reg.fS 5 rfl rfl (fun a w hS hK K hC=>?_) ?_
  ·refine Reg.sO ?_;have e27:=hK.sl 4 rfl;clear hK;go_simp;exact hC _ hS
  refine Reg.fS 6 rfl rfl (fun a w hS hK K hC=>?_) ?_
  ·refine Reg.step_on (qaL (g:=5) rfl rfl rfl (hK.sl 5 rfl)) ?_;clear hK;go_simp;go_at_call 15;(with_reducible refine (HAL.out w hS).mono ?_);rintro e w' ⟨rfl,hb⟩;exact hC w' (qaF hS hb)
  refine Reg.fS 7 rfl rfl (fun a w hS hK K hC=>?_) ?_
  ·refine Reg.step_on (qaL (g:=5) rfl rfl rfl (hK.sl 5 rfl)) ?_;have e29:=hK.sl 6 rfl;clear hK;go_simp;exact hC _ hS
  refine Reg.fS 8 rfl rfl (fun a w hS hK K hC=>?_) ?_
  ·refine Reg.sO ?_;have e28:=hK.sl 5 rfl;have e30:=hK.sl 7 rfl;clear hK;go_simp;exact hC _ hS
  exact Reg.from_nil
 case r2okv=>rfl
 case r2hlt=>rfl
 case r2fin =>
  intro wz hS;simp only [Reg.putV,List.foldl_cons,List.foldl_nil,Act.put,List.setIfInBounds_toArray,List.set_cons_zero,List.set_cons_succ];have HC5:=aM (HC4.out.grow hS);have HD5:=aM (HD4.out.grow hS);clear hS hne;generalize wz=W5 at HC5 HD5 ⊢
  go_upto_region 8 with (fail)
  go_loopw [9] (fun v9 wr=>∃ (i:Nat) (a:AC),i≤l.length∧v9=.int .i64 i∧qaN (qdG Wi wr gc a)∧qaN (qbT Wi wr gd a)∧qaN (qcJ a.pl=true)∧qaN (qdH a)∧qaN (AWF a)) (fun i _=>l.length - (intOf i).toNat);case atStart=>exact ⟨0,qmZ g [],Nat.zero_le _,rfl,HC5,HD5,⟨rfl⟩,⟨fun _ _=>qiB⟩,⟨vbX g [] HGO.out⟩⟩
  case round =>
   clear HC5 HD5;obtain ⟨i,a,hi,rfl,HC5,HD5,HP5,HY5,HA5⟩:=hrel
   by_cases hlt:i < l.length
   ·have d0:decide ((i:Int) < (l.length:Int))=true:=decide_eq_true (by omega);have hq:(i < l.length)=True:=eq_true hlt;have hqi:((i:Int) < (l.length:Int))=True:=eq_true (by omega);have hqm:(l.length≤i)=False:=eq_false (by omega);have HIL:=aM hlt;obtain ⟨ad,A3,c3,A4,c4,rfl,y0,y1,y2,y3,y4,l3,g3,l4,g4⟩:=veA HR.out (i:Int) (by omega) (by omega);rw [Int.toNat_natCast] at y0 y1 y2 y3 y4
    have hmem:qbN (l.getD i zOp).d:=by
     rw [List.getD_eq_getElem?_getD,List.getElem?_eq_getElem hlt];exact HBY.out _ (List.getElem_mem hlt)
    rw [Int.toNat_natCast] at l3 g3 l4 g4;generalize l.getD i zOp=o at y0 y1 y2 y3 y4 l3 g3 l4 g4 hmem;replace y0:=qbI y0 HC5.out.below;replace y1:=qbI y1 HC5.out.below;replace y2:=qbI y2 HC5.out.below;replace y3:=qbI y3 HC5.out.below;replace y4:=qbI y4 HC5.out.below;have HDO:=aM (vbL HC5.out HD5.out HP5.out o A3 c3 A4 c4 l3 g3 l4 g4);have HMM:=aM hmem;clear l3 g3 l4 g4 hmem
    go_wp2_with (first
     | (go_at_call 16;(with_reducible refine HDO.out.mono ?_);rintro e w6 ⟨rfl,h6,d6,k6⟩;have HC6:=aM h6;have HD6:=aM d6;have HK6:=aM k6;clear h6 d6 k6))
    go_roundw;case rel=>exact ⟨i+1,qfI a o,by have:=HIL.out;omega,by push_cast;rfl,HC6,HD6,⟨vaA HP5.out o⟩,⟨qsQ HY5.out o HMM.out⟩,⟨qzZ HA5.out o⟩⟩
    case measure=>have:=HIL.out;simp [intOf];omega
   ·obtain rfl:i=l.length:=by omega
    have d0:decide ((l.length:Int) < (l.length:Int))=false:=decide_eq_false (by omega);have HBB:=aM HA5.out.1.1;have HOPS:=aM (fun w' (hb:Below wr.heap.size wr w')=>(HC5.out.grow hb).ops);have HLO:=aM (fun w' (hb:Below wr.heap.size wr w')=>qvP (HC5.out.grow hb) (HD5.out.grow hb) HA5.out 0 0);have HBI:=aM HC5.out.below
    obtain ⟨op,hop⟩:∃ op,op=a.ops:=⟨_,rfl⟩
    rw [← hop] at HOPS;clear hop hi hlt
    go_upto_region 12 with (first
     | (go_at_call 17;(with_reducible refine (HOPS.out _ (Below.refl _ _)).mono ?_);rintro e w6 ⟨rfl,hb⟩;have HB6:=aM hb;clear hb))
    by_cases ho:a.off=true
    ·have HSC:=aM (qxI (HC5.out.grow HB6.out) ho);have HRC:=aM (fun w' (hb:Below wr.heap.size wr w')=>quO (HD5.out.grow hb) ho);have HSM:=aM (show ∀ w',Calls Tryz.prog 20 #[.slice none 0 0,.slice none 0 0] w' (fun e w''=>e=.returned (.bool true)∧Below w'.heap.size w' w'') from fun w'=>quN none 0 [] none 0 [] w' rfl ⟨rfl,by decide,fun h=>absurd h (by decide)⟩ (Nat.le_refl _) ⟨rfl,by decide,fun h=>absurd h (by decide)⟩ (Nat.le_refl _) (by decide));clear ho
     go_upto_region 14 with (first
      | (go_at_call 18;(with_reducible refine HSC.out.mono ?_);rintro e w7 ⟨rfl,hb⟩;have HB7:=aM (qaF HB6.out hb);clear hb)
      | (go_at_call 19;(with_reducible refine (HRC.out _ HB7.out).mono ?_);rintro e w8 ⟨rfl,hb⟩;have HB8:=aM (qaF HB7.out hb);clear hb))
     go_wp2_with (first
      | (go_at_call 20;(with_reducible refine (HSM.out _).mono ?_);rintro e w9 ⟨rfl,hb⟩;have HB9:=aM (qaF HB8.out hb);clear hb)
      | (go_at_call 17;(with_reducible refine (HOPS.out _ HB9.out).mono ?_);rintro e w10 ⟨rfl,hb⟩;have HB10:=aM (qaF HB9.out hb);clear hb)
      | (go_at_call 21;(with_reducible refine (HLO.out _ HB10.out).mono ?_);rintro e w11 ⟨rfl,hb⟩;have HB11:=aM (qaF HB10.out hb);clear hb))
     go_ret;exact ⟨by first|rfl|(simp;done),qaF HBI.out HB11.out⟩
    ·have hof:a.off=false:=by simpa using ho
     have HSC:=aM (qwY (HC5.out.grow HB6.out) HY5.out aE (qbI HGE.out (qaF HBI.out HB6.out)) hof);have HRC:=aM (fun w' (hb:Below wr.heap.size wr w')=>qxJ (HD5.out.grow hb) HA5.out HY5.out hof);have HLN:=aM (qhM a);clear ho hof
     go_upto_region 14 with (first
      | (go_at_call 18;(with_reducible refine HSC.out.mono ?_);rintro e w7 ⟨g9,c9,rfl,hc9,hr9,hb⟩;have HB7:=aM (qaF HB6.out hb);have HC9:=aM hc9;have HR9:=aM hr9;clear hb hc9 hr9)
      | (go_at_call 19;(with_reducible refine (HRC.out _ HB7.out).mono ?_);rintro e w8 ⟨v8,rfl,hr8,hb⟩;have HB8:=aM (qaF HB7.out hb);have HS9:=aM (HR9.out.keep (hb.block _ HR9.out.lt));have HV8:=aM hr8;clear hb hr8))
     obtain ⟨A8,c8,e8⟩:=Kd.R_slice HV8.out;subst e8;have r8:=Kd.R_reads' HV8.out
     have hsm:=(quN (some ⟨g9,0,none⟩) c9 (qgF a) A8 c8 ((qgF a).map toR) w8 (by rw [List.map_map];exact List.map_id _) (HS9.out.reads (by rw [HLN.out];have:=HBB.out;omega)) HC9.out r8.2.2 r8.2.1 (by rw [HLN.out];have:=HBB.out;omega))
     rw [List.length_map] at hsm;have HSM:=aM hsm;clear hsm;clear r8
     go_wp2_with (first
      | (go_at_call 20;(with_reducible refine HSM.out.mono ?_);rintro e w9 ⟨rfl,hb⟩;have HB9:=aM (qaF HB8.out hb);clear hb)
      | (go_at_call 17;(with_reducible refine (HOPS.out _ HB9.out).mono ?_);rintro e w10 ⟨rfl,hb⟩;have HB10:=aM (qaF HB9.out hb);clear hb)
      | (go_at_call 21;(with_reducible refine (HLO.out _ HB10.out).mono ?_);rintro e w11 ⟨rfl,hb⟩;have HB11:=aM (qaF HB10.out hb);clear hb))
     go_ret;exact ⟨by first|rfl|(simp;done),qaF HBI.out HB11.out⟩
theorem vcK {n:Int} (h:(Lit.int .u8 n).wf=true):0≤n∧n < 256:=by
 unfold Lit.wf at h;rw [Bool.and_eq_true,decide_eq_true_eq,decide_eq_true_eq] at h;have h1:(0:Int)≤n:=h.1;have h2:n≤255:=h.2;omega
theorem oI:Opens Tryz.prog 3 (Kd.int .i64) (fun _=>True):=Opens.imp (Opens.int Tryz.underlying3) (fun _ _=>trivial)
theorem oY:Opens Tryz.prog 5 kB (fun n=>(Lit.int .u8 n).wf=true):=Opens.int Tryz.underlying5
theorem oYs:Opens Tryz.prog 35 (Kd.slice 5 kB) qbN :=
 Opens.imp (Opens.slice Tryz.underlying35 (by kernel_rfl) oY) (fun _ h x hx=>vcK (h.2 x hx))
structure GI where
 f0:Int
 f1:Int
 f2:Int
 f3:Int
def kGI:Kd GI:=Kd.iso (Kd.pair (Kd.int .i64) (Kd.pair (Kd.int .i64) (Kd.pair (Kd.int .i64) (Kd.int .i64)))) (fun x:GI=>(x.f0,x.f1,x.f2,x.f3))
theorem oG:Opens Tryz.prog 23 kGI (fun _=>True) :=
 Opens.imp (Opens.iso (fun x:GI=>(x.f0,x.f1,x.f2,x.f3)) (fun p=>⟨p.1,p.2.1,p.2.2.1,p.2.2.2⟩) (fun _=>rfl)
  (Opens.struct Tryz.underlying23 (by kernel_rfl) (qeC.cons (by kernel_rfl) rfl oI (qeC.cons (by kernel_rfl) rfl oI (qeC.cons (by kernel_rfl) rfl oI (qeC.one (by kernel_rfl) oI)))))) (fun _ _=>trivial)
theorem oF:Opens Tryz.prog 83 kF (fun _=>True) :=
 Opens.imp (Opens.iso (fun x:F3=>(x.f0,x.f1,x.f2)) (fun p=>⟨p.1,p.2.1,p.2.2⟩) (fun _=>rfl)
  (Opens.struct Tryz.underlying83 (by kernel_rfl) (qeC.cons (by kernel_rfl) rfl oI (qeC.cons (by kernel_rfl) rfl oI (qeC.one (by kernel_rfl) oI))))) (fun _ _=>trivial)
theorem oFs:Opens Tryz.prog 36 (Kd.slice 83 kF) (fun _=>True) :=
 Opens.imp (Opens.slice Tryz.underlying36 (by kernel_rfl) oF) (fun _ _=>trivial)
theorem oOp:Opens Tryz.prog 38 kOp (fun o=>qbN o.d) :=
 Opens.imp (Opens.iso (fun x:SOp=>(x.k,x.b,x.p,x.d,x.pl)) (fun p=>⟨p.1,p.2.1,p.2.2.1,p.2.2.2.1,p.2.2.2.2⟩) (fun _=>rfl)
  (Opens.struct Tryz.underlying38 (by kernel_rfl) (qeC.cons (by kernel_rfl) rfl oI (qeC.cons (by kernel_rfl) rfl oI (qeC.cons (by kernel_rfl) rfl oI (qeC.cons (by kernel_rfl) rfl oYs (qeC.one (by kernel_rfl) oFs))))))) (fun _ h=>h.2.2.2.1)
theorem oOps:Opens Tryz.prog 24 (Kd.slice 38 kOp) (fun l=>∀ o ∈ l,qbN o.d) :=
 Opens.imp (Opens.slice Tryz.underlying24 (by kernel_rfl) oOp) (fun _ h=>h.2)
theorem qsT {B P Z R:Int} (h:qcG B P Z R=true):16≤B∧8≤P∧64≤Z:=by
 unfold qcG at h;simp only [Bool.and_eq_true,decide_eq_true_eq] at h;omega
theorem scans_law (B P Z R:Int) (A:Option Addr) (c:Nat) (l:List SOp) (W:World) (hr:Kd.C kOp W A l.length l) (hc:l.length≤c) (hby:∀ o ∈ l,qbN o.d) (aE:Addr) (hgE:gNone W aE) :
  Calls Tryz.prog 3 #[gV B P Z R,.slice A l.length c] W fun e w'=>e=.returned (.bool true)∧Below W.heap.size W w':=by
 cases hg:qcG B P Z R with
 | false=>exact quL B P Z R A l.length c W hg aE hgE
 | true =>
  obtain ⟨h1,h2,h3⟩:=qsT hg
  obtain ⟨b,rfl⟩:∃ b:Nat,B=(b:Int):=⟨B.toNat,by omega⟩
  obtain ⟨p,rfl⟩:∃ p:Nat,P=(p:Int):=⟨P.toNat,by omega⟩
  obtain ⟨z,rfl⟩:∃ z:Nat,Z=(z:Int):=⟨Z.toNat,by omega⟩
  exact qxH ⟨b,p,z,R⟩ A c l W hr hc hby hg aE hgE
end
end Go.Proofs.YtdlimghdimkadaaGreatDoor.PAll

/- Part 7 of what the law EbmFormats rests on. -/
import Derived.Test.YtdlimghdimkadaaGreatDoorU6
import Derived.RangeFuncNested
import Derived.RangeFuncBound
import Derived.RangeFuncCalls
import Derived.RangeFuncLeaves
import Derived.Shelf.Abstract
import Derived.Shelf.RegionOpen
import Derived.WalkKit
import Derived.OwnWalkIn
import Derived.TacticsInMore
import Derived.LoopNIn
import Derived.LoopIn
set_option maxRecDepth 100000
set_option maxHeartbeats 32000000
set_option linter.unusedSimpArgs false
set_option linter.unusedVariables false
namespace Go.Proofs.YtdlimghdimkadaaGreatDoor.PAll
open Go Go.RowKit YtdlimghdimkadaaGreatDoorW.PrintWords YtdlimghdimkadaaGreatDoorW.PrintLast YtdlimghdimkadaaGreatDoorW.PrintMore
attribute [local go_sem] qdG qdE qdY qdX qcJ qcI qdF qdD
section
open Plain
def qlK (g:Nat) (w w':World):Prop:=∀ (k:Nat) (cs:Array Value) (t:Nat) (fr:Nat × Nat),k ≠ g→w.heap[k]?=some (.cells cs t fr)→w'.heap[k]?=some (.cells cs t fr)
theorem qlK.of_below {g:Nat} {w w':World} (h:Below w.heap.size w w'):qlK g w w':=fun k cs t fr _ hk=>by rw [h.block k (qcG hk)];exact hk
theorem qlK.set {g:Nat} {w w':World} (h:qlK g w w') (k:Nat) (v:Value):qlK g w (w'.setCell ⟨g,k,none⟩ v):=fun x cs t fr hne hx=>(Below.heap_setCell w' ⟨g,k,none⟩ v x hne).trans (h x cs t fr hne hx)
theorem qmO {w0 w:World} (hb:Below w0.heap.size w0 w) {g:Nat} (hge:w0.heap.size≤g) (B:Option Addr) (c:Nat) (l:List Int) (hx:w.heap[g]?=some (.cells #[.slice B l.length c] 199 (0,0))) (hl:qbA l) (hc:l.length≤c) (hC:Kd.C kB w B l.length l) (n:Nat) (hn:n≤l.length) (h8:n≤100) :
  Calls Tryz.prog 130 #[.pointer (some ⟨g,0,none⟩),.int .i64 n] w fun e w'=>e=.returned (.int .u64 (qcT (l.take n)))∧Below w0.heap.size w0 w'∧qlK g w w'∧∃ (B':Option Addr) (c':Nat),w'.heap[g]?=some (.cells #[.slice B' (l.drop n).length c'] 199 (0,0))∧(l.drop n).length≤c'∧Kd.C kB w' B' (l.drop n).length (l.drop n):=by
 obtain ⟨hcut1,hc1,hC1⟩:=veZ B c l (n:Int) (by omega) (by omega) hc;obtain ⟨B2,c2,hcut2,hc2,hC2⟩:=qpY B c l (n:Int) (by omega) (by omega) hc;have hD:=hC2 w hC;have HGT:=aM (veC B c (l.take (n:Int).toNat) w (hl.take _) (hC1 w hC) hc1);have y0:=jC hx 0;have fo:=qaE hx 0;have HX:=aM hx;have HB:=aM hb;have HGE:=aM hge;have hm1:decide ((n:Int)≤(l.length:Int))=true:=decide_eq_true (by omega)
 have hm2:decide ((n:Int) < (l.length:Int))=true∨n=l.length:=by
  rcases Nat.lt_or_ge n l.length with h|h
  ·exact .inl (decide_eq_true (by omega))
  ·exact .inr (by omega)
 have hmin:min (n:Int) (l.length:Int)=(n:Int):=by omega
 have hu:=Tryz.underlying35
 obtain ⟨t,ht⟩:∃ t,t=l.take (n:Int).toNat:=⟨_,rfl⟩
 obtain ⟨d,hd⟩:∃ d,d=l.drop (n:Int).toNat:=⟨_,rfl⟩
 rw [← ht] at hcut1 HGT;rw [← hd] at hcut2 hc2 hD;rw [Int.toNat_natCast] at ht hd;rw [← ht,← hd];have HD:=aM hD;have HC2:=aM hc2;clear hx hb hge hn h8 hl hC hC1 hC2 hc1 hc2 hD ht hd hc hm2;go_enter Tryz.func130,Tryz.ntmps130
 go_upto_region 3 with (first
  | (go_at_call 150;(with_reducible refine HGT.out.mono ?_);rintro e w1 ⟨rfl,hb1⟩;have HX1:=aM (qaB HX.out hb1);have HB1:=aM hb1;clear hb1))
 clear y0 fo;have y0:=jC HX1.out 0;have fo:=qaE HX1.out 0;go_wp2;go_ret
 exact ⟨rfl,qaK (qaC HB.out HB1.out) HGE.out,(qlK.of_below HB1.out).set 0 _,B2,c2,qcB HX1.out 0 _,HC2.out,qxP (Kd.C_below HD.out HB1.out) HX1.out (fun k q h=>by
  match k,h with
  | 0,h=>simp at h
  | k+1,h=>simp at h) 0 _⟩
theorem qnF {l:List Int} (hl:qbA l) (k:Nat) (hk:k≤4) (hn:l.length≤k):0≤qcT l∧qcT l < 4294967296:=by
 have h:=qnG hl;refine ⟨h.1,Int.lt_of_lt_of_le h.2 ?_⟩;have h3:min l.length 8≤4:=by omega
 generalize min l.length 8=m at h3 ⊢
 rcases (show m=0∨m=1∨m=2∨m=3∨m=4 by omega) with rfl|rfl|rfl|rfl|rfl <;> decide
theorem qhY (A:Option Addr) (c:Nat) (l:List Int) (a:Addr) (w:World) (hl:qbA l) (hr:Kd.C kB w A l.length l) (hc:l.length≤c) (hg:gNone w a) :
  Calls Tryz.prog 87 #[.slice A l.length c] w fun e w'=>e=.returned (.tuple #[.int .i64 (qaQ l).1,.bool (qaQ l).2])∧Below w.heap.size w w':=by
 have HO:=aM (show Calls Tryz.prog 128 #[.slice A l.length c,.int .u8 69,.int .i64 5] w _ from qvR A c l a 69 5 w (by decide) hl hr hc hg);have HG:=aM hg
 cases ho:qgE l 69 5 with
 | none =>
  have hP:qaQ l=(0,false):=by unfold qaQ;rw [ho]
  rw [hP];rw [ho] at HO;clear hP ho hl hr hc hg;go_enter Tryz.func87,Tryz.ntmps87
  go_upto_region 2 with (first
   | (go_at_call 128;(with_reducible refine HO.out.mono ?_);rintro e w1 ⟨v,rfl,⟨x,rfl,hx⟩,hb1⟩;have HX:=aM hx;have HB1:=aM hb1;clear hx hb1))
  have hg1:gNone w1 a:=qaH HG.out HB1.out;have HG1:=aM hg1;change w1.cell? ⟨0,0,none⟩=some (.iface 239 (.pointer (some a))) at hg1
  rcases HX.out with rfl|⟨k,rfl⟩
  ·clear HX
   go_wp2_with (first
    | (go_at_call 129;(with_reducible refine (qiZ a _).mono ?_);rintro e w2 ⟨rfl,hb2⟩;have HB2:=aM (qaC HB1.out hb2);clear hb2))
   go_ret2;exact ⟨rfl,HB2.out⟩
  ·clear HX;have HI:=aM (qjA k a w1 HG1.out)
   go_wp2_with (first
    | (go_at_call 129;(with_reducible refine HI.out.mono ?_);rintro e w2 ⟨rfl,hb2⟩;have HB2:=aM (qaC HB1.out hb2);clear hb2))
   go_ret2;exact ⟨rfl,HB2.out⟩
 | some p =>
  obtain ⟨hpb,hpl,hpk⟩:=qmC hl ho;have hd4:(p.drop 1).length=4:=by rw [List.length_drop,hpl]
  have hP:qaQ l=if 2147483647 < qcT (p.drop 1) then (0,false) else (qcT (p.drop 1),true):=by unfold qaQ;rw [ho]
  rw [hP];rw [ho] at HO;have hbd:=qnF (hpb.drop 1) 4 (by decide) (by omega);have htk:(p.drop 1).take 4=p.drop 1:=List.take_of_length_le (by omega);have hwr:IntKind.i64.wrap (qcT (p.drop 1))=qcT (p.drop 1):=by rw [qbL];exact qcH (by omega) (by omega)
  have HT:=aM (fun (w0 w1:World) (hb:Below w0.heap.size w0 w1) (g:Nat) (hge:w0.heap.size≤g) (B:Option Addr) (c:Nat) (hx:w1.heap[g]?=some (.cells #[.slice B (p.drop 1).length c] 199 (0,0))) (hc:(p.drop 1).length≤c) (hC:Kd.C kB w1 B (p.drop 1).length (p.drop 1))=>show Calls Tryz.prog 130 #[.pointer (some ⟨g,0,none⟩),.int .i64 4] w1 (fun e w'=>e=.returned (.int .u64 (qcT (p.drop 1)))∧Below w0.heap.size w0 w') from (qmO hb hge B c (p.drop 1) hx (hpb.drop 1) hc hC 4 (by omega) (by decide)).mono fun e w' h=>⟨by rw [← htk];exact h.1,h.2.1⟩);generalize qcT (p.drop 1)=x at hbd hwr HT ⊢;clear hP ho hl hr hc hg htk hpl hpk
  by_cases hbig:2147483647 < x
  ·have d0:decide (2147483647 < x)=true:=decide_eq_true hbig;rw [if_pos hbig];clear hbig hbd;go_enter Tryz.func87,Tryz.ntmps87
   go_upto_region 2 with (first
    | (go_at_call 128;(with_reducible refine HO.out.mono ?_);rintro e w1 ⟨v,rfl,⟨g,B,c2,rfl,hge,hx,hc2,hC2⟩,hb1⟩;have HB1:=aM hb1;have HT1:=aM (fun (w2:World) (hb:Below w1.heap.size w1 w2)=>HT.out w w2 (qaC hb1 hb) g hge B c2 (qaB hx hb) hc2 (Kd.C_below hC2 hb));clear hx hb1 hc2 hC2 hge))
   have hg1:w1.cell? ⟨0,0,none⟩=some (.iface 239 (.pointer (some a))):=qaH HG.out HB1.out
   go_wp2_with (first
    | (go_at_call 129;(with_reducible refine (qfM a _).mono ?_);rintro e w2 ⟨rfl,hb2⟩;have HB2:=aM hb2;have HT2:=aM (HT1.out w2 hb2);clear hb2)
    | (go_at_call 130;(with_reducible refine HT2.out.mono ?_);rintro e w3 ⟨rfl,hb3⟩;have HB3:=aM hb3;clear hb3))
   go_ret2;exact ⟨rfl,HB3.out⟩
  ·have d0:decide (2147483647 < x)=false:=decide_eq_false hbig;rw [if_neg hbig];clear hbig hbd;go_enter Tryz.func87,Tryz.ntmps87
   go_upto_region 2 with (first
    | (go_at_call 128;(with_reducible refine HO.out.mono ?_);rintro e w1 ⟨v,rfl,⟨g,B,c2,rfl,hge,hx,hc2,hC2⟩,hb1⟩;have HB1:=aM hb1;have HT1:=aM (fun (w2:World) (hb:Below w1.heap.size w1 w2)=>HT.out w w2 (qaC hb1 hb) g hge B c2 (qaB hx hb) hc2 (Kd.C_below hC2 hb));clear hx hb1 hc2 hC2 hge))
   have hg1:w1.cell? ⟨0,0,none⟩=some (.iface 239 (.pointer (some a))):=qaH HG.out HB1.out
   go_wp2_with (first
    | (go_at_call 129;(with_reducible refine (qfM a _).mono ?_);rintro e w2 ⟨rfl,hb2⟩;have HB2:=aM hb2;have HT2:=aM (HT1.out w2 hb2);clear hb2)
    | (go_at_call 130;(with_reducible refine HT2.out.mono ?_);rintro e w3 ⟨rfl,hb3⟩;have HB3:=aM hb3;clear hb3))
   go_ret2;exact ⟨rfl,HB3.out⟩
theorem set3 {W:World} {g t:Nat} {a b c:Value} (h:W.heap[g]?=some (.cells #[a,b,c] t (0,0))) (x y z:Value):(((W.setCell ⟨g,0,none⟩ x).setCell ⟨g,1,none⟩ y).setCell ⟨g,2,none⟩ z).heap[g]?=some (.cells #[x,y,z] t (0,0)) :=
 qcB (qcB (qcB h 0 x) 1 y) 2 z
theorem qqD (A:Option Addr) (c:Nat) (l:List Int) (a:Addr) (w:World) (hl:qbA l) (hr:Kd.C kB w A l.length l) (hc:l.length≤c) (hg:gNone w a) :
  Calls Tryz.prog 123 #[.slice A l.length c] w fun e w'=>e=.returned (.tuple #[.agg #[.int .i64 (qbT l).1.1,.int .u64 (qbT l).1.2.1,.int .i64 (qbT l).1.2.2],.bool (qbT l).2])∧Below w.heap.size w w':=by
 have HO:=aM (fun (w':World) (hb:Below w.heap.size w w')=>show Calls Tryz.prog 128 #[.slice A l.length c,.int .u8 77,.int .i64 12] w' _ from qvR A c l a 77 12 w' (by decide) hl (Kd.C_below hr hb) hc (qaH hg hb));have HG:=aM hg;have hu30:=Tryz.underlying168
 cases ho:qgE l 77 12 with
 | none =>
  have hP:qbT l=((0,0,0),false):=by unfold qbT;rw [ho]
  rw [hP];rw [ho] at HO;clear hP ho hl hr hc hg;go_enter Tryz.func123,Tryz.ntmps123
  go_upto_region 1 with (fail)
  generalize hW:w.alloc (.cells #[.int .i64 0,.int .u64 0,.int .i64 0] 168)=wa;have hba:Below w.heap.size w wa:=by rw [← hW];exact qaA (Below.refl _ _) _
  have hxa:wa.heap[w.heap.size]?=some (.cells #[.int .i64 0,.int .u64 0,.int .i64 0] 168 (0,0)):=by rw [← hW];exact qaM _ _ _
  obtain ⟨gr,hgr⟩:∃ gr,gr=w.heap.size:=⟨_,rfl⟩
  rw [← hgr] at hxa ⊢;have HGR:=aM (Nat.le_of_eq hgr.symm);have HXA:=aM hxa;have HO1:=aM (HO.out wa hba);have HBA:=aM hba;clear hW hba hxa hgr
  go_upto_region 2 with (first
   | (go_at_call 128;(with_reducible refine HO1.out.mono ?_);rintro e w1 ⟨v,rfl,⟨x,rfl,hx⟩,hb1⟩;have HX:=aM hx;have HB1:=aM (qaC HBA.out hb1);have HXB:=aM (qaB HXA.out hb1);clear hx hb1))
  have hg1:gNone w1 a:=qaH HG.out HB1.out;have HG1:=aM hg1;change w1.cell? ⟨0,0,none⟩=some (.iface 239 (.pointer (some a))) at hg1
  have HIS:qaJ (∀ x,(x=.iface 239 (.pointer (some a))∨∃ k:Addr,x=.iface 195 (.pointer (some k)))→Calls Tryz.prog 129 #[x,.iface 239 (.pointer (some a))] w1 fun e w'=>e=.returned (.bool true)∧Below w1.heap.size w1 w'):=⟨fun x hx=>by
   rcases hx with rfl|⟨k,rfl⟩
   ·exact qiZ a _
   ·exact qjA k a w1 HG1.out⟩
  have HI:=aM (HIS.out x HX.out);clear HIS HX
  go_upto_region 3 with (first
   | (go_at_call 129;(with_reducible refine HI.out.mono ?_);rintro e w2 ⟨rfl,hb2⟩;have HB2:=aM (qaC HB1.out hb2);have HXC:=aM (qaB HXB.out hb2);clear hb2))
  have y0:=jC HXC.out 0;have y1:=jC HXC.out 1;have y2:=jC HXC.out 2;have f0:=qaE HXC.out 0;have f1:=qaE HXC.out 1;have f2:=qaE HXC.out 2;go_wp2;refine bodyPost_ret (qbF rfl _ _ gr 168 #[.int .i64 0,.int .u64 0,.int .i64 0] (0,0) _ rfl (set3 HXC.out _ _ _) Tryz.underlying168 rfl (by kernel_rfl)) rfl ?_;exact ⟨rfl,qaK (qaK (qaK HB2.out HGR.out) HGR.out) HGR.out⟩
 | some p =>
  obtain ⟨hpb,hpl,hpk⟩:=qmC hl ho
  obtain ⟨q,hq⟩:∃ q,q=p.drop 1:=⟨_,rfl⟩
  have hql:q.length=11:=by rw [hq,List.length_drop,hpl]
  have hqb:qbA q:=by rw [hq];exact hpb.drop 1
  have e3:p.drop 3=q.drop 2:=by rw [hq,List.drop_drop]
  have e11:p.drop 11=(q.drop 2).drop 8:=by rw [hq,List.drop_drop,List.drop_drop]
  have hP:qbT l=if 256≤qcT (q.take 2)∨64 < qcT (((q.drop 2).drop 8).take 1) then ((0,0,0),false) else ((qcT (q.take 2),qcT ((q.drop 2).take 8),qcT (((q.drop 2).drop 8).take 1)),true):=by
   unfold qbT;rw [ho];show (if 256≤qcT ((p.drop 1).take 2)∨64 < qcT ((p.drop 11).take 1) then (((0:Int),(0:Int),(0:Int)),false) else ((qcT ((p.drop 1).take 2),qcT ((p.drop 3).take 8),qcT ((p.drop 11).take 1)),true))=_;rw [← hq,e3,e11]
  rw [hP];rw [ho] at HO;have hb1:=qnF (hqb.take 2) 2 (by decide) (by rw [List.length_take];omega);have hb3:=qnF (((hqb.drop 2).drop 8).take 1) 1 (by decide) (by rw [List.length_take];omega);have hw1:IntKind.i64.wrap (qcT (q.take 2))=qcT (q.take 2):=by rw [qbL];exact qcH (by omega) (by omega)
  have hw3:IntKind.i64.wrap (qcT (((q.drop 2).drop 8).take 1))=qcT (((q.drop 2).drop 8).take 1):=by rw [qbL];exact qcH (by omega) (by omega)
  obtain ⟨leb,hleb⟩:∃ x,x=qcT (q.take 2):=⟨_,rfl⟩
  obtain ⟨seq,hseq⟩:∃ x,x=qcT ((q.drop 2).take 8):=⟨_,rfl⟩
  obtain ⟨pg,hpg⟩:∃ x,x=qcT (((q.drop 2).drop 8).take 1):=⟨_,rfl⟩
  rw [← hleb,← hseq,← hpg];rw [← hleb] at hw1 hb1;rw [← hpg] at hw3 hb3
  obtain ⟨q2,hq2⟩:∃ x,x=q.drop 2:=⟨_,rfl⟩
  rw [← hq2] at hseq hpg
  obtain ⟨q3,hq3⟩:∃ x,x=q2.drop 8:=⟨_,rfl⟩
  rw [← hq3] at hpg;have hq2l:q2.length=9:=by rw [hq2,List.length_drop,hql]
  have hq3l:q3.length=1:=by rw [hq3,List.length_drop,hq2l]
  have hq2b:qbA q2:=by rw [hq2];exact hqb.drop 2
  have hq3b:qbA q3:=by rw [hq3];exact hq2b.drop 8
  have HT1:=aM (fun (w1:World) (hb:Below w.heap.size w w1) (g:Nat) (hge:w.heap.size≤g) (B:Option Addr) (c:Nat) (hx:w1.heap[g]?=some (.cells #[.slice B q.length c] 199 (0,0))) (hc:q.length≤c) (hC:Kd.C kB w1 B q.length q)=>show Calls Tryz.prog 130 #[.pointer (some ⟨g,0,none⟩),.int .i64 2] w1 (fun e w'=>e=.returned (.int .u64 leb)∧Below w.heap.size w w'∧qlK g w1 w'∧∃ (B':Option Addr) (c':Nat),w'.heap[g]?=some (.cells #[.slice B' q2.length c'] 199 (0,0))∧q2.length≤c'∧Kd.C kB w' B' q2.length q2) from by
   rw [hleb,hq2]
   exact qmO hb hge B c q hx hqb hc hC 2 (by omega) (by decide))
  have HT2:=aM (fun (w1:World) (hb:Below w.heap.size w w1) (g:Nat) (hge:w.heap.size≤g) (B:Option Addr) (c:Nat) (hx:w1.heap[g]?=some (.cells #[.slice B q2.length c] 199 (0,0))) (hc:q2.length≤c) (hC:Kd.C kB w1 B q2.length q2)=>show Calls Tryz.prog 130 #[.pointer (some ⟨g,0,none⟩),.int .i64 8] w1 (fun e w'=>e=.returned (.int .u64 seq)∧Below w.heap.size w w'∧qlK g w1 w'∧∃ (B':Option Addr) (c':Nat),w'.heap[g]?=some (.cells #[.slice B' q3.length c'] 199 (0,0))∧q3.length≤c'∧Kd.C kB w' B' q3.length q3) from by
   rw [hseq,hq3]
   exact qmO hb hge B c q2 hx hq2b hc hC 8 (by omega) (by decide))
  have HT3:=aM (fun (w1:World) (hb:Below w.heap.size w w1) (g:Nat) (hge:w.heap.size≤g) (B:Option Addr) (c:Nat) (hx:w1.heap[g]?=some (.cells #[.slice B q3.length c] 199 (0,0))) (hc:q3.length≤c) (hC:Kd.C kB w1 B q3.length q3)=>show Calls Tryz.prog 130 #[.pointer (some ⟨g,0,none⟩),.int .i64 1] w1 (fun e w'=>e=.returned (.int .u64 pg)∧Below w.heap.size w w'∧qlK g w1 w') from by
   rw [hpg]
   exact (qmO hb hge B c q3 hx hq3b hc hC 1 (by omega) (by decide)).mono fun e w' h=>⟨h.1,h.2.1,h.2.2.1⟩)
  have HOP:qaJ (∀ (w':World) (_:Below w.heap.size w w'),Calls Tryz.prog 128 #[.slice A l.length c,.int .u8 77,.int .i64 12] w' fun e w2=>∃ (g:Nat) (B:Option Addr) (c:Nat),e=.returned (.tuple #[.pointer (some ⟨g,0,none⟩),.nilIface])∧w'.heap.size≤g∧w2.heap[g]?=some (.cells #[.slice B q.length c] 199 (0,0))∧q.length≤c∧Kd.C kB w2 B q.length q∧Below w'.heap.size w' w2):=⟨fun w' hb=>(HO.out w' hb).mono fun e w2 ⟨v,he,⟨g,B,c,hv,h1,h2,h3,h4⟩,hb2⟩=>⟨g,B,c,by rw [he,hv],h1,by rw [hq];exact h2,by rw [hq];exact h3,by rw [hq];exact h4,hb2⟩⟩
  clear hP ho hl hr hc hg HO hleb hseq hpg hq hq2 hq3 hql hqb hq2l hq3l hq2b hq3b e3 e11 hpb hpl hpk
  by_cases hbad:256≤leb∨64 < pg
  ·rw [if_pos hbad];go_enter Tryz.func123,Tryz.ntmps123
   go_upto_region 1 with (fail)
   generalize hW:w.alloc (.cells #[.int .i64 0,.int .u64 0,.int .i64 0] 168)=wa;have hba:Below w.heap.size w wa:=by rw [← hW];exact qaA (Below.refl _ _) _
   have hxa:wa.heap[w.heap.size]?=some (.cells #[.int .i64 0,.int .u64 0,.int .i64 0] 168 (0,0)):=by rw [← hW];exact qaM _ _ _
   obtain ⟨gr,hgr⟩:∃ gr,gr=w.heap.size:=⟨_,rfl⟩
   rw [← hgr] at hxa ⊢;have HGR:=aM (Nat.le_of_eq hgr.symm);have HXA:=aM hxa;have HO1:=aM (HOP.out wa hba);have HBA:=aM hba;clear hW hba hxa hgr
   go_upto_region 2 with (first
    | (go_at_call 128;(with_reducible refine HO1.out.mono ?_);rintro e w1 ⟨g,B,c2,rfl,hge,hx,hc2,hC2,hb1⟩;have HB1:=aM (qaC HBA.out hb1);have HXB:=aM (qaB HXA.out hb1);have HGE:=aM (Nat.le_trans (qaI HBA.out) hge);have HX1:=aM hx;have HC1:=aM hc2;have HD1:=aM hC2;clear hx hb1 hc2 hC2 hge))
   have hg1:w1.cell? ⟨0,0,none⟩=some (.iface 239 (.pointer (some a))):=qaH HG.out HB1.out
   go_upto_region 4 with (first
    | (go_at_call 129;(with_reducible refine (qfM a _).mono ?_);rintro e w2 ⟨rfl,hb2⟩;have HB2:=aM (qaC HB1.out hb2);have HXC:=aM (qaB HXB.out hb2);have HX2:=aM (qaB HX1.out hb2);have HD2:=aM (Kd.C_below HD1.out hb2);clear hb2))
   clear hg1
   go_upto_region 5 with (fail)
   generalize hW:w2.alloc (.cells #[.int .i64 0,.int .u64 0,.int .i64 0] 168)=w3;have hb3':Below w2.heap.size w2 w3:=by rw [← hW];exact qaA (Below.refl _ _) _
   have hxm:w3.heap[w2.heap.size]?=some (.cells #[.int .i64 0,.int .u64 0,.int .i64 0] 168 (0,0)):=by rw [← hW];exact qaM _ _ _
   have hng:gr ≠ w2.heap.size:=fun e=>by
    have:=qcG HXC.out;omega
   have hng2:g ≠ w2.heap.size:=fun e=>by
    have:=qcG HX2.out;omega
   obtain ⟨gm,hgm⟩:∃ gm,gm=w2.heap.size:=⟨_,rfl⟩
   rw [← hgm] at hxm hng hng2 ⊢;have HGM:=aM (Nat.le_trans (qaI HB2.out) (Nat.le_of_eq hgm.symm));have HNG:=aM hng;have HNG2:=aM hng2;have HXM:=aM hxm;have HXR:=aM (qaB HXC.out hb3');have HX3:=aM (qaB HX2.out hb3');have HB3:=aM (qaC HB2.out hb3');have HD3:=aM (Kd.C_below HD2.out hb3');have HTa:=aM (HT1.out w3 HB3.out g HGE.out B c2 HX3.out HC1.out HD3.out)
   have HNE:qaJ (gr ≠ g):=⟨fun e=>by
    have h9:=HX3.out;rw [← e] at h9;rw [HXR.out] at h9;simp only [Option.some.injEq,Obj.cells.injEq] at h9
    exact absurd h9.2.1 (by decide)⟩
   have k0:=jC HXM.out 0;have j0:=qaE HXM.out 0;clear hW hb3' hxm hng hng2 hgm;have HMa:=aM (fun (w4:World) (ho:qlK g w3 w4)=>ho gm _ _ _ (fun e=>HNG2.out e.symm) HXM.out);have HRa:=aM (fun (w4:World) (ho:qlK g w3 w4)=>ho gr _ _ _ HNE.out HXR.out);clear k0 j0
   go_upto_region 6 with (first
    | (go_at_call 130;(with_reducible refine HTa.out.mono ?_);rintro e w4 ⟨rfl,hb4,ho4,B4,c4,hx4,hc4,hC4⟩;have HX4:=aM hx4;have HC4:=aM hc4;have HD4:=aM hC4;have HB4:=aM hb4;have HM4:=aM (HMa.out w4 ho4);have HR4:=aM (HRa.out w4 ho4);have k0:=jC HM4.out 0;have j0:=qaE HM4.out 0;clear hx4 hc4 hC4 hb4 ho4))
   generalize hW:w4.setCell ⟨gm,0,none⟩ (.int .i64 leb)=w5
   have HX5:qaJ (w5.heap[g]?=some (.cells #[.slice B4 q2.length c4] 199 (0,0))):=⟨by rw [← hW];exact qaT HX4.out (fun e=>HNG2.out e) _⟩
   have HM5:qaJ (w5.heap[gm]?=some (.cells #[.int .i64 leb,.int .u64 0,.int .i64 0] 168 (0,0))):=⟨by rw [← hW];exact qcB HM4.out 0 _⟩
   have HR5:qaJ (w5.heap[gr]?=some (.cells #[.int .i64 0,.int .u64 0,.int .i64 0] 168 (0,0))):=⟨by rw [← hW];exact qaT HR4.out (fun e=>HNG.out e) _⟩
   have HB5:qaJ (Below w.heap.size w w5):=⟨by rw [← hW];exact qaK HB4.out HGM.out⟩
   have HD5:qaJ (Kd.C kB w5 B4 q2.length q2):=⟨by
    rw [← hW]
    exact qxP HD4.out HM4.out (fun k n h=>by
     match k,h with
     | 0,h=>simp at h
     | 1,h=>simp at h
     | 2,h=>simp at h
     | k+3,h=>simp at h) 0 _⟩
   clear hW k0 j0;have HTb:=aM (HT2.out w5 HB5.out g HGE.out B4 c4 HX5.out HC4.out HD5.out);have HMb:=aM (fun (w6:World) (ho:qlK g w5 w6)=>ho gm _ _ _ (fun e=>HNG2.out e.symm) HM5.out);have HRb:=aM (fun (w6:World) (ho:qlK g w5 w6)=>ho gr _ _ _ HNE.out HR5.out)
   go_upto_region 7 with (first
    | (go_at_call 130;(with_reducible refine HTb.out.mono ?_);rintro e w6 ⟨rfl,hb6,ho6,B6,c6,hx6,hc6,hC6⟩;have HX6:=aM hx6;have HC6:=aM hc6;have HD6:=aM hC6;have HB6:=aM hb6;have HM6:=aM (HMb.out w6 ho6);have HR6:=aM (HRb.out w6 ho6);have k1:=jC HM6.out 1;have j1:=qaE HM6.out 1;clear hx6 hc6 hC6 hb6 ho6))
   generalize hW:w6.setCell ⟨gm,1,none⟩ (.int .u64 seq)=w7
   have HX7:qaJ (w7.heap[g]?=some (.cells #[.slice B6 q3.length c6] 199 (0,0))):=⟨by rw [← hW];exact qaT HX6.out (fun e=>HNG2.out e) _⟩
   have HM7:qaJ (w7.heap[gm]?=some (.cells #[.int .i64 leb,.int .u64 seq,.int .i64 0] 168 (0,0))):=⟨by rw [← hW];exact qcB HM6.out 1 _⟩
   have HR7:qaJ (w7.heap[gr]?=some (.cells #[.int .i64 0,.int .u64 0,.int .i64 0] 168 (0,0))):=⟨by rw [← hW];exact qaT HR6.out (fun e=>HNG.out e) _⟩
   have HB7:qaJ (Below w.heap.size w w7):=⟨by rw [← hW];exact qaK HB6.out HGM.out⟩
   have HD7:qaJ (Kd.C kB w7 B6 q3.length q3):=⟨by
    rw [← hW]
    exact qxP HD6.out HM6.out (fun k n h=>by
     match k,h with
     | 0,h=>simp at h
     | 1,h=>simp at h
     | 2,h=>simp at h
     | k+3,h=>simp at h) 1 _⟩
   clear hW k1 j1;have HTc:=aM (HT3.out w7 HB7.out g HGE.out B6 c6 HX7.out HC6.out HD7.out);have HMc:=aM (fun (w8:World) (ho:qlK g w7 w8)=>ho gm _ _ _ (fun e=>HNG2.out e.symm) HM7.out);have HRc:=aM (fun (w8:World) (ho:qlK g w7 w8)=>ho gr _ _ _ HNE.out HR7.out)
   go_upto_region 8 with (first
    | (go_at_call 130;(with_reducible refine HTc.out.mono ?_);rintro e w8 ⟨rfl,hb8,ho8⟩;have HB8:=aM hb8;have HM8:=aM (HMc.out w8 ho8);have HR8:=aM (HRc.out w8 ho8);have k2:=jC HM8.out 2;have j2:=qaE HM8.out 2;clear hb8 ho8))
   generalize hW:w8.setCell ⟨gm,2,none⟩ (.int .i64 pg)=w9
   have HM9:qaJ (w9.heap[gm]?=some (.cells #[.int .i64 leb,.int .u64 seq,.int .i64 pg] 168 (0,0))):=⟨by rw [← hW];exact qcB HM8.out 2 _⟩
   have HR9:qaJ (w9.heap[gr]?=some (.cells #[.int .i64 0,.int .u64 0,.int .i64 0] 168 (0,0))):=⟨by rw [← hW];exact qaT HR8.out (fun e=>HNG.out e) _⟩
   have HB9:qaJ (Below w.heap.size w w9):=⟨by rw [← hW];exact qaK HB8.out HGM.out⟩
   clear hW k2 j2;have m0:=jC HM9.out 0;have m1:=jC HM9.out 1;have m2:=jC HM9.out 2;have r0:=jC HR9.out 0;have r1:=jC HR9.out 1;have r2:=jC HR9.out 2;have f0:=qaE HR9.out 0;have f1:=qaE HR9.out 1;have f2:=qaE HR9.out 2
   by_cases h9:256≤leb
   ·have d0:decide (256≤leb)=true:=decide_eq_true h9;clear hbad h9 hb1 hb3;go_wp2;refine bodyPost_ret (qbF rfl _ _ gr 168 #[.int .i64 0,.int .u64 0,.int .i64 0] (0,0) _ rfl (set3 HR9.out _ _ _) Tryz.underlying168 rfl (by kernel_rfl)) rfl ?_;exact ⟨rfl,qaK (qaK (qaK HB9.out HGR.out) HGR.out) HGR.out⟩
   ·have d0:decide (256≤leb)=false:=decide_eq_false h9;have d1:decide (64 < pg)=true:=decide_eq_true (by omega);clear hbad h9 hb1 hb3;go_wp2;refine bodyPost_ret (qbF rfl _ _ gr 168 #[.int .i64 0,.int .u64 0,.int .i64 0] (0,0) _ rfl (set3 HR9.out _ _ _) Tryz.underlying168 rfl (by kernel_rfl)) rfl ?_;exact ⟨rfl,qaK (qaK (qaK HB9.out HGR.out) HGR.out) HGR.out⟩
  ·rw [if_neg hbad];go_enter Tryz.func123,Tryz.ntmps123
   go_upto_region 1 with (fail)
   generalize hW:w.alloc (.cells #[.int .i64 0,.int .u64 0,.int .i64 0] 168)=wa;have hba:Below w.heap.size w wa:=by rw [← hW];exact qaA (Below.refl _ _) _
   have hxa:wa.heap[w.heap.size]?=some (.cells #[.int .i64 0,.int .u64 0,.int .i64 0] 168 (0,0)):=by rw [← hW];exact qaM _ _ _
   obtain ⟨gr,hgr⟩:∃ gr,gr=w.heap.size:=⟨_,rfl⟩
   rw [← hgr] at hxa ⊢;have HGR:=aM (Nat.le_of_eq hgr.symm);have HXA:=aM hxa;have HO1:=aM (HOP.out wa hba);have HBA:=aM hba;clear hW hba hxa hgr
   go_upto_region 2 with (first
    | (go_at_call 128;(with_reducible refine HO1.out.mono ?_);rintro e w1 ⟨g,B,c2,rfl,hge,hx,hc2,hC2,hb1⟩;have HB1:=aM (qaC HBA.out hb1);have HXB:=aM (qaB HXA.out hb1);have HGE:=aM (Nat.le_trans (qaI HBA.out) hge);have HX1:=aM hx;have HC1:=aM hc2;have HD1:=aM hC2;clear hx hb1 hc2 hC2 hge))
   have hg1:w1.cell? ⟨0,0,none⟩=some (.iface 239 (.pointer (some a))):=qaH HG.out HB1.out
   go_upto_region 4 with (first
    | (go_at_call 129;(with_reducible refine (qfM a _).mono ?_);rintro e w2 ⟨rfl,hb2⟩;have HB2:=aM (qaC HB1.out hb2);have HXC:=aM (qaB HXB.out hb2);have HX2:=aM (qaB HX1.out hb2);have HD2:=aM (Kd.C_below HD1.out hb2);clear hb2))
   clear hg1
   go_upto_region 5 with (fail)
   generalize hW:w2.alloc (.cells #[.int .i64 0,.int .u64 0,.int .i64 0] 168)=w3;have hb3':Below w2.heap.size w2 w3:=by rw [← hW];exact qaA (Below.refl _ _) _
   have hxm:w3.heap[w2.heap.size]?=some (.cells #[.int .i64 0,.int .u64 0,.int .i64 0] 168 (0,0)):=by rw [← hW];exact qaM _ _ _
   have hng:gr ≠ w2.heap.size:=fun e=>by
    have:=qcG HXC.out;omega
   have hng2:g ≠ w2.heap.size:=fun e=>by
    have:=qcG HX2.out;omega
   obtain ⟨gm,hgm⟩:∃ gm,gm=w2.heap.size:=⟨_,rfl⟩
   rw [← hgm] at hxm hng hng2 ⊢;have HGM:=aM (Nat.le_trans (qaI HB2.out) (Nat.le_of_eq hgm.symm));have HNG:=aM hng;have HNG2:=aM hng2;have HXM:=aM hxm;have HXR:=aM (qaB HXC.out hb3');have HX3:=aM (qaB HX2.out hb3');have HB3:=aM (qaC HB2.out hb3');have HD3:=aM (Kd.C_below HD2.out hb3');have HTa:=aM (HT1.out w3 HB3.out g HGE.out B c2 HX3.out HC1.out HD3.out)
   have HNE:qaJ (gr ≠ g):=⟨fun e=>by
    have h9:=HX3.out;rw [← e] at h9;rw [HXR.out] at h9;simp only [Option.some.injEq,Obj.cells.injEq] at h9
    exact absurd h9.2.1 (by decide)⟩
   have k0:=jC HXM.out 0;have j0:=qaE HXM.out 0;clear hW hb3' hxm hng hng2 hgm;have HMa:=aM (fun (w4:World) (ho:qlK g w3 w4)=>ho gm _ _ _ (fun e=>HNG2.out e.symm) HXM.out);have HRa:=aM (fun (w4:World) (ho:qlK g w3 w4)=>ho gr _ _ _ HNE.out HXR.out);clear k0 j0
   go_upto_region 6 with (first
    | (go_at_call 130;(with_reducible refine HTa.out.mono ?_);rintro e w4 ⟨rfl,hb4,ho4,B4,c4,hx4,hc4,hC4⟩;have HX4:=aM hx4;have HC4:=aM hc4;have HD4:=aM hC4;have HB4:=aM hb4;have HM4:=aM (HMa.out w4 ho4);have HR4:=aM (HRa.out w4 ho4);have k0:=jC HM4.out 0;have j0:=qaE HM4.out 0;clear hx4 hc4 hC4 hb4 ho4))
   generalize hW:w4.setCell ⟨gm,0,none⟩ (.int .i64 leb)=w5
   have HX5:qaJ (w5.heap[g]?=some (.cells #[.slice B4 q2.length c4] 199 (0,0))):=⟨by rw [← hW];exact qaT HX4.out (fun e=>HNG2.out e) _⟩
   have HM5:qaJ (w5.heap[gm]?=some (.cells #[.int .i64 leb,.int .u64 0,.int .i64 0] 168 (0,0))):=⟨by rw [← hW];exact qcB HM4.out 0 _⟩
   have HR5:qaJ (w5.heap[gr]?=some (.cells #[.int .i64 0,.int .u64 0,.int .i64 0] 168 (0,0))):=⟨by rw [← hW];exact qaT HR4.out (fun e=>HNG.out e) _⟩
   have HB5:qaJ (Below w.heap.size w w5):=⟨by rw [← hW];exact qaK HB4.out HGM.out⟩
   have HD5:qaJ (Kd.C kB w5 B4 q2.length q2):=⟨by
    rw [← hW]
    exact qxP HD4.out HM4.out (fun k n h=>by
     match k,h with
     | 0,h=>simp at h
     | 1,h=>simp at h
     | 2,h=>simp at h
     | k+3,h=>simp at h) 0 _⟩
   clear hW k0 j0;have HTb:=aM (HT2.out w5 HB5.out g HGE.out B4 c4 HX5.out HC4.out HD5.out);have HMb:=aM (fun (w6:World) (ho:qlK g w5 w6)=>ho gm _ _ _ (fun e=>HNG2.out e.symm) HM5.out);have HRb:=aM (fun (w6:World) (ho:qlK g w5 w6)=>ho gr _ _ _ HNE.out HR5.out)
   go_upto_region 7 with (first
    | (go_at_call 130;(with_reducible refine HTb.out.mono ?_);rintro e w6 ⟨rfl,hb6,ho6,B6,c6,hx6,hc6,hC6⟩;have HX6:=aM hx6;have HC6:=aM hc6;have HD6:=aM hC6;have HB6:=aM hb6;have HM6:=aM (HMb.out w6 ho6);have HR6:=aM (HRb.out w6 ho6);have k1:=jC HM6.out 1;have j1:=qaE HM6.out 1;clear hx6 hc6 hC6 hb6 ho6))
   generalize hW:w6.setCell ⟨gm,1,none⟩ (.int .u64 seq)=w7
   have HX7:qaJ (w7.heap[g]?=some (.cells #[.slice B6 q3.length c6] 199 (0,0))):=⟨by rw [← hW];exact qaT HX6.out (fun e=>HNG2.out e) _⟩
   have HM7:qaJ (w7.heap[gm]?=some (.cells #[.int .i64 leb,.int .u64 seq,.int .i64 0] 168 (0,0))):=⟨by rw [← hW];exact qcB HM6.out 1 _⟩
   have HR7:qaJ (w7.heap[gr]?=some (.cells #[.int .i64 0,.int .u64 0,.int .i64 0] 168 (0,0))):=⟨by rw [← hW];exact qaT HR6.out (fun e=>HNG.out e) _⟩
   have HB7:qaJ (Below w.heap.size w w7):=⟨by rw [← hW];exact qaK HB6.out HGM.out⟩
   have HD7:qaJ (Kd.C kB w7 B6 q3.length q3):=⟨by
    rw [← hW]
    exact qxP HD6.out HM6.out (fun k n h=>by
     match k,h with
     | 0,h=>simp at h
     | 1,h=>simp at h
     | 2,h=>simp at h
     | k+3,h=>simp at h) 1 _⟩
   clear hW k1 j1;have HTc:=aM (HT3.out w7 HB7.out g HGE.out B6 c6 HX7.out HC6.out HD7.out);have HMc:=aM (fun (w8:World) (ho:qlK g w7 w8)=>ho gm _ _ _ (fun e=>HNG2.out e.symm) HM7.out);have HRc:=aM (fun (w8:World) (ho:qlK g w7 w8)=>ho gr _ _ _ HNE.out HR7.out)
   go_upto_region 8 with (first
    | (go_at_call 130;(with_reducible refine HTc.out.mono ?_);rintro e w8 ⟨rfl,hb8,ho8⟩;have HB8:=aM hb8;have HM8:=aM (HMc.out w8 ho8);have HR8:=aM (HRc.out w8 ho8);have k2:=jC HM8.out 2;have j2:=qaE HM8.out 2;clear hb8 ho8))
   generalize hW:w8.setCell ⟨gm,2,none⟩ (.int .i64 pg)=w9
   have HM9:qaJ (w9.heap[gm]?=some (.cells #[.int .i64 leb,.int .u64 seq,.int .i64 pg] 168 (0,0))):=⟨by rw [← hW];exact qcB HM8.out 2 _⟩
   have HR9:qaJ (w9.heap[gr]?=some (.cells #[.int .i64 0,.int .u64 0,.int .i64 0] 168 (0,0))):=⟨by rw [← hW];exact qaT HR8.out (fun e=>HNG.out e) _⟩
   have HB9:qaJ (Below w.heap.size w w9):=⟨by rw [← hW];exact qaK HB8.out HGM.out⟩
   clear hW k2 j2;have m0:=jC HM9.out 0;have m1:=jC HM9.out 1;have m2:=jC HM9.out 2;have r0:=jC HR9.out 0;have r1:=jC HR9.out 1;have r2:=jC HR9.out 2;have f0:=qaE HR9.out 0;have f1:=qaE HR9.out 1;have f2:=qaE HR9.out 2;have d0:decide (256≤leb)=false:=decide_eq_false (by omega);have d1:decide (64 < pg)=false:=decide_eq_false (by omega);clear hbad hb1 hb3;go_wp2;refine bodyPost_ret (qbF rfl _ _ gr 168 #[.int .i64 leb,.int .u64 seq,.int .i64 pg] (0,0) _ rfl (set3 HR9.out _ _ _) Tryz.underlying168 rfl (by kernel_rfl)) rfl ?_;exact ⟨rfl,qaK (qaK (qaK HB9.out HGR.out) HGR.out) HGR.out⟩
end
section
open Plain
variable {w0 W:World} {gc:Nat} {a:AC}
abbrev Blk:=S68
abbrev bC (x:Blk):Array Value:=#[.int .i64 x.f0,.int .i64 x.f1,.int .i64 x.f2,.int .i64 x.f3,.int .u64 x.f4,.bool x.f5]
def qbV (a:AC):Prop:=∀ i j,qbA ((a.bk i).pg j).d
theorem qpE (n:Nat) (x:Int) (hx:0≤x∧x < 256):qbA (List.replicate n x):=fun y hy=>by
 rw [List.eq_of_mem_replicate hy];exact hx
theorem qhC (h:qbV a) (n p:Int):qbA (qbW a n p).1:=by
 unfold qbW
 split;· exact fun _ h=>nomatch h
 split;· exact fun _ h=>nomatch h
 split;· exact fun _ h=>nomatch h
 split;· exact fun _ h=>nomatch h
 split
 ·intro x hx
  rcases List.mem_append.1 hx with hx|hx
  ·exact h _ _ x hx
  ·exact qpE _ 255 (by omega) x hx
 ·exact qpE _ 255 (by omega)
theorem qhG (h:qbV a) (n p:Int):qbA (qcN a n p).1:=by
 unfold qcN
 split
 ·exact fun _ h=>nomatch h
 ·exact qhC h n p
theorem qrC {g t:Nat} {a b c d e f:Value} (h:W.heap[g]?=some (.cells #[a,b,c,d,e,f] t (0,0))) (u v x y z s:Value):((((((W.setCell ⟨g,0,none⟩ u).setCell ⟨g,1,none⟩ v).setCell ⟨g,2,none⟩ x).setCell ⟨g,3,none⟩ y).setCell ⟨g,4,none⟩ z).setCell ⟨g,5,none⟩ s).heap[g]?=some (.cells #[u,v,x,y,z,s] t (0,0)) :=
 qaR (qaR (qaR (qaR (qaR (qaR h 0 u (cs':=#[u,b,c,d,e,f]) rfl) 1 v (cs':=#[u,v,c,d,e,f]) rfl) 2 x (cs':=#[u,v,x,d,e,f]) rfl) 3 y (cs':=#[u,v,x,y,e,f]) rfl) 4 z (cs':=#[u,v,x,y,z,f]) rfl) 5 s rfl
theorem qbZ {w1 W1:World} {g:Nat} (h:Below w1.heap.size w1 W1) (hg:w1.heap.size≤g) (u v x y z s:Value):Below w1.heap.size w1 ((((((W1.setCell ⟨g,0,none⟩ u).setCell ⟨g,1,none⟩ v).setCell ⟨g,2,none⟩ x).setCell ⟨g,3,none⟩ y).setCell ⟨g,4,none⟩ z).setCell ⟨g,5,none⟩ s) :=
 qaK (qaK (qaK (qaK (qaK (qaK h hg) hg) hg) hg) hg) hg
def bst (W:World) (gx gm:Nat) (ct ml ms mp un:Int) (uc:Bool):Nat→World→Prop:=fun k w'=>Below W.heap.size W w'∧w'.heap[gx]?=some (.cells #[.int .i64 (if 1≤k then 4 else 3),.int .i64 ct,.int .i64 (if 2≤k then ml else 0),.int .i64 (if 4≤k then un else 0),.int .u64 (if 3≤k then ms else 0),.bool (if 5≤k then uc else false)] 68 (0,0))∧w'.heap[gm]?=some (.cells #[.int .i64 ml,.int .u64 ms,.int .i64 mp] 168 (0,0))∧w'.heap[W.heap.size]?=some (.cells #[.int .i64 0,.int .i64 0,.int .i64 0,.int .i64 0,.int .u64 0,.bool false] 68 (0,0))
def qyP (a:AC) (n:Int) (m:(Int × Int × Int) × Bool):Bool :=
 m.2 && (decide (m.1.1 < qeJ a.g.B a.g.P a.g.Z a.g.R) && (decide (m.1.2.2≤(a.g.P:Int) - 2) && decide (m.1.2.2≤((qhN a n (a.g.P - 2) 0).1:Int))))
def qdO (a:AC) (n:Int):Blk × Bool :=
 if vaP a n=true then (⟨1,0,0,0,0,false⟩,false)
 else if (qcN a n 0).2=false then (⟨3,0,0,0,0,false⟩,false)
 else if (qaQ (qcN a n 0).1).2=false then (⟨3,(qaQ (qcN a n 0).1).1,0,0,0,false⟩,false)
 else if qhH a n=1 then (⟨2,(qaQ (qcN a n 0).1).1,0,0,0,false⟩,true)
 else if (qcN a n 1).2=false then (⟨3,(qaQ (qcN a n 0).1).1,0,0,0,false⟩,true)
 else if qyP a n (qbT (qcN a n 1).1)=true then
  (⟨4,(qaQ (qcN a n 0).1).1,(qbT (qcN a n 1).1).1.1,(qhN a n (a.g.P - 2) 0).1,(qbT (qcN a n 1).1).1.2.1,(qhN a n (a.g.P - 2) 0).2⟩,true)
 else (⟨3,(qaQ (qcN a n 0).1).1,0,0,0,false⟩,true)
theorem qzS (h:qdW w0 W gc a) (hby:qbV a) (aE:Addr) (hgE:gNone W aE) (gk:Nat) (hk:W.heap[gk]?=some (.cells (lkC gc a.g) 113 (0,0))) (n:Int) :
  Calls Tryz.prog 70 #[kp gk,.int .i64 n] W fun e w'=>e=.returned (.tuple #[.agg (bC (qdO a n).1),.bool (qdO a n).2])∧Below W.heap.size W w':=by
 have H:=aM h;have HK:=aM hk;have HGE:=aM hgE;have HBY:=aM hby;have hgok:=h.gok;obtain ⟨_,⟨hP1,hP2⟩,_⟩:=hgok;have c0:∀ w1,Below W.heap.size W w1→w1.cell? ⟨gk,0,none⟩=some (cp gc):=fun w1 hb=>jC (qaB HK.out hb) 0
 have HC0:=aM c0;have HBAD:=aM (fun w1 (hb:Below W.heap.size W w1)=>(H.out.grow hb).bad n);have HNX:=aM (fun w1 (hb:Below W.heap.size W w1)=>(H.out.grow hb).next n);have HPG:=aM (fun w1 (hb:Below W.heap.size W w1) (p:Int)=>qvL (H.out.grow hb) gk (qaB HK.out hb) n p);have HUS:=aM (fun w1 (hb:Below W.heap.size W w1)=>vaV (H.out.grow hb) gk (qaB HK.out hb) n);have HPC:=aM (fun w1 (hb:Below W.heap.size W w1) A c (l:List Int) (hl:qbA l) (hr:Kd.C kB w1 A l.length l) (hc:l.length≤c)=>qhY A c l aE w1 hl hr hc (qaH HGE.out hb));have HPM:=aM (fun w1 (hb:Below W.heap.size W w1) A c (l:List Int) (hl:qbA l) (hr:Kd.C kB w1 A l.length l) (hc:l.length≤c)=>qqD A c l aE w1 hl hr hc (qaH HGE.out hb));have HBA:=aM (show qdO a n=_ by unfold qdO;exact rfl);have hu49:=Tryz.underlying68;clear h hby hgE hk c0;go_enter Tryz.func70,Tryz.ntmps70
 go_upto_region 1 with (fail)
 generalize hW:W.alloc (.cells #[.int .i64 0,.int .i64 0,.int .i64 0,.int .i64 0,.int .u64 0,.bool false] 68)=W1;have HB1:=aM (show Below W.heap.size W W1 by rw [← hW];exact qaA (Below.refl _ _) _);have HR1:=aM (show W1.heap[W.heap.size]?=some (.cells #[.int .i64 0,.int .i64 0,.int .i64 0,.int .i64 0,.int .u64 0,.bool false] 68 (0,0)) by rw [← hW];exact qaM _ _ _);clear hW;have y0:=HC0.out _ HB1.out;have HCB:=aM (HBAD.out _ HB1.out)
 cases hbad:vaP a n with
 | true =>
  have HE:=aM (HBA.out.trans (if_pos hbad));rw [hbad] at HCB;clear hbad
  go_upto_region 2 with (first
   | (go_at_call 79;(with_reducible refine HCB.out.mono ?_);rintro e w2 ⟨rfl,hb2⟩;have HB2:=aM (qaC HB1.out hb2);have HR2:=aM (qaB HR1.out hb2);clear hb2))
  have fr0:=qaE HR2.out 0;have fr1:=qaE HR2.out 1;have fr2:=qaE HR2.out 2;have fr3:=qaE HR2.out 3;have fr4:=qaE HR2.out 4;have fr5:=qaE HR2.out 5;have yr0:=jC HR2.out 0;have yr1:=jC HR2.out 1;have yr2:=jC HR2.out 2;have yr3:=jC HR2.out 3;have yr4:=jC HR2.out 4;have yr5:=jC HR2.out 5;go_wp2;refine bodyPost_ret (qbF rfl _ _ W.heap.size 68 #[.int .i64 1,.int .i64 0,.int .i64 0,.int .i64 0,.int .u64 0,.bool false] (0,0) _ rfl (qrC HR2.out _ _ _ _ _ _) Tryz.underlying68 rfl (by kernel_rfl)) rfl ?_;rw [HE.out];exact ⟨rfl,qbZ HB2.out (Nat.le_refl _) _ _ _ _ _ _⟩
 | false =>
  have HBA2:=aM (HBA.out.trans (if_neg (by rw [hbad];decide)));rw [hbad] at HCB;clear hbad HBA
  go_upto_region 3 with (first
   | (go_at_call 79;(with_reducible refine HCB.out.mono ?_);rintro e w2 ⟨rfl,hb2⟩;have HB2:=aM (qaC HB1.out hb2);have HR2:=aM (qaB HR1.out hb2);clear hb2))
  go_upto_region 4 with (fail)
  generalize hW:w2.alloc (.cells #[.int .i64 3,.int .i64 0,.int .i64 0,.int .i64 0,.int .u64 0,.bool false] 68)=W3;have hb3:Below w2.heap.size w2 W3:=by rw [← hW];exact qaA (Below.refl _ _) _
  have HX3:=aM (show W3.heap[w2.heap.size]?=some (.cells #[.int .i64 3,.int .i64 0,.int .i64 0,.int .i64 0,.int .u64 0,.bool false] 68 (0,0)) by rw [← hW];exact qaM _ _ _)
  obtain ⟨gx,hgx⟩:∃ gx,gx=w2.heap.size:=⟨_,rfl⟩
  have HGX:=aM (show W.heap.size≤gx∧gx ≠ W.heap.size by
   have h1:=qaI HB2.out;have h2:=qcG HR2.out
   omega)
  rw [← hgx] at HX3 ⊢;have HB3:=aM (qaC HB2.out hb3);have HR3:=aM (qaB HR2.out hb3);clear hW hb3 hgx y0;have HP0:=aM (HPG.out _ HB3.out 0);have HL0:=aM (qhG HBY.out n 0);generalize qcN a n 0=p0 at HP0 HL0 HBA2;obtain ⟨l0,i0⟩:=p0;simp only at HP0 HL0 HBA2
  cases i0 with
  | false =>
   have HE:=aM (HBA2.out.trans (if_pos rfl))
   go_upto_region 6 with (first
    | (go_at_call 122;(with_reducible refine HP0.out.mono ?_);rintro e w4 ⟨v4,rfl,-,hb4⟩;have HB4:=aM (qaC HB3.out hb4);have HR4:=aM (qaB HR3.out hb4);have HX4:=aM (qaB HX3.out hb4);clear hb4))
   have x0:=jC HX4.out 0;have x1:=jC HX4.out 1;have x2:=jC HX4.out 2;have x3:=jC HX4.out 3;have x4:=jC HX4.out 4;have x5:=jC HX4.out 5;have fr0:=qaE HR4.out 0;have fr1:=qaE HR4.out 1;have fr2:=qaE HR4.out 2;have fr3:=qaE HR4.out 3;have fr4:=qaE HR4.out 4;have fr5:=qaE HR4.out 5;have yr0:=jC HR4.out 0;have yr1:=jC HR4.out 1;have yr2:=jC HR4.out 2;have yr3:=jC HR4.out 3;have yr4:=jC HR4.out 4;have yr5:=jC HR4.out 5;go_wp2;refine bodyPost_ret (qbF rfl _ _ W.heap.size 68 #[.int .i64 3,.int .i64 0,.int .i64 0,.int .i64 0,.int .u64 0,.bool false] (0,0) _ rfl (qrC HR4.out _ _ _ _ _ _) Tryz.underlying68 rfl (by kernel_rfl)) rfl ?_;rw [HE.out];exact ⟨rfl,qbZ HB4.out (Nat.le_refl _) _ _ _ _ _ _⟩
  | true =>
   have HBA3:=aM (HBA2.out.trans (if_neg (by decide)));clear HBA2
   go_upto_region 7 with (first
    | (go_at_call 122;(with_reducible refine HP0.out.mono ?_);rintro e w4 ⟨v4,rfl,ho4,hb4⟩;have HO4:=aM ho4;have HB4:=aM (qaC HB3.out hb4);have HR4:=aM (qaB HR3.out hb4);have HX4:=aM (qaB HX3.out hb4);clear ho4 hb4))
   obtain ⟨A4,c4,e4⟩:=Kd.R_slice HO4.out;rw [e4] at HO4;subst e4;have hrd4:=Kd.R_reads' HO4.out;have HC4:=aM (HPC.out _ HB4.out A4 c4 l0 HL0.out hrd4.2.2 hrd4.2.1);clear hrd4;have x1:=jC HX4.out 1;have f1:=qaE HX4.out 1;generalize qaQ l0=pc at HC4 HBA3;obtain ⟨ct,ic⟩:=pc;simp only at HC4 HBA3
   go_upto_region 8 with (first
    | (go_at_call 87;(with_reducible refine HC4.out.mono ?_);rintro e w5 ⟨rfl,hb5⟩;have HB5:=aM (qaC HB4.out hb5);have HR5:=aM (qaB HR4.out hb5);have hx5:=qaB HX4.out hb5;have HX5:=aM hx5;have z1:=jC hx5 1;have f51:=qaE hx5 1;clear hb5 hx5))
   generalize hW:w5.setCell ⟨gx,1,none⟩ (.int .i64 ct)=W6;have HB6:=aM (show Below W.heap.size W W6 by rw [← hW];exact qaK HB5.out HGX.out.1);have HR6:=aM (show W6.heap[W.heap.size]?=some (.cells #[.int .i64 0,.int .i64 0,.int .i64 0,.int .i64 0,.int .u64 0,.bool false] 68 (0,0)) by rw [← hW];exact qaT HR5.out HGX.out.2.symm _);have HX6:=aM (show W6.heap[gx]?=some (.cells #[.int .i64 3,.int .i64 ct,.int .i64 0,.int .i64 0,.int .u64 0,.bool false] 68 (0,0)) by rw [← hW];exact qaR HX5.out 1 _ rfl);clear hW x1 f1 z1 f51
   cases ic with
   | false =>
    have HE:=aM (HBA3.out.trans (if_pos rfl));have x0:=jC HX6.out 0;have x1:=jC HX6.out 1;have x2:=jC HX6.out 2;have x3:=jC HX6.out 3;have x4:=jC HX6.out 4;have x5:=jC HX6.out 5;have fr0:=qaE HR6.out 0;have fr1:=qaE HR6.out 1;have fr2:=qaE HR6.out 2;have fr3:=qaE HR6.out 3;have fr4:=qaE HR6.out 4;have fr5:=qaE HR6.out 5;have yr0:=jC HR6.out 0;have yr1:=jC HR6.out 1;have yr2:=jC HR6.out 2;have yr3:=jC HR6.out 3;have yr4:=jC HR6.out 4;have yr5:=jC HR6.out 5;go_wp2;refine bodyPost_ret (qbF rfl _ _ W.heap.size 68 #[.int .i64 3,.int .i64 ct,.int .i64 0,.int .i64 0,.int .u64 0,.bool false] (0,0) _ rfl (qrC HR6.out _ _ _ _ _ _) Tryz.underlying68 rfl (by kernel_rfl)) rfl ?_;rw [HE.out];exact ⟨rfl,qbZ HB6.out (Nat.le_refl _) _ _ _ _ _ _⟩
   | true =>
    have HBA4:=aM (HBA3.out.trans (if_neg (by decide)));clear HBA3;have y6:=HC0.out _ HB6.out;have HCN:=aM (HNX.out _ HB6.out)
    by_cases hn1:qhH a n=1
    ·have HE:=aM (HBA4.out.trans (if_pos hn1));rw [hn1] at HCN;clear hn1
     go_upto_region 11 with (first
      | (go_at_call 81;(with_reducible refine HCN.out.mono ?_);rintro e w7 ⟨rfl,hb7⟩;have HB7:=aM (qaC HB6.out hb7);have HR7:=aM (qaB HR6.out hb7);have HX7:=aM (qaB HX6.out hb7);clear hb7))
     have x0:=jC HX7.out 0;have f0:=qaE HX7.out 0
     go_upto_region 12 with (fail)
     generalize hW:w7.setCell ⟨gx,0,none⟩ (.int .i64 2)=W8;have HB8:=aM (show Below W.heap.size W W8 by rw [← hW];exact qaK HB7.out HGX.out.1);have HR8:=aM (show W8.heap[W.heap.size]?=some (.cells #[.int .i64 0,.int .i64 0,.int .i64 0,.int .i64 0,.int .u64 0,.bool false] 68 (0,0)) by rw [← hW];exact qaT HR7.out HGX.out.2.symm _);have HX8:=aM (show W8.heap[gx]?=some (.cells #[.int .i64 2,.int .i64 ct,.int .i64 0,.int .i64 0,.int .u64 0,.bool false] 68 (0,0)) by rw [← hW];exact qaR HX7.out 0 _ rfl);clear hW x0 f0;have x0:=jC HX8.out 0;have x1:=jC HX8.out 1;have x2:=jC HX8.out 2;have x3:=jC HX8.out 3;have x4:=jC HX8.out 4;have x5:=jC HX8.out 5;have fr0:=qaE HR8.out 0;have fr1:=qaE HR8.out 1;have fr2:=qaE HR8.out 2;have fr3:=qaE HR8.out 3;have fr4:=qaE HR8.out 4;have fr5:=qaE HR8.out 5;have yr0:=jC HR8.out 0;have yr1:=jC HR8.out 1;have yr2:=jC HR8.out 2;have yr3:=jC HR8.out 3;have yr4:=jC HR8.out 4;have yr5:=jC HR8.out 5;go_wp2;refine bodyPost_ret (qbF rfl _ _ W.heap.size 68 #[.int .i64 2,.int .i64 ct,.int .i64 0,.int .i64 0,.int .u64 0,.bool false] (0,0) _ rfl (qrC HR8.out _ _ _ _ _ _) Tryz.underlying68 rfl (by kernel_rfl)) rfl ?_
     rw [HE.out];exact ⟨rfl,qbZ HB8.out (Nat.le_refl _) _ _ _ _ _ _⟩
    ·have HBA5:=aM (HBA4.out.trans (if_neg hn1));have en1:(qhH a n==(1:Int))=false:=by simp only [beq_eq_false_iff_ne];exact hn1
     clear hn1 HBA4
     go_upto_region 13 with (first
      | (go_at_call 81;(with_reducible refine HCN.out.mono ?_);rintro e w7 ⟨rfl,hb7⟩;have HB7:=aM (qaC HB6.out hb7);have HR7:=aM (qaB HR6.out hb7);have HX7:=aM (qaB HX6.out hb7);clear hb7))
     have HP1:=aM (HPG.out _ HB7.out 1);have HL1:=aM (qhG HBY.out n 1);generalize qcN a n 1=p1 at HP1 HL1 HBA5;obtain ⟨l1,i1⟩:=p1;simp only at HP1 HL1 HBA5
     cases i1 with
     | false =>
      have HE:=aM (HBA5.out.trans (if_pos rfl))
      go_upto_region 15 with (first
       | (go_at_call 122;(with_reducible refine HP1.out.mono ?_);rintro e w8 ⟨v8,rfl,-,hb8⟩;have HB8:=aM (qaC HB7.out hb8);have HR8:=aM (qaB HR7.out hb8);have HX8:=aM (qaB HX7.out hb8);clear hb8))
      have x0:=jC HX8.out 0;have x1:=jC HX8.out 1;have x2:=jC HX8.out 2;have x3:=jC HX8.out 3;have x4:=jC HX8.out 4;have x5:=jC HX8.out 5;have fr0:=qaE HR8.out 0;have fr1:=qaE HR8.out 1;have fr2:=qaE HR8.out 2;have fr3:=qaE HR8.out 3;have fr4:=qaE HR8.out 4;have fr5:=qaE HR8.out 5;have yr0:=jC HR8.out 0;have yr1:=jC HR8.out 1;have yr2:=jC HR8.out 2;have yr3:=jC HR8.out 3;have yr4:=jC HR8.out 4;have yr5:=jC HR8.out 5;go_wp2;refine bodyPost_ret (qbF rfl _ _ W.heap.size 68 #[.int .i64 3,.int .i64 ct,.int .i64 0,.int .i64 0,.int .u64 0,.bool false] (0,0) _ rfl (qrC HR8.out _ _ _ _ _ _) Tryz.underlying68 rfl (by kernel_rfl)) rfl ?_;rw [HE.out];exact ⟨rfl,qbZ HB8.out (Nat.le_refl _) _ _ _ _ _ _⟩
     | true =>
      have HBA6:=aM (HBA5.out.trans (if_neg (by decide)));clear HBA5
      go_upto_region 16 with (first
       | (go_at_call 122;(with_reducible refine HP1.out.mono ?_);rintro e w8 ⟨v8,rfl,ho8,hb8⟩;have HO8:=aM ho8;have HB8:=aM (qaC HB7.out hb8);have HR8:=aM (qaB HR7.out hb8);have HX8:=aM (qaB HX7.out hb8);clear ho8 hb8))
      obtain ⟨A8,c8,e8⟩:=Kd.R_slice HO8.out;rw [e8] at HO8;subst e8;have hrd8:=Kd.R_reads' HO8.out;have HC8:=aM (HPM.out _ HB8.out A8 c8 l1 HL1.out hrd8.2.2 hrd8.2.1);clear hrd8;generalize qbT l1=pm at HC8 HBA6;obtain ⟨⟨ml,ms,mp⟩,im⟩:=pm;simp only at HC8 HBA6
      go_upto_region 17 with (first
       | (go_at_call 123;(with_reducible refine HC8.out.mono ?_);rintro e w9 ⟨rfl,hb9⟩;have HB9:=aM (qaC HB8.out hb9);have HR9:=aM (qaB HR8.out hb9);have HX9:=aM (qaB HX8.out hb9);clear hb9))
      generalize hW:(w9.alloc (.cells #[.int .i64 ml,.int .u64 ms,.int .i64 mp] 168))=W10;have hb10:Below w9.heap.size w9 W10:=by rw [← hW];exact qaA (Below.refl _ _) _
      have HM10:=aM (show W10.heap[w9.heap.size]?=some (.cells #[.int .i64 ml,.int .u64 ms,.int .i64 mp] 168 (0,0)) by rw [← hW];exact qaM _ _ _)
      obtain ⟨gm,hgm⟩:∃ gm,gm=w9.heap.size:=⟨_,rfl⟩
      have HGM:=aM (show gm ≠ gx∧gm ≠ W.heap.size by
       have h1:=qcG HX9.out;have h2:=qcG HR9.out
       omega)
      rw [← hgm] at HM10 ⊢;have HB10:=aM (qaC HB9.out hb10);have HR10:=aM (qaB HR9.out hb10);have HX10:=aM (qaB HX9.out hb10);have HU10:=aM (HUS.out _ HB10.out);clear hW hb10 hgm;unfold qyP at HBA6;generalize qhN a n (a.g.P - 2) 0=us at HU10 HBA6;obtain ⟨un,uc⟩:=us;simp only at HU10 HBA6;have HLEB:=aM (fun w1=>qvZ a.g.B a.g.P a.g.Z a.g.R w1);have hwP:IntKind.i64.wrap ((a.g.P:Int) - 2)=(a.g.P:Int) - 2:=by rw [qbL];unfold wrap64;omega
      go_upto_region 18 with (first
       | (go_at_call 124;(with_reducible refine HU10.out.mono ?_);rintro e w11 ⟨rfl,hb11⟩;have HB11:=aM (qaC HB10.out hb11);have HR11:=aM (qaB HR10.out hb11);have HX11:=aM (qaB HX10.out hb11);have HM11:=aM (qaB HM10.out hb11);clear hb11))
      have HK11:=aM (qaB HK.out HB11.out);generalize qeJ a.g.B a.g.P a.g.Z a.g.R=lb at HLEB HBA6
      cases im with
      | false =>
       have HE:=aM (HBA6.out.trans (if_neg (by simp)));refine Reg.det [(0,68,?r1v0),(1,69,?r1v1),(2,70,undef),(3,71,undef),(4,72,undef),(5,73,undef),(6,74,undef),(7,75,undef),(8,76,undef),(9,77,undef),(10,78,?r1v10),(11,79,?r1v11),(12,80,undef),(13,81,undef),(14,82,undef),(15,83,undef),(16,84,undef),(17,85,undef),(18,86,undef),(19,87,undef),(20,88,undef),(21,89,?r1v21),(22,90,?r1v22),(23,91,undef),(24,92,undef),(25,93,undef),(26,94,undef),(27,95,?r1v27)] (fun w'=>Below w11.heap.size w11 w') (by rfl) rfl (by kernel_rfl) ?r1S ?r1steps ?r1okv ?r1hlt ?r1fin;case r1S=>exact qaO (Below.refl _ _)
       case r1steps =>
        refine Reg.fS 0 rfl rfl (fun a w hS hK K hC=>?_) ?_
        ·refine Reg.sO ?_;have e8:=hK.off 8 _ rfl rfl;clear hK;go_simp;exact hC _ hS
        refine Reg.fS 1 rfl rfl (fun a w hS hK K hC=>?_) ?_
        ·refine Reg.sO ?_;have e68:=hK.sl 0 rfl;clear hK;go_simp;exact hC _ hS
        refine Reg.fS 2 rfl rfl (fun a w hS hK K hC=>?_) ?_
        ·refine Reg.step_off (qaN (g:=1) rfl rfl rfl (hK.sl 1 rfl)) ?_;exact hC _ hS
        refine Reg.fS 3 rfl rfl (fun a w hS hK K hC=>?_) ?_
        ·refine Reg.step_off (qaN (g:=1) rfl rfl rfl (hK.sl 1 rfl)) ?_;exact hC _ hS
        refine Reg.fS 4 rfl rfl (fun a w hS hK K hC=>?_) ?_
        ·refine Reg.step_off (qaN (g:=1) rfl rfl rfl (hK.sl 1 rfl)) ?_;exact hC _ hS
        refine Reg.fS 5 rfl rfl (fun a w hS hK K hC=>?_) ?_
        ·refine Reg.step_off (qaN (g:=1) rfl rfl rfl (hK.sl 1 rfl)) ?_;exact hC _ hS
        refine Reg.fS 6 rfl rfl (fun a w hS hK K hC=>?_) ?_
        ·refine Reg.step_off (qaN (g:=1) rfl rfl rfl (hK.sl 1 rfl)) ?_;exact hC _ hS
        refine Reg.fS 7 rfl rfl (fun a w hS hK K hC=>?_) ?_
        ·refine Reg.step_off (qaN (g:=1) rfl rfl rfl (hK.sl 1 rfl)) ?_;exact hC _ hS
        refine Reg.fS 8 rfl rfl (fun a w hS hK K hC=>?_) ?_
        ·refine Reg.step_off (qaN (g:=1) rfl rfl rfl (hK.sl 1 rfl)) ?_;exact hC _ hS
        refine Reg.fS 9 rfl rfl (fun a w hS hK K hC=>?_) ?_
        ·refine Reg.step_off (qaN (g:=1) rfl rfl rfl (hK.sl 1 rfl)) ?_;exact hC _ hS
        refine Reg.fS 10 rfl rfl (fun a w hS hK K hC=>?_) ?_
        ·refine Reg.sO ?_;have e69:=hK.sl 1 rfl;have e77:=hK.sl 9 rfl;clear hK;go_simp;exact hC _ hS
        refine Reg.fS 11 rfl rfl (fun a w hS hK K hC=>?_) ?_
        ·refine Reg.sO ?_;have e78:=hK.sl 10 rfl;clear hK;go_simp;exact hC _ hS
        refine Reg.fS 12 rfl rfl (fun a w hS hK K hC=>?_) ?_
        ·refine Reg.step_off (qaN (g:=11) rfl rfl rfl (hK.sl 11 rfl)) ?_;exact hC _ hS
        refine Reg.fS 13 rfl rfl (fun a w hS hK K hC=>?_) ?_
        ·refine Reg.step_off (qaN (g:=11) rfl rfl rfl (hK.sl 11 rfl)) ?_;exact hC _ hS
        refine Reg.fS 14 rfl rfl (fun a w hS hK K hC=>?_) ?_
        ·refine Reg.step_off (qaN (g:=11) rfl rfl rfl (hK.sl 11 rfl)) ?_;exact hC _ hS
        refine Reg.fS 15 rfl rfl (fun a w hS hK K hC=>?_) ?_
        ·refine Reg.step_off (qaN (g:=11) rfl rfl rfl (hK.sl 11 rfl)) ?_;exact hC _ hS
        refine Reg.fS 16 rfl rfl (fun a w hS hK K hC=>?_) ?_
        ·refine Reg.step_off (qaN (g:=11) rfl rfl rfl (hK.sl 11 rfl)) ?_;exact hC _ hS
        refine Reg.fS 17 rfl rfl (fun a w hS hK K hC=>?_) ?_
        ·refine Reg.step_off (qaN (g:=11) rfl rfl rfl (hK.sl 11 rfl)) ?_;exact hC _ hS
        refine Reg.fS 18 rfl rfl (fun a w hS hK K hC=>?_) ?_
        ·refine Reg.step_off (qaN (g:=11) rfl rfl rfl (hK.sl 11 rfl)) ?_;exact hC _ hS
        refine Reg.fS 19 rfl rfl (fun a w hS hK K hC=>?_) ?_
        ·refine Reg.step_off (qaN (g:=11) rfl rfl rfl (hK.sl 11 rfl)) ?_;exact hC _ hS
        refine Reg.fS 20 rfl rfl (fun a w hS hK K hC=>?_) ?_
        ·refine Reg.step_off (qaN (g:=11) rfl rfl rfl (hK.sl 11 rfl)) ?_;exact hC _ hS
        refine Reg.fS 21 rfl rfl (fun a w hS hK K hC=>?_) ?_
        ·refine Reg.sO ?_;have e79:=hK.sl 11 rfl;have e88:=hK.sl 20 rfl;clear hK;go_simp;exact hC _ hS
        refine Reg.fS 22 rfl rfl (fun a w hS hK K hC=>?_) ?_
        ·refine Reg.sO ?_;have e89:=hK.sl 21 rfl;clear hK;go_simp;exact hC _ hS
        refine Reg.fS 23 rfl rfl (fun a w hS hK K hC=>?_) ?_
        ·refine Reg.step_off (qaN (g:=22) rfl rfl rfl (hK.sl 22 rfl)) ?_;exact hC _ hS
        refine Reg.fS 24 rfl rfl (fun a w hS hK K hC=>?_) ?_
        ·refine Reg.step_off (qaN (g:=22) rfl rfl rfl (hK.sl 22 rfl)) ?_;exact hC _ hS
        refine Reg.fS 25 rfl rfl (fun a w hS hK K hC=>?_) ?_
        ·refine Reg.step_off (qaN (g:=22) rfl rfl rfl (hK.sl 22 rfl)) ?_;exact hC _ hS
        refine Reg.fS 26 rfl rfl (fun a w hS hK K hC=>?_) ?_
        ·refine Reg.step_off (qaN (g:=22) rfl rfl rfl (hK.sl 22 rfl)) ?_;exact hC _ hS
        refine Reg.fS 27 rfl rfl (fun a w hS hK K hC=>?_) ?_
        ·refine Reg.sO ?_;have e90:=hK.sl 22 rfl;have e94:=hK.sl 26 rfl;clear hK;go_simp;exact hC _ hS
        exact Reg.from_nil
       case r1okv=>rfl
       case r1hlt=>rfl
       case r1fin =>
        intro wz hS;simp only [Reg.putV,List.foldl_cons,List.foldl_nil,Act.put,List.setIfInBounds_toArray,List.set_cons_zero,List.set_cons_succ];have HBz:=aM (qaC HB11.out hS);have HRz:=aM (qaB HR11.out hS);have HXz:=aM (qaB HX11.out hS);have HMz:=aM (qaB HM11.out hS);clear hS;have x0:=jC HXz.out 0;have x1:=jC HXz.out 1;have x2:=jC HXz.out 2;have x3:=jC HXz.out 3;have x4:=jC HXz.out 4;have x5:=jC HXz.out 5;have fr0:=qaE HRz.out 0;have fr1:=qaE HRz.out 1;have fr2:=qaE HRz.out 2;have fr3:=qaE HRz.out 3;have fr4:=qaE HRz.out 4;have fr5:=qaE HRz.out 5;have yr0:=jC HRz.out 0;have yr1:=jC HRz.out 1;have yr2:=jC HRz.out 2;have yr3:=jC HRz.out 3;have yr4:=jC HRz.out 4;have yr5:=jC HRz.out 5;go_wp2;refine bodyPost_ret (qbF rfl _ _ W.heap.size 68 #[.int .i64 3,.int .i64 ct,.int .i64 0,.int .i64 0,.int .u64 0,.bool false] (0,0) _ rfl (qrC HRz.out _ _ _ _ _ _) Tryz.underlying68 rfl (by kernel_rfl)) rfl ?_;rw [HE.out];exact ⟨rfl,qbZ HBz.out (Nat.le_refl _) _ _ _ _ _ _⟩
      | true =>
       cases q1:decide (ml < lb) with
       | false =>
        have HE:=aM (HBA6.out.trans (if_neg (by rw [q1];simp)));refine Reg.det [(0,68,?r2v0),(1,69,?r2v1),(2,70,?r2v2),(3,71,?r2v3),(4,72,?r2v4),(5,73,?r2v5),(6,74,?r2v6),(7,75,?r2v7),(8,76,?r2v8),(9,77,?r2v9),(10,78,?r2v10),(11,79,?r2v11),(12,80,undef),(13,81,undef),(14,82,undef),(15,83,undef),(16,84,undef),(17,85,undef),(18,86,undef),(19,87,undef),(20,88,undef),(21,89,?r2v21),(22,90,?r2v22),(23,91,undef),(24,92,undef),(25,93,undef),(26,94,undef),(27,95,?r2v27)] (fun w'=>Below w11.heap.size w11 w') (by rfl) rfl (by kernel_rfl) ?r2S ?r2steps ?r2okv ?r2hlt ?r2fin;case r2S=>exact qaO (Below.refl _ _)
        case r2steps =>
         refine Reg.fS 0 rfl rfl (fun a w hS hK K hC=>?_) ?_
         ·refine Reg.sO ?_;have e8:=hK.off 8 _ rfl rfl;clear hK;go_simp;exact hC _ hS
         refine Reg.fS 1 rfl rfl (fun a w hS hK K hC=>?_) ?_
         ·refine Reg.sO ?_;have e68:=hK.sl 0 rfl;clear hK;go_simp;exact hC _ hS
         refine Reg.fS 2 rfl rfl (fun a w hS hK K hC=>?_) ?_
         ·refine Reg.step_on (qaG (g:=1) rfl rfl rfl (hK.sl 1 rfl)) ?_;have e10:=hK.off 10 _ rfl rfl;clear hK;go_simp;exact hC _ hS
         refine Reg.fS 3 rfl rfl (fun a w hS hK K hC=>?_) ?_
         ·refine Reg.step_on (qaG (g:=1) rfl rfl rfl (hK.sl 1 rfl)) ?_;have e70:=hK.sl 2 rfl;have m0:=jC (qaB HM11.out hS) 0;have m2:=jC (qaB HM11.out hS) 2;have k1:=jC (qaB HK11.out hS) 1;have k2:=jC (qaB HK11.out hS) 2;have k3:=jC (qaB HK11.out hS) 3;have k4:=jC (qaB HK11.out hS) 4;clear hK;go_simp;exact hC _ hS
         refine Reg.fS 4 rfl rfl (fun a w hS hK K hC=>?_) ?_
         ·refine Reg.step_on (qaG (g:=1) rfl rfl rfl (hK.sl 1 rfl)) ?_;have e0:=hK.off 0 _ rfl rfl;clear hK;go_simp;exact hC _ hS
         refine Reg.fS 5 rfl rfl (fun a w hS hK K hC=>?_) ?_
         ·refine Reg.step_on (qaG (g:=1) rfl rfl rfl (hK.sl 1 rfl)) ?_;have e72:=hK.sl 4 rfl;clear hK;go_simp;exact hC _ hS
         refine Reg.fS 6 rfl rfl (fun a w hS hK K hC=>?_) ?_
         ·refine Reg.step_on (qaG (g:=1) rfl rfl rfl (hK.sl 1 rfl)) ?_;have e73:=hK.sl 5 rfl;clear hK;go_simp;exact hC _ hS
         refine Reg.fS 7 rfl rfl (fun a w hS hK K hC=>?_) ?_
         ·refine Reg.step_on (qaG (g:=1) rfl rfl rfl (hK.sl 1 rfl)) ?_;have e74:=hK.sl 6 rfl;have m0:=jC (qaB HM11.out hS) 0;have m2:=jC (qaB HM11.out hS) 2;have k1:=jC (qaB HK11.out hS) 1;have k2:=jC (qaB HK11.out hS) 2;have k3:=jC (qaB HK11.out hS) 3;have k4:=jC (qaB HK11.out hS) 4;clear hK;go_simp;exact hC _ hS
         refine Reg.fS 8 rfl rfl (fun a w hS hK K hC=>?_) ?_
         ·refine Reg.step_on (qaG (g:=1) rfl rfl rfl (hK.sl 1 rfl)) ?_;have e75:=hK.sl 7 rfl;clear hK;go_simp;go_at_call 13;(with_reducible refine (HLEB.out _).mono ?_);rintro e w' ⟨rfl,hb⟩;exact hC w' (qaC hS hb)
         refine Reg.fS 9 rfl rfl (fun a w hS hK K hC=>?_) ?_
         ·refine Reg.step_on (qaG (g:=1) rfl rfl rfl (hK.sl 1 rfl)) ?_;have e71:=hK.sl 3 rfl;have e76:=hK.sl 8 rfl;clear hK;go_simp;exact hC _ hS
         refine Reg.fS 10 rfl rfl (fun a w hS hK K hC=>?_) ?_
         ·refine Reg.sO ?_;have e69:=hK.sl 1 rfl;have e77:=hK.sl 9 rfl;clear hK;go_simp;exact hC _ hS
         refine Reg.fS 11 rfl rfl (fun a w hS hK K hC=>?_) ?_
         ·refine Reg.sO ?_;have e78:=hK.sl 10 rfl;clear hK;go_simp;exact hC _ hS
         refine Reg.fS 12 rfl rfl (fun a w hS hK K hC=>?_) ?_
         ·refine Reg.step_off (qaN (g:=11) rfl rfl rfl (hK.sl 11 rfl)) ?_;exact hC _ hS
         refine Reg.fS 13 rfl rfl (fun a w hS hK K hC=>?_) ?_
         ·refine Reg.step_off (qaN (g:=11) rfl rfl rfl (hK.sl 11 rfl)) ?_;exact hC _ hS
         refine Reg.fS 14 rfl rfl (fun a w hS hK K hC=>?_) ?_
         ·refine Reg.step_off (qaN (g:=11) rfl rfl rfl (hK.sl 11 rfl)) ?_;exact hC _ hS
         refine Reg.fS 15 rfl rfl (fun a w hS hK K hC=>?_) ?_
         ·refine Reg.step_off (qaN (g:=11) rfl rfl rfl (hK.sl 11 rfl)) ?_;exact hC _ hS
         refine Reg.fS 16 rfl rfl (fun a w hS hK K hC=>?_) ?_
         ·refine Reg.step_off (qaN (g:=11) rfl rfl rfl (hK.sl 11 rfl)) ?_;exact hC _ hS
         refine Reg.fS 17 rfl rfl (fun a w hS hK K hC=>?_) ?_
         ·refine Reg.step_off (qaN (g:=11) rfl rfl rfl (hK.sl 11 rfl)) ?_;exact hC _ hS
         refine Reg.fS 18 rfl rfl (fun a w hS hK K hC=>?_) ?_
         ·refine Reg.step_off (qaN (g:=11) rfl rfl rfl (hK.sl 11 rfl)) ?_;exact hC _ hS
         refine Reg.fS 19 rfl rfl (fun a w hS hK K hC=>?_) ?_
         ·refine Reg.step_off (qaN (g:=11) rfl rfl rfl (hK.sl 11 rfl)) ?_;exact hC _ hS
         refine Reg.fS 20 rfl rfl (fun a w hS hK K hC=>?_) ?_
         ·refine Reg.step_off (qaN (g:=11) rfl rfl rfl (hK.sl 11 rfl)) ?_;exact hC _ hS
         refine Reg.fS 21 rfl rfl (fun a w hS hK K hC=>?_) ?_
         ·refine Reg.sO ?_;have e79:=hK.sl 11 rfl;have e88:=hK.sl 20 rfl;clear hK;go_simp;exact hC _ hS
         refine Reg.fS 22 rfl rfl (fun a w hS hK K hC=>?_) ?_
         ·refine Reg.sO ?_;have e89:=hK.sl 21 rfl;clear hK;go_simp;exact hC _ hS
         refine Reg.fS 23 rfl rfl (fun a w hS hK K hC=>?_) ?_
         ·refine Reg.step_off (qaN (g:=22) rfl rfl rfl (hK.sl 22 rfl)) ?_;exact hC _ hS
         refine Reg.fS 24 rfl rfl (fun a w hS hK K hC=>?_) ?_
         ·refine Reg.step_off (qaN (g:=22) rfl rfl rfl (hK.sl 22 rfl)) ?_;exact hC _ hS
         refine Reg.fS 25 rfl rfl (fun a w hS hK K hC=>?_) ?_
         ·refine Reg.step_off (qaN (g:=22) rfl rfl rfl (hK.sl 22 rfl)) ?_;exact hC _ hS
         refine Reg.fS 26 rfl rfl (fun a w hS hK K hC=>?_) ?_
         ·refine Reg.step_off (qaN (g:=22) rfl rfl rfl (hK.sl 22 rfl)) ?_;exact hC _ hS
         refine Reg.fS 27 rfl rfl (fun a w hS hK K hC=>?_) ?_
         ·refine Reg.sO ?_;have e90:=hK.sl 22 rfl;have e94:=hK.sl 26 rfl;clear hK;go_simp;exact hC _ hS
         exact Reg.from_nil
        case r2okv=>rfl
        case r2hlt=>rfl
        case r2fin =>
         intro wz hS;simp only [Reg.putV,List.foldl_cons,List.foldl_nil,Act.put,List.setIfInBounds_toArray,List.set_cons_zero,List.set_cons_succ];have HBz:=aM (qaC HB11.out hS);have HRz:=aM (qaB HR11.out hS);have HXz:=aM (qaB HX11.out hS);have HMz:=aM (qaB HM11.out hS);clear hS;have x0:=jC HXz.out 0;have x1:=jC HXz.out 1;have x2:=jC HXz.out 2;have x3:=jC HXz.out 3;have x4:=jC HXz.out 4;have x5:=jC HXz.out 5;have fr0:=qaE HRz.out 0;have fr1:=qaE HRz.out 1;have fr2:=qaE HRz.out 2;have fr3:=qaE HRz.out 3;have fr4:=qaE HRz.out 4;have fr5:=qaE HRz.out 5;have yr0:=jC HRz.out 0;have yr1:=jC HRz.out 1;have yr2:=jC HRz.out 2;have yr3:=jC HRz.out 3;have yr4:=jC HRz.out 4;have yr5:=jC HRz.out 5;go_wp2;refine bodyPost_ret (qbF rfl _ _ W.heap.size 68 #[.int .i64 3,.int .i64 ct,.int .i64 0,.int .i64 0,.int .u64 0,.bool false] (0,0) _ rfl (qrC HRz.out _ _ _ _ _ _) Tryz.underlying68 rfl (by kernel_rfl)) rfl ?_;rw [HE.out];exact ⟨rfl,qbZ HBz.out (Nat.le_refl _) _ _ _ _ _ _⟩
       | true =>
        cases q2:decide (mp≤(a.g.P:Int) - 2) with
        | false =>
         have HE:=aM (HBA6.out.trans (if_neg (by rw [q1,q2];simp)));refine Reg.det [(0,68,?r3v0),(1,69,?r3v1),(2,70,?r3v2),(3,71,?r3v3),(4,72,?r3v4),(5,73,?r3v5),(6,74,?r3v6),(7,75,?r3v7),(8,76,?r3v8),(9,77,?r3v9),(10,78,?r3v10),(11,79,?r3v11),(12,80,?r3v12),(13,81,?r3v13),(14,82,?r3v14),(15,83,?r3v15),(16,84,?r3v16),(17,85,?r3v17),(18,86,?r3v18),(19,87,?r3v19),(20,88,?r3v20),(21,89,?r3v21),(22,90,?r3v22),(23,91,undef),(24,92,undef),(25,93,undef),(26,94,undef),(27,95,?r3v27)] (fun w'=>Below w11.heap.size w11 w') (by rfl) rfl (by kernel_rfl) ?r3S ?r3steps ?r3okv ?r3hlt ?r3fin;case r3S=>exact qaO (Below.refl _ _)
         case r3steps =>
          refine Reg.fS 0 rfl rfl (fun a w hS hK K hC=>?_) ?_
          ·refine Reg.sO ?_;have e8:=hK.off 8 _ rfl rfl;clear hK;go_simp;exact hC _ hS
          refine Reg.fS 1 rfl rfl (fun a w hS hK K hC=>?_) ?_
          ·refine Reg.sO ?_;have e68:=hK.sl 0 rfl;clear hK;go_simp;exact hC _ hS
          refine Reg.fS 2 rfl rfl (fun a w hS hK K hC=>?_) ?_
          ·refine Reg.step_on (qaG (g:=1) rfl rfl rfl (hK.sl 1 rfl)) ?_;have e10:=hK.off 10 _ rfl rfl;clear hK;go_simp;exact hC _ hS
          refine Reg.fS 3 rfl rfl (fun a w hS hK K hC=>?_) ?_
          ·refine Reg.step_on (qaG (g:=1) rfl rfl rfl (hK.sl 1 rfl)) ?_;have e70:=hK.sl 2 rfl;have m0:=jC (qaB HM11.out hS) 0;have m2:=jC (qaB HM11.out hS) 2;have k1:=jC (qaB HK11.out hS) 1;have k2:=jC (qaB HK11.out hS) 2;have k3:=jC (qaB HK11.out hS) 3;have k4:=jC (qaB HK11.out hS) 4;clear hK;go_simp;exact hC _ hS
          refine Reg.fS 4 rfl rfl (fun a w hS hK K hC=>?_) ?_
          ·refine Reg.step_on (qaG (g:=1) rfl rfl rfl (hK.sl 1 rfl)) ?_;have e0:=hK.off 0 _ rfl rfl;clear hK;go_simp;exact hC _ hS
          refine Reg.fS 5 rfl rfl (fun a w hS hK K hC=>?_) ?_
          ·refine Reg.step_on (qaG (g:=1) rfl rfl rfl (hK.sl 1 rfl)) ?_;have e72:=hK.sl 4 rfl;clear hK;go_simp;exact hC _ hS
          refine Reg.fS 6 rfl rfl (fun a w hS hK K hC=>?_) ?_
          ·refine Reg.step_on (qaG (g:=1) rfl rfl rfl (hK.sl 1 rfl)) ?_;have e73:=hK.sl 5 rfl;clear hK;go_simp;exact hC _ hS
          refine Reg.fS 7 rfl rfl (fun a w hS hK K hC=>?_) ?_
          ·refine Reg.step_on (qaG (g:=1) rfl rfl rfl (hK.sl 1 rfl)) ?_;have e74:=hK.sl 6 rfl;have m0:=jC (qaB HM11.out hS) 0;have m2:=jC (qaB HM11.out hS) 2;have k1:=jC (qaB HK11.out hS) 1;have k2:=jC (qaB HK11.out hS) 2;have k3:=jC (qaB HK11.out hS) 3;have k4:=jC (qaB HK11.out hS) 4;clear hK;go_simp;exact hC _ hS
          refine Reg.fS 8 rfl rfl (fun a w hS hK K hC=>?_) ?_
          ·refine Reg.step_on (qaG (g:=1) rfl rfl rfl (hK.sl 1 rfl)) ?_;have e75:=hK.sl 7 rfl;clear hK;go_simp;go_at_call 13;(with_reducible refine (HLEB.out _).mono ?_);rintro e w' ⟨rfl,hb⟩;exact hC w' (qaC hS hb)
          refine Reg.fS 9 rfl rfl (fun a w hS hK K hC=>?_) ?_
          ·refine Reg.step_on (qaG (g:=1) rfl rfl rfl (hK.sl 1 rfl)) ?_;have e71:=hK.sl 3 rfl;have e76:=hK.sl 8 rfl;clear hK;go_simp;exact hC _ hS
          refine Reg.fS 10 rfl rfl (fun a w hS hK K hC=>?_) ?_
          ·refine Reg.sO ?_;have e69:=hK.sl 1 rfl;have e77:=hK.sl 9 rfl;clear hK;go_simp;exact hC _ hS
          refine Reg.fS 11 rfl rfl (fun a w hS hK K hC=>?_) ?_
          ·refine Reg.sO ?_;have e78:=hK.sl 10 rfl;clear hK;go_simp;exact hC _ hS
          refine Reg.fS 12 rfl rfl (fun a w hS hK K hC=>?_) ?_
          ·refine Reg.step_on (qaG (g:=11) rfl rfl rfl (hK.sl 11 rfl)) ?_;have e10:=hK.off 10 _ rfl rfl;clear hK;go_simp;exact hC _ hS
          refine Reg.fS 13 rfl rfl (fun a w hS hK K hC=>?_) ?_
          ·refine Reg.step_on (qaG (g:=11) rfl rfl rfl (hK.sl 11 rfl)) ?_;have e80:=hK.sl 12 rfl;have m0:=jC (qaB HM11.out hS) 0;have m2:=jC (qaB HM11.out hS) 2;have k1:=jC (qaB HK11.out hS) 1;have k2:=jC (qaB HK11.out hS) 2;have k3:=jC (qaB HK11.out hS) 3;have k4:=jC (qaB HK11.out hS) 4;clear hK;go_simp;exact hC _ hS
          refine Reg.fS 14 rfl rfl (fun a w hS hK K hC=>?_) ?_
          ·refine Reg.step_on (qaG (g:=11) rfl rfl rfl (hK.sl 11 rfl)) ?_;have e0:=hK.off 0 _ rfl rfl;clear hK;go_simp;exact hC _ hS
          refine Reg.fS 15 rfl rfl (fun a w hS hK K hC=>?_) ?_
          ·refine Reg.step_on (qaG (g:=11) rfl rfl rfl (hK.sl 11 rfl)) ?_;have e82:=hK.sl 14 rfl;clear hK;go_simp;exact hC _ hS
          refine Reg.fS 16 rfl rfl (fun a w hS hK K hC=>?_) ?_
          ·refine Reg.step_on (qaG (g:=11) rfl rfl rfl (hK.sl 11 rfl)) ?_;have e83:=hK.sl 15 rfl;clear hK;go_simp;exact hC _ hS
          refine Reg.fS 17 rfl rfl (fun a w hS hK K hC=>?_) ?_
          ·refine Reg.step_on (qaG (g:=11) rfl rfl rfl (hK.sl 11 rfl)) ?_;have e84:=hK.sl 16 rfl;clear hK;go_simp;exact hC _ hS
          refine Reg.fS 18 rfl rfl (fun a w hS hK K hC=>?_) ?_
          ·refine Reg.step_on (qaG (g:=11) rfl rfl rfl (hK.sl 11 rfl)) ?_;have e85:=hK.sl 17 rfl;have m0:=jC (qaB HM11.out hS) 0;have m2:=jC (qaB HM11.out hS) 2;have k1:=jC (qaB HK11.out hS) 1;have k2:=jC (qaB HK11.out hS) 2;have k3:=jC (qaB HK11.out hS) 3;have k4:=jC (qaB HK11.out hS) 4;clear hK;go_simp;exact hC _ hS
          refine Reg.fS 19 rfl rfl (fun a w hS hK K hC=>?_) ?_
          ·refine Reg.step_on (qaG (g:=11) rfl rfl rfl (hK.sl 11 rfl)) ?_;have e86:=hK.sl 18 rfl;clear hK;go_simp;exact hC _ hS
          refine Reg.fS 20 rfl rfl (fun a w hS hK K hC=>?_) ?_
          ·refine Reg.step_on (qaG (g:=11) rfl rfl rfl (hK.sl 11 rfl)) ?_;have e81:=hK.sl 13 rfl;have e87:=hK.sl 19 rfl;clear hK;go_simp;exact hC _ hS
          refine Reg.fS 21 rfl rfl (fun a w hS hK K hC=>?_) ?_
          ·refine Reg.sO ?_;have e79:=hK.sl 11 rfl;have e88:=hK.sl 20 rfl;clear hK;go_simp;exact hC _ hS
          refine Reg.fS 22 rfl rfl (fun a w hS hK K hC=>?_) ?_
          ·refine Reg.sO ?_;have e89:=hK.sl 21 rfl;clear hK;go_simp;exact hC _ hS
          refine Reg.fS 23 rfl rfl (fun a w hS hK K hC=>?_) ?_
          ·refine Reg.step_off (qaN (g:=22) rfl rfl rfl (hK.sl 22 rfl)) ?_;exact hC _ hS
          refine Reg.fS 24 rfl rfl (fun a w hS hK K hC=>?_) ?_
          ·refine Reg.step_off (qaN (g:=22) rfl rfl rfl (hK.sl 22 rfl)) ?_;exact hC _ hS
          refine Reg.fS 25 rfl rfl (fun a w hS hK K hC=>?_) ?_
          ·refine Reg.step_off (qaN (g:=22) rfl rfl rfl (hK.sl 22 rfl)) ?_;exact hC _ hS
          refine Reg.fS 26 rfl rfl (fun a w hS hK K hC=>?_) ?_
          ·refine Reg.step_off (qaN (g:=22) rfl rfl rfl (hK.sl 22 rfl)) ?_;exact hC _ hS
          refine Reg.fS 27 rfl rfl (fun a w hS hK K hC=>?_) ?_
          ·refine Reg.sO ?_;have e90:=hK.sl 22 rfl;have e94:=hK.sl 26 rfl;clear hK;go_simp;exact hC _ hS
          exact Reg.from_nil
         case r3okv=>rfl
         case r3hlt=>rfl
         case r3fin =>
          intro wz hS;simp only [Reg.putV,List.foldl_cons,List.foldl_nil,Act.put,List.setIfInBounds_toArray,List.set_cons_zero,List.set_cons_succ];have HBz:=aM (qaC HB11.out hS);have HRz:=aM (qaB HR11.out hS);have HXz:=aM (qaB HX11.out hS);have HMz:=aM (qaB HM11.out hS);clear hS;have x0:=jC HXz.out 0;have x1:=jC HXz.out 1;have x2:=jC HXz.out 2;have x3:=jC HXz.out 3;have x4:=jC HXz.out 4;have x5:=jC HXz.out 5;have fr0:=qaE HRz.out 0;have fr1:=qaE HRz.out 1;have fr2:=qaE HRz.out 2;have fr3:=qaE HRz.out 3;have fr4:=qaE HRz.out 4;have fr5:=qaE HRz.out 5;have yr0:=jC HRz.out 0;have yr1:=jC HRz.out 1;have yr2:=jC HRz.out 2;have yr3:=jC HRz.out 3;have yr4:=jC HRz.out 4;have yr5:=jC HRz.out 5;go_wp2;refine bodyPost_ret (qbF rfl _ _ W.heap.size 68 #[.int .i64 3,.int .i64 ct,.int .i64 0,.int .i64 0,.int .u64 0,.bool false] (0,0) _ rfl (qrC HRz.out _ _ _ _ _ _) Tryz.underlying68 rfl (by kernel_rfl)) rfl ?_;rw [HE.out];exact ⟨rfl,qbZ HBz.out (Nat.le_refl _) _ _ _ _ _ _⟩
        | true =>
         cases q3:decide (mp≤(un:Int)) with
         | false =>
          have HE:=aM (HBA6.out.trans (if_neg (by rw [q1,q2,q3];simp)));refine Reg.det [(0,68,?r4v0),(1,69,?r4v1),(2,70,?r4v2),(3,71,?r4v3),(4,72,?r4v4),(5,73,?r4v5),(6,74,?r4v6),(7,75,?r4v7),(8,76,?r4v8),(9,77,?r4v9),(10,78,?r4v10),(11,79,?r4v11),(12,80,?r4v12),(13,81,?r4v13),(14,82,?r4v14),(15,83,?r4v15),(16,84,?r4v16),(17,85,?r4v17),(18,86,?r4v18),(19,87,?r4v19),(20,88,?r4v20),(21,89,?r4v21),(22,90,?r4v22),(23,91,?r4v23),(24,92,?r4v24),(25,93,?r4v25),(26,94,?r4v26),(27,95,?r4v27)] (fun w'=>Below w11.heap.size w11 w') (by rfl) rfl (by kernel_rfl) ?r4S ?r4steps ?r4okv ?r4hlt ?r4fin;case r4S=>exact qaO (Below.refl _ _)
          case r4steps =>
           refine Reg.fS 0 rfl rfl (fun a w hS hK K hC=>?_) ?_
           ·refine Reg.sO ?_;have e8:=hK.off 8 _ rfl rfl;clear hK;go_simp;exact hC _ hS
           refine Reg.fS 1 rfl rfl (fun a w hS hK K hC=>?_) ?_
           ·refine Reg.sO ?_;have e68:=hK.sl 0 rfl;clear hK;go_simp;exact hC _ hS
           refine Reg.fS 2 rfl rfl (fun a w hS hK K hC=>?_) ?_
           ·refine Reg.step_on (qaG (g:=1) rfl rfl rfl (hK.sl 1 rfl)) ?_;have e10:=hK.off 10 _ rfl rfl;clear hK;go_simp;exact hC _ hS
           refine Reg.fS 3 rfl rfl (fun a w hS hK K hC=>?_) ?_
           ·refine Reg.step_on (qaG (g:=1) rfl rfl rfl (hK.sl 1 rfl)) ?_;have e70:=hK.sl 2 rfl;have m0:=jC (qaB HM11.out hS) 0;have m2:=jC (qaB HM11.out hS) 2;have k1:=jC (qaB HK11.out hS) 1;have k2:=jC (qaB HK11.out hS) 2;have k3:=jC (qaB HK11.out hS) 3;have k4:=jC (qaB HK11.out hS) 4;clear hK;go_simp;exact hC _ hS
           refine Reg.fS 4 rfl rfl (fun a w hS hK K hC=>?_) ?_
           ·refine Reg.step_on (qaG (g:=1) rfl rfl rfl (hK.sl 1 rfl)) ?_;have e0:=hK.off 0 _ rfl rfl;clear hK;go_simp;exact hC _ hS
           refine Reg.fS 5 rfl rfl (fun a w hS hK K hC=>?_) ?_
           ·refine Reg.step_on (qaG (g:=1) rfl rfl rfl (hK.sl 1 rfl)) ?_;have e72:=hK.sl 4 rfl;clear hK;go_simp;exact hC _ hS
           refine Reg.fS 6 rfl rfl (fun a w hS hK K hC=>?_) ?_
           ·refine Reg.step_on (qaG (g:=1) rfl rfl rfl (hK.sl 1 rfl)) ?_;have e73:=hK.sl 5 rfl;clear hK;go_simp;exact hC _ hS
           refine Reg.fS 7 rfl rfl (fun a w hS hK K hC=>?_) ?_
           ·refine Reg.step_on (qaG (g:=1) rfl rfl rfl (hK.sl 1 rfl)) ?_;have e74:=hK.sl 6 rfl;have m0:=jC (qaB HM11.out hS) 0;have m2:=jC (qaB HM11.out hS) 2;have k1:=jC (qaB HK11.out hS) 1;have k2:=jC (qaB HK11.out hS) 2;have k3:=jC (qaB HK11.out hS) 3;have k4:=jC (qaB HK11.out hS) 4;clear hK;go_simp;exact hC _ hS
           refine Reg.fS 8 rfl rfl (fun a w hS hK K hC=>?_) ?_
           ·refine Reg.step_on (qaG (g:=1) rfl rfl rfl (hK.sl 1 rfl)) ?_;have e75:=hK.sl 7 rfl;clear hK;go_simp;go_at_call 13;(with_reducible refine (HLEB.out _).mono ?_);rintro e w' ⟨rfl,hb⟩;exact hC w' (qaC hS hb)
           refine Reg.fS 9 rfl rfl (fun a w hS hK K hC=>?_) ?_
           ·refine Reg.step_on (qaG (g:=1) rfl rfl rfl (hK.sl 1 rfl)) ?_;have e71:=hK.sl 3 rfl;have e76:=hK.sl 8 rfl;clear hK;go_simp;exact hC _ hS
           refine Reg.fS 10 rfl rfl (fun a w hS hK K hC=>?_) ?_
           ·refine Reg.sO ?_;have e69:=hK.sl 1 rfl;have e77:=hK.sl 9 rfl;clear hK;go_simp;exact hC _ hS
           refine Reg.fS 11 rfl rfl (fun a w hS hK K hC=>?_) ?_
           ·refine Reg.sO ?_;have e78:=hK.sl 10 rfl;clear hK;go_simp;exact hC _ hS
           refine Reg.fS 12 rfl rfl (fun a w hS hK K hC=>?_) ?_
           ·refine Reg.step_on (qaG (g:=11) rfl rfl rfl (hK.sl 11 rfl)) ?_;have e10:=hK.off 10 _ rfl rfl;clear hK;go_simp;exact hC _ hS
           refine Reg.fS 13 rfl rfl (fun a w hS hK K hC=>?_) ?_
           ·refine Reg.step_on (qaG (g:=11) rfl rfl rfl (hK.sl 11 rfl)) ?_;have e80:=hK.sl 12 rfl;have m0:=jC (qaB HM11.out hS) 0;have m2:=jC (qaB HM11.out hS) 2;have k1:=jC (qaB HK11.out hS) 1;have k2:=jC (qaB HK11.out hS) 2;have k3:=jC (qaB HK11.out hS) 3;have k4:=jC (qaB HK11.out hS) 4;clear hK;go_simp;exact hC _ hS
           refine Reg.fS 14 rfl rfl (fun a w hS hK K hC=>?_) ?_
           ·refine Reg.step_on (qaG (g:=11) rfl rfl rfl (hK.sl 11 rfl)) ?_;have e0:=hK.off 0 _ rfl rfl;clear hK;go_simp;exact hC _ hS
           refine Reg.fS 15 rfl rfl (fun a w hS hK K hC=>?_) ?_
           ·refine Reg.step_on (qaG (g:=11) rfl rfl rfl (hK.sl 11 rfl)) ?_;have e82:=hK.sl 14 rfl;clear hK;go_simp;exact hC _ hS
           refine Reg.fS 16 rfl rfl (fun a w hS hK K hC=>?_) ?_
           ·refine Reg.step_on (qaG (g:=11) rfl rfl rfl (hK.sl 11 rfl)) ?_;have e83:=hK.sl 15 rfl;clear hK;go_simp;exact hC _ hS
           refine Reg.fS 17 rfl rfl (fun a w hS hK K hC=>?_) ?_
           ·refine Reg.step_on (qaG (g:=11) rfl rfl rfl (hK.sl 11 rfl)) ?_;have e84:=hK.sl 16 rfl;clear hK;go_simp;exact hC _ hS
           refine Reg.fS 18 rfl rfl (fun a w hS hK K hC=>?_) ?_
           ·refine Reg.step_on (qaG (g:=11) rfl rfl rfl (hK.sl 11 rfl)) ?_;have e85:=hK.sl 17 rfl;have m0:=jC (qaB HM11.out hS) 0;have m2:=jC (qaB HM11.out hS) 2;have k1:=jC (qaB HK11.out hS) 1;have k2:=jC (qaB HK11.out hS) 2;have k3:=jC (qaB HK11.out hS) 3;have k4:=jC (qaB HK11.out hS) 4;clear hK;go_simp;exact hC _ hS
           refine Reg.fS 19 rfl rfl (fun a w hS hK K hC=>?_) ?_
           ·refine Reg.step_on (qaG (g:=11) rfl rfl rfl (hK.sl 11 rfl)) ?_;have e86:=hK.sl 18 rfl;clear hK;go_simp;exact hC _ hS
           refine Reg.fS 20 rfl rfl (fun a w hS hK K hC=>?_) ?_
           ·refine Reg.step_on (qaG (g:=11) rfl rfl rfl (hK.sl 11 rfl)) ?_;have e81:=hK.sl 13 rfl;have e87:=hK.sl 19 rfl;clear hK;go_simp;exact hC _ hS
           refine Reg.fS 21 rfl rfl (fun a w hS hK K hC=>?_) ?_
           ·refine Reg.sO ?_;have e79:=hK.sl 11 rfl;have e88:=hK.sl 20 rfl;clear hK;go_simp;exact hC _ hS
           refine Reg.fS 22 rfl rfl (fun a w hS hK K hC=>?_) ?_
           ·refine Reg.sO ?_;have e89:=hK.sl 21 rfl;clear hK;go_simp;exact hC _ hS
           refine Reg.fS 23 rfl rfl (fun a w hS hK K hC=>?_) ?_
           ·refine Reg.step_on (qaG (g:=22) rfl rfl rfl (hK.sl 22 rfl)) ?_;have e11:=hK.off 11 _ rfl rfl;clear hK;go_simp;exact hC _ hS
           refine Reg.fS 24 rfl rfl (fun a w hS hK K hC=>?_) ?_
           ·refine Reg.step_on (qaG (g:=22) rfl rfl rfl (hK.sl 22 rfl)) ?_;have e10:=hK.off 10 _ rfl rfl;clear hK;go_simp;exact hC _ hS
           refine Reg.fS 25 rfl rfl (fun a w hS hK K hC=>?_) ?_
           ·refine Reg.step_on (qaG (g:=22) rfl rfl rfl (hK.sl 22 rfl)) ?_;have e92:=hK.sl 24 rfl;have m0:=jC (qaB HM11.out hS) 0;have m2:=jC (qaB HM11.out hS) 2;have k1:=jC (qaB HK11.out hS) 1;have k2:=jC (qaB HK11.out hS) 2;have k3:=jC (qaB HK11.out hS) 3;have k4:=jC (qaB HK11.out hS) 4;clear hK;go_simp;exact hC _ hS
           refine Reg.fS 26 rfl rfl (fun a w hS hK K hC=>?_) ?_
           ·refine Reg.step_on (qaG (g:=22) rfl rfl rfl (hK.sl 22 rfl)) ?_;have e91:=hK.sl 23 rfl;have e93:=hK.sl 25 rfl;clear hK;go_simp;exact hC _ hS
           refine Reg.fS 27 rfl rfl (fun a w hS hK K hC=>?_) ?_
           ·refine Reg.sO ?_;have e90:=hK.sl 22 rfl;have e94:=hK.sl 26 rfl;clear hK;go_simp;exact hC _ hS
           exact Reg.from_nil
          case r4okv=>rfl
          case r4hlt=>rfl
          case r4fin =>
           intro wz hS;simp only [Reg.putV,List.foldl_cons,List.foldl_nil,Act.put,List.setIfInBounds_toArray,List.set_cons_zero,List.set_cons_succ];have HBz:=aM (qaC HB11.out hS);have HRz:=aM (qaB HR11.out hS);have HXz:=aM (qaB HX11.out hS);have HMz:=aM (qaB HM11.out hS);clear hS;have x0:=jC HXz.out 0;have x1:=jC HXz.out 1;have x2:=jC HXz.out 2;have x3:=jC HXz.out 3;have x4:=jC HXz.out 4;have x5:=jC HXz.out 5;have fr0:=qaE HRz.out 0;have fr1:=qaE HRz.out 1;have fr2:=qaE HRz.out 2;have fr3:=qaE HRz.out 3;have fr4:=qaE HRz.out 4;have fr5:=qaE HRz.out 5;have yr0:=jC HRz.out 0;have yr1:=jC HRz.out 1;have yr2:=jC HRz.out 2;have yr3:=jC HRz.out 3;have yr4:=jC HRz.out 4;have yr5:=jC HRz.out 5;go_wp2;refine bodyPost_ret (qbF rfl _ _ W.heap.size 68 #[.int .i64 3,.int .i64 ct,.int .i64 0,.int .i64 0,.int .u64 0,.bool false] (0,0) _ rfl (qrC HRz.out _ _ _ _ _ _) Tryz.underlying68 rfl (by kernel_rfl)) rfl ?_;rw [HE.out];exact ⟨rfl,qbZ HBz.out (Nat.le_refl _) _ _ _ _ _ _⟩
         | true =>
          have HE:=aM (HBA6.out.trans (if_pos (by rw [q1,q2,q3];rfl)));refine Reg.det [(0,68,?r5v0),(1,69,?r5v1),(2,70,?r5v2),(3,71,?r5v3),(4,72,?r5v4),(5,73,?r5v5),(6,74,?r5v6),(7,75,?r5v7),(8,76,?r5v8),(9,77,?r5v9),(10,78,?r5v10),(11,79,?r5v11),(12,80,?r5v12),(13,81,?r5v13),(14,82,?r5v14),(15,83,?r5v15),(16,84,?r5v16),(17,85,?r5v17),(18,86,?r5v18),(19,87,?r5v19),(20,88,?r5v20),(21,89,?r5v21),(22,90,?r5v22),(23,91,?r5v23),(24,92,?r5v24),(25,93,?r5v25),(26,94,?r5v26),(27,95,?r5v27)] (fun w'=>Below w11.heap.size w11 w') (by rfl) rfl (by kernel_rfl) ?r5S ?r5steps ?r5okv ?r5hlt ?r5fin;case r5S=>exact qaO (Below.refl _ _)
          case r5steps =>
           refine Reg.fS 0 rfl rfl (fun a w hS hK K hC=>?_) ?_
           ·refine Reg.sO ?_;have e8:=hK.off 8 _ rfl rfl;clear hK;go_simp;exact hC _ hS
           refine Reg.fS 1 rfl rfl (fun a w hS hK K hC=>?_) ?_
           ·refine Reg.sO ?_;have e68:=hK.sl 0 rfl;clear hK;go_simp;exact hC _ hS
           refine Reg.fS 2 rfl rfl (fun a w hS hK K hC=>?_) ?_
           ·refine Reg.step_on (qaG (g:=1) rfl rfl rfl (hK.sl 1 rfl)) ?_;have e10:=hK.off 10 _ rfl rfl;clear hK;go_simp;exact hC _ hS
           refine Reg.fS 3 rfl rfl (fun a w hS hK K hC=>?_) ?_
           ·refine Reg.step_on (qaG (g:=1) rfl rfl rfl (hK.sl 1 rfl)) ?_;have e70:=hK.sl 2 rfl;have m0:=jC (qaB HM11.out hS) 0;have m2:=jC (qaB HM11.out hS) 2;have k1:=jC (qaB HK11.out hS) 1;have k2:=jC (qaB HK11.out hS) 2;have k3:=jC (qaB HK11.out hS) 3;have k4:=jC (qaB HK11.out hS) 4;clear hK;go_simp;exact hC _ hS
           refine Reg.fS 4 rfl rfl (fun a w hS hK K hC=>?_) ?_
           ·refine Reg.step_on (qaG (g:=1) rfl rfl rfl (hK.sl 1 rfl)) ?_;have e0:=hK.off 0 _ rfl rfl;clear hK;go_simp;exact hC _ hS
           refine Reg.fS 5 rfl rfl (fun a w hS hK K hC=>?_) ?_
           ·refine Reg.step_on (qaG (g:=1) rfl rfl rfl (hK.sl 1 rfl)) ?_;have e72:=hK.sl 4 rfl;clear hK;go_simp;exact hC _ hS
           refine Reg.fS 6 rfl rfl (fun a w hS hK K hC=>?_) ?_
           ·refine Reg.step_on (qaG (g:=1) rfl rfl rfl (hK.sl 1 rfl)) ?_;have e73:=hK.sl 5 rfl;clear hK;go_simp;exact hC _ hS
           refine Reg.fS 7 rfl rfl (fun a w hS hK K hC=>?_) ?_
           ·refine Reg.step_on (qaG (g:=1) rfl rfl rfl (hK.sl 1 rfl)) ?_;have e74:=hK.sl 6 rfl;have m0:=jC (qaB HM11.out hS) 0;have m2:=jC (qaB HM11.out hS) 2;have k1:=jC (qaB HK11.out hS) 1;have k2:=jC (qaB HK11.out hS) 2;have k3:=jC (qaB HK11.out hS) 3;have k4:=jC (qaB HK11.out hS) 4;clear hK;go_simp;exact hC _ hS
           refine Reg.fS 8 rfl rfl (fun a w hS hK K hC=>?_) ?_
           ·refine Reg.step_on (qaG (g:=1) rfl rfl rfl (hK.sl 1 rfl)) ?_;have e75:=hK.sl 7 rfl;clear hK;go_simp;go_at_call 13;(with_reducible refine (HLEB.out _).mono ?_);rintro e w' ⟨rfl,hb⟩;exact hC w' (qaC hS hb)
           refine Reg.fS 9 rfl rfl (fun a w hS hK K hC=>?_) ?_
           ·refine Reg.step_on (qaG (g:=1) rfl rfl rfl (hK.sl 1 rfl)) ?_;have e71:=hK.sl 3 rfl;have e76:=hK.sl 8 rfl;clear hK;go_simp;exact hC _ hS
           refine Reg.fS 10 rfl rfl (fun a w hS hK K hC=>?_) ?_
           ·refine Reg.sO ?_;have e69:=hK.sl 1 rfl;have e77:=hK.sl 9 rfl;clear hK;go_simp;exact hC _ hS
           refine Reg.fS 11 rfl rfl (fun a w hS hK K hC=>?_) ?_
           ·refine Reg.sO ?_;have e78:=hK.sl 10 rfl;clear hK;go_simp;exact hC _ hS
           refine Reg.fS 12 rfl rfl (fun a w hS hK K hC=>?_) ?_
           ·refine Reg.step_on (qaG (g:=11) rfl rfl rfl (hK.sl 11 rfl)) ?_;have e10:=hK.off 10 _ rfl rfl;clear hK;go_simp;exact hC _ hS
           refine Reg.fS 13 rfl rfl (fun a w hS hK K hC=>?_) ?_
           ·refine Reg.step_on (qaG (g:=11) rfl rfl rfl (hK.sl 11 rfl)) ?_;have e80:=hK.sl 12 rfl;have m0:=jC (qaB HM11.out hS) 0;have m2:=jC (qaB HM11.out hS) 2;have k1:=jC (qaB HK11.out hS) 1;have k2:=jC (qaB HK11.out hS) 2;have k3:=jC (qaB HK11.out hS) 3;have k4:=jC (qaB HK11.out hS) 4;clear hK;go_simp;exact hC _ hS
           refine Reg.fS 14 rfl rfl (fun a w hS hK K hC=>?_) ?_
           ·refine Reg.step_on (qaG (g:=11) rfl rfl rfl (hK.sl 11 rfl)) ?_;have e0:=hK.off 0 _ rfl rfl;clear hK;go_simp;exact hC _ hS
           refine Reg.fS 15 rfl rfl (fun a w hS hK K hC=>?_) ?_
           ·refine Reg.step_on (qaG (g:=11) rfl rfl rfl (hK.sl 11 rfl)) ?_;have e82:=hK.sl 14 rfl;clear hK;go_simp;exact hC _ hS
           refine Reg.fS 16 rfl rfl (fun a w hS hK K hC=>?_) ?_
           ·refine Reg.step_on (qaG (g:=11) rfl rfl rfl (hK.sl 11 rfl)) ?_;have e83:=hK.sl 15 rfl;clear hK;go_simp;exact hC _ hS
           refine Reg.fS 17 rfl rfl (fun a w hS hK K hC=>?_) ?_
           ·refine Reg.step_on (qaG (g:=11) rfl rfl rfl (hK.sl 11 rfl)) ?_;have e84:=hK.sl 16 rfl;clear hK;go_simp;exact hC _ hS
           refine Reg.fS 18 rfl rfl (fun a w hS hK K hC=>?_) ?_
           ·refine Reg.step_on (qaG (g:=11) rfl rfl rfl (hK.sl 11 rfl)) ?_;have e85:=hK.sl 17 rfl;have m0:=jC (qaB HM11.out hS) 0;have m2:=jC (qaB HM11.out hS) 2;have k1:=jC (qaB HK11.out hS) 1;have k2:=jC (qaB HK11.out hS) 2;have k3:=jC (qaB HK11.out hS) 3;have k4:=jC (qaB HK11.out hS) 4;clear hK;go_simp;exact hC _ hS
           refine Reg.fS 19 rfl rfl (fun a w hS hK K hC=>?_) ?_
           ·refine Reg.step_on (qaG (g:=11) rfl rfl rfl (hK.sl 11 rfl)) ?_;have e86:=hK.sl 18 rfl;clear hK;go_simp;exact hC _ hS
           refine Reg.fS 20 rfl rfl (fun a w hS hK K hC=>?_) ?_
           ·refine Reg.step_on (qaG (g:=11) rfl rfl rfl (hK.sl 11 rfl)) ?_;have e81:=hK.sl 13 rfl;have e87:=hK.sl 19 rfl;clear hK;go_simp;exact hC _ hS
           refine Reg.fS 21 rfl rfl (fun a w hS hK K hC=>?_) ?_
           ·refine Reg.sO ?_;have e79:=hK.sl 11 rfl;have e88:=hK.sl 20 rfl;clear hK;go_simp;exact hC _ hS
           refine Reg.fS 22 rfl rfl (fun a w hS hK K hC=>?_) ?_
           ·refine Reg.sO ?_;have e89:=hK.sl 21 rfl;clear hK;go_simp;exact hC _ hS
           refine Reg.fS 23 rfl rfl (fun a w hS hK K hC=>?_) ?_
           ·refine Reg.step_on (qaG (g:=22) rfl rfl rfl (hK.sl 22 rfl)) ?_;have e11:=hK.off 11 _ rfl rfl;clear hK;go_simp;exact hC _ hS
           refine Reg.fS 24 rfl rfl (fun a w hS hK K hC=>?_) ?_
           ·refine Reg.step_on (qaG (g:=22) rfl rfl rfl (hK.sl 22 rfl)) ?_;have e10:=hK.off 10 _ rfl rfl;clear hK;go_simp;exact hC _ hS
           refine Reg.fS 25 rfl rfl (fun a w hS hK K hC=>?_) ?_
           ·refine Reg.step_on (qaG (g:=22) rfl rfl rfl (hK.sl 22 rfl)) ?_;have e92:=hK.sl 24 rfl;have m0:=jC (qaB HM11.out hS) 0;have m2:=jC (qaB HM11.out hS) 2;have k1:=jC (qaB HK11.out hS) 1;have k2:=jC (qaB HK11.out hS) 2;have k3:=jC (qaB HK11.out hS) 3;have k4:=jC (qaB HK11.out hS) 4;clear hK;go_simp;exact hC _ hS
           refine Reg.fS 26 rfl rfl (fun a w hS hK K hC=>?_) ?_
           ·refine Reg.step_on (qaG (g:=22) rfl rfl rfl (hK.sl 22 rfl)) ?_;have e91:=hK.sl 23 rfl;have e93:=hK.sl 25 rfl;clear hK;go_simp;exact hC _ hS
           refine Reg.fS 27 rfl rfl (fun a w hS hK K hC=>?_) ?_
           ·refine Reg.sO ?_;have e90:=hK.sl 22 rfl;have e94:=hK.sl 26 rfl;clear hK;go_simp;exact hC _ hS
           exact Reg.from_nil
          case r5okv=>rfl
          case r5hlt=>rfl
          case r5fin =>
           intro wz hS;simp only [Reg.putV,List.foldl_cons,List.foldl_nil,Act.put,List.setIfInBounds_toArray,List.set_cons_zero,List.set_cons_succ];have HBz:=aM (qaC HB11.out hS);have HRz:=aM (qaB HR11.out hS);have HXz:=aM (qaB HX11.out hS);have HMz:=aM (qaB HM11.out hS);clear hS
           go_upto_region 19 with (fail)
           refine RelS.relS [(0,96,.inl ?r6v0),(1,97,.inl ?r6v1),(2,98,.inl ?r6v2),(3,99,.inl ?r6v3),(4,100,.inl ?r6v4),(5,101,.inl ?r6v5),(6,102,.inl ?r6v6),(8,103,.inl ?r6v8),(10,104,.inl ?r6v10),(12,105,.inl ?r6v12),(14,106,.inl ?r6v14)] [7,9,11,13,15] (bst W gx gm ct ml ms mp un uc) (fun _ _=>True) (by rfl) rfl (by kernel_rfl) (by decide) (by decide) ?r6S (Rel.stable_inl (Rel.stable_inl (Rel.stable_inl (Rel.stable_inl (Rel.stable_inl (Rel.stable_inl (Rel.stable_inl (Rel.stable_inl (Rel.stable_inl (Rel.stable_inl (Rel.stable_inl Rel.stable_nil))))))))))) ?r6steps ?r6okv ?r6hlt ?r6fin;case r6S=>exact ⟨qaO HBz.out,HXz.out,HMz.out,HRz.out⟩
           case r6steps =>
            refine RelS.fromS_some 0 rfl rfl (fun s a wq hlo hhi hS hK K hC=>?_) ?_
            ·refine Reg.sO ?_;clear hlo hhi;have e10:=hK.off 10 _ rfl rfl;clear hK;go_simp;exact hC _ hS trivial
            refine RelS.fromS_some 1 rfl rfl (fun s a wq hlo hhi hS hK K hC=>?_) ?_
            ·refine Reg.sO ?_;clear hlo hhi;have e96:=hK.sl 0 rfl;have m0:=jC hS.2.2.1 0;clear hK;go_simp;exact hC _ hS trivial
            refine RelS.fromS_some 2 rfl rfl (fun s a wq hlo hhi hS hK K hC=>?_) ?_
            ·refine Reg.sO ?_;clear hlo hhi;have e10:=hK.off 10 _ rfl rfl;clear hK;go_simp;exact hC _ hS trivial
            refine RelS.fromS_some 3 rfl rfl (fun s a wq hlo hhi hS hK K hC=>?_) ?_
            ·refine Reg.sO ?_;clear hlo hhi;have e98:=hK.sl 2 rfl;have m0:=jC hS.2.2.1 1;clear hK;go_simp;exact hC _ hS trivial
            refine RelS.fromS_some 4 rfl rfl (fun s a wq hlo hhi hS hK K hC=>?_) ?_
            ·refine Reg.sO ?_;clear hlo hhi;have e11:=hK.off 11 _ rfl rfl;clear hK;go_simp;exact hC _ hS trivial
            refine RelS.fromS_some 5 rfl rfl (fun s a wq hlo hhi hS hK K hC=>?_) ?_
            ·refine Reg.sO ?_;clear hlo hhi;have e12:=hK.off 12 _ rfl rfl;clear hK;go_simp;exact hC _ hS trivial
            refine RelS.fromS_some 6 rfl rfl (fun s a wq hlo hhi hS hK K hC=>?_) ?_
            ·refine Reg.sO ?_;clear hlo hhi;have e6:=hK.off 6 _ rfl rfl;clear hK;go_simp;exact hC _ hS trivial
            refine RelS.fromS_none rfl rfl (fun s a wq hlo hhi hS hK K hC=>?_) ?_
            ·refine Reg.sO ?_;obtain rfl:s=0:=Nat.le_antisymm (Nat.le_trans hhi (Nat.le_of_eq (by kernel_rfl))) (Nat.le_trans (Nat.le_of_eq (by kernel_rfl)) hlo);clear hlo hhi;have e102:=hK.sl 6 rfl;obtain ⟨hb,hx,hm,hr⟩:=hS;have HB9s:=aM hb;have HX9s:=aM hx;have HM9s:=aM hm;have HR9s:=aM hr;have x0:=jC hx 0;have f0:=qaE hx 0;clear hK hb hx hm hr;go_simp;exact hC _ ⟨qaK HB9s.out HGX.out.1,qaR HX9s.out 0 _ rfl,qaT HM9s.out HGM.out.1 _,qaT HR9s.out HGX.out.2.symm _⟩ trivial
            refine RelS.fromS_some 7 rfl rfl (fun s a wq hlo hhi hS hK K hC=>?_) ?_
            ·refine Reg.sO ?_;clear hlo hhi;have e6:=hK.off 6 _ rfl rfl;clear hK;go_simp;exact hC _ hS trivial
            refine RelS.fromS_none rfl rfl (fun s a wq hlo hhi hS hK K hC=>?_) ?_
            ·refine Reg.sO ?_;obtain rfl:s=1:=Nat.le_antisymm (Nat.le_trans hhi (Nat.le_of_eq (by kernel_rfl))) (Nat.le_trans (Nat.le_of_eq (by kernel_rfl)) hlo);clear hlo hhi;have e103:=hK.sl 7 rfl;have e97:=hK.sl 1 rfl;obtain ⟨hb,hx,hm,hr⟩:=hS;have HB9s:=aM hb;have HX9s:=aM hx;have HM9s:=aM hm;have HR9s:=aM hr;have x0:=jC hx 2;have f0:=qaE hx 2;clear hK hb hx hm hr;go_simp;exact hC _ ⟨qaK HB9s.out HGX.out.1,qaR HX9s.out 2 _ rfl,qaT HM9s.out HGM.out.1 _,qaT HR9s.out HGX.out.2.symm _⟩ trivial
            refine RelS.fromS_some 8 rfl rfl (fun s a wq hlo hhi hS hK K hC=>?_) ?_
            ·refine Reg.sO ?_;clear hlo hhi;have e6:=hK.off 6 _ rfl rfl;clear hK;go_simp;exact hC _ hS trivial
            refine RelS.fromS_none rfl rfl (fun s a wq hlo hhi hS hK K hC=>?_) ?_
            ·refine Reg.sO ?_;obtain rfl:s=2:=Nat.le_antisymm (Nat.le_trans hhi (Nat.le_of_eq (by kernel_rfl))) (Nat.le_trans (Nat.le_of_eq (by kernel_rfl)) hlo);clear hlo hhi;have e104:=hK.sl 8 rfl;have e99:=hK.sl 3 rfl;obtain ⟨hb,hx,hm,hr⟩:=hS;have HB9s:=aM hb;have HX9s:=aM hx;have HM9s:=aM hm;have HR9s:=aM hr;have x0:=jC hx 4;have f0:=qaE hx 4;clear hK hb hx hm hr;go_simp;exact hC _ ⟨qaK HB9s.out HGX.out.1,qaR HX9s.out 4 _ rfl,qaT HM9s.out HGM.out.1 _,qaT HR9s.out HGX.out.2.symm _⟩ trivial
            refine RelS.fromS_some 9 rfl rfl (fun s a wq hlo hhi hS hK K hC=>?_) ?_
            ·refine Reg.sO ?_;clear hlo hhi;have e6:=hK.off 6 _ rfl rfl;clear hK;go_simp;exact hC _ hS trivial
            refine RelS.fromS_none rfl rfl (fun s a wq hlo hhi hS hK K hC=>?_) ?_
            ·refine Reg.sO ?_;obtain rfl:s=3:=Nat.le_antisymm (Nat.le_trans hhi (Nat.le_of_eq (by kernel_rfl))) (Nat.le_trans (Nat.le_of_eq (by kernel_rfl)) hlo);clear hlo hhi;have e105:=hK.sl 9 rfl;have e100:=hK.sl 4 rfl;obtain ⟨hb,hx,hm,hr⟩:=hS;have HB9s:=aM hb;have HX9s:=aM hx;have HM9s:=aM hm;have HR9s:=aM hr;have x0:=jC hx 3;have f0:=qaE hx 3;clear hK hb hx hm hr;go_simp;exact hC _ ⟨qaK HB9s.out HGX.out.1,qaR HX9s.out 3 _ rfl,qaT HM9s.out HGM.out.1 _,qaT HR9s.out HGX.out.2.symm _⟩ trivial
            refine RelS.fromS_some 10 rfl rfl (fun s a wq hlo hhi hS hK K hC=>?_) ?_
            ·refine Reg.sO ?_;clear hlo hhi;have e6:=hK.off 6 _ rfl rfl;clear hK;go_simp;exact hC _ hS trivial
            refine RelS.fromS_none rfl rfl (fun s a wq hlo hhi hS hK K hC=>?_) ?_
            ·refine Reg.sO ?_;obtain rfl:s=4:=Nat.le_antisymm (Nat.le_trans hhi (Nat.le_of_eq (by kernel_rfl))) (Nat.le_trans (Nat.le_of_eq (by kernel_rfl)) hlo);clear hlo hhi;have e106:=hK.sl 10 rfl;have e101:=hK.sl 5 rfl;obtain ⟨hb,hx,hm,hr⟩:=hS;have HB9s:=aM hb;have HX9s:=aM hx;have HM9s:=aM hm;have HR9s:=aM hr;have x0:=jC hx 5;have f0:=qaE hx 5;clear hK hb hx hm hr;go_simp;exact hC _ ⟨qaK HB9s.out HGX.out.1,qaR HX9s.out 5 _ rfl,qaT HM9s.out HGM.out.1 _,qaT HR9s.out HGX.out.2.symm _⟩ trivial
            exact RelS.fromS_nil
           case r6okv=>rfl
           case r6hlt=>rfl
           case r6fin =>
            intro U wz hS hU;clear hU;simp only [Rel.inst,Nat.zero_add,Reg.putV,List.foldl_cons,List.foldl_nil,Act.put,List.setIfInBounds_toArray,List.set_cons_zero,List.set_cons_succ];obtain ⟨hbs,hxs,hms,hrs⟩:=hS;have HBs:=aM hbs;have HXs:=aM hxs;have HRs:=aM hrs;clear hbs hxs hms hrs;have x0:=jC HXs.out 0;have x1:=jC HXs.out 1;have x2:=jC HXs.out 2;have x3:=jC HXs.out 3;have x4:=jC HXs.out 4;have x5:=jC HXs.out 5;have fr0:=qaE HRs.out 0;have fr1:=qaE HRs.out 1;have fr2:=qaE HRs.out 2;have fr3:=qaE HRs.out 3;have fr4:=qaE HRs.out 4;have fr5:=qaE HRs.out 5;have yr0:=jC HRs.out 0;have yr1:=jC HRs.out 1;have yr2:=jC HRs.out 2;have yr3:=jC HRs.out 3;have yr4:=jC HRs.out 4;have yr5:=jC HRs.out 5;go_wp2;refine bodyPost_ret (qbF rfl _ _ W.heap.size 68 #[.int .i64 4,.int .i64 ct,.int .i64 ml,.int .i64 un,.int .u64 ms,.bool uc] (0,0) _ rfl (qrC HRs.out _ _ _ _ _ _) Tryz.underlying68 rfl (by kernel_rfl)) rfl ?_;rw [HE.out];exact ⟨rfl,qbZ HBs.out (Nat.le_refl _) _ _ _ _ _ _⟩
end
section
open Go.Shelf
attribute [local go_sem] Oper.semAt_some
def vaB (W:World) (A:Option Addr) (k:Nat) (x:Blk):Prop:=∃ ad,A=some ad∧W.cell? (ad.add (k*6))=some (.int .i64 x.f0)∧W.cell? ⟨(ad.add (k*6)).block,(ad.add (k*6)).off+1,none⟩=some (.int .i64 x.f1)∧W.cell? ⟨(ad.add (k*6)).block,(ad.add (k*6)).off+2,none⟩=some (.int .i64 x.f2)∧W.cell? ⟨(ad.add (k*6)).block,(ad.add (k*6)).off+3,none⟩=some (.int .i64 x.f3)∧W.cell? ⟨(ad.add (k*6)).block,(ad.add (k*6)).off+4,none⟩=some (.int .u64 x.f4)∧W.cell? ⟨(ad.add (k*6)).block,(ad.add (k*6)).off+5,none⟩=some (.bool x.f5)
abbrev Ent (xs:List Blk):={ p:Nat × Blk // p.1 < xs.length∧xs[p.1]?=some p.2 }
def vaK {xs:List Blk} (x:Ent xs):Array Value:=#[.int .i64 (x.1.1:Int),.agg (bC x.1.2)]
def qlS (xs:List Blk) (k:Nat) (h:k < xs.length):Ent xs:=⟨(k,xs[k]),h,List.getElem?_eq_getElem h⟩
def fil (xs:List Blk) (st:Int):Nat→List (Ent xs)
 | 0=>[]
 | k+1=>if h:k < xs.length then (if xs[k].f0=st then fil xs st k ++ [qlS xs k h] else fil xs st k) else fil xs st k
theorem qkU {xs:List Blk} {st:Int} {k:Nat} (h:k < xs.length) (hs:xs[k].f0=st):fil xs st (k+1)=fil xs st k ++ [qlS xs k h]:=by
 rw [fil,dif_pos h,if_pos hs]
theorem qiH {xs:List Blk} {st:Int} {k:Nat} (h:k < xs.length) (hs:¬ xs[k].f0=st):fil xs st (k+1)=fil xs st k:=by
 rw [fil,dif_pos h,if_neg hs]
theorem qwN (xs:List Blk) (st:Int):∀ k,(fil xs st k).length≤k
 | 0=>Nat.le_refl _
 | k+1=>by
  have h:=qwN xs st k;rw [fil]
  split
  ·split
   ·simp;omega
   ·omega
  ·omega
abbrev quL:Kd Blk:=k68
theorem qjM {W:World} {A:Option Addr} {xs:List Blk} (h:Kd.C quL W A xs.length xs) (k:Nat) (hk:k < xs.length):vaB W A k xs[k]:=by
 have h2:=qxF h (k:Int) (by omega) (by omega)
 have e:qdZ xs (k:Int)=xs[k]:=by
  unfold qdZ;rw [Int.toNat_natCast,List.getD_eq_getElem?_getD,List.getElem?_eq_getElem hk];rfl
 rw [e,Int.toNat_natCast] at h2;exact h2
theorem quD (F:Fence) (n:Nat) (h50:F.fn 125) (hro:F.round=none) (hn:1≤n) (l Bs Bt:Nat) (st:Int) (A:Option Addr) (c:Nat) (xs:List Blk) (W:World)
  (J Jx:List (Ent xs)→World→Prop) (hJa:∀ pre W o,J pre W→J pre (W.alloc o))
  (hE:∀ k W',(h:k < xs.length)→J (fil xs st k) W'→vaB W' A k xs[k])
  (hY:∀ pre x W1,J pre W1→pre.length < xs.length→YieldAt F (n - 1) Tryz.prog l (vaK x) W1 fun e W' =>
   (e=.returned (.bool true)∧J (pre ++ [x]) W')∨(e=.returned (.bool false)∧Jx (pre ++ [x]) W'))
  (hlen:xs.length≤4611686018427387904)
  (hBs:W.cell? ⟨Bs,0,none⟩=some (.slice A xs.length c)) (hBt:∀ pre W',J pre W'→W'.cell? ⟨Bt,0,none⟩=some (.int .i64 st)) (h0:J [] W) :
  CallsIn F n Tryz.prog 125 #[.func (.yield l) #[] #[],.pointer (some ⟨Bs,0,none⟩),.pointer (some ⟨Bt,0,none⟩)] W fun e W'=>(∃ v,e=.returned v) ∧
   ((∃ ys,ys=fil xs st xs.length∧J ys W')∨(∃ pre,(∃ k,∃ h:k < xs.length,xs[k].f0=st∧pre=fil xs st k ++ [qlS xs k h])∧Jx pre W')):=by
 refine callsIn_of_wp Tryz.func125 rfl h50 ?_ hro;simp only [Tryz.ntmps125,List.size_toArray,List.length_cons,List.length_nil,Nat.reduceAdd,Nat.reduceSub,Array.replicate_succ,Array.replicate_zero,List.push_toArray,List.append_toArray,List.nil_append,List.cons_append];have hu49:=Tryz.underlying68
 gi_wp2
 gi_loopw [8] (fun i wr=>∃ m:Nat,m≤xs.length∧i=.int .i64 (m:Int)∧J (fil xs st m) wr)
  (fun i _=>xs.length - (intOf i).toNat)
 case atStart=>exact ⟨0,Nat.zero_le _,rfl,h0⟩
 case round =>
  obtain ⟨m,hm,rfl,hJs⟩:=hrel
  by_cases hlt:m < xs.length
  ·have d0:decide ((m:Int) < (xs.length:Int))=true:=decide_eq_true (by omega);have hq:(m < xs.length)=True:=eq_true hlt;have hqi:((m:Int) < (xs.length:Int))=True:=eq_true (by omega);obtain ⟨ad,rfl,c0,c1,c2,c3,c4,c5⟩:=hE m wr hlt hJs;have zt:∀ o,(wr.alloc o).cell? ⟨Bt,0,none⟩=some (.int .i64 st):=fun o=>hBt _ _ (hJa _ _ o hJs)
   by_cases hs:xs[m].f0=st
   ·have HF:=aM (qkU hlt hs);have e1:(xs[m].f0==st)=true:=by simp only [beq_iff_eq];exact hs
    obtain ⟨W2,hW2⟩:∃ W2,wr.alloc (.cells (bC xs[m]) 68)=W2:=⟨_,rfl⟩
    have hJ2:J (fil xs st m) W2:=by rw [← hW2];exact hJa _ _ _ hJs
    obtain ⟨fn,tmps,assign,body,hy,hR⟩:=hY _ (qlS xs m hlt) W2 hJ2 (Nat.lt_of_le_of_lt (qwN xs st m) hlt);dsimp only [vaK,qlS] at hy;rw [← hW2] at hy;have HS:=aM hs;have HW2:=aM hW2;clear hs hW2
    gi_wp2
    rw [HW2.out];refine hR.mono ?_;rintro e W3 (⟨rfl,hJ3⟩|⟨rfl,hJx3⟩)
    ·gi_wp2
     go_roundw;case rel=>exact ⟨m+1,by omega,by push_cast;rfl,by rw [HF.out];exact hJ3⟩
     case measure=>simp [intOf];omega
    ·gi_wp2
     refine bodyPost_ret (results_none rfl _ _ _) rfl ?_;exact ⟨⟨_,rfl⟩,.inr ⟨_,⟨m,hlt,HS.out,rfl⟩,hJx3⟩⟩
   ·have HF:=aM (qiH hlt hs);have e1:(xs[m].f0==st)=false:=by simp only [beq_eq_false_iff_ne];exact hs
    clear hs
    gi_wp2
    refine ⟨(fun f hf=>(nomatch hf)),?_⟩
    gi_wp2
    go_roundw;case rel=>exact ⟨m+1,by omega,by push_cast;rfl,by rw [HF.out];exact hJa _ _ _ hJs⟩
    case measure=>simp [intOf];omega
  ·obtain rfl:m=xs.length:=by omega
   have d0:decide ((xs.length:Int) < (xs.length:Int))=false:=decide_eq_false (by omega)
   gi_wp2
   go_end0;exact ⟨⟨_,rfl⟩,.inl ⟨_,rfl,hJs⟩⟩
theorem qlE (F:Fence) (n:Nat) (h27:F.fn 71) (hro:F.round=none) (a:Option Addr) (len cap:Nat) (st:Int) (w:World) :
  CallsIn F n Tryz.prog 71 #[.slice a len cap,.int .i64 st] w fun e w'=>e=.returned (.func (.func 125) #[] #[.pointer (some ⟨w.heap.size,0,none⟩),.pointer (some ⟨w.heap.size+1,0,none⟩)])∧w'=(w.alloc (.cells #[.slice a len cap] 40)).alloc (.cells #[.int .i64 st] 3):=by
 refine callsIn_of_wp Tryz.func71 rfl h27 ?_ hro;simp only [Tryz.ntmps71,List.size_toArray,List.length_cons,List.length_nil,Nat.reduceAdd,Nat.reduceSub,Array.replicate_succ,Array.replicate_zero,List.push_toArray,List.append_toArray,List.nil_append,List.cons_append]
 gi_wp2
 go_ret;exact ⟨by simp,rfl⟩
end
section
open Go.Shelf
def qpR (D:Nat) (r:Loop) (W:World):Prop:=W.heap[D+1]?=some (.loop r)∧W.heap[D]?=some (.deferred (some []))
theorem qpR.lt {D:Nat} {r:Loop} {W:World} (h:qpR D r W):D+1 < W.heap.size:=(Array.getElem?_eq_some_iff.1 h.1).1
theorem qpR.put {D:Nat} {r:Loop} {W:World} (h:qpR D r W) (r':Loop):qpR D r' (W.putObj (D+1) (.loop r')) :=
 ⟨World.putObj_heap_same h.lt,(World.putObj_heap_other (by omega)).trans h.2⟩
theorem qpR.keeps {D:Nat} {r:Loop} {W W':World} (h:qpR D r W) (k:KeepsFrom D W W'):qpR D r W':=⟨k.same _ _ (by omega) h.1 rfl,k.same _ _ (Nat.le_refl _) h.2 rfl⟩
theorem qpR.alloc {D:Nat} {r:Loop} {W:World} (h:qpR D r W) (o:Obj):qpR D r (W.alloc o):=h.keeps ((KeepsOthers.alloc _ _).from _)
theorem qpR.own {B D:Nat} {r:Loop} {W:World} {β:Type} {I:β→World→Prop} (hI:OwnFrom B I) (hB:B≤D) (h:qpR D r W) {s:β} (hs:I s W) (r':Loop):I s (W.putObj (D+1) (.loop r')) :=
 hI.putObj _ hs (by omega) h.1 rfl
def vbO {α:Type} (B:Nat) (I Ix:List α→World→Prop) (xs:List α) (W:World):Exit→Act→World→Prop
 | .normal,_,W'=>KeepsFrom B W W'∧I xs W'
 | .ret,_,W'=>KeepsFrom B W W'∧Ix xs W'
 | _,_,_=>False
theorem qeO {F:Fence} {n:Nat} {g:Operand} {ps:Array Tmp} {assign body:Code} {Q:Exit→Act→World→Prop} {a:Act} {w:World}
  (hro:F.round=none) (h1:3≤n) (hF:F.fn 125) (Bs Bt:Nat) (st:Int) (A:Option Addr) (c:Nat) (xs:List Blk)
  (hg:a.eval g=.func (.func 125) #[] #[.pointer (some ⟨Bs,0,none⟩),.pointer (some ⟨Bt,0,none⟩)]) (hps:ps.size=2) (hlen:xs.length≤4611686018427387904)
  (I Ix:List (Ent xs)→World→Prop) (hI:OwnFrom w.heap.size I) (hIx:OwnFrom w.heap.size Ix)
  (hBs:∀ pre W',I pre W'→W'.cell? ⟨Bs,0,none⟩=some (.slice A xs.length c)) (hBt:∀ pre W',I pre W'→W'.cell? ⟨Bt,0,none⟩=some (.int .i64 st))
  (hE:∀ k W',(h:k < xs.length)→I (fil xs st k) W'→vaB W' A k xs[k]) (h0:I [] w)
  (Ax:Ent xs→Act→World→Prop) (hAx:∀ x a',OwnFrom w.heap.size (fun (_:Unit) W=>Ax x a' W))
  (hassign:∀ (l:Nat) (pre:List (Ent xs)) (x:Ent xs) (W:World) (K:Act→World→Prop),I pre W→(∀ a' W',KeepsFrom w.heap.size W W'→I pre W'→Ax x a' W'→K a' W') →
   assign.wpIn (F.inRound l) (n - 1 - 1) Tryz.prog (Exit.then K (fun _ _ _=>False)) { tmps:=(ps.zip (vaK x)).foldl (fun t (p,v)=>t.setIfInBounds p v) a.tmps,defers:=[] } W)
  (hbody:∀ (l:Nat) (pre:List (Ent xs)) (x:Ent xs) (a':Act) (W:World),I pre W→Ax x a' W→pre.length < xs.length→body.wpIn (F.inRound l) (n - 1 - 1) Tryz.prog (vbO w.heap.size I Ix (pre ++ [x]) W) a' W)
  (hdone:∀ (W:World),I (fil xs st xs.length) W→W.heap[w.heap.size]?=some (.deferred (some []))→Q .normal { a with defers:={ target:=.collected w.heap.size,args:=#[] } :: a.defers } W)
  (hstop:∀ (k:Nat) (h:k < xs.length) (W:World),xs[k].f0=st→Ix (fil xs st k ++ [qlS xs k h]) W→W.heap[w.heap.size]?=some (.deferred (some []))→Code.ret.wpIn F n Tryz.prog Q { a with defers:={ target:=.collected w.heap.size,args:=#[] } :: a.defers } W) :
  (Code.rangeFunc g ps assign body).wpIn F n Tryz.prog Q a w:=by
 refine wpIn_rangeFunc fun fn hfn=>?_
 rw [hro];have e1:=run_enterLoop_outer (P:=Tryz.prog) (w:=w) fn a.tmps ps assign body
 obtain ⟨R,hR⟩:∃ R:LoopState→Option Code→Loop,R=fun s j=>{ state:=s,pending:=j,fn,tmps:=a.tmps,params:=ps,assign,body,defers:=w.heap.size }:=⟨_,rfl⟩
 have hsz:w.heap.size+1=(w.alloc (.deferred (some []))).heap.size:=by simp
 have d1:qpR w.heap.size (R .ready none) ((w.alloc (.deferred (some []))).alloc (.loop (R .ready none))) :=
  ⟨by rw [hsz];exact World.alloc_heap_new _ _,(Below.heap_alloc _ _ _ (by simp)).trans (World.alloc_heap_new w _)⟩
 have i1:I [] ((w.alloc (.deferred (some []))).alloc (.loop (R .ready none))):=hI.alloc _ (hI.alloc _ h0);have e2:(w.alloc (.deferred (some []))).alloc (.loop (R .ready none))=(w.alloc (.deferred (some []))).alloc (.loop { state:=.ready,pending:=none,fn,tmps:=a.tmps,params:=ps,assign,body,defers:=w.heap.size }):=by rw [hR]
 rw [← e2] at e1;generalize (w.alloc (.deferred (some []))).alloc (.loop (R .ready none))=W1 at e1 d1 i1;clear e2
 refine ⟨w.heap.size+1,_,W1,{ target:=.fn (.func 125) #[.pointer (some ⟨Bs,0,none⟩),.pointer (some ⟨Bt,0,none⟩)],args:=#[.func (.yield (w.heap.size+1)) #[] #[]] },W1,125,
  #[.func (.yield (w.heap.size+1)) #[] #[],.pointer (some ⟨Bs,0,none⟩),.pointer (some ⟨Bt,0,none⟩)],W1,e1,?_,?_,?_,fun _=>by omega,?_⟩
 ·simp only [resolve,hg];simp [go_sem]
 ·intro f' hf';simp [Target.leads] at hf';subst hf';exact hF
 ·have eg:=enters_of (P:=Tryz.prog) (f:=125) Tryz.func125 (by kernel_rfl) rfl;simp [invoke,go_sem,eg]
 ·refine (quD F (n - 1) hF hro (by omega) (w.heap.size+1) Bs Bt st A c xs W1
   (fun pre W=>I pre W∧qpR w.heap.size (R .ready none) W) (fun pre W=>Ix pre W∧qpR w.heap.size (R .done (some .ret)) W)
   (fun pre W o h=>⟨hI.alloc _ h.1,h.2.alloc _⟩) (fun k W' h hj=>hE k W' h hj.1) ?_ hlen (hBs _ _ i1) (fun pre W' h=>hBt pre W' h.1) ⟨i1,d1⟩).mono ?_
  ·rintro pre x W ⟨hi,hd⟩ hl;have hy:=run_yield (P:=Tryz.prog) (args:=vaK x) hd.1 (by rw [hR];exact hps.symm);simp only [hR] at hy;refine ⟨fn,_,assign,body,hy,roundIn_of_wpIn hfn (hassign _ pre x W _ hi fun a' Wa hka hia hax=>?_)⟩;have hda:=hd.keeps hka;refine ⟨_,run_beginRound hda.1 (by rw [hR]),?_⟩;refine wpIn_mono (hbody _ pre x a' _ (hda.own hI (Nat.le_refl _) hia _) ((hAx x a').putObj (s:=()) _ hax (by omega) hda.1 rfl) hl) ?_;have hdb:=hda.put { R .ready none with state:=.busy };rintro e a3 W3 hp
   cases e with
   | normal =>
    obtain ⟨hk3,hi3⟩:=hp;have hd3:=hdb.keeps hk3;have hr:=run_endRound (P:=Tryz.prog) none hd3.1;refine ⟨_,_,hr,.inl ⟨rfl,hd3.own hI (Nat.le_refl _) hi3 _,?_⟩⟩;have:=hd3.put (R .ready none);rw [hR] at this ⊢;exact this
   | ret =>
    obtain ⟨hk3,hi3⟩:=hp;have hd3:=hdb.keeps hk3;have hr:=run_endRound (P:=Tryz.prog) (some .ret) hd3.1;refine ⟨_,_,hr,.inr ⟨rfl,hd3.own hIx (Nat.le_refl _) hi3 _,?_⟩⟩;have:=hd3.put (R .done (some .ret));rw [hR] at this ⊢;exact this
   | exit id=>exact hp.elim
   | goto t=>exact hp.elim
   | panic ch=>exact hp.elim
   | outgrown=>exact hp.elim
  ·rintro e W2 ⟨⟨v,rfl⟩,(⟨ys,rfl,hi,hd⟩|⟨pre,⟨k,hk,hs,rfl⟩,hi,hd⟩)⟩
   ·have he:=run_endLoop (P:=Tryz.prog) hd.1 (by rw [hR];simp);have hp:(R .ready none).pending=none:=by rw [hR]
    rw [hp] at he;refine ⟨none,_,he,hdone _ (hd.own hI (Nat.le_refl _) hi _) (hd.put _).2⟩
   ·have he:=run_endLoop (P:=Tryz.prog) hd.1 (by rw [hR];simp);have hp:(R .done (some .ret)).pending=some .ret:=by rw [hR]
    rw [hp] at he;refine ⟨some .ret,_,he,hstop k hk _ hs (hd.own hIx (Nat.le_refl _) hi _) (hd.put _).2⟩
end
end Go.Proofs.YtdlimghdimkadaaGreatDoor.PAll

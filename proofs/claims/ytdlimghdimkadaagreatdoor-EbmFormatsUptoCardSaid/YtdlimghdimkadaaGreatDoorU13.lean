/- Part 13 of what the law EbmFormats rests on. -/
import Derived.Test.YtdlimghdimkadaaGreatDoorU12
import Derived.Test.YtdlimghdimkadaaGreatDoorU4
import Derived.Test.YtdlimghdimkadaaGreatDoorRows
set_option maxRecDepth 100000
set_option maxHeartbeats 32000000
set_option linter.unusedSimpArgs false
set_option linter.unusedVariables false
namespace Go.Proofs.YtdlimghdimkadaaGreatDoor.PAll
open Go Go.RowKit YtdlimghdimkadaaGreatDoorW.PrintWords YtdlimghdimkadaaGreatDoorW.PrintLast YtdlimghdimkadaaGreatDoorW.PrintMore
attribute [local go_sem] qdG qdE qdY qdX qcJ qcI qdF qdD
section
open Go.Shelf Plain
variable {w0 W W':World} {gm gc gl cl ge ce:Nat} {a a':AC} {m m':AM} {n:Nat} {wr:Int} {g:Geo} {D:Nat→List (List Int)}
theorem MK.drop {s s':List Nat} {w5 w':World} (h1:Below W.heap.size W w5) (h2:MK s' w5 w') (hs:∀ x,x ∈ s'→x ∈ s∨W.heap.size≤x):MK s W w':=fun k cs t fr a b c d hk=>by
 refine h2 k cs t fr a b c (d.imp id fun hn hm=>?_) ((h1.block k (qcG hk)).trans hk)
 rcases hs k hm with h|h
 ·exact hn h
 ·have:=qcG hk;omega
theorem WX.below {gm qm ql qf qt:Nat} {leb tgt:Int} {fs:Bool} (h:WX w0 W gm qm ql qf qt leb tgt fs) (hb:Below W.heap.size W W'):WX w0 W' gm qm ql qf qt leb tgt fs :=
 ⟨qaB h.m hb,qaB h.l hb,qaB h.t hb,qaB h.f hb,h.ef⟩
theorem qbG.worn (h:qbG n (-1) a m D):qpS m.l=(0,0,false)∨∃ (k i:Nat),qpS m.l=((k:Int),(i:Int),true)∧k < m.lebs.length∧i < a.g.B∧(m.l.getD i default).f0=2:=by
 unfold qpS
 by_cases hc:qnQ m.l m.l.length < 0∨qfV m.l m.l.length < 0∨(m.l.getD (qfV m.l m.l.length).toNat default).f1 - (m.l.getD (qnQ m.l m.l.length).toNat default).f1≤8
 ·exact .inl (if_pos hc)
 ·rw [if_neg hc]
  rcases qiC m.l m.l.length with e|⟨p,hp,e,h4⟩
  ·exact absurd (.inl (by rw [e];decide)) hc
  rcases qgV m.l m.l.length with e2|⟨i,hi,e2,h2⟩
  ·exact absurd (.inr (.inl (by rw [e2];decide))) hc
  rw [e,e2,Int.toNat_natCast];have hlen:=h.len
  rcases h.bl p (by omega) (by omega) with ⟨hl,-⟩|⟨k,seq,l2,s,g1,g3,g4,g5,g6⟩
  ·rw [hl] at h4;exact absurd h4 (of_decide_eq_true rfl)
  ·exact .inr ⟨k,i,by rw [g4],g1,by omega,h2⟩
theorem qmA (h:GM w0 W gm gc gl cl ge ce g wr n D):Calls Tryz.prog 96 #[kp gm] W fun x w'=>x=.returned (.int .i64 0)∧Below W.heap.size W w':=by
 obtain ⟨a,m,hM,hG,rfl,rfl⟩:=h;have key:=qdR hM;rw [show qjD a m=0 by unfold qjD;rw [hG.dead,hG.off];rfl] at key;exact key
theorem qjW (h:GM w0 W gm gc gl cl ge ce g wr n D):Calls Tryz.prog 40 #[kp gm] W fun x w'=>x=.returned (.bool false)∧Below W.heap.size W w':=by
 obtain ⟨a,m,hM,hG,rfl,rfl⟩:=h;have h:=qcZ hM;rw [hG.spent.1] at h;exact h
theorem quO (h:GM w0 W gm gc gl cl ge ce g wr (n+2) D) :
  Calls Tryz.prog 36 #[kp gm] W fun x w'=>∃ b:Bool,x=.returned (.tuple #[.bool b,.int .i64 0])∧(∃ D',GM w0 w' gm gc gl cl ge ce g wr n D'∧(D'=D∨∃ k,D'=qlI D k (qyG g.Z (D k))))∧MK [gm,gl,ge] W w':=by
 have H:=aM h;obtain ⟨a,m,hM,hG,hg,hwr⟩:=h;have HA:=aM (show Man w0 W gm gc gl cl ge ce a m∧qbG (n+2) (-1) a m D∧a.g=g∧a.wrong=wr from ⟨hM,hG,hg,hwr⟩);have HWO:=aM (fun (w:World) (hb:Below W.heap.size W w)=>vaU (hM.grow hb) (fun i hi=>by have:=hG.ct i (by rw [← hG.len];exact hi);omega));have hlt0:=HA.out.1.chip.below;have HW0:=aM (qaI hlt0);have HLT:=aM (show gm < W.heap.size∧gl < W.heap.size∧ge < W.heap.size from ⟨qcG hM.c,hM.l.lt,hM.b.lt⟩)
 rcases hG.worn with e|⟨k,i,e,hk,hi,hf⟩
 ·rw [e] at HWO;clear hM hG hg hwr e hlt0;go_enter Tryz.func36,Tryz.ntmps36
  go_upto_region 1 with (fail)
  generalize hW:W.alloc (.cells #[kp gm] 49)=W1;have HB1:=aM (show Below W.heap.size W W1 by rw [← hW];exact qaA (Below.refl _ _) _);have hx1:W1.heap[W.heap.size]?=some (.cells #[kp gm] 49 (0,0)):=by rw [← hW];exact qaM _ _ _
  have y0:=Joins.cell_of_block hx1 0;clear hW hx1
  go_wp2_with (first
   | (go_at_call 96;(with_reducible refine (qmA (H.out.grow HB1.out)).mono ?_);rintro x w2 ⟨rfl,hb⟩;have HB2:=aM (qaC HB1.out hb);have y2:=qaH y0 hb;clear hb)
   | (go_at_call 40;(with_reducible refine (qjW (H.out.grow HB2.out)).mono ?_);rintro x w3 ⟨rfl,hb⟩;have HB3:=aM (qaC HB2.out hb);have y3:=qaH y2 hb;clear hb)
   | (go_at_call 99;(with_reducible refine (HWO.out _ HB3.out).mono ?_);rintro x w4 ⟨rfl,hb⟩;have HB4:=aM (qaC HB3.out hb);clear hb))
  go_ret2;refine ⟨false,rfl,⟨D,(H.out.grow ?_).less (by omega),.inl rfl⟩,MK.of_below ?_⟩
  ·exact qaA (qaA HB4.out _) _
  ·exact qaA (qaA HB4.out _) _
 ·rw [e] at HWO;have HKI:=aM (show k < m.lebs.length∧i < a.g.B∧(m.l.getD i default).f0=2 from ⟨hk,hi,hf⟩);clear hM hG hg hwr e hk hi hf hlt0;go_enter Tryz.func36,Tryz.ntmps36
  go_upto_region 1 with (fail)
  obtain ⟨qm,hqm⟩:∃ qm,qm=W.heap.size:=⟨_,rfl⟩
  generalize hW:W.alloc (.cells #[kp gm] 49)=W1;rw [← hqm];have HB1:=aM (show Below W.heap.size W W1 by rw [← hW];exact qaA (Below.refl _ _) _);have HX1:=aM (show W1.heap[qm]?=some (.cells #[kp gm] 49 (0,0)) by rw [← hW,hqm];exact qaM _ _ _);have HQM:=aM hqm;have y0:=Joins.cell_of_block HX1.out 0;clear hW hqm
  go_upto_region 8 with (first
   | (go_at_call 96;(with_reducible refine (qmA (H.out.grow HB1.out)).mono ?_);rintro x w2 ⟨rfl,hb⟩;have HB2:=aM (qaC HB1.out hb);have HX2:=aM (qaB HX1.out hb);have y2:=qaH y0 hb;clear hb)
   | (go_at_call 40;(with_reducible refine (qjW (H.out.grow HB2.out)).mono ?_);rintro x w3 ⟨rfl,hb⟩;have HB3:=aM (qaC HB2.out hb);have HX3:=aM (qaB HX2.out hb);have y3:=qaH y2 hb;clear hb))
  clear y0 y2
  go_upto_region 9 with (first
   | (go_at_call 99;(with_reducible refine (HWO.out _ HB3.out).mono ?_);rintro x w4 ⟨rfl,hb⟩;have HB4:=aM (qaC HB3.out hb);have HX4:=aM (qaB HX3.out hb);clear hb))
  obtain ⟨ql,hql⟩:∃ ql,ql=w4.heap.size:=⟨_,rfl⟩
  have hqt:(w4.alloc (.cells #[.int .i64 k] 3)).heap.size=ql+1:=by rw [hql];exact Array.size_push ..
  generalize hW5:(w4.alloc (.cells #[.int .i64 k] 3)).alloc (.cells #[.int .i64 i] 3)=W5;have hb5a:Below w4.heap.size w4 (w4.alloc (.cells #[.int .i64 k] 3)):=qaA (Below.refl _ _) _;have hb5:Below w4.heap.size w4 W5:=by rw [← hW5];exact qaA hb5a _
  have HB5:=aM (qaC HB4.out hb5)
  have HL5:=aM (show W5.heap[ql]?=some (.cells #[.int .i64 k] 3 (0,0)) by
   have h1:(w4.alloc (.cells #[.int .i64 k] 3)).heap[ql]?=some (.cells #[.int .i64 k] 3 (0,0)):=by rw [hql];exact qaM _ _ _
   rw [← hW5]
   exact qaB h1 (qaA (Below.refl _ _) _))
  have HT5:=aM (show W5.heap[ql+1]?=some (.cells #[.int .i64 i] 3 (0,0)) by
   rw [← hW5,← hqt]
   exact qaM _ _ _)
  have HM5:=aM (qaB HX4.out hb5);have HQL:=aM (show qm < ql by rw [hql];exact qcG HX4.out);rw [← hql];have y5m:=Joins.cell_of_block HM5.out 0;have y5l:=Joins.cell_of_block HL5.out 0;clear hW5 hqt hql hb5 hb5a y3
  go_upto_region 12 with (fail)
  obtain ⟨qf,hqf⟩:∃ qf,qf=W5.heap.size:=⟨_,rfl⟩
  generalize hW6:W5.alloc (.cells #[.bool true] 4)=W6;rw [← hqf];have hb6:Below W5.heap.size W5 W6:=by rw [← hW6];exact qaA (Below.refl _ _) _
  have HB6:=aM (qaC HB5.out hb6);have HQF:=aM (show ql+1 < qf by rw [hqf];exact qcG HT5.out);have HWX:=aM (show WX w0 W6 gm qm ql qf (ql+1) (k:Int) (i:Int) true from ⟨qaB HM5.out hb6,qaB HL5.out hb6,qaB HT5.out hb6,by rw [← hW6,hqf];exact qaM _ _ _,by have:=HW0.out;have:=HLT.out;have:=HQM.out;have:=HQL.out;have:=HQF.out;omega⟩)
  have HWA:=aM (show WA W6 gm gl ge qm ql qf (ql+1) from by
   have h1:=HLT.out;have h2:=HQM.out;have h3:=HQL.out;have h4:=HQF.out
   refine ⟨by omega,?_,?_,?_⟩ <;> (simp only [List.mem_cons,List.not_mem_nil,or_false];omega))
  clear y5m y5l hW6 hb6 hqf;have y6m:=Joins.cell_of_block HWX.out.m 0;have y6l:=Joins.cell_of_block HWX.out.l 0
  have HUS:=aM (fun (w:World) (hb:Below W6.heap.size W6 w)=>(show Calls Tryz.prog 27 #[kp gm,.int .i64 k] w (fun z w'=>z=.returned (.int .i64 (D k).length)∧Below w.heap.size w w') from by
   have h:=qeR (HA.out.1.grow (qaC HB6.out hb)) HA.out.2.1.ok (k:Int);rw [(HA.out.2.1.blk HKI.out.1).1] at h
   exact h))
  have HMV:=aM (fun (w:World) (hb:Below W6.heap.size W6 w)=>qpT (HA.out.1.grow (qaC HB6.out hb)) HA.out.2.1 k HKI.out.1 i HKI.out.2.1 HKI.out.2.2 (HWX.out.below hb) ⟨HWA.out.f,HWA.out.l,HWA.out.t,HWA.out.b⟩);refine Rel.tail (m:=7) [(0,27,.inl ?r1v0),(1,28,.inl ?r1v1),(2,29,.inl ?r1v2),(3,30,.inl ?r1v3),(4,31,.inl ?r1v4),(5,32,.inl ?r1v5),(6,33,.inl ?r1v6)] (fun w'=>Below W6.heap.size W6 w') (fun _ _=>True) (by rfl) rfl (by kernel_rfl) (by kernel_rfl) (by kernel_rfl) ?r1S (Rel.stable_inl (Rel.stable_inl (Rel.stable_inl (Rel.stable_inl (Rel.stable_inl (Rel.stable_inl (Rel.stable_inl Rel.stable_nil))))))) ?r1steps ?r1okv ?r1hlt ?r1fin;case r1S=>exact qaO (Below.refl _ _)
  case r1steps =>
   refine Rel.from_some 0 rfl rfl (fun a w hS hK K hC=>?_) ?_
   ·refine Reg.sO ?_;have e1:=hK.off 1 _ rfl rfl;have z0:=qaH y6m hS;have z1:=qaH y6l hS;clear hK;go_simp;exact hC _ hS trivial
   refine Rel.from_some 1 rfl rfl (fun a w hS hK K hC=>?_) ?_
   ·refine Reg.sO ?_;have e5:=hK.off 5 _ rfl rfl;have z0:=qaH y6m hS;have z1:=qaH y6l hS;clear hK;go_simp;exact hC _ hS trivial
   refine Rel.from_some 2 rfl rfl (fun a w hS hK K hC=>?_) ?_
   ·refine Reg.sO ?_;have e1:=hK.off 1 _ rfl rfl;have z0:=qaH y6m hS;have z1:=qaH y6l hS;clear hK;go_simp;exact hC _ hS trivial
   refine Rel.from_some 3 rfl rfl (fun a w hS hK K hC=>?_) ?_
   ·refine Reg.sO ?_;have e5:=hK.off 5 _ rfl rfl;have z0:=qaH y6m hS;have z1:=qaH y6l hS;clear hK;go_simp;exact hC _ hS trivial
   refine Rel.from_some 4 rfl rfl (fun a w hS hK K hC=>?_) ?_
   ·refine Reg.sO ?_;have e29:=hK.sl 2 rfl;have e30:=hK.sl 3 rfl;clear hK;go_simp;go_at_call 27;(with_reducible refine (HUS.out w hS).mono ?_);rintro e w' ⟨rfl,hb⟩;exact hC w' (qaC hS hb) trivial
   refine Rel.from_some 5 rfl rfl (fun a w hS hK K hC=>?_) ?_
   ·refine Reg.sO ?_;have e1:=hK.off 1 _ rfl rfl;have e5:=hK.off 5 _ rfl rfl;clear hK;go_simp;exact hC _ hS trivial
   refine Rel.from_some 6 rfl rfl (fun a w hS hK K hC=>?_) ?_
   ·refine Reg.sO ?_;have e8:=hK.off 8 _ rfl rfl;have e6:=hK.off 6 _ rfl rfl;have e1:=hK.off 1 _ rfl rfl;clear hK;go_simp;exact hC _ hS trivial
   exact Rel.from_nil
  case r1okv=>rfl
  case r1hlt=>rfl
  case r1fin =>
   intro U wz hS hU;clear hU;simp only [Rel.inst,Nat.zero_add,Reg.putV,List.foldl_cons,List.foldl_nil,Act.put,List.setIfInBounds_toArray,List.set_cons_zero,List.set_cons_succ];have HSZ:=aM hS;clear hS;refine Rel.tail_cons (fun K hK=>?_);refine Reg.sO ?_;go_simp
   (go_at_call 93;(with_reducible refine (HMV.out _ HSZ.out).mono ?_);rintro x w8 ⟨rfl,hm8,hk8⟩;have HM8:=aM hm8;have HK8:=aM ((MK.of_below HSZ.out).trans hk8);clear hm8 hk8)
   refine hK _ _ ?_;clear hK;refine Rel.tail_cons (fun K hK=>?_);refine Reg.sO ?_;go_simp;refine hK _ _ ?_;clear hK;refine Rel.tail_nil ?_
   go_upto_region 13 with (fail)
   refine Reg.det [(0,35,?r2v0),(1,36,?r2v1),(2,37,?r2v2),(3,38,?r2v3),(4,2,?r2v4),(5,3,?r2v5)] (fun w'=>Below w8.heap.size w8 w') (by rfl) rfl (by kernel_rfl) ?r2S ?r2steps ?r2okv ?r2hlt ?r2fin;case r2S=>exact qaO (Below.refl _ _)
   case r2steps =>
    refine Reg.fS 0 rfl rfl (fun a w hS hK K hC=>?_) ?_
    ·refine Reg.sO ?_;have e9:=hK.off 9 _ rfl rfl;clear hK;go_simp;exact hC _ hS
    refine Reg.fS 1 rfl rfl (fun a w hS hK K hC=>?_) ?_
    ·refine Reg.sO ?_;have e35:=hK.sl 0 rfl;clear hK;go_simp;exact hC _ hS
    refine Reg.fS 2 rfl rfl (fun a w hS hK K hC=>?_) ?_
    ·refine Reg.sO ?_;have e9:=hK.off 9 _ rfl rfl;clear hK;go_simp;exact hC _ hS
    refine Reg.fS 3 rfl rfl (fun a w hS hK K hC=>?_) ?_
    ·refine Reg.sO ?_;have e37:=hK.sl 2 rfl;clear hK;go_simp;go_at_call 89;(with_reducible refine (qqY w).mono ?_);rintro e w' ⟨rfl,hb⟩;exact hC w' (qaC hS hb)
    refine Reg.fS 4 rfl rfl (fun a w hS hK K hC=>?_) ?_
    ·refine Reg.sO ?_;have e36:=hK.sl 1 rfl;clear hK;go_simp;exact hC _ hS
    refine Reg.fS 5 rfl rfl (fun a w hS hK K hC=>?_) ?_
    ·refine Reg.sO ?_;have e38:=hK.sl 3 rfl;clear hK;go_simp;exact hC _ hS
    exact Reg.from_nil
   case r2okv=>rfl
   case r2hlt=>rfl
   case r2fin =>
    intro wz hS;simp only [Reg.putV,List.foldl_cons,List.foldl_nil,Act.put,List.setIfInBounds_toArray,List.set_cons_zero,List.set_cons_succ];have HB9:=aM hS;clear hS;go_wp2;go_ret2;obtain ⟨a',m',h1,h2,h3,h4⟩:=HM8.out;refine ⟨true,rfl,⟨_,⟨a',m',h1.grow HB9.out,h2,h3.trans HA.out.2.2.1,h4.trans HA.out.2.2.2⟩,.inr ⟨k,by rw [HA.out.2.2.1]⟩⟩,?_⟩;refine MK.drop HB6.out (HK8.out.trans (MK.of_below HB9.out)) (fun x hx=>?_);have q1:=HQM.out;have q2:=HQL.out;have q3:=HQF.out;simp only [List.mem_cons,List.not_mem_nil,or_false] at hx ⊢;omega
end
section
open Go.Shelf Plain
variable {w0 W W':World} {gm gc gl cl ge ce:Nat} {a a':AC} {m m':AM} {n:Nat} {wr:Int} {g:Geo} {D:Nat→List (List Int)}
theorem qcY.of_C {s:List Nat} {A:Option Addr} {xss:List (List Int)} (hl:xss.length≤1000) (hr:Kd.C kPs w0 A xss.length xss):qcY s w0 W A xss:=by
 refine ⟨hl,fun j hj=>?_⟩
 have key:∀ {w':World},Below w0.heap.size w0 w'→∃ (ad:Addr) (Aj:Option Addr) (cj:Nat),A=some ad∧w'.cell? (ad.add j)=some (.slice Aj (xss.getD j []).length cj)∧(xss.getD j []).length≤cj∧Kd.C kB w' Aj (xss.getD j []).length (xss.getD j []):=by
  intro w' hb;obtain ⟨ad,cs,e0,-,⟨Aj,cj,rfl,hlj,hj2⟩,hc⟩:=Kd.C_get (Kd.C_below hr hb) [] (j:Int) (by omega) (by omega);rw [Int.toNat_natCast] at hlj hj2 hc;have h4:=hc 0 _ rfl;simp only [Kd.slice,Nat.mul_one,Nat.add_zero] at h4;exact ⟨ad,Aj,cj,e0,h4,hlj,hj2⟩
 obtain ⟨ad,Aj,cj,h1,h2,h3,-⟩:=key (Below.refl w0.heap.size w0);refine ⟨ad,Aj,cj,h1,h3,fun w' hb _=>?_⟩;obtain ⟨ad',Aq,cq,k1,k2,k3,k4⟩:=key hb;rw [h1] at k1;obtain rfl:ad=ad':=Option.some.inj k1;have hcell:w'.cell? (ad.add j)=w0.cell? (ad.add j):=by rw [h2];exact qaH h2 hb
 rw [hcell,h2] at k2;simp only [Option.some.injEq,Value.slice.injEq,true_and] at k2;obtain ⟨rfl,rfl⟩:=k2;exact ⟨hcell.trans h2,k4⟩
def veU (w0 W:World) (gm gc gl cl ge ce:Nat) (g:Geo) (wr:Int) (n:Nat) (e:Int) (w':World):Prop:=(∃ D',GM w0 w' gm gc gl cl ge ce g wr n D')∧MK [gm,gl,ge] W w'
theorem quM (h:GM w0 W gm gc gl cl ge ce g wr (n+1) D) (leb:Int) (A:Option Addr) (c:Nat) (x:List Int) (hc:x.length≤c) (hx:∀ w',Below w0.heap.size w0 w'→MK [gm,gl,ge] W w'→Kd.C kB w' A x.length x) (hxb:qbA x) :
  Calls Tryz.prog 25 #[kp gm,.int .i64 leb,.slice A x.length c] W fun z w'=>∃ e:Int,z=.returned (.int .i64 e)∧veU w0 W gm gc gl cl ge ce g wr n e w':=by
 have h0:=h;obtain ⟨a,m,hM,hG,rfl,rfl⟩:=h;have hnl:m.lebs.length=qeM a.g:=by have:=hG.lbs;have:=(qcW hG.rg).1;omega
 have hgP:=hG.gok.2.1
 by_cases hr:qbS a m leb [x]=0
 ·have hin:0≤leb∧leb < (m.lebs.length:Int)∧x.length≤a.g.Z:=by
   unfold qbS at hr
   by_cases hc2:leb < 0∨(m.lebs.length:Int)≤leb∨(a.g.P:Int) - 2 < ([x]:List (List Int)).length∨qnR a.g.Z [x]=true
   ·rw [if_pos hc2] at hr;exact absurd hr (by decide)
   ·refine ⟨by omega,by omega,?_⟩
    by_cases hz:x.length≤a.g.Z
    ·exact hz
    ·exact absurd (.inr (.inr (.inr (by unfold qnR;simp;omega)))) hc2
  obtain ⟨k,rfl⟩:∃ k:Nat,leb=(k:Int):=⟨leb.toNat,by omega⟩
  by_cases hd:(D k).length+2 < a.g.P
  ·refine (qiN h0 k (by omega) A c x hc hx hd hin.2.2 hxb).mono ?_;rintro z w' ⟨rfl,h1,h2⟩;exact ⟨0,rfl,⟨_,h1⟩,h2⟩
  ·refine (qsJ h0 k (by omega) A c x hc hx (by omega) hin.2.2).mono ?_;rintro z w' ⟨rfl,hb⟩;exact ⟨28,rfl,⟨D,(h0.grow hb).less (by omega)⟩,MK.of_below hb⟩
 ·refine (qxI hM leb A c x hc hx hr).mono ?_;rintro z w' ⟨rfl,hb⟩;exact ⟨_,rfl,⟨D,(h0.grow hb).less (by omega)⟩,MK.of_below hb⟩
theorem quQ (h:GM w0 W gm gc gl cl ge ce g wr (n+1) D) (leb:Int) :
  Calls Tryz.prog 37 #[kp gm,.int .i64 leb] W fun z w'=>∃ e:Int,z=.returned (.int .i64 e)∧veU w0 W gm gc gl cl ge ce g wr n e w':=by
 have h0:=h;obtain ⟨a,m,hM,hG,rfl,rfl⟩:=h;have hnl:m.lebs.length=qeM a.g:=by have:=hG.lbs;have:=(qcW hG.rg).1;omega
 by_cases hr:qbS a m leb []=0
 ·have hin:0≤leb∧leb < (m.lebs.length:Int):=by
   unfold qbS at hr
   by_cases hc2:leb < 0∨(m.lebs.length:Int)≤leb∨(a.g.P:Int) - 2 < ([]:List (List Int)).length∨qnR a.g.Z []=true
   ·rw [if_pos hc2] at hr;exact absurd hr (by decide)
   ·exact ⟨by omega,by omega⟩
  obtain ⟨k,rfl⟩:∃ k:Nat,leb=(k:Int):=⟨leb.toNat,by omega⟩
  refine (qlW h0 k (by omega)).mono ?_;rintro z w' ⟨rfl,h1,h2⟩;exact ⟨0,rfl,⟨_,h1⟩,h2⟩
 ·refine (qxJ hM leb hr).mono ?_;rintro z w' ⟨rfl,hb⟩;exact ⟨_,rfl,⟨D,(h0.grow hb).less (by omega)⟩,MK.of_below hb⟩
theorem qsO (h:Man w0 W gm gc gl cl ge ce a m) (leb:Int) (A:Option Addr) (q c:Nat) (hq:(a.g.P:Int) - 2 < q):Calls Tryz.prog 90 #[kp gm,.int .i64 leb,.slice A q c] W fun x w'=>x=.returned (.int .i64 22)∧Below W.heap.size W w':=by
 have H:=aM h;have d2:decide ((a.g.P:Int) - 2 < (q:Int))=true:=decide_eq_true hq;have d2n:((a.g.P:Int) - 2 < (q:Int))=True:=eq_true hq;clear h hq
 by_cases h1:leb < 0
 ·have d0:decide (leb < 0)=true:=decide_eq_true h1;have d0n:(leb < 0)=True:=eq_true h1;clear h1;go_enter Tryz.func90,Tryz.ntmps90
  go_upto_region 1 with (fail)
  generalize hW:W.alloc (.cells #[kp gm] 49)=W1;have HB1:=aM (show Below W.heap.size W W1 by rw [← hW];exact qaA (Below.refl _ _) _);have hab:W1.cell? ⟨W.heap.size,0,none⟩=some (kp gm):=by rw [← hW];exact Joins.cell_of_block (qaM _ _ _) 0
  clear hW;go_wp2;go_ret;exact ⟨rfl,HB1.out⟩
 have d0:decide (leb < 0)=false:=decide_eq_false h1;have d0n:(leb < 0)=False:=eq_false h1
 by_cases h2:(m.lebs.length:Int)≤leb
 ·have d1:decide ((m.lebs.length:Int)≤leb)=true:=decide_eq_true h2;have d1n:((m.lebs.length:Int)≤leb)=True:=eq_true h2;clear h1 h2;go_enter Tryz.func90,Tryz.ntmps90
  go_upto_region 1 with (fail)
  generalize hW:W.alloc (.cells #[kp gm] 49)=W1;have hb1:Below W.heap.size W W1:=by rw [← hW];exact qaA (Below.refl _ _) _
  have HB1:=aM hb1;have hab:W1.cell? ⟨W.heap.size,0,none⟩=some (kp gm):=by rw [← hW];exact Joins.cell_of_block (qaM _ _ _) 0
  have y6:W1.cell? ⟨gm,6,none⟩=some (.slice (some ⟨ge,0,none⟩) m.lebs.length ce):=(H.out.grow hb1).cell 6;clear hW hb1;go_wp2;go_ret;exact ⟨rfl,HB1.out⟩
 have d1:decide ((m.lebs.length:Int)≤leb)=false:=decide_eq_false h2;have d1n:((m.lebs.length:Int)≤leb)=False:=eq_false h2;clear h1 h2;go_enter Tryz.func90,Tryz.ntmps90
 go_upto_region 1 with (fail)
 generalize hW:W.alloc (.cells #[kp gm] 49)=W1;have hb1:Below W.heap.size W W1:=by rw [← hW];exact qaA (Below.refl _ _) _
 have HB1:=aM hb1;have hab:W1.cell? ⟨W.heap.size,0,none⟩=some (kp gm):=by rw [← hW];exact Joins.cell_of_block (qaM _ _ _) 0
 have H1:=aM (H.out.grow hb1);have y6:W1.cell? ⟨gm,6,none⟩=some (.slice (some ⟨ge,0,none⟩) m.lebs.length ce):=H1.out.cell 6;clear hW hb1
 go_wp2_with (first
  | (go_at_call 26;(with_reducible refine (qcO H1.out).mono ?_);rintro x w2 ⟨rfl,hb2⟩;have HB2:=aM (qaC HB1.out hb2);clear hb2))
 go_ret;exact ⟨rfl,HB2.out⟩
theorem qqS (h:Man w0 W gm gc gl cl ge ce a m) (leb:Int) (A:Option Addr) (q c:Nat) (hq:(a.g.P:Int) - 2 < q):Calls Tryz.prog 28 #[kp gm,.int .i64 leb,.slice A q c] W fun x w'=>x=.returned (.int .i64 22)∧Below W.heap.size W w':=by
 have HRD:=aM (fun (w:World) (hb:Below W.heap.size W w)=>qsO (h.grow hb) leb A q c hq);clear h hq;go_enter Tryz.func28,Tryz.ntmps28
 go_upto_region 1 with (fail)
 generalize hW:W.alloc (.cells #[.slice A q c] 55)=W1;have HB1:=aM (show Below W.heap.size W W1 by rw [← hW];exact qaA (Below.refl _ _) _);have y0:W1.cell? ⟨W.heap.size,0,none⟩=some (.slice A q c):=by rw [← hW];exact Joins.cell_of_block (qaM _ _ _) 0
 clear hW
 go_wp2_with (first
  | (go_at_call 90;(with_reducible refine (HRD.out _ HB1.out).mono ?_);rintro z w1 ⟨rfl,hb1⟩;have HB2:=aM (qaC HB1.out hb1);clear hb1))
 go_ret;exact ⟨rfl,HB2.out⟩
theorem quB (h:GM w0 W gm gc gl cl ge ce g wr (n+2) D) (leb:Int) (A:Option Addr) (c:Nat) (xss:List (List Int)) (hc:xss.length≤c) (hr0:Kd.C kPs w0 A xss.length xss) (hxb:∀ x,x ∈ xss→qbA x) :
  Calls Tryz.prog 28 #[kp gm,.int .i64 leb,.slice A xss.length c] W fun z w'=>∃ e:Int,z=.returned (.int .i64 e)∧veU w0 W gm gc gl cl ge ce g wr n e w':=by
 have h0:=h;obtain ⟨a,m,hM,hG,rfl,rfl⟩:=h;have hnl:m.lebs.length=qeM a.g:=by have:=hG.lbs;have:=(qcW hG.rg).1;omega
 have hgP:=hG.gok.2.1
 by_cases hlong:(a.g.P:Int) - 2 < (xss.length:Int)
 ·refine (qqS hM leb A xss.length c hlong).mono ?_;rintro z w' ⟨rfl,hb⟩;exact ⟨22,rfl,⟨D,(h0.grow hb).less (by omega)⟩,MK.of_below hb⟩
 have hp:qcY [gm,gl,ge] w0 W A xss:=qcY.of_C (by omega) hr0
 by_cases hr:qbS a m leb xss=0
 ·have hin:0≤leb∧leb < (m.lebs.length:Int)∧qnR a.g.Z xss=false:=by
   unfold qbS at hr
   by_cases hc2:leb < 0∨(m.lebs.length:Int)≤leb∨(a.g.P:Int) - 2 < xss.length∨qnR a.g.Z xss=true
   ·rw [if_pos hc2] at hr;exact absurd hr (by decide)
   ·refine ⟨by omega,by omega,?_⟩
    cases hb:qnR a.g.Z xss with
    | false=>rfl
    | true=>exact absurd (.inr (.inr (.inr hb))) hc2
  obtain ⟨k,rfl⟩:∃ k:Nat,leb=(k:Int):=⟨leb.toNat,by omega⟩
  refine (qlC h0 k (by omega) A c xss hc hp (by omega) (fun x hx=>?_) hxb).mono ?_
  ·have:=hin.2.2;unfold qnR at this;rw [List.any_eq_false] at this;have:=this x hx;simp only [decide_eq_true_eq] at this;omega
  ·rintro z w' ⟨rfl,h1,h2⟩;exact ⟨0,rfl,⟨_,h1⟩,h2⟩
 ·refine (quJ hM leb A c xss hc hp hr).mono ?_;rintro z w' ⟨rfl,hb⟩;exact ⟨_,rfl,⟨D,(h0.grow hb).less (by omega)⟩,MK.of_below hb⟩
end
section
open Go.Shelf Plain
variable {w0 W W':World} {gm gc gl cl ge ce:Nat} {a a':AC} {m m':AM} {n:Nat} {wr:Int} {g:Geo} {D:Nat→List (List Int)}
theorem qzL (h:GM w0 W gm gc gl cl ge ce g wr (n+2) D) (kd leb:Int) (h5:¬ kd=5) (A1 A2:Option Addr) (c1 c2:Nat) (x:List Int) (xss:List (List Int)) (hc1:x.length≤c1) (hx:∀ w',Below w0.heap.size w0 w'→Kd.C kB w' A1 x.length x) (hxb:qbA x) (hc2:xss.length≤c2) (hp:Kd.C kPs w0 A2 xss.length xss) (hpb:∀ y,y ∈ xss→qbA y) :
  Calls Tryz.prog 33 #[kp gm,.agg #[.int .i64 kd,.int .i64 leb,.slice A1 x.length c1,.slice A2 xss.length c2]] W fun z w'=>∃ v:Value,z=.returned v∧veU w0 W gm gc gl cl ge ce g wr n 0 w':=by
 have H:=aM h;have HC1:=aM hc1;have HX:=aM hx;have HXB:=aM hxb;have HC2:=aM hc2;have HP:=aM hp;have HPB:=aM hpb;have hu63:=Tryz.underlying63
 by_cases k1:kd=1
 ·have e1:(kd==1)=true:=by simp only [beq_iff_eq];exact k1
  clear h hx hc1 hc2 hxb hp hpb h5 k1;go_enter Tryz.func33,Tryz.ntmps33
  go_upto_region 1 with (fail)
  generalize hW:W.alloc (.cells #[.int .i64 kd,.int .i64 leb,.slice A1 x.length c1,.slice A2 xss.length c2] 63)=W1
  obtain ⟨g0,hg0⟩:∃ g0,g0=W.heap.size:=⟨_,rfl⟩
  rw [← hg0];have HB1:=aM (show Below W.heap.size W W1 by rw [← hW];exact qaA (Below.refl _ _) _);have hx1:W1.heap[g0]?=some (.cells #[.int .i64 kd,.int .i64 leb,.slice A1 x.length c1,.slice A2 xss.length c2] 63 (0,0)):=by rw [← hW,hg0];exact qaM _ _ _
  have y0:=Joins.cell_of_block hx1 0;have y1:=Joins.cell_of_block hx1 1;have y2:=Joins.cell_of_block hx1 2;have y3:=Joins.cell_of_block hx1 3;clear hW hx1 hg0
  go_wp2_with (first
   | (go_at_call 25;(with_reducible refine (quM (n:=n+1) (H.out.grow HB1.out) leb A1 c1 x HC1.out (fun w' hb _=>HX.out w' hb) HXB.out).mono ?_);rintro z w2 ⟨e,rfl,hd⟩;have HD:=aM hd;clear hd))
  go_ret2;exact ⟨_,rfl,by obtain ⟨D',h1⟩:=HD.out.1;exact ⟨D',h1.less (by omega)⟩,(MK.of_below HB1.out).trans HD.out.2⟩
 by_cases k2:kd=2
 ·have e1:(kd==1)=false:=by simp only [beq_eq_false_iff_ne];exact k1
  have e2:(kd==2)=true:=by simp only [beq_iff_eq];exact k2
  clear h hx hc1 hc2 hxb hp hpb h5 k1 k2;go_enter Tryz.func33,Tryz.ntmps33
  go_upto_region 1 with (fail)
  generalize hW:W.alloc (.cells #[.int .i64 kd,.int .i64 leb,.slice A1 x.length c1,.slice A2 xss.length c2] 63)=W1
  obtain ⟨g0,hg0⟩:∃ g0,g0=W.heap.size:=⟨_,rfl⟩
  rw [← hg0];have HB1:=aM (show Below W.heap.size W W1 by rw [← hW];exact qaA (Below.refl _ _) _);have hx1:W1.heap[g0]?=some (.cells #[.int .i64 kd,.int .i64 leb,.slice A1 x.length c1,.slice A2 xss.length c2] 63 (0,0)):=by rw [← hW,hg0];exact qaM _ _ _
  have y0:=Joins.cell_of_block hx1 0;have y1:=Joins.cell_of_block hx1 1;have y2:=Joins.cell_of_block hx1 2;have y3:=Joins.cell_of_block hx1 3;clear hW hx1 hg0
  go_wp2_with (first
   | (go_at_call 37;(with_reducible refine (quQ (n:=n+1) (H.out.grow HB1.out) leb).mono ?_);rintro z w2 ⟨e,rfl,hd⟩;have HD:=aM hd;clear hd))
  go_ret2;exact ⟨_,rfl,by obtain ⟨D',h1⟩:=HD.out.1;exact ⟨D',h1.less (by omega)⟩,(MK.of_below HB1.out).trans HD.out.2⟩
 by_cases k3:kd=3
 ·have e1:(kd==1)=false:=by simp only [beq_eq_false_iff_ne];exact k1
  have e2:(kd==2)=false:=by simp only [beq_eq_false_iff_ne];exact k2
  have e3:(kd==3)=true:=by simp only [beq_iff_eq];exact k3
  clear h hx hc1 hc2 hxb hp hpb h5 k1 k2 k3;go_enter Tryz.func33,Tryz.ntmps33
  go_upto_region 1 with (fail)
  generalize hW:W.alloc (.cells #[.int .i64 kd,.int .i64 leb,.slice A1 x.length c1,.slice A2 xss.length c2] 63)=W1
  obtain ⟨g0,hg0⟩:∃ g0,g0=W.heap.size:=⟨_,rfl⟩
  rw [← hg0];have HB1:=aM (show Below W.heap.size W W1 by rw [← hW];exact qaA (Below.refl _ _) _);have hx1:W1.heap[g0]?=some (.cells #[.int .i64 kd,.int .i64 leb,.slice A1 x.length c1,.slice A2 xss.length c2] 63 (0,0)):=by rw [← hW,hg0];exact qaM _ _ _
  have y0:=Joins.cell_of_block hx1 0;have y1:=Joins.cell_of_block hx1 1;have y2:=Joins.cell_of_block hx1 2;have y3:=Joins.cell_of_block hx1 3;clear hW hx1 hg0
  go_wp2_with (first
   | (go_at_call 28;(with_reducible refine (quB (H.out.grow HB1.out) leb A2 c2 xss HC2.out HP.out HPB.out).mono ?_);rintro z w2 ⟨e,rfl,hd⟩;have HD:=aM hd;clear hd))
  go_ret2;exact ⟨_,rfl,HD.out.1,(MK.of_below HB1.out).trans HD.out.2⟩
 by_cases k4:kd=4
 ·have e1:(kd==1)=false:=by simp only [beq_eq_false_iff_ne];exact k1
  have e2:(kd==2)=false:=by simp only [beq_eq_false_iff_ne];exact k2
  have e3:(kd==3)=false:=by simp only [beq_eq_false_iff_ne];exact k3
  have e4:(kd==4)=true:=by simp only [beq_iff_eq];exact k4
  clear h hx hc1 hc2 hxb hp hpb h5 k1 k2 k3 k4;go_enter Tryz.func33,Tryz.ntmps33
  go_upto_region 1 with (fail)
  generalize hW:W.alloc (.cells #[.int .i64 kd,.int .i64 leb,.slice A1 x.length c1,.slice A2 xss.length c2] 63)=W1
  obtain ⟨g0,hg0⟩:∃ g0,g0=W.heap.size:=⟨_,rfl⟩
  rw [← hg0];have HB1:=aM (show Below W.heap.size W W1 by rw [← hW];exact qaA (Below.refl _ _) _);have hx1:W1.heap[g0]?=some (.cells #[.int .i64 kd,.int .i64 leb,.slice A1 x.length c1,.slice A2 xss.length c2] 63 (0,0)):=by rw [← hW,hg0];exact qaM _ _ _
  have y0:=Joins.cell_of_block hx1 0;have y1:=Joins.cell_of_block hx1 1;have y2:=Joins.cell_of_block hx1 2;have y3:=Joins.cell_of_block hx1 3;clear hW hx1 hg0
  go_wp2_with (first
   | (go_at_call 36;(with_reducible refine (quO (H.out.grow HB1.out)).mono ?_);rintro z w2 ⟨b,rfl,hd,hk⟩;have HD:=aM (show veU w0 W1 gm gc gl cl ge ce g wr n 0 w2 from ⟨by obtain ⟨D',h1,-⟩:=hd;exact ⟨D',h1⟩,hk⟩);clear hd hk))
  go_ret2;exact ⟨_,rfl,HD.out.1,(MK.of_below HB1.out).trans HD.out.2⟩
 have e1:(kd==1)=false:=by simp only [beq_eq_false_iff_ne];exact k1
 have e2:(kd==2)=false:=by simp only [beq_eq_false_iff_ne];exact k2
 have e3:(kd==3)=false:=by simp only [beq_eq_false_iff_ne];exact k3
 have e4:(kd==4)=false:=by simp only [beq_eq_false_iff_ne];exact k4
 have e5:(kd==5)=false:=by simp only [beq_eq_false_iff_ne];exact h5
 clear h hx hc1 hc2 hxb hp hpb h5 k1 k2 k3 k4;go_enter Tryz.func33,Tryz.ntmps33
 go_upto_region 1 with (fail)
 generalize hW:W.alloc (.cells #[.int .i64 kd,.int .i64 leb,.slice A1 x.length c1,.slice A2 xss.length c2] 63)=W1
 obtain ⟨g0,hg0⟩:∃ g0,g0=W.heap.size:=⟨_,rfl⟩
 rw [← hg0];have HB1:=aM (show Below W.heap.size W W1 by rw [← hW];exact qaA (Below.refl _ _) _);have hx1:W1.heap[g0]?=some (.cells #[.int .i64 kd,.int .i64 leb,.slice A1 x.length c1,.slice A2 xss.length c2] 63 (0,0)):=by rw [← hW,hg0];exact qaM _ _ _
 have y0:=Joins.cell_of_block hx1 0;have y1:=Joins.cell_of_block hx1 1;have y2:=Joins.cell_of_block hx1 2;have y3:=Joins.cell_of_block hx1 3;clear hW hx1 hg0;go_wp2;go_ret2;exact ⟨_,rfl,⟨D,(H.out.grow HB1.out).less (by omega)⟩,MK.of_below HB1.out⟩
end
section
open Go.Shelf Plain
variable {w0 W W':World} {gm gc gl cl ge ce:Nat} {a a':AC} {m m':AM} {n:Nat} {wr:Int} {g:Geo} {D:Nat→List (List Int)}
end
section
open Go.Shelf Plain Opens
variable {w0 W W':World} {gm gc gl cl ge ce:Nat} {a a':AC} {m m':AM} {n:Nat} {wr:Int} {g:Geo} {D:Nat→List (List Int)}
end
section
open Go.Shelf Plain Opens
variable {w0 W W':World} {gm gc gl cl ge ce:Nat} {a a':AC} {m m':AM} {n:Nat} {wr:Int} {g:Geo} {D:Nat→List (List Int)}
structure Op9 where
 k:Int
 b:Int
 d:List Int
 ps:List (List Int)
def zO9:Op9:=⟨0,0,[],[]⟩
def kO9:Kd Op9:=Kd.iso (Kd.pair (Kd.int .i64) (Kd.pair (Kd.int .i64) (Kd.pair (Kd.slice 5 kB) (Kd.slice 35 kPs)))) (fun x:Op9=>(x.k,x.b,x.d,x.ps))
theorem qyV {w:World} {x:Op9} {cs:List Value} (h:kO9.K w x cs):∃ A3 c3 A4 c4,cs=[.int .i64 x.k,.int .i64 x.b,.slice A3 x.d.length c3,.slice A4 x.ps.length c4]∧x.d.length≤c3∧kB.C w A3 x.d.length x.d∧x.ps.length≤c4∧kPs.C w A4 x.ps.length x.ps:=by
 obtain ⟨_,_,rfl,rfl,⟨_,_,rfl,rfl,⟨_,_,rfl,⟨A3,c3,rfl,l3,g3⟩,⟨A4,c4,rfl,l4,g4⟩⟩⟩⟩:=h;exact ⟨A3,c3,A4,c4,rfl,l3,g3,l4,g4⟩
theorem vfV {w:World} {A:Option Addr} {n:Nat} {xs:List Op9} (h:Kd.C kO9 w A n xs) (i:Int) (h0:0≤i) (h1:i < n):∃ ad A3 c3 A4 c4,A=some ad∧w.cell? (ad.add (i.toNat*4))=some (.int .i64 (xs.getD i.toNat zO9).k)∧w.cell? ⟨(ad.add (i.toNat*4)).block,(ad.add (i.toNat*4)).off+1,none⟩=some (.int .i64 (xs.getD i.toNat zO9).b)∧w.cell? ⟨(ad.add (i.toNat*4)).block,(ad.add (i.toNat*4)).off+2,none⟩=some (.slice A3 (xs.getD i.toNat zO9).d.length c3)∧w.cell? ⟨(ad.add (i.toNat*4)).block,(ad.add (i.toNat*4)).off+3,none⟩=some (.slice A4 (xs.getD i.toNat zO9).ps.length c4)∧(xs.getD i.toNat zO9).d.length≤c3∧kB.C w A3 (xs.getD i.toNat zO9).d.length (xs.getD i.toNat zO9).d∧(xs.getD i.toNat zO9).ps.length≤c4∧kPs.C w A4 (xs.getD i.toNat zO9).ps.length (xs.getD i.toNat zO9).ps:=by
 obtain ⟨ad,c,e,_,hK,hc0⟩:=Kd.C_get h zO9 i h0 h1;have hc:∀ j u,c[j]?=some u→w.cell? (ad.add (i.toNat*4+j))=some u:=hc0;obtain ⟨A3,c3,A4,c4,rfl,l3,g3,l4,g4⟩:=qyV hK;exact ⟨ad,A3,c3,A4,c4,e,hc 0 _ rfl,by rw [← qdC _ _ 1 (by omega)];exact hc 1 _ rfl,by rw [← qdC _ _ 2 (by omega)];exact hc 2 _ rfl,by rw [← qdC _ _ 3 (by omega)];exact hc 3 _ rfl,l3,g3,l4,g4⟩
def B9 (o:Op9):Prop:=qbA o.d∧∀ y,y ∈ o.ps→qbA y
theorem oYss:Opens Tryz.prog 55 (Kd.slice 35 kPs) (fun l=>∀ y,y ∈ l→qbA y) :=
 Opens.imp (Opens.slice Tryz.underlying55 (by kernel_rfl) oYs) (fun _ h=>h.2)
theorem oO9:Opens Tryz.prog 63 kO9 B9 :=
 Opens.imp (Opens.iso (fun x:Op9=>(x.k,x.b,x.d,x.ps)) (fun p=>⟨p.1,p.2.1,p.2.2.1,p.2.2.2⟩) (fun _=>rfl)
  (Opens.struct Tryz.underlying63 (by kernel_rfl) (qeU.cons (by kernel_rfl) rfl oI (qeU.cons (by kernel_rfl) rfl oI (qeU.cons (by kernel_rfl) rfl oYs (qeU.one (by kernel_rfl) oYss)))))) (fun _ h=>h.2.2)
theorem oO9s:Opens Tryz.prog 61 (Kd.slice 63 kO9) (fun l=>∀ o ∈ l,B9 o) :=
 Opens.imp (Opens.slice Tryz.underlying61 (by kernel_rfl) oO9) (fun _ h=>h.2)
def GF (w0 W:World) (gm gc gl cl ge ce:Nat) (g:Geo) (n:Nat):Prop:=∃ a m,Man w0 W gm gc gl cl ge ce a m∧qbG n (-1) a m (fun _=>[])∧a.g=g∧∀ i,i < a.g.B→(m.l.getD i default).f0=2
theorem GF.toGM {gm:Nat} (h:GF w0 W gm gc gl cl ge ce g n):∃ wr,GM w0 W gm gc gl cl ge ce g wr n (fun _=>[]):=by
 obtain ⟨a,m,h1,h2,h3,-⟩:=h;exact ⟨_,a,m,h1,h2,h3,rfl⟩
theorem GF.grow {gm:Nat} (h:GF w0 W gm gc gl cl ge ce g n) (hb:Below W.heap.size W W'):GF w0 W' gm gc gl cl ge ce g n:=by
 obtain ⟨a,m,h1,h2⟩:=h;exact ⟨a,m,h1.grow hb,h2⟩
theorem qqM (h:GM w0 W gm gc gl cl ge ce g wr (n+1) D) (aE:Addr) (hgE:gNone w0 aE) :
  Calls Tryz.prog 23 #[cp gc] W fun x w'=>∃ gm gl cl ge ce:Nat,x=.returned (.tuple #[kp gm,.int .i64 0])∧GF w0 w' gm gc gl cl ge ce g n∧MK [] W w':=by
 obtain ⟨a,m,hM,hG0,rfl,rfl⟩:=h;obtain ⟨h1,h2,h3,h4⟩:=qcW hG0.rg;have hp:=hG0.fpre;obtain ⟨a',m',e,hG,g1,g2,g3,g4⟩:=hp.format (by have:=hG0.sq;omega) (qeM a.g) h1;refine (qpO hM.chip hp.by_ aE hgE hp.off (qeM a.g) h1 (by omega) (hp.spent _ rfl (by simp only [qcD,List.length_map,List.length_range];exact h1)) _ e rfl).mono ?_;rintro x w' ⟨gm,gl,cl,ge,ce,hx,hm,hk,hf⟩;exact ⟨gm,gl,cl,ge,ce,hx,⟨a',m',hm,hG,g1,fun i hi=>by rw [g4 i (by rw [← g1];exact hi)]⟩,hk⟩
theorem qqQ (h:GM w0 W gm gc gl cl ge ce g wr n D) (k:Nat) (hk:k < qeM g) :
  Calls Tryz.prog 34 #[kp gm,.int .i64 k] W fun z w'=>z=.returned (.bool false)∧Below W.heap.size W w':=by
 obtain ⟨a,m,hM,hG,rfl,rfl⟩:=h;have hnl:m.lebs.length=qeM a.g:=by have:=hG.lbs;have:=(qcW hG.rg).1;omega
 have key:=qiS hM hG.ok (k:Int);rw [(hG.blk (k:=k) (by omega)).2] at key;exact key
theorem quX {gm:Nat} (h:GF w0 W gm gc gl cl ge ce g n) (aE:Addr) (hgE:gNone w0 aE):∃ (f:Nat→Int) (xs:List Blk),xs.length=g.B∧(∀ i,i < g.B→(xs.getD i default).f0=2∧(xs.getD i default).f1=f i) ∧
  (Calls Tryz.prog 18 #[cp gc] W fun e w'=>∃ (q c:Nat),e=.returned (.tuple #[.slice (some ⟨q,0,none⟩) xs.length c,.int .i64 0])∧xs.length≤c∧Rows w' q xs∧Below W.heap.size W w') ∧
  ∀ w,Below W.heap.size W w→∀ i:Nat,i < g.B→Calls Tryz.prog 35 #[cp gc,.int .i64 i] w fun e w'=>e=.returned (.int .i64 (f i))∧Below w.heap.size w w':=by
 obtain ⟨a,m,hM,hG,rfl,hfr⟩:=h;obtain ⟨hln,hget⟩:=hG.scan;refine ⟨fun i=>(a.bk i).er,qcM a,hln,fun i hi=>?_,vcY hM.chip hG.by_ aE (qaH hgE hM.chip.below) hG.off,fun w hb i hi=>?_⟩
 ·obtain ⟨⟨f0,-,-⟩,hor⟩:=hget i hi;have h2:=f0.trans (hfr i hi)
  rcases hor with ⟨hl,hf⟩|⟨q,seq,l2,g1,g3,g4,g5,g6⟩
  ·exact ⟨h2,hf.er.symm⟩
  ·rw [g4] at h2;exact absurd h2 (of_decide_eq_true rfl)
 ·have key:=(hM.grow hb).chip.erases (i:Int);rw [show qkW a (i:Int)=(a.bk i).er by unfold qkW;rw [if_neg (by omega),Int.toNat_natCast]] at key;exact key
theorem qqL (B P Z R:Int) (A:Option Addr) (n c:Nat) (W:World) (hg:qbQ B P Z R=false) (aE:Addr) (hgE:gNone W aE) :
  Calls Tryz.prog 6 #[gV B P Z R,.slice A n c] W fun e w'=>e=.returned (.bool true)∧Below W.heap.size W w':=by
 have HAL:=aM (fun (w:World) (hb:Below W.heap.size W w)=>qpM aE w (qaH hgE hb));have HNW:=aM (fun (w:World)=>(show Calls Tryz.prog 11 #[gV B P Z R,.slice none 0 0] w (fun e w'=>e=.returned (.tuple #[.pointer none,.int .i64 22])∧Below w.heap.size w w') from vbV B P Z R none 0 [] w (Kd.R_reads' (Kd.R_nil kF 83 w 0 (fun _=>True))).2.2 (Nat.le_refl _) (by rw [hg];rfl)));have hu23:=Tryz.underlying23;clear hg hgE;go_enter Tryz.func6,Tryz.ntmps6
 go_upto_region 1 with (fail)
 generalize hW:W.alloc (.cells #[.int .i64 B,.int .i64 P,.int .i64 Z,.int .i64 R] 23)=W1
 obtain ⟨g0,hg0⟩:∃ g0,g0=W.heap.size:=⟨_,rfl⟩
 rw [← hg0];have HB1:=aM (show Below W.heap.size W W1 by rw [← hW];exact qaA (Below.refl _ _) _);have hx1:W1.heap[g0]?=some (.cells #[.int .i64 B,.int .i64 P,.int .i64 Z,.int .i64 R] 23 (0,0)):=by rw [← hW,hg0];exact qaM _ _ _
 have y0:=Joins.cell_of_block hx1 0;have y1:=Joins.cell_of_block hx1 1;have y2:=Joins.cell_of_block hx1 2;have y3:=Joins.cell_of_block hx1 3;have HG1:=aM hx1;clear hW hx1 hg0
 go_wp2_with (first
  | (go_at_call 11;(with_reducible refine (HNW.out _).mono ?_);rintro e w2 ⟨rfl,hb2⟩;have HB2:=aM (qaC HB1.out hb2);clear hb2)
  | (go_at_call 22;(with_reducible refine (HAL.out _ HB2.out).mono ?_);rintro e w9 ⟨rfl,hb9⟩;have HB9:=aM (qaC HB2.out hb9);clear hb9))
 go_ret;exact ⟨rfl,HB9.out⟩
theorem qtN (g:Geo) (hg:qbQ g.B g.P g.Z g.R=true) (A:Option Addr) (c:Nat) (l:List Op9) (W:World) (hr:Kd.C kO9 W A l.length l) (hc:l.length≤c) (hby:∀ o ∈ l,B9 o) (hln:l.length≤1048576) (aE:Addr) (hgE:gNone W aE) :
  Calls Tryz.prog 6 #[gV g.B g.P g.Z g.R,.slice A l.length c] W fun e w'=>e=.returned (.bool true)∧Below W.heap.size W w':=by
 have HAL:=aM (fun (w:World) (hb:Below W.heap.size W w)=>qpM aE w (qaH hgE hb));have HNW:=aM (fun (w:World)=>(show Calls Tryz.prog 11 #[gV g.B g.P g.Z g.R,.slice none 0 0] w (fun e w'=>∃ gc:Nat,e=.returned (.tuple #[cp gc,.int .i64 0])∧qdW w w' gc (qpP g [])) from qrY g none 0 [] w (Kd.R_reads' (Kd.R_nil kF 83 w 0 (fun _=>True))).2.2 (Nat.le_refl _) hg (by rfl)));have hu23:=Tryz.underlying23;have HG:=aM hgE;have HR:=aM hg;have HLR:=aM hr;have HBY:=aM hby;have HLL:=aM hln;obtain ⟨q1,q2,q3,q4⟩:=qcW hg;have HLN:=aM (show 10≤qeM g∧qeM g≤256∧g.B≤256 by omega);have hu63:=Tryz.underlying63;clear hg hgE hr hc hby hln q1 q2 q3 q4;go_enter Tryz.func6,Tryz.ntmps6
 go_upto_region 1 with (fail)
 generalize hW:W.alloc (.cells #[.int .i64 g.B,.int .i64 g.P,.int .i64 g.Z,.int .i64 g.R] 23)=W1
 obtain ⟨g0,hg0⟩:∃ g0,g0=W.heap.size:=⟨_,rfl⟩
 rw [← hg0];have HB1:=aM (show Below W.heap.size W W1 by rw [← hW];exact qaA (Below.refl _ _) _);have hx1:W1.heap[g0]?=some (.cells #[.int .i64 g.B,.int .i64 g.P,.int .i64 g.Z,.int .i64 g.R] 23 (0,0)):=by rw [← hW,hg0];exact qaM _ _ _
 have y0:=Joins.cell_of_block hx1 0;have y1:=Joins.cell_of_block hx1 1;have y2:=Joins.cell_of_block hx1 2;have y3:=Joins.cell_of_block hx1 3;have HG1:=aM hx1;clear hW hx1 hg0
 go_upto_region 4 with (first|(go_at_call 11;(with_reducible refine (HNW.out _).mono ?_);rintro e w2 ⟨gc,rfl,hc2⟩;have HC2:=aM (hc2.lower HB1.out);have HB2:=aM hc2.below;have k2:=qaH y2 hc2.below;have HG2:=aM (qaB HG1.out hc2.below);clear hc2))
 have HFM:=aM (qkT (n:=2*l.length+5) HC2.out aE HG.out HR.out (by have:=HLL.out;omega))
 go_upto_region 8 with (first|(go_at_call 23;(with_reducible refine HFM.out.mono ?_);rintro e w3 ⟨gm,gl,cl,ge,ce,rfl,hm3,hk3,hf3⟩;have HM3:=aM hm3;have HG3:=aM (hk3.far (by decide) HG2.out);clear hm3 hk3 hf3))
 clear y0 y1 y2 y3 k2;go_loopw [8] (fun v8 wr=>∃ i:Nat,i≤l.length∧v8=.int .i64 i∧qaJ (∃ D',GM W wr gm gc gl cl ge ce g 0 (2*(l.length - i)+5) D')∧qaJ (wr.heap[g0]?=some (.cells #[.int .i64 g.B,.int .i64 g.P,.int .i64 g.Z,.int .i64 g.R] 23 (0,0)))) (fun v8 _=>l.length - (intOf v8).toNat);case atStart=>exact ⟨0,Nat.zero_le _,rfl,⟨_,HM3.out⟩,HG3⟩
 case round =>
 clear HM3 HG3 HFM HNW HG1 HG2 HC2 HB2;obtain ⟨i,hi,rfl,HMD,HGX⟩:=hrel;obtain ⟨D1,hm⟩:=HMD.out;have HM:=aM hm;clear hm HMD
 by_cases hlt:i < l.length
 ·have d1:decide ((i:Int) < (l.length:Int))=true:=decide_eq_true (by omega);have hq:(i < l.length)=True:=eq_true hlt;have hqi:((i:Int) < (l.length:Int))=True:=eq_true (by omega);have hwj:wrap64 ((i:Int)+1)=(i:Int)+1:=by have:=HLL.out;unfold wrap64;omega
  have hwk:IntKind.i64.wrap ((i:Int)+1)=(i:Int)+1:=by rw [qbL];exact hwj
  have HLT:=aM hlt;obtain ⟨ad,A3,c3,A4,c4,rfl,y0,y1,y2,y3,l3,g3,l4,g4⟩:=vfV HLR.out (i:Int) (by omega) (by omega);rw [Int.toNat_natCast] at y0 y1 y2 y3;rw [Int.toNat_natCast] at l3 g3 l4 g4
  have hmem:B9 (l.getD i zO9):=by
   rw [List.getD_eq_getElem?_getD,List.getElem?_eq_getElem hlt];exact HBY.out _ (List.getElem_mem hlt)
  generalize l.getD i zO9=o at y0 y1 y2 y3 l3 g3 l4 g4 hmem;replace y0:=qaH y0 HM.out.below;replace y1:=qaH y1 HM.out.below;replace y2:=qaH y2 HM.out.below;replace y3:=qaH y3 HM.out.below;have HMM:=aM hmem;have HL3:=aM l3;have HX3:=aM (fun (w':World) (hb:Below W.heap.size W w')=>Kd.C_below g3 hb);have HL4:=aM l4;have HX4:=aM g4;clear hi hlt l3 g3 l4 g4 hmem
  by_cases h5:o.k=5
  ·have e5:(o.k==5)=true:=by simp only [beq_iff_eq];exact h5
   have e5n:(o.k != 5)=false:=by rw [bne,e5];rfl
   clear h5;go_wp2;go_roundw;case rel=>exact ⟨i+1,HLT.out,by push_cast;rfl,⟨_,HM.out.less (by omega)⟩,HGX⟩
   case measure=>have:=HLT.out;simp [intOf];omega
  ·have e5:(o.k==5)=false:=by simp only [beq_eq_false_iff_ne];exact h5
   have e5n:(o.k != 5)=true:=by rw [bne,e5];rfl
   have HDO:=aM (qzL (n:=2*(l.length - (i+1))+5) (by rw [show 2*(l.length - (i+1))+5+2=2*(l.length - i)+5 by have:=HLT.out;omega];exact HM.out) o.k o.b h5 A3 A4 c3 c4 o.d o.ps HL3.out (fun w' hb=>HX3.out w' hb) HMM.out.1 HL4.out HX4.out HMM.out.2);clear h5
   go_wp2_with (first
    | (go_at_call 33;(with_reducible refine HDO.out.mono ?_);rintro e w6 ⟨v6,rfl,hd6,hk6⟩;have HM6:=aM hd6;have HG6:=aM (hk6.far (by decide) HGX.out);clear hd6 hk6))
   go_roundw;case rel=>exact ⟨i+1,HLT.out,by push_cast;rfl,HM6,HG6⟩
   case measure=>have:=HLT.out;simp [intOf];omega
 obtain rfl:i=l.length:=by omega
 have d1:decide ((l.length:Int) < (l.length:Int))=false:=decide_eq_false (by omega);clear hlt hi;have HFF:=aM (qqM (n:=4) (by rw [show 4+1=2*(l.length - l.length)+5 by omega];exact HM.out) aE HG.out)
 go_upto_region 16 with (first
  | (go_at_call 23;(with_reducible refine HFF.out.mono ?_);rintro e w7 ⟨gm2,gl2,cl2,ge2,ce2,rfl,hf7,hk7⟩;have HF7:=aM hf7;have HG7:=aM (hk7.far (by decide) HGX.out);clear hf7 hk7))
 clear HM HGX HFF d1;go_loopw [9] (fun v9 wr=>∃ j:Nat,j≤qeM g∧v9=.int .i64 j∧qaJ (GF W wr gm2 gc gl2 cl2 ge2 ce2 g 4)∧qaJ (wr.heap[g0]?=some (.cells #[.int .i64 g.B,.int .i64 g.P,.int .i64 g.Z,.int .i64 g.R] 23 (0,0)))) (fun v9 _=>qeM g - (intOf v9).toNat);case atStart=>exact ⟨0,Nat.zero_le _,rfl,HF7,HG7⟩
 case round =>
 clear HF7 HG7;obtain ⟨j,hj,rfl,HF,HGX⟩:=hrel;obtain ⟨wq,hq0⟩:=HF.out.toGM;have HM:=aM hq0;have HLB:=aM (qwA hq0);clear hq0
 by_cases hlt:j < qeM g
 ·have d1:decide ((j:Int) < (qeM g:Int))=true:=decide_eq_true (by omega);have d1k:(j < qeM g)=True:=eq_true hlt;have hwj:wrap64 ((j:Int)+1)=(j:Int)+1:=by have:=HLN.out;unfold wrap64;omega
  have hwk:IntKind.i64.wrap ((j:Int)+1)=(j:Int)+1:=by rw [qbL];exact hwj
  have HLT:=aM hlt;clear hlt hj
  go_upto_region 18 with (first
   | (go_at_call 24;(with_reducible refine HLB.out.mono ?_);rintro e w8 ⟨rfl,hb⟩;have HM8:=aM (HM.out.grow hb);have HF8:=aM (HF.out.grow hb);have HG8:=aM (qaB HGX.out hb);clear hb))
  have HUS:=aM (show Calls Tryz.prog 27 #[kp gm2,.int .i64 j] w8 (fun z w'=>z=.returned (.int .i64 0)∧Below w8.heap.size w8 w') from qjT HM8.out j HLT.out)
  go_wp2_with (first
   | (go_at_call 27;(with_reducible refine HUS.out.mono ?_);rintro e w9 ⟨rfl,hb⟩;have HF9:=aM (HF8.out.grow hb);have HG9:=aM (qaB HG8.out hb);have HCS:=aM (qqQ (HM8.out.grow hb) j HLT.out);clear hb)
   | (go_at_call 34;(with_reducible refine HCS.out.mono ?_);rintro e w10 ⟨rfl,hb⟩;have HF10:=aM (HF9.out.grow hb);have HG10:=aM (qaB HG9.out hb);clear hb))
  go_roundw;case rel=>exact ⟨j+1,HLT.out,by push_cast;rfl,HF10,HG10⟩
  case measure=>have:=HLT.out;simp [intOf];omega
 obtain rfl:j=qeM g:=by omega
 have d1:decide ((qeM g:Int) < (qeM g:Int))=false:=decide_eq_false (by omega);clear hlt hj
 go_upto_region 20 with (first
  | (go_at_call 24;(with_reducible refine HLB.out.mono ?_);rintro e w8 ⟨rfl,hb⟩;have HF8:=aM (HF.out.grow hb);have HG8:=aM (qaB HGX.out hb);clear hb))
 clear HM HF HGX HLB d1;obtain ⟨fe,xs,hxl,hxs,hsc,her⟩:=quX HF8.out aE HG.out;have HXL:=aM hxl;have HXS:=aM hxs;have HER:=aM her;rw [hxl] at hsc;have HSC:=aM hsc;clear hxl hxs hsc her
 go_upto_region 21 with (first
  | (go_at_call 18;(with_reducible refine HSC.out.mono ?_);rintro e w11 ⟨gq,cq,rfl,hcq,hrw,hb⟩;have HRW:=aM hrw;have HB11:=aM hb;have HF11:=aM (HF8.out.grow hb);have HG11:=aM (qaB HG8.out hb);clear hcq hrw hb))
 have z0:=Joins.cell_of_block HG11.out 0
 go_upto_region 24 with (fail)
 clear z0;go_loopw [11] (fun v11 wr=>∃ j:Nat,j≤g.B∧v11=.int .i64 j∧qaJ (Below w11.heap.size w11 wr)) (fun v11 _=>g.B - (intOf v11).toNat);case atStart=>exact ⟨0,Nat.zero_le _,rfl,⟨Below.refl _ _⟩⟩
 case round =>
 obtain ⟨j,hj,rfl,HB⟩:=hrel
 by_cases hlt:j < g.B
 ·have d1:decide ((j:Int) < (g.B:Int))=true:=decide_eq_true (by omega);have d1k:(j < g.B)=True:=eq_true hlt;have d1i:((j:Int) < (g.B:Int))=True:=eq_true (by omega);have hwj:wrap64 ((j:Int)+1)=(j:Int)+1:=by have:=HLN.out;unfold wrap64;omega
  have hwk:IntKind.i64.wrap ((j:Int)+1)=(j:Int)+1:=by rw [qbL];exact hwj
  have HLT:=aM hlt;obtain ⟨x0,x1,-,-,-,-⟩:=(HRW.out.keep (HB.out.block _ HRW.out.lt)).cell j (by rw [HXL.out];exact hlt);obtain ⟨f0,f1⟩:=HXS.out j hlt;rw [qbO (by rw [HXL.out];exact hlt)] at f0 f1;rw [f0] at x0;rw [f1] at x1;have HEJ:=aM (fun (w:World) (hb:Below wr.heap.size wr w)=>HER.out w (qaC HB11.out (qaC HB.out hb)) j hlt);generalize fe j=er at x1 HEJ;clear hlt hj f0 f1
  go_upto_region 26 with (fail)
  refine Reg.det [(0,99,?r1v0),(1,100,?r1v1),(2,101,?r1v2),(3,102,?r1v3),(4,103,?r1v4),(5,104,?r1v5),(6,105,?r1v6),(7,106,?r1v7),(8,107,?r1v8),(9,108,?r1v9),(10,109,?r1v10),(11,110,?r1v11),(12,111,?r1v12),(13,112,?r1v13),(14,113,?r1v14),(15,114,?r1v15),(16,115,?r1v16)] (fun w'=>Below wr.heap.size wr w') (by rfl) rfl (by kernel_rfl) ?r1S ?r1steps ?r1okv ?r1hlt ?r1fin;case r1S=>exact qaO (Below.refl _ _)
  case r1steps =>
   refine Reg.fS 0 rfl rfl (fun a w hS hK K hC=>?_) ?_
   ·refine Reg.sO ?_;have e10:=hK.off 10 _ rfl rfl;clear hK;go_simp;exact hC _ hS
   refine Reg.fS 1 rfl rfl (fun a w hS hK K hC=>?_) ?_
   ·refine Reg.sO ?_;have e11:=hK.off 11 _ rfl rfl;clear hK;go_simp;exact hC _ hS
   refine Reg.fS 2 rfl rfl (fun a w hS hK K hC=>?_) ?_
   ·refine Reg.sO ?_;have e99:=hK.sl 0 rfl;have e100:=hK.sl 1 rfl;clear hK;go_simp;exact hC _ hS
   refine Reg.fS 3 rfl rfl (fun a w hS hK K hC=>?_) ?_
   ·refine Reg.sO ?_;have e101:=hK.sl 2 rfl;clear hK;go_simp;exact hC _ hS
   refine Reg.fS 4 rfl rfl (fun a w hS hK K hC=>?_) ?_
   ·refine Reg.sO ?_;have e102:=hK.sl 3 rfl;have z0:=qaH x0 hS;have z1:=qaH x1 hS;clear hK;go_simp;exact hC _ hS
   refine Reg.fS 5 rfl rfl (fun a w hS hK K hC=>?_) ?_
   ·refine Reg.sO ?_;have e103:=hK.sl 4 rfl;clear hK;go_simp;exact hC _ hS
   refine Reg.fS 6 rfl rfl (fun a w hS hK K hC=>?_) ?_
   ·refine Reg.sO ?_;have e104:=hK.sl 5 rfl;clear hK;go_simp;exact hC _ hS
   refine Reg.fS 7 rfl rfl (fun a w hS hK K hC=>?_) ?_
   ·refine Reg.step_on (qaG (g:=6) rfl rfl rfl (hK.sl 6 rfl)) ?_;have e10:=hK.off 10 _ rfl rfl;clear hK;go_simp;exact hC _ hS
   refine Reg.fS 8 rfl rfl (fun a w hS hK K hC=>?_) ?_
   ·refine Reg.step_on (qaG (g:=6) rfl rfl rfl (hK.sl 6 rfl)) ?_;have e11:=hK.off 11 _ rfl rfl;clear hK;go_simp;exact hC _ hS
   refine Reg.fS 9 rfl rfl (fun a w hS hK K hC=>?_) ?_
   ·refine Reg.step_on (qaG (g:=6) rfl rfl rfl (hK.sl 6 rfl)) ?_;have e106:=hK.sl 7 rfl;have e107:=hK.sl 8 rfl;clear hK;go_simp;exact hC _ hS
   refine Reg.fS 10 rfl rfl (fun a w hS hK K hC=>?_) ?_
   ·refine Reg.step_on (qaG (g:=6) rfl rfl rfl (hK.sl 6 rfl)) ?_;have e108:=hK.sl 9 rfl;clear hK;go_simp;exact hC _ hS
   refine Reg.fS 11 rfl rfl (fun a w hS hK K hC=>?_) ?_
   ·refine Reg.step_on (qaG (g:=6) rfl rfl rfl (hK.sl 6 rfl)) ?_;have e109:=hK.sl 10 rfl;have z0:=qaH x0 hS;have z1:=qaH x1 hS;clear hK;go_simp;exact hC _ hS
   refine Reg.fS 12 rfl rfl (fun a w hS hK K hC=>?_) ?_
   ·refine Reg.step_on (qaG (g:=6) rfl rfl rfl (hK.sl 6 rfl)) ?_;have e5:=hK.off 5 _ rfl rfl;clear hK;go_simp;exact hC _ hS
   refine Reg.fS 13 rfl rfl (fun a w hS hK K hC=>?_) ?_
   ·refine Reg.step_on (qaG (g:=6) rfl rfl rfl (hK.sl 6 rfl)) ?_;have e11:=hK.off 11 _ rfl rfl;clear hK;go_simp;exact hC _ hS
   refine Reg.fS 14 rfl rfl (fun a w hS hK K hC=>?_) ?_
   ·refine Reg.step_on (qaG (g:=6) rfl rfl rfl (hK.sl 6 rfl)) ?_;have e111:=hK.sl 12 rfl;have e112:=hK.sl 13 rfl;clear hK;go_simp;go_at_call 35;(with_reducible refine (HEJ.out w hS).mono ?_);rintro e w' ⟨rfl,hb⟩;exact hC w' (qaC hS hb)
   refine Reg.fS 15 rfl rfl (fun a w hS hK K hC=>?_) ?_
   ·refine Reg.step_on (qaG (g:=6) rfl rfl rfl (hK.sl 6 rfl)) ?_;have e110:=hK.sl 11 rfl;have e113:=hK.sl 14 rfl;clear hK;go_simp;exact hC _ hS
   refine Reg.fS 16 rfl rfl (fun a w hS hK K hC=>?_) ?_
   ·refine Reg.sO ?_;have e105:=hK.sl 6 rfl;have e114:=hK.sl 15 rfl;clear hK;go_simp;exact hC _ hS
   exact Reg.from_nil
  case r1okv=>rfl
  case r1hlt=>rfl
  case r1fin =>
   intro wz hS;simp only [Reg.putV,List.foldl_cons,List.foldl_nil,Act.put,List.setIfInBounds_toArray,List.set_cons_zero,List.set_cons_succ];have HBZ:=aM hS;clear hS;go_wp2;go_roundw;case rel=>exact ⟨j+1,HLT.out,by push_cast;rfl,⟨qaC HB.out HBZ.out⟩⟩
   case measure=>have:=HLT.out;simp [intOf];omega
 obtain rfl:j=g.B:=by omega
 have d1:decide ((g.B:Int) < (g.B:Int))=false:=decide_eq_false (by omega)
 have HBA:=aM (show Below W.heap.size W wr from by
  obtain ⟨a,m,hm,-⟩:=HF11.out
  exact qaC hm.chip.below HB.out)
 clear hlt hj
 go_wp2_with (first
  | (go_at_call 22;(with_reducible refine (HAL.out _ HBA.out).mono ?_);rintro e w9 ⟨rfl,hb9⟩;have HB9:=aM (qaC HBA.out hb9);clear hb9))
 go_ret;exact ⟨rfl,HB9.out⟩
theorem formats_law (B P Z R:Int) (A:Option Addr) (c:Nat) (l:List Op9) (W:World) (hr:Kd.C kO9 W A l.length l) (hc:l.length≤c) (hby:∀ o ∈ l,B9 o) (hln:l.length≤1048576) (aE:Addr) (hgE:gNone W aE) :
  Calls Tryz.prog 6 #[gV B P Z R,.slice A l.length c] W fun e w'=>e=.returned (.bool true)∧Below W.heap.size W w':=by
 cases hg:qbQ B P Z R with
 | false=>exact qqL B P Z R A l.length c W hg aE hgE
 | true =>
  obtain ⟨h1,h2,h3⟩:=qsN hg
  obtain ⟨b,rfl⟩:∃ b:Nat,B=(b:Int):=⟨B.toNat,by omega⟩
  obtain ⟨p,rfl⟩:∃ p:Nat,P=(p:Int):=⟨P.toNat,by omega⟩
  obtain ⟨z,rfl⟩:∃ z:Nat,Z=(z:Int):=⟨Z.toNat,by omega⟩
  exact qtN ⟨b,p,z,R⟩ hg A c l W hr hc hby hln aE hgE
end
section
open Go.Deep Opens
theorem qzR {H:Type} (x:DataW H):1≤Rows.uptoBulk x:=by
 cases x with
 | lit l=>cases l <;> simp [Rows.uptoBulk]
 | nil=>simp [Rows.uptoBulk]
 | ptr d=>simp [Rows.uptoBulk]
 | slice a b=>simp [Rows.uptoBulk]
 | agg p=>simp [Rows.uptoBulk]
 | iface t d=>simp [Rows.uptoBulk]
 | map e=>simp [Rows.uptoBulk]
 | held h=>simp [Rows.uptoBulk]
theorem qsA {H:Type}:∀ l:List (DataW H),l.length≤Rows.uptoBulkAll l
 | []=>Nat.zero_le _
 | x :: r=>by
  have h1:=qzR x;have h2:=qsA r;simp only [Rows.uptoBulkAll,List.length_cons];omega
theorem ops_bulk {H:Type} {enc:TypeId × Value→H} {W:World} {held:Bool} {A:Option Addr} {len cap:Nat} {x:DataW H} {ps:List MemPlace} (hv:DataW.Trod enc Tryz.prog W 0 (fun _=>true) held 61 (.slice A len cap) x ps):len≤Rows.uptoBulk x:=by
 obtain ⟨fuel,h⟩:=hv
 rcases open_slice Tryz.underlying61 h with ⟨hcs,_⟩|⟨a,len',cap',m,n,D,Pl,hcs,_,hl,hm,hmm,hx,hel⟩
 ·have e:len=0:=by simpa [Value.cells] using (by simpa [Value.cells] using hcs:A=none∧len=0∧cap=0).2.1
  omega
 ·obtain ⟨rfl,_⟩:=Prod.mk.inj hx;obtain ⟨-,e,-⟩:A=some a∧len=len'∧cap=cap':=by simpa [Value.cells] using hcs
  have h1:=qsA ((List.range len').map D);rw [List.length_map,List.length_range] at h1;simp only [Rows.uptoBulk];omega
end
end Go.Proofs.YtdlimghdimkadaaGreatDoor.PAll

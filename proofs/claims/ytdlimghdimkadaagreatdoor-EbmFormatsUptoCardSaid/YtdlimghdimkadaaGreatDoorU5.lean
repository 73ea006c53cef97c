/- Part 5 of what the law EbmFormats rests on. -/
import Derived.Test.YtdlimghdimkadaaGreatDoorU4
set_option maxRecDepth 100000
set_option maxHeartbeats 32000000
set_option linter.unusedSimpArgs false
set_option linter.unusedVariables false
namespace Go.Proofs.YtdlimghdimkadaaGreatDoor.PAll
open Go Go.RowKit YtdlimghdimkadaaGreatDoorW.PrintWords YtdlimghdimkadaaGreatDoorW.PrintLast YtdlimghdimkadaaGreatDoorW.PrintMore
attribute [local go_sem] qdG qdE qdY qdX qcJ qcI qdF qdD
section
variable {w0 W:World} {gc gb:Nat} {gp:Nat→Nat} {m:Ch} {D:Nat→Nat→List Int}
abbrev tgt (m:Ch):Int:=wrap64 (wrap64 (m.ops+1) - m.frm)
theorem qsU (h:St w0 W gc gb gp m D) (hoff:m.off=false) (hplan:qcX m.pl (tgt m)=none) (n p:Nat) (hn:n < m.g.B) (hp:p < m.g.P) (hbad:(m.bk n).bad=false) (hnx:(m.bk n).nx=p) (A:Option Addr) (c:Nat) (l:List Int) (hr:∀ w',Below w0.heap.size w0 w'→qaY W w'→Kd.C kB w' A l.length l) (hc:l.length≤c) (hl:l.length≤m.g.Z) :
  Calls Tryz.prog 58 #[cp gc,.int .i64 n,.int .i64 p,.slice A l.length c] W fun e w'=>e=.returned (.int .i64 0)∧(∃ v:Value,St w0 w' gc gb gp (({ m with ops:=wrap64 (m.ops+1) }:Ch).setBk n { ((m.bk n).setPg p ⟨1,v⟩) with nx:=wrap64 ((p:Int)+1) }) (qiL D n p l))∧qaY W w':=by
 have HRY:=aM (qbP h hoff n hn);have H:=aM h;have HPL:=aM hplan;have HBD:=aM hbad;have HNX:=aM hnx;have HRD:=aM hr;have HCC:=aM hc;have hzz:=h.gok.2.2;have HLZ:=aM (show l.length≤140737488355328 by omega);clear hzz;have d1:decide ((p:Int) < 0)=false:=decide_eq_false (by omega);have d2:decide ((m.g.P:Int)≤(p:Int))=false:=decide_eq_false (by omega);have d3:decide (m.g.P≤p)=false:=decide_eq_false (by omega);have d4:decide ((m.g.Z:Int) < (l.length:Int))=false:=decide_eq_false (by omega);have d5:decide (m.g.Z < l.length)=false:=decide_eq_false (by omega);have hqp:((p:Int) < (m.g.P:Int))=True:=eq_true (by omega);have hqp2:(p < m.g.P)=True:=eq_true hp;have hu44:=Tryz.underlying83;have hu65:=Tryz.underlying159;clear h hoff hplan hbad hnx hr hc;go_enter Tryz.func58,Tryz.ntmps58
 go_upto_region 9 with (first
  | (go_at_call 114;(with_reducible refine HRY.out.mono ?_);rintro e w1 ⟨rfl,hb1⟩;have h1:=H.out.grow hb1;have H1:=aM h1;have HB1:=aM hb1;obtain ⟨z0,z1,z2,z3⟩:=h1.cellB n hn;rw [HBD.out] at z0;rw [HNX.out] at z3;have y2:w1.cell? ⟨gc,2,none⟩=some (.int .i64 m.g.Z):=h1.cellC 2;clear hb1 h1))
 clear z0 z1 z2 z3 y2;have hbn:=qdB H1.out;rw [show qcX m.pl (wrap64 (wrap64 (m.ops+1) - m.frm))=none from HPL.out,show bgV none=.tuple #[.agg #[.int .i64 0,.int .i64 0,.int .i64 0],.bool false] from rfl] at hbn;have HBN:=aM hbn;clear hbn
 go_upto_region 21 with (first
  | (go_at_call 115;(with_reducible refine HBN.out.mono ?_);rintro e w2 ⟨rfl,h2,hk2⟩;have H2:=aM h2;have HK2:=aM ((qaY.of_below HB1.out).trans hk2);clear h2 hk2))
 generalize hW:w2.alloc (.cells #[.int .i64 0,.int .i64 0,.int .i64 0] 83)=W3;have hb3:Below w2.heap.size w2 W3:=by rw [← hW];exact qaA (Below.refl _ _) _
 have h3:=H2.out.grow hb3;have HK3:=aM (HK2.out.trans (qaY.of_below hb3));clear hW hb3;obtain ⟨z0,z1,z2,z3⟩:=h3.cellB n hn;obtain ⟨q0,q1⟩:=h3.cellP n hn p hp;have fq0:=qaE (h3.p n hn) (p*2);have fq1:=qaE (h3.p n hn) (p*2+1);have H3:=aM h3;clear h3
 go_upto_region 22 with (fail)
 generalize hW:(W3.setCell ⟨gp n,p*2,none⟩ (.int .i64 1)).setCell ⟨gp n,p*2+1,none⟩ (.slice none 0 0)=W4;have h4:=H3.out.page n hn p hp 1 (.slice none 0 0) [] (Kd.R_nil _ _ _ _ _);have hk4:=(HK3.out.set (H3.out.p n hn) (by decide) (p*2) (.int .i64 1)).set (qcB (H3.out.p n hn) (p*2) (.int .i64 1)) (by decide) (p*2+1) (.slice none 0 0);rw [hW] at h4 hk4;clear z0 z1 z2 z3 q0 q1 fq0 fq1;have H4:=aM h4;have HK4:=aM hk4;clear hW h4 hk4
 go_upto_region 23 with (fail)
 refine Rel.tail (m:=9) [(0,96,.inl ?r1v0),(1,97,.inl ?r1v1),(2,98,.inl ?r1v2),(3,99,.inl ?r1v3),(4,100,.inl ?r1v4),(5,101,.inl ?r1v5),(6,102,.inr (fun v w'=>Kd.R kB 5 w' w0.heap.size (fun _=>True) v l)),(7,103,.inl ?r1v7),(8,104,.inl ?r1v8)] (fun w'=>Below W4.heap.size W4 w') (fun w' w''=>Below w'.heap.size w' w'') (by rfl) rfl (by kernel_rfl) (by kernel_rfl) (by kernel_rfl) ?r1S (Rel.stable_inl (Rel.stable_inl (Rel.stable_inl (Rel.stable_inl (Rel.stable_inl (Rel.stable_inl (Rel.stable_inr (fun v w w' hb h=>Kd.R_below h hb) (Rel.stable_inl (Rel.stable_inl Rel.stable_nil))))))))) ?r1steps ?r1okv ?r1hlt ?r1fin;case r1S=>exact qaO (Below.refl _ _)
 case r1steps =>
  refine Rel.from_some 0 rfl rfl (fun a wq hS hK K hC=>?_) ?_
  ·refine Reg.sO ?_;have e9:=hK.off 9 _ rfl rfl;clear hK;go_simp;exact hC _ hS (Below.refl _ _)
  refine Rel.from_some 1 rfl rfl (fun a wq hS hK K hC=>?_) ?_
  ·refine Reg.sO ?_;have e96:=hK.sl 0 rfl;clear hK;go_simp;exact hC _ hS (Below.refl _ _)
  refine Rel.from_some 2 rfl rfl (fun a wq hS hK K hC=>?_) ?_
  ·refine Reg.sO ?_;have e97:=hK.sl 1 rfl;clear hK;go_simp;exact hC _ hS (Below.refl _ _)
  refine Rel.from_some 3 rfl rfl (fun a wq hS hK K hC=>?_) ?_
  ·refine Reg.sO ?_;have e98:=hK.sl 2 rfl;have zz:=((H4.out.grow hS).cellB n hn).2.2.1;change _=some (Value.slice (some ⟨gp n,0,none⟩) m.g.P m.g.P) at zz;clear hK;go_simp;exact hC _ hS (Below.refl _ _)
  refine Rel.from_some 4 rfl rfl (fun a wq hS hK K hC=>?_) ?_
  ·refine Reg.sO ?_;have e2:=hK.off 2 _ rfl rfl;clear hK;go_simp;exact hC _ hS (Below.refl _ _)
  refine Rel.from_some 5 rfl rfl (fun a wq hS hK K hC=>?_) ?_
  ·refine Reg.sO ?_;have e3:=hK.off 3 _ rfl rfl;clear hK;go_simp;exact hC _ hS (Below.refl _ _)
  refine Rel.from_rel 6 rfl rfl (fun a wq hS hK K hC=>?_) ?_
  ·refine Reg.sO ?_;have e101:=hK.sl 5 rfl;clear hK;go_simp;go_at_call 116;(with_reducible refine (qlB A c l wq (HRD.out wq (H4.out.grow hS).below (HK4.out.trans (qaY.of_below hS))) HCC.out ?cb).mono ?_);case cb=>exact HLZ.out
   rintro e w' ⟨v,rfl,ho,hb⟩;exact hC v w' (qaC hS hb) hb (Kd.R_lower ho (qaI (H4.out.grow hS).below))
  refine Rel.from_some 7 rfl rfl (fun a wq hS hK K hC=>?_) ?_
  ·refine Reg.sO ?_;have e99:=hK.sl 3 rfl;have e100:=hK.sl 4 rfl;clear hK;go_simp;exact hC _ hS (Below.refl _ _)
  refine Rel.from_some 8 rfl rfl (fun a wq hS hK K hC=>?_) ?_
  ·refine Reg.sO ?_;have e103:=hK.sl 7 rfl;clear hK;go_simp;exact hC _ hS (Below.refl _ _)
  exact Rel.from_nil
 case r1okv=>rfl
 case r1hlt=>rfl
 case r1fin =>
  intro U wz hS hU;have q6:=hU 6 _ _ _ rfl;clear hU;simp only [Rel.inst,Nat.zero_add,Nat.reduceAdd,Reg.putV,List.foldl_cons,List.foldl_nil,Act.put,List.setIfInBounds_toArray,List.set_cons_zero,List.set_cons_succ];have h5:=H4.out.grow hS;have HQ:=aM q6;obtain ⟨r0,r1⟩:=h5.cellP n hn p hp;have fr1:=qaE (h5.p n hn) (p*2+1);have H5:=aM h5;have HK5:=aM (HK4.out.trans (qaY.of_below hS));obtain ⟨A6,c6,e6⟩:=Kd.R_slice q6;rw [e6] at HQ ⊢;clear hS h5 q6 e6;refine Rel.tail_cons (fun K hK=>?_);refine Reg.sO ?_;go_simp;refine hK _ _ ?_;clear hK r0 r1 fr1;refine Rel.tail_nil ?_;have h6:=H5.out.pageD n hn p hp (.slice A6 l.length c6) l HQ.out;have hk6:=HK5.out.set (H5.out.p n hn) (by decide) (p*2+1) (.slice A6 l.length c6);rw [qaX,qbN,qeC,qhB,qlV] at h6;generalize wz.setCell ⟨gp n,p*2+1,none⟩ (.slice A6 l.length c6)=W6 at h6 hk6 ⊢;obtain ⟨z0,z1,z2,z3⟩:=h6.cellB n hn;rw [qaX] at z3;change W6.cell? ⟨gb,n*4+3,none⟩=some (.int .i64 (m.bk n).nx) at z3;rw [HNX.out] at z3;have f3:=qaE h6.b (n*4+3);have H6:=aM h6;have HK6:=aM hk6;clear h6 hk6 z0 z1 z2;go_wp2;go_ret;have h7:=H6.out.nx n (wrap64 ((p:Int)+1));rw [qaX,qbN] at h7;exact ⟨rfl,⟨_,h7⟩,HK6.out.set H6.out.b (by decide) _ _⟩
theorem qoB (h:St w0 W gc gb gp m D) (hoff:m.off=false) (f:F3) (hplan:qcX m.pl (tgt m)=some f) (hf1:f.f1=2) (n p:Nat) (hn:n < m.g.B) (hp:p < m.g.P) (hbad:(m.bk n).bad=false) (hnx:(m.bk n).nx=p) (A:Option Addr) (c:Nat) (l:List Int) (hr:∀ w',Below w0.heap.size w0 w'→qaY W w'→Kd.C kB w' A l.length l) (hc:l.length≤c) (hl:l.length≤m.g.Z) :
  Calls Tryz.prog 58 #[cp gc,.int .i64 n,.int .i64 p,.slice A l.length c] W fun e w'=>e=.returned (.int .i64 5)∧St w0 w' gc gb gp (({ m with ops:=wrap64 (m.ops+1) }:Ch).setBk n { ((m.bk n).setPg p ⟨2,.slice none 0 0⟩) with nx:=wrap64 ((p:Int)+1) }) (qiL D n p [])∧qaY W w':=by
 have HRY:=aM (qbP h hoff n hn);have H:=aM h;have HPL:=aM hplan;have HBD:=aM hbad;have HNX:=aM hnx;have HRD:=aM hr;have HCC:=aM hc;have hzz:=h.gok.2.2;have HLZ:=aM (show l.length≤140737488355328 by omega);clear hzz;have d1:decide ((p:Int) < 0)=false:=decide_eq_false (by omega);have d2:decide ((m.g.P:Int)≤(p:Int))=false:=decide_eq_false (by omega);have d3:decide (m.g.P≤p)=false:=decide_eq_false (by omega);have d4:decide ((m.g.Z:Int) < (l.length:Int))=false:=decide_eq_false (by omega);have d5:decide (m.g.Z < l.length)=false:=decide_eq_false (by omega);have hqp:((p:Int) < (m.g.P:Int))=True:=eq_true (by omega);have hqp2:(p < m.g.P)=True:=eq_true hp;have hu44:=Tryz.underlying83;have hu65:=Tryz.underlying159;have HF1:=aM hf1;clear h hoff hplan hbad hnx hr hc hf1;go_enter Tryz.func58,Tryz.ntmps58
 go_upto_region 9 with (first
  | (go_at_call 114;(with_reducible refine HRY.out.mono ?_);rintro e w1 ⟨rfl,hb1⟩;have h1:=H.out.grow hb1;have H1:=aM h1;have HB1:=aM hb1;obtain ⟨z0,z1,z2,z3⟩:=h1.cellB n hn;rw [HBD.out] at z0;rw [HNX.out] at z3;have y2:w1.cell? ⟨gc,2,none⟩=some (.int .i64 m.g.Z):=h1.cellC 2;clear hb1 h1))
 clear z0 z1 z2 z3 y2;have hbn:=qdB H1.out;rw [show qcX m.pl (wrap64 (wrap64 (m.ops+1) - m.frm))=some f from HPL.out,show bgV (some f)=.tuple #[.agg #[.int .i64 f.f0,.int .i64 f.f1,.int .i64 f.f2],.bool true] from rfl] at hbn;have HBN:=aM hbn;clear hbn
 go_upto_region 10 with (first
  | (go_at_call 115;(with_reducible refine HBN.out.mono ?_);rintro e w2 ⟨rfl,h2,hk2⟩;have H2:=aM h2;have HK2:=aM ((qaY.of_below HB1.out).trans hk2);clear h2 hk2))
 go_upto_block 0 with (fail)
 generalize hW:w2.alloc (.cells #[.int .i64 f.f0,.int .i64 f.f1,.int .i64 f.f2] 83)=W3;have hb3:Below w2.heap.size w2 W3:=by rw [← hW];exact qaA (Below.refl _ _) _
 have hx3:W3.heap[w2.heap.size]?=some (.cells #[.int .i64 f.f0,.int .i64 f.f1,.int .i64 f.f2] 83 (0,0)):=by rw [← hW];exact qaM _ _ _
 rw [HF1.out] at hx3;have h3:=H2.out.grow hb3;have x1:=jC hx3 1;have HK3:=aM (HK2.out.trans (qaY.of_below hb3));clear hW hb3 hx3;obtain ⟨z0,z1,z2,z3⟩:=h3.cellB n hn;obtain ⟨q0,q1⟩:=h3.cellP n hn p hp;have fq0:=qaE (h3.p n hn) (p*2);have fq1:=qaE (h3.p n hn) (p*2+1);have H3:=aM h3;clear h3
 go_upto_region 22 with (fail)
 generalize hW:(W3.setCell ⟨gp n,p*2,none⟩ (.int .i64 2)).setCell ⟨gp n,p*2+1,none⟩ (.slice none 0 0)=W4;have h4:=H3.out.page n hn p hp 2 (.slice none 0 0) [] (Kd.R_nil _ _ _ _ _);have hk4:=(HK3.out.set (H3.out.p n hn) (by decide) (p*2) (.int .i64 2)).set (qcB (H3.out.p n hn) (p*2) (.int .i64 2)) (by decide) (p*2+1) (.slice none 0 0);rw [hW] at h4 hk4;clear z0 z1 z2 z3 q0 q1 fq0 fq1 x1;have z3:=(h4.cellB n hn).2.2.2;rw [qaX] at z3;change W4.cell? ⟨gb,n*4+3,none⟩=some (.int .i64 (m.bk n).nx) at z3;rw [HNX.out] at z3;have f3:=qaE h4.b (n*4+3);have H4:=aM h4;have HK4:=aM hk4;clear hW h4 hk4;go_wp2;go_ret;have h7:=H4.out.nx n (wrap64 ((p:Int)+1));rw [qaX,qbN] at h7;exact ⟨rfl,h7,HK4.out.set H4.out.b (by decide) _ _⟩
theorem qoE (h:St w0 W gc gb gp m D) (hoff:m.off=false) (f:F3) (hplan:qcX m.pl (tgt m)=some f) (hf1:f.f1 ≠ 2) (hf2:f.f2=0) (n p:Nat) (hn:n < m.g.B) (hp:p < m.g.P) (hbad:(m.bk n).bad=false) (hnx:(m.bk n).nx=p) (A:Option Addr) (c:Nat) (l:List Int) (hr:∀ w',Below w0.heap.size w0 w'→qaY W w'→Kd.C kB w' A l.length l) (hc:l.length≤c) (hl:l.length≤m.g.Z) :
  Calls Tryz.prog 58 #[cp gc,.int .i64 n,.int .i64 p,.slice A l.length c] W fun e w'=>e=.returned (.int .i64 6)∧St w0 w' gc gb gp ({ m with ops:=wrap64 (m.ops+1),off:=true }:Ch) D∧qaY W w':=by
 have HRY:=aM (qbP h hoff n hn);have H:=aM h;have HPL:=aM hplan;have HBD:=aM hbad;have HNX:=aM hnx;have HRD:=aM hr;have HCC:=aM hc;have hzz:=h.gok.2.2;have HLZ:=aM (show l.length≤140737488355328 by omega);clear hzz;have d1:decide ((p:Int) < 0)=false:=decide_eq_false (by omega);have d2:decide ((m.g.P:Int)≤(p:Int))=false:=decide_eq_false (by omega);have d3:decide (m.g.P≤p)=false:=decide_eq_false (by omega);have d4:decide ((m.g.Z:Int) < (l.length:Int))=false:=decide_eq_false (by omega);have d5:decide (m.g.Z < l.length)=false:=decide_eq_false (by omega);have hqp:((p:Int) < (m.g.P:Int))=True:=eq_true (by omega);have hqp2:(p < m.g.P)=True:=eq_true hp;have hu44:=Tryz.underlying83;have hu65:=Tryz.underlying159;have HF1:=aM hf1;have e1:(f.f1==(2:Int))=false:=by simp only [beq_eq_false_iff_ne];exact hf1
 have HF2:=aM hf2;clear h hoff hplan hbad hnx hr hc hf1 hf2;go_enter Tryz.func58,Tryz.ntmps58
 go_upto_region 9 with (first
  | (go_at_call 114;(with_reducible refine HRY.out.mono ?_);rintro e w1 ⟨rfl,hb1⟩;have h1:=H.out.grow hb1;have H1:=aM h1;have HB1:=aM hb1;obtain ⟨z0,z1,z2,z3⟩:=h1.cellB n hn;rw [HBD.out] at z0;rw [HNX.out] at z3;have y2:w1.cell? ⟨gc,2,none⟩=some (.int .i64 m.g.Z):=h1.cellC 2;clear hb1 h1))
 clear z0 z1 z2 z3 y2;have hbn:=qdB H1.out;rw [show qcX m.pl (wrap64 (wrap64 (m.ops+1) - m.frm))=some f from HPL.out,show bgV (some f)=.tuple #[.agg #[.int .i64 f.f0,.int .i64 f.f1,.int .i64 f.f2],.bool true] from rfl] at hbn;have HBN:=aM hbn;clear hbn
 go_upto_region 10 with (first
  | (go_at_call 115;(with_reducible refine HBN.out.mono ?_);rintro e w2 ⟨rfl,h2,hk2⟩;have H2:=aM h2;have HK2:=aM ((qaY.of_below HB1.out).trans hk2);clear h2 hk2))
 go_upto_block 0 with (fail)
 generalize hW:w2.alloc (.cells #[.int .i64 f.f0,.int .i64 f.f1,.int .i64 f.f2] 83)=W2a;have hb3a:Below w2.heap.size w2 W2a:=by rw [← hW];exact qaA (Below.refl _ _) _
 have hx3:W2a.heap[w2.heap.size]?=some (.cells #[.int .i64 f.f0,.int .i64 f.f1,.int .i64 f.f2] 83 (0,0)):=by rw [← hW];exact qaM _ _ _
 rw [HF2.out] at hx3;have h3a:=H2.out.grow hb3a;have x1:=jC hx3 1;have fo:=qaE h3a.c 7;have co:=h3a.cellC 7;have H3a:=aM h3a;have HX3:=aM hx3;have HK3a:=aM (HK2.out.trans (qaY.of_below hb3a));clear hW hb3a h3a hx3
 go_upto_region 12 with (fail)
 generalize hW:W2a.setCell ⟨gc,7,none⟩ (.bool true)=W3;have h3:St w0 W3 gc gb gp { m with ops:=wrap64 (m.ops+1),off:=true } D:=by rw [← hW];exact H3a.out.setC 7 _ rfl rfl rfl H3a.out.pln
 have hk3:qaY W W3:=by rw [← hW];exact HK3a.out.set H3a.out.c (by decide) _ _
 have hx3:W3.heap[w2.heap.size]?=some (.cells #[.int .i64 f.f0,.int .i64 f.f1,.int .i64 0] 83 (0,0)):=by rw [← hW];exact qaT HX3.out (qaW HX3.out H3a.out.c (by decide)) _
 have x2:=jC hx3 2;have HK3:=aM hk3;clear hW hk3 hx3 x1 fo co;have H3:=aM h3;clear h3;go_wp2;go_ret;exact ⟨rfl,H3.out,HK3.out⟩
theorem qoD (h:St w0 W gc gb gp m D) (hoff:m.off=false) (f:F3) (hplan:qcX m.pl (tgt m)=some f) (hf1:f.f1 ≠ 2) (hf2:f.f2=1) (n p:Nat) (hn:n < m.g.B) (hp:p < m.g.P) (hbad:(m.bk n).bad=false) (hnx:(m.bk n).nx=p) (A:Option Addr) (c:Nat) (l:List Int) (hr:∀ w',Below w0.heap.size w0 w'→qaY W w'→Kd.C kB w' A l.length l) (hc:l.length≤c) (hl:l.length≤m.g.Z) :
  Calls Tryz.prog 58 #[cp gc,.int .i64 n,.int .i64 p,.slice A l.length c] W fun e w'=>e=.returned (.int .i64 6)∧St w0 w' gc gb gp (({ m with ops:=wrap64 (m.ops+1),off:=true }:Ch).setBk n { ((m.bk n).setPg p ⟨2,.slice none 0 0⟩) with nx:=wrap64 ((p:Int)+1) }) (qiL D n p [])∧qaY W w':=by
 have HRY:=aM (qbP h hoff n hn);have H:=aM h;have HPL:=aM hplan;have HBD:=aM hbad;have HNX:=aM hnx;have HRD:=aM hr;have HCC:=aM hc;have hzz:=h.gok.2.2;have HLZ:=aM (show l.length≤140737488355328 by omega);clear hzz;have d1:decide ((p:Int) < 0)=false:=decide_eq_false (by omega);have d2:decide ((m.g.P:Int)≤(p:Int))=false:=decide_eq_false (by omega);have d3:decide (m.g.P≤p)=false:=decide_eq_false (by omega);have d4:decide ((m.g.Z:Int) < (l.length:Int))=false:=decide_eq_false (by omega);have d5:decide (m.g.Z < l.length)=false:=decide_eq_false (by omega);have hqp:((p:Int) < (m.g.P:Int))=True:=eq_true (by omega);have hqp2:(p < m.g.P)=True:=eq_true hp;have hu44:=Tryz.underlying83;have hu65:=Tryz.underlying159;have HF1:=aM hf1;have e1:(f.f1==(2:Int))=false:=by simp only [beq_eq_false_iff_ne];exact hf1
 have HF2:=aM hf2;clear h hoff hplan hbad hnx hr hc hf1 hf2;go_enter Tryz.func58,Tryz.ntmps58
 go_upto_region 9 with (first
  | (go_at_call 114;(with_reducible refine HRY.out.mono ?_);rintro e w1 ⟨rfl,hb1⟩;have h1:=H.out.grow hb1;have H1:=aM h1;have HB1:=aM hb1;obtain ⟨z0,z1,z2,z3⟩:=h1.cellB n hn;rw [HBD.out] at z0;rw [HNX.out] at z3;have y2:w1.cell? ⟨gc,2,none⟩=some (.int .i64 m.g.Z):=h1.cellC 2;clear hb1 h1))
 clear z0 z1 z2 z3 y2;have hbn:=qdB H1.out;rw [show qcX m.pl (wrap64 (wrap64 (m.ops+1) - m.frm))=some f from HPL.out,show bgV (some f)=.tuple #[.agg #[.int .i64 f.f0,.int .i64 f.f1,.int .i64 f.f2],.bool true] from rfl] at hbn;have HBN:=aM hbn;clear hbn
 go_upto_region 10 with (first
  | (go_at_call 115;(with_reducible refine HBN.out.mono ?_);rintro e w2 ⟨rfl,h2,hk2⟩;have H2:=aM h2;have HK2:=aM ((qaY.of_below HB1.out).trans hk2);clear h2 hk2))
 go_upto_block 0 with (fail)
 generalize hW:w2.alloc (.cells #[.int .i64 f.f0,.int .i64 f.f1,.int .i64 f.f2] 83)=W2a;have hb3a:Below w2.heap.size w2 W2a:=by rw [← hW];exact qaA (Below.refl _ _) _
 have hx3:W2a.heap[w2.heap.size]?=some (.cells #[.int .i64 f.f0,.int .i64 f.f1,.int .i64 f.f2] 83 (0,0)):=by rw [← hW];exact qaM _ _ _
 rw [HF2.out] at hx3;have h3a:=H2.out.grow hb3a;have x1:=jC hx3 1;have fo:=qaE h3a.c 7;have co:=h3a.cellC 7;have H3a:=aM h3a;have HX3:=aM hx3;have HK3a:=aM (HK2.out.trans (qaY.of_below hb3a));clear hW hb3a h3a hx3
 go_upto_region 12 with (fail)
 generalize hW:W2a.setCell ⟨gc,7,none⟩ (.bool true)=W3;have h3:St w0 W3 gc gb gp { m with ops:=wrap64 (m.ops+1),off:=true } D:=by rw [← hW];exact H3a.out.setC 7 _ rfl rfl rfl H3a.out.pln
 have hk3:qaY W W3:=by rw [← hW];exact HK3a.out.set H3a.out.c (by decide) _ _
 have hx3:W3.heap[w2.heap.size]?=some (.cells #[.int .i64 f.f0,.int .i64 f.f1,.int .i64 1] 83 (0,0)):=by rw [← hW];exact qaT HX3.out (qaW HX3.out H3a.out.c (by decide)) _
 have x2:=jC hx3 2;have HK3:=aM hk3;clear hW hk3 hx3 x1 fo co;obtain ⟨z0,z1,z2,z3⟩:=h3.cellB n hn;obtain ⟨q0,q1⟩:=h3.cellP n hn p hp;have fq0:=qaE (h3.p n hn) (p*2);have fq1:=qaE (h3.p n hn) (p*2+1);have H3:=aM h3;clear h3
 go_upto_region 22 with (fail)
 generalize hW:(W3.setCell ⟨gp n,p*2,none⟩ (.int .i64 2)).setCell ⟨gp n,p*2+1,none⟩ (.slice none 0 0)=W4;have h4:=H3.out.page n hn p hp 2 (.slice none 0 0) [] (Kd.R_nil _ _ _ _ _);have hk4:=(HK3.out.set (H3.out.p n hn) (by decide) (p*2) (.int .i64 2)).set (qcB (H3.out.p n hn) (p*2) (.int .i64 2)) (by decide) (p*2+1) (.slice none 0 0);rw [hW] at h4 hk4;clear z0 z1 z2 z3 q0 q1 fq0 fq1 x2;have z3:=(h4.cellB n hn).2.2.2;rw [qaX] at z3;change W4.cell? ⟨gb,n*4+3,none⟩=some (.int .i64 (m.bk n).nx) at z3;rw [HNX.out] at z3;have f3:=qaE h4.b (n*4+3);have H4:=aM h4;have HK4:=aM hk4;clear hW h4 hk4;go_wp2;go_ret;have h7:=H4.out.nx n (wrap64 ((p:Int)+1));rw [qaX,qbN] at h7;exact ⟨rfl,h7,HK4.out.set H4.out.b (by decide) _ _⟩
theorem qoC (h:St w0 W gc gb gp m D) (hoff:m.off=false) (f:F3) (hplan:qcX m.pl (tgt m)=some f) (hf1:f.f1 ≠ 2) (hf2:f.f2 ≠ 0) (hf3:f.f2 ≠ 1) (n p:Nat) (hn:n < m.g.B) (hp:p < m.g.P) (hbad:(m.bk n).bad=false) (hnx:(m.bk n).nx=p) (A:Option Addr) (c:Nat) (l:List Int) (hr:∀ w',Below w0.heap.size w0 w'→qaY W w'→Kd.C kB w' A l.length l) (hc:l.length≤c) (hl:l.length≤m.g.Z) :
  Calls Tryz.prog 58 #[cp gc,.int .i64 n,.int .i64 p,.slice A l.length c] W fun e w'=>e=.returned (.int .i64 6)∧(∃ v:Value,St w0 w' gc gb gp (({ m with ops:=wrap64 (m.ops+1),off:=true }:Ch).setBk n { ((m.bk n).setPg p ⟨1,v⟩) with nx:=wrap64 ((p:Int)+1) }) (qiL D n p l))∧qaY W w':=by
 have HRY:=aM (qbP h hoff n hn);have H:=aM h;have HPL:=aM hplan;have HBD:=aM hbad;have HNX:=aM hnx;have HRD:=aM hr;have HCC:=aM hc;have hzz:=h.gok.2.2;have HLZ:=aM (show l.length≤140737488355328 by omega);clear hzz;have d1:decide ((p:Int) < 0)=false:=decide_eq_false (by omega);have d2:decide ((m.g.P:Int)≤(p:Int))=false:=decide_eq_false (by omega);have d3:decide (m.g.P≤p)=false:=decide_eq_false (by omega);have d4:decide ((m.g.Z:Int) < (l.length:Int))=false:=decide_eq_false (by omega);have d5:decide (m.g.Z < l.length)=false:=decide_eq_false (by omega);have hqp:((p:Int) < (m.g.P:Int))=True:=eq_true (by omega);have hqp2:(p < m.g.P)=True:=eq_true hp;have hu44:=Tryz.underlying83;have hu65:=Tryz.underlying159;have HF1:=aM hf1;have e1:(f.f1==(2:Int))=false:=by simp only [beq_eq_false_iff_ne];exact hf1
 have e2:(f.f2==(0:Int))=false:=by simp only [beq_eq_false_iff_ne];exact hf2
 have e3:(f.f2==(1:Int))=false:=by simp only [beq_eq_false_iff_ne];exact hf3
 clear h hoff hplan hbad hnx hr hc hf1 hf2 hf3;go_enter Tryz.func58,Tryz.ntmps58
 go_upto_region 9 with (first
  | (go_at_call 114;(with_reducible refine HRY.out.mono ?_);rintro e w1 ⟨rfl,hb1⟩;have h1:=H.out.grow hb1;have H1:=aM h1;have HB1:=aM hb1;obtain ⟨z0,z1,z2,z3⟩:=h1.cellB n hn;rw [HBD.out] at z0;rw [HNX.out] at z3;have y2:w1.cell? ⟨gc,2,none⟩=some (.int .i64 m.g.Z):=h1.cellC 2;clear hb1 h1))
 clear z0 z1 z2 z3 y2;have hbn:=qdB H1.out;rw [show qcX m.pl (wrap64 (wrap64 (m.ops+1) - m.frm))=some f from HPL.out,show bgV (some f)=.tuple #[.agg #[.int .i64 f.f0,.int .i64 f.f1,.int .i64 f.f2],.bool true] from rfl] at hbn;have HBN:=aM hbn;clear hbn
 go_upto_region 10 with (first
  | (go_at_call 115;(with_reducible refine HBN.out.mono ?_);rintro e w2 ⟨rfl,h2,hk2⟩;have H2:=aM h2;have HK2:=aM ((qaY.of_below HB1.out).trans hk2);clear h2 hk2))
 go_upto_block 0 with (fail)
 generalize hW:w2.alloc (.cells #[.int .i64 f.f0,.int .i64 f.f1,.int .i64 f.f2] 83)=W2a;have hb3a:Below w2.heap.size w2 W2a:=by rw [← hW];exact qaA (Below.refl _ _) _
 have hx3:W2a.heap[w2.heap.size]?=some (.cells #[.int .i64 f.f0,.int .i64 f.f1,.int .i64 f.f2] 83 (0,0)):=by rw [← hW];exact qaM _ _ _
 have h3a:=H2.out.grow hb3a;have x1:=jC hx3 1;have fo:=qaE h3a.c 7;have co:=h3a.cellC 7;have H3a:=aM h3a;have HX3:=aM hx3;have HK3a:=aM (HK2.out.trans (qaY.of_below hb3a));clear hW hb3a h3a hx3
 go_upto_region 12 with (fail)
 generalize hW:W2a.setCell ⟨gc,7,none⟩ (.bool true)=W3;have h3:St w0 W3 gc gb gp { m with ops:=wrap64 (m.ops+1),off:=true } D:=by rw [← hW];exact H3a.out.setC 7 _ rfl rfl rfl H3a.out.pln
 have hk3:qaY W W3:=by rw [← hW];exact HK3a.out.set H3a.out.c (by decide) _ _
 have hx3:W3.heap[w2.heap.size]?=some (.cells #[.int .i64 f.f0,.int .i64 f.f1,.int .i64 f.f2] 83 (0,0)):=by rw [← hW];exact qaT HX3.out (qaW HX3.out H3a.out.c (by decide)) _
 have x2:=jC hx3 2;have HK3:=aM hk3;clear hW hk3 hx3 x1 fo co;obtain ⟨z0,z1,z2,z3⟩:=h3.cellB n hn;obtain ⟨q0,q1⟩:=h3.cellP n hn p hp;have fq0:=qaE (h3.p n hn) (p*2);have fq1:=qaE (h3.p n hn) (p*2+1);have H3:=aM h3;clear h3
 go_upto_region 22 with (fail)
 generalize hW:(W3.setCell ⟨gp n,p*2,none⟩ (.int .i64 1)).setCell ⟨gp n,p*2+1,none⟩ (.slice none 0 0)=W4;have h4:=H3.out.page n hn p hp 1 (.slice none 0 0) [] (Kd.R_nil _ _ _ _ _);have hk4:=(HK3.out.set (H3.out.p n hn) (by decide) (p*2) (.int .i64 1)).set (qcB (H3.out.p n hn) (p*2) (.int .i64 1)) (by decide) (p*2+1) (.slice none 0 0);rw [hW] at h4 hk4;clear z0 z1 z2 z3 q0 q1 fq0 fq1 x2;have H4:=aM h4;have HK4:=aM hk4;clear hW h4 hk4
 go_upto_region 23 with (fail)
 refine Rel.tail (m:=9) [(0,96,.inl ?r2v0),(1,97,.inl ?r2v1),(2,98,.inl ?r2v2),(3,99,.inl ?r2v3),(4,100,.inl ?r2v4),(5,101,.inl ?r2v5),(6,102,.inr (fun v w'=>Kd.R kB 5 w' w0.heap.size (fun _=>True) v l)),(7,103,.inl ?r2v7),(8,104,.inl ?r2v8)] (fun w'=>Below W4.heap.size W4 w') (fun w' w''=>Below w'.heap.size w' w'') (by rfl) rfl (by kernel_rfl) (by kernel_rfl) (by kernel_rfl) ?r2S (Rel.stable_inl (Rel.stable_inl (Rel.stable_inl (Rel.stable_inl (Rel.stable_inl (Rel.stable_inl (Rel.stable_inr (fun v w w' hb h=>Kd.R_below h hb) (Rel.stable_inl (Rel.stable_inl Rel.stable_nil))))))))) ?r2steps ?r2okv ?r2hlt ?r2fin;case r2S=>exact qaO (Below.refl _ _)
 case r2steps =>
  refine Rel.from_some 0 rfl rfl (fun a wq hS hK K hC=>?_) ?_
  ·refine Reg.sO ?_;have e9:=hK.off 9 _ rfl rfl;clear hK;go_simp;exact hC _ hS (Below.refl _ _)
  refine Rel.from_some 1 rfl rfl (fun a wq hS hK K hC=>?_) ?_
  ·refine Reg.sO ?_;have e96:=hK.sl 0 rfl;clear hK;go_simp;exact hC _ hS (Below.refl _ _)
  refine Rel.from_some 2 rfl rfl (fun a wq hS hK K hC=>?_) ?_
  ·refine Reg.sO ?_;have e97:=hK.sl 1 rfl;clear hK;go_simp;exact hC _ hS (Below.refl _ _)
  refine Rel.from_some 3 rfl rfl (fun a wq hS hK K hC=>?_) ?_
  ·refine Reg.sO ?_;have e98:=hK.sl 2 rfl;have zz:=((H4.out.grow hS).cellB n hn).2.2.1;change _=some (Value.slice (some ⟨gp n,0,none⟩) m.g.P m.g.P) at zz;clear hK;go_simp;exact hC _ hS (Below.refl _ _)
  refine Rel.from_some 4 rfl rfl (fun a wq hS hK K hC=>?_) ?_
  ·refine Reg.sO ?_;have e2:=hK.off 2 _ rfl rfl;clear hK;go_simp;exact hC _ hS (Below.refl _ _)
  refine Rel.from_some 5 rfl rfl (fun a wq hS hK K hC=>?_) ?_
  ·refine Reg.sO ?_;have e3:=hK.off 3 _ rfl rfl;clear hK;go_simp;exact hC _ hS (Below.refl _ _)
  refine Rel.from_rel 6 rfl rfl (fun a wq hS hK K hC=>?_) ?_
  ·refine Reg.sO ?_;have e101:=hK.sl 5 rfl;clear hK;go_simp;go_at_call 116;(with_reducible refine (qlB A c l wq (HRD.out wq (H4.out.grow hS).below (HK4.out.trans (qaY.of_below hS))) HCC.out ?cb).mono ?_);case cb=>exact HLZ.out
   rintro e w' ⟨v,rfl,ho,hb⟩;exact hC v w' (qaC hS hb) hb (Kd.R_lower ho (qaI (H4.out.grow hS).below))
  refine Rel.from_some 7 rfl rfl (fun a wq hS hK K hC=>?_) ?_
  ·refine Reg.sO ?_;have e99:=hK.sl 3 rfl;have e100:=hK.sl 4 rfl;clear hK;go_simp;exact hC _ hS (Below.refl _ _)
  refine Rel.from_some 8 rfl rfl (fun a wq hS hK K hC=>?_) ?_
  ·refine Reg.sO ?_;have e103:=hK.sl 7 rfl;clear hK;go_simp;exact hC _ hS (Below.refl _ _)
  exact Rel.from_nil
 case r2okv=>rfl
 case r2hlt=>rfl
 case r2fin =>
  intro U wz hS hU;have q6:=hU 6 _ _ _ rfl;clear hU;simp only [Rel.inst,Nat.zero_add,Nat.reduceAdd,Reg.putV,List.foldl_cons,List.foldl_nil,Act.put,List.setIfInBounds_toArray,List.set_cons_zero,List.set_cons_succ];have h5:=H4.out.grow hS;have HQ:=aM q6;obtain ⟨r0,r1⟩:=h5.cellP n hn p hp;have fr1:=qaE (h5.p n hn) (p*2+1);have H5:=aM h5;have HK5:=aM (HK4.out.trans (qaY.of_below hS));obtain ⟨A6,c6,e6⟩:=Kd.R_slice q6;rw [e6] at HQ ⊢;clear hS h5 q6 e6;refine Rel.tail_cons (fun K hK=>?_);refine Reg.sO ?_;go_simp;refine hK _ _ ?_;clear hK r0 r1 fr1;refine Rel.tail_nil ?_;have h6:=H5.out.pageD n hn p hp (.slice A6 l.length c6) l HQ.out;have hk6:=HK5.out.set (H5.out.p n hn) (by decide) (p*2+1) (.slice A6 l.length c6);rw [qaX,qbN,qeC,qhB,qlV] at h6;generalize wz.setCell ⟨gp n,p*2+1,none⟩ (.slice A6 l.length c6)=W6 at h6 hk6 ⊢;obtain ⟨z0,z1,z2,z3⟩:=h6.cellB n hn;rw [qaX] at z3;change W6.cell? ⟨gb,n*4+3,none⟩=some (.int .i64 (m.bk n).nx) at z3;rw [HNX.out] at z3;have f3:=qaE h6.b (n*4+3);have H6:=aM h6;have HK6:=aM hk6;clear h6 hk6 z0 z1 z2;go_wp2;go_ret;have h7:=H6.out.nx n (wrap64 ((p:Int)+1));rw [qaX,qbN] at h7;exact ⟨rfl,⟨_,h7⟩,HK6.out.set H6.out.b (by decide) _ _⟩
theorem qoA (h:St w0 W gc gb gp m D) (hoff:m.off=false) (n p:Nat) (hn:n < m.g.B) (hp:p < m.g.P) (hbad:(m.bk n).bad=true∨(m.bk n).nx ≠ p) (A:Option Addr) (len c:Nat) (hl:len≤m.g.Z) :
  Calls Tryz.prog 58 #[cp gc,.int .i64 n,.int .i64 p,.slice A len c] W fun e w'=>e=.returned (.int .i64 1)∧St w0 w' gc gb gp { m with wrong:=wrap64 (m.wrong+1) } D∧qaY W w':=by
 have HRY:=aM (qbP h hoff n hn);have H:=aM h;have HBD:=aM hbad;have d1:decide ((p:Int) < 0)=false:=decide_eq_false (by omega);have d2:decide ((m.g.P:Int)≤(p:Int))=false:=decide_eq_false (by omega);have d3:decide (m.g.P≤p)=false:=decide_eq_false (by omega);have d4:decide ((m.g.Z:Int) < (len:Int))=false:=decide_eq_false (by omega);have d5:decide (m.g.Z < len)=false:=decide_eq_false (by omega);clear h hoff hbad
 cases hb:(m.bk n).bad with
 | true =>
  have HB:=aM hb;clear hb;go_enter Tryz.func58,Tryz.ntmps58
  go_wp2_with (first
   | (go_at_call 114;(with_reducible refine HRY.out.mono ?_);rintro e w1 ⟨rfl,hb1⟩;have h1:=H.out.grow hb1;have H1:=aM h1;have HB1:=aM hb1;obtain ⟨z0,z1,z2,z3⟩:=h1.cellB n hn;rw [HB.out] at z0;have y2:w1.cell? ⟨gc,2,none⟩=some (.int .i64 m.g.Z):=h1.cellC 2;have y9:w1.cell? ⟨gc,9,none⟩=some (.int .i64 m.wrong):=h1.cellC 9;have f9:=qaE h1.c 9;clear hb1 h1))
  go_ret;exact ⟨rfl,H1.out.wrong _,(qaY.of_below HB1.out).set H1.out.c (by decide) _ _⟩
 | false =>
  have hne:(m.bk n).nx ≠ p:=by
   rcases HBD.out with h|h
   ·rw [hb] at h;cases h
   ·exact h
  have e1:((p:Int)==(m.bk n).nx)=false:=by simp only [beq_eq_false_iff_ne];exact fun h=>hne h.symm
  have e2:((p:Int) != (m.bk n).nx)=true:=by simp only [bne_iff_ne];exact fun h=>hne h.symm
  have HB:=aM hb;clear hb hne;go_enter Tryz.func58,Tryz.ntmps58
  go_wp2_with (first
   | (go_at_call 114;(with_reducible refine HRY.out.mono ?_);rintro e w1 ⟨rfl,hb1⟩;have h1:=H.out.grow hb1;have H1:=aM h1;have HB1:=aM hb1;obtain ⟨z0,z1,z2,z3⟩:=h1.cellB n hn;rw [HB.out] at z0;have y2:w1.cell? ⟨gc,2,none⟩=some (.int .i64 m.g.Z):=h1.cellC 2;have y9:w1.cell? ⟨gc,9,none⟩=some (.int .i64 m.wrong):=h1.cellC 9;have f9:=qaE h1.c 9;clear hb1 h1))
  go_ret;exact ⟨rfl,H1.out.wrong _,(qaY.of_below HB1.out).set H1.out.c (by decide) _ _⟩
end
section
variable {w0 W:World} {gc gb:Nat} {gp:Nat→Nat} {m:Ch} {D:Nat→Nat→List Int}
def pre (Z:Nat) (xs:List Int) (i:Nat):List Int:=(xs ++ List.replicate (i - xs.length) 255) ++ List.replicate (Z - i) 0
theorem qvE (Z:Nat) (xs:List Int) (i:Nat) (h:xs.length≤i) (h2:i < Z):(pre Z xs i).set i 255=pre Z xs (i+1):=by
 unfold pre;have e1:(xs ++ List.replicate (i - xs.length) (255:Int)).length=i:=by simp;omega
 rw [List.set_append_right _ _ (by rw [e1];exact Nat.le_refl _),e1,Nat.sub_self];rw [show Z - i=(Z - (i+1))+1 by omega,List.replicate_succ,List.set_cons_zero];rw [show i+1 - xs.length=(i - xs.length)+1 by omega,List.replicate_succ',List.append_assoc,List.append_assoc,List.append_assoc];rfl
theorem qvD (Z:Nat) (xs:List Int) (h:xs.length≤Z):xs.take (min xs.length (List.replicate Z (0:Int)).length) ++ (List.replicate Z (0:Int)).drop (min xs.length (List.replicate Z (0:Int)).length)=pre Z xs xs.length:=by
 unfold pre;rw [List.length_replicate,Nat.min_eq_left h,List.take_length,List.drop_replicate,Nat.sub_self,List.replicate_zero,List.append_nil]
theorem qvF (Z:Nat) (xs:List Int):pre Z xs Z=xs ++ List.replicate (Z - xs.length) 255:=by
 unfold pre;simp
theorem qsR (h:St w0 W gc gb gp m D) (hoff:m.off=false) (n p:Nat) (hn:n < m.g.B) (hp:p < m.g.P) (hs1:((m.bk n).pg p).st ≠ 2) (hs2:((m.bk n).pg p).st ≠ 1) :
  Calls Tryz.prog 77 #[cp gc,.int .i64 n,.int .i64 p] W fun e w'=>∃ v:Value,e=.returned (.tuple #[v,.int .i64 0])∧Kd.R kB 5 w' W.heap.size (fun _=>True) v (List.replicate m.g.Z 255)∧Below W.heap.size W w':=by
 have HRY:=aM (qbP h hoff n hn);have H:=aM h;have hzz:=h.gok.2.2;have d1:decide ((p:Int) < 0)=false:=decide_eq_false (by omega);have d2:decide ((m.g.P:Int)≤(p:Int))=false:=decide_eq_false (by omega);have d3:decide (m.g.P≤p)=false:=decide_eq_false (by omega);have hqp:((p:Int) < (m.g.P:Int))=True:=eq_true (by omega);have hqp2:(p < m.g.P)=True:=eq_true hp;have hu65:=Tryz.underlying159;have e1:(((m.bk n).pg p).st==(2:Int))=false:=by simp only [beq_eq_false_iff_ne];exact hs1
 have e2:(((m.bk n).pg p).st==(1:Int))=false:=by simp only [beq_eq_false_iff_ne];exact hs2
 generalize hst:((m.bk n).pg p).st=st at e1 e2;have HS:=aM hst;clear hst hs1 hs2;clear h hoff
 obtain ⟨Z,hZ⟩:∃ Z,m.g.Z=Z:=⟨_,rfl⟩
 rw [hZ] at hzz ⊢;go_enter Tryz.func77,Tryz.ntmps77
 go_upto_region 6 with (first
  | (go_at_call 114;(with_reducible refine HRY.out.mono ?_);rintro e w1 ⟨rfl,hb1⟩;have h1:=H.out.grow hb1;have H1:=aM h1;have HB1:=aM hb1;obtain ⟨z0,z1,z2,z3⟩:=h1.cellB n hn;have y2:w1.cell? ⟨gc,2,none⟩=some (.int .i64 Z):=(by rw [← hZ];exact h1.cellC 2);clear hb1 h1))
 clear z0 z1 z3
 go_upto_region 7 with (first
  | ((with_reducible refine qcL (N:=39) rfl ?_);refine Kd.R_make kB (w0:=w1) w1.heap.size 5 ?hg (N:=39) ?hd 35 _ _ rfl (Z:Int) ?hx ?hy Tryz.underlying35 (.int .u8 0) 1 qrR rfl Nat.zero_lt_one Nat.zero_lt_one 0 (ok:=fun _=>True) (okp:=fun _=>True) rfl (fun _ hk=>hk) trivial ?hn0 ?hn1 (Below.refl _ _) (Nat.le_refl _) ?_;(case hd=>rfl);(case hg=>rfl);(case hx=>go_simp);(case hy=>go_simp);(case hn0=>omega);(case hn1=>omega);intro v2 w2 ho hb _ _;rw [Int.toNat_natCast] at ho;have HO:=aM ho;have HB:=aM hb;clear ho hb))
 clear z2 y2;obtain ⟨g2,c2,ev2,hg2,hl2,_⟩:=Kd.R_form HO.out (by rw [List.length_replicate];omega);simp only [List.length_replicate] at ev2;subst ev2;have h2:=H1.out.grow HB.out;obtain ⟨_,_,z2,_⟩:=h2.cellB n hn;obtain ⟨q0,q1⟩:=h2.cellP n hn p hp;rw [HS.out] at q0;have HD:=aM (h2.d n p hn hp);obtain ⟨Ad,cd,ed⟩:=Kd.R_slice (h2.d n p hn hp);rw [ed] at q1 HD;clear ed;have H2:=aM h2;have HG2:=aM hg2;have HL2:=aM hl2;clear h2 hg2 hl2
 go_upto_region 8 with (fail)
 generalize hW:(w2.alloc (.cells #[.int .i64 st,.slice Ad (D n p).length cd] 159))=W3;have hb3:Below w2.heap.size w2 W3:=by rw [← hW];exact qaA (Below.refl _ _) _
 have hx:W3.heap[w2.heap.size]?=some (.cells #[.int .i64 st,.slice Ad (D n p).length cd] 159 (0,0)):=by rw [← hW];exact qaM _ _ _
 have x0:=jC hx 0;have x1:=jC hx 1;have HO3:=aM (Kd.R_below HO.out hb3);have HB3:=aM (qaC HB1.out (qaC HB.out hb3));have HB23:=aM hb3;have HB13:=aM (qaC HB.out hb3);have H3:=aM (H2.out.grow hb3);clear hW hb3 hx z2 q0 q1;go_wp2;go_loopw [51] (fun v51 wr=>∃ i:Nat,0≤i∧i≤Z∧v51=.int .i64 i∧qaJ (Kd.R kB 5 wr w1.heap.size (fun _=>True) (.slice (some ⟨g2,0,none⟩) Z c2) (pre Z [] i))∧qaJ (Below W.heap.size W wr)) (fun i _=>Z - (intOf i).toNat);case atStart=>exact ⟨0,Nat.le_refl _,by omega,rfl,HO3,HB3⟩
 case round =>
  obtain ⟨i,hli,hi,rfl,HR,HBr⟩:=hrel
  by_cases hlt:i < Z
  ·have d0:decide ((i:Int) < (Z:Int))=true:=decide_eq_true (by omega);have hq:(i < Z)=True:=eq_true hlt;have hqi:((i:Int) < (Z:Int))=True:=eq_true (by omega);obtain ⟨k1,k2⟩:=Kd.R_celln 0 HR.out (i:Int) (by omega) (by omega);simp only [Int.toNat_natCast] at k1 k2;have h9:=Kd.R_putn HR.out (i:Int) 255;simp only [Int.toNat_natCast] at h9;rw [qvE Z [] i (Nat.zero_le _) hlt] at h9;have hb9:Below W.heap.size W (wr.setCell ⟨g2,i,none⟩ (.int .u8 255)):=qaK HBr.out (Nat.le_trans (qaI HB1.out) HG2.out);have HR9:=aM h9;have HB9:=aM hb9;clear h9 hb9;go_wp2;go_roundw;case rel=>exact ⟨i+1,by omega,by omega,by push_cast;rfl,HR9,HB9⟩
   case measure=>simp [intOf];omega
  ·obtain rfl:i=Z:=by omega
   have d0:decide ((i:Int) < (i:Int))=false:=decide_eq_false (by omega);go_wp2;go_ret2;have hfin:=Kd.R_lower HR.out (qaI HB1.out);rw [qvF] at hfin;exact ⟨_,rfl,hfin,HBr.out⟩
theorem qvC (h:St w0 W gc gb gp m D) (hoff:m.off=false) (n p:Nat) (hn:n < m.g.B) (hp:p < m.g.P) (hst:((m.bk n).pg p).st=1) (hl:(D n p).length≤m.g.Z) :
  Calls Tryz.prog 77 #[cp gc,.int .i64 n,.int .i64 p] W fun e w'=>∃ v:Value,e=.returned (.tuple #[v,.int .i64 0])∧Kd.R kB 5 w' W.heap.size (fun _=>True) v (D n p ++ List.replicate (m.g.Z - (D n p).length) 255)∧Below W.heap.size W w':=by
 have HRY:=aM (qbP h hoff n hn);have H:=aM h;have hzz:=h.gok.2.2;have d1:decide ((p:Int) < 0)=false:=decide_eq_false (by omega);have d2:decide ((m.g.P:Int)≤(p:Int))=false:=decide_eq_false (by omega);have d3:decide (m.g.P≤p)=false:=decide_eq_false (by omega);have hqp:((p:Int) < (m.g.P:Int))=True:=eq_true (by omega);have hqp2:(p < m.g.P)=True:=eq_true hp;have hu65:=Tryz.underlying159;have HS:=aM hst;clear hst;clear h hoff
 obtain ⟨Z,hZ⟩:∃ Z,m.g.Z=Z:=⟨_,rfl⟩
 rw [hZ] at hzz hl ⊢;go_enter Tryz.func77,Tryz.ntmps77
 go_upto_region 6 with (first
  | (go_at_call 114;(with_reducible refine HRY.out.mono ?_);rintro e w1 ⟨rfl,hb1⟩;have h1:=H.out.grow hb1;have H1:=aM h1;have HB1:=aM hb1;obtain ⟨z0,z1,z2,z3⟩:=h1.cellB n hn;have y2:w1.cell? ⟨gc,2,none⟩=some (.int .i64 Z):=(by rw [← hZ];exact h1.cellC 2);clear hb1 h1))
 clear z0 z1 z3
 go_upto_region 7 with (first
  | ((with_reducible refine qcL (N:=39) rfl ?_);refine Kd.R_make kB (w0:=w1) w1.heap.size 5 ?hg (N:=39) ?hd 35 _ _ rfl (Z:Int) ?hx ?hy Tryz.underlying35 (.int .u8 0) 1 qrR rfl Nat.zero_lt_one Nat.zero_lt_one 0 (ok:=fun _=>True) (okp:=fun _=>True) rfl (fun _ hk=>hk) trivial ?hn0 ?hn1 (Below.refl _ _) (Nat.le_refl _) ?_;(case hd=>rfl);(case hg=>rfl);(case hx=>go_simp);(case hy=>go_simp);(case hn0=>omega);(case hn1=>omega);intro v2 w2 ho hb _ _;rw [Int.toNat_natCast] at ho;have HO:=aM ho;have HB:=aM hb;clear ho hb))
 clear z2 y2;obtain ⟨g2,c2,ev2,hg2,hl2,_⟩:=Kd.R_form HO.out (by rw [List.length_replicate];omega);simp only [List.length_replicate] at ev2;subst ev2;have h2:=H1.out.grow HB.out;obtain ⟨_,_,z2,_⟩:=h2.cellB n hn;obtain ⟨q0,q1⟩:=h2.cellP n hn p hp;rw [HS.out] at q0;have HD:=aM (h2.d n p hn hp);obtain ⟨Ad,cd,ed⟩:=Kd.R_slice (h2.d n p hn hp);rw [ed] at q1 HD;clear ed;have H2:=aM h2;have HG2:=aM hg2;have HL2:=aM hl2;clear h2 hg2 hl2
 go_upto_region 8 with (fail)
 generalize hW:(w2.alloc (.cells #[.int .i64 1,.slice Ad (D n p).length cd] 159))=W3;have hb3:Below w2.heap.size w2 W3:=by rw [← hW];exact qaA (Below.refl _ _) _
 have hx:W3.heap[w2.heap.size]?=some (.cells #[.int .i64 1,.slice Ad (D n p).length cd] 159 (0,0)):=by rw [← hW];exact qaM _ _ _
 have x0:=jC hx 0;have x1:=jC hx 1;have HO3:=aM (Kd.R_below HO.out hb3);have HB3:=aM (qaC HB1.out (qaC HB.out hb3));have HB23:=aM hb3;have HB13:=aM (qaC HB.out hb3);have H3:=aM (H2.out.grow hb3);clear hW hb3 hx z2 q0 q1;have HLL:=aM hl
 go_wp2_with (first
  | ((with_reducible refine qbH (b:=.copy) (xs:=#[.tmp 62,.tmp 64]) rfl ?_);refine Kd.R_copy (enc:=Value.int .u8) (h1:=fun _=>rfl) 0 (w0:=w1) w1.heap.size rfl (.tmp 62) (.tmp 64) 35 35 5 rfl Tryz.underlying35 (by kernel_rfl) (.slice (some ⟨g2,0,none⟩) Z c2) (List.replicate Z 0) (D n p) Ad (D n p).length cd (fun _=>True) rfl rfl HO3.out ?aR ?aB ?aS ?_;(case aR=>exact (Kd.R_reads' (Kd.R_below HD.out HB23.out)).2.2);(case aB=>exact HB13.out);(case aS=>exact qaI HB13.out);intro w4 ho hb hg;rw [qvD Z _ HLL.out] at ho;have HO4:=aM ho;have x1':=hg.cell x1 ?xr;(case xr=>simp [Value.ownBlock];exact Ne.symm (Nat.ne_of_lt HL2.out));have HB4:=aM (qaC HB1.out hb);clear ho hb hg))
 go_loopw [12] (fun v51 wr=>∃ i:Nat,(D n p).length≤i∧i≤Z∧v51=.int .i64 i∧qaJ (Kd.R kB 5 wr w1.heap.size (fun _=>True) (.slice (some ⟨g2,0,none⟩) Z c2) (pre Z (D n p) i))∧qaJ (Below W.heap.size W wr)) (fun i _=>Z - (intOf i).toNat);case atStart=>exact ⟨(D n p).length,Nat.le_refl _,HLL.out,rfl,HO4,HB4⟩
 case round =>
  obtain ⟨i,hli,hi,rfl,HR,HBr⟩:=hrel
  by_cases hlt:i < Z
  ·have d0:decide ((i:Int) < (Z:Int))=true:=decide_eq_true (by omega);have hq:(i < Z)=True:=eq_true hlt;have hqi:((i:Int) < (Z:Int))=True:=eq_true (by omega);obtain ⟨k1,k2⟩:=Kd.R_celln 0 HR.out (i:Int) (by omega) (by omega);simp only [Int.toNat_natCast] at k1 k2;have h9:=Kd.R_putn HR.out (i:Int) 255;simp only [Int.toNat_natCast] at h9;rw [qvE Z (D n p) i hli hlt] at h9;have hb9:Below W.heap.size W (wr.setCell ⟨g2,i,none⟩ (.int .u8 255)):=qaK HBr.out (Nat.le_trans (qaI HB1.out) HG2.out);have HR9:=aM h9;have HB9:=aM hb9;clear h9 hb9;go_wp2;go_roundw;case rel=>exact ⟨i+1,by omega,by omega,by push_cast;rfl,HR9,HB9⟩
   case measure=>simp [intOf];omega
  ·obtain rfl:i=Z:=by omega
   have d0:decide ((i:Int) < (i:Int))=false:=decide_eq_false (by omega);go_wp2;go_ret2;have hfin:=Kd.R_lower HR.out (qaI HB1.out);rw [qvF] at hfin;exact ⟨_,rfl,hfin,HBr.out⟩
theorem qvB (h:St w0 W gc gb gp m D) (hoff:m.off=false) (n p:Nat) (hn:n < m.g.B) (hp:p < m.g.P) (hst:((m.bk n).pg p).st=2) :
  Calls Tryz.prog 77 #[cp gc,.int .i64 n,.int .i64 p] W fun e w'=>e=.returned (.tuple #[.slice none 0 0,.int .i64 5])∧Below W.heap.size W w':=by
 have HRY:=aM (qbP h hoff n hn);have H:=aM h;have hzz:=h.gok.2.2;have d1:decide ((p:Int) < 0)=false:=decide_eq_false (by omega);have d2:decide ((m.g.P:Int)≤(p:Int))=false:=decide_eq_false (by omega);have d3:decide (m.g.P≤p)=false:=decide_eq_false (by omega);have hqp:((p:Int) < (m.g.P:Int))=True:=eq_true (by omega);have hqp2:(p < m.g.P)=True:=eq_true hp;have hu65:=Tryz.underlying159;have HS:=aM hst;clear hst;clear h hoff
 obtain ⟨Z,hZ⟩:∃ Z,m.g.Z=Z:=⟨_,rfl⟩
 rw [hZ] at hzz;go_enter Tryz.func77,Tryz.ntmps77
 go_upto_region 6 with (first
  | (go_at_call 114;(with_reducible refine HRY.out.mono ?_);rintro e w1 ⟨rfl,hb1⟩;have h1:=H.out.grow hb1;have H1:=aM h1;have HB1:=aM hb1;obtain ⟨z0,z1,z2,z3⟩:=h1.cellB n hn;have y2:w1.cell? ⟨gc,2,none⟩=some (.int .i64 Z):=(by rw [← hZ];exact h1.cellC 2);clear hb1 h1))
 clear z0 z1 z3
 go_upto_region 7 with (first
  | ((with_reducible refine qcL (N:=39) rfl ?_);refine Kd.R_make kB (w0:=w1) w1.heap.size 5 ?hg (N:=39) ?hd 35 _ _ rfl (Z:Int) ?hx ?hy Tryz.underlying35 (.int .u8 0) 1 qrR rfl Nat.zero_lt_one Nat.zero_lt_one 0 (ok:=fun _=>True) (okp:=fun _=>True) rfl (fun _ hk=>hk) trivial ?hn0 ?hn1 (Below.refl _ _) (Nat.le_refl _) ?_;(case hd=>rfl);(case hg=>rfl);(case hx=>go_simp);(case hy=>go_simp);(case hn0=>omega);(case hn1=>omega);intro v2 w2 ho hb _ _;rw [Int.toNat_natCast] at ho;have HO:=aM ho;have HB:=aM hb;clear ho hb))
 clear z2 y2;obtain ⟨g2,c2,ev2,hg2,hl2,_⟩:=Kd.R_form HO.out (by rw [List.length_replicate];omega);simp only [List.length_replicate] at ev2;subst ev2;have h2:=H1.out.grow HB.out;obtain ⟨_,_,z2,_⟩:=h2.cellB n hn;obtain ⟨q0,q1⟩:=h2.cellP n hn p hp;rw [HS.out] at q0;have HD:=aM (h2.d n p hn hp);obtain ⟨Ad,cd,ed⟩:=Kd.R_slice (h2.d n p hn hp);rw [ed] at q1 HD;clear ed;have H2:=aM h2;have HG2:=aM hg2;have HL2:=aM hl2;clear h2 hg2 hl2
 go_upto_region 8 with (fail)
 generalize hW:(w2.alloc (.cells #[.int .i64 2,.slice Ad (D n p).length cd] 159))=W3;have hb3:Below w2.heap.size w2 W3:=by rw [← hW];exact qaA (Below.refl _ _) _
 have hx:W3.heap[w2.heap.size]?=some (.cells #[.int .i64 2,.slice Ad (D n p).length cd] 159 (0,0)):=by rw [← hW];exact qaM _ _ _
 have x0:=jC hx 0;have x1:=jC hx 1;have HO3:=aM (Kd.R_below HO.out hb3);have HB3:=aM (qaC HB1.out (qaC HB.out hb3));have HB23:=aM hb3;have HB13:=aM (qaC HB.out hb3);have H3:=aM (H2.out.grow hb3);clear hW hb3 hx z2 q0 q1;go_wp2;go_ret2;exact ⟨rfl,HB3.out⟩
end
section
variable {w0 W:World} {gc gb:Nat} {gp:Nat→Nat} {m:Ch} {D:Nat→Nat→List Int}
def clr (st:Int) (i:Nat) (b:Bk):Bk:={ b with pg:=fun x=>if x < i then ⟨st,.slice none 0 0⟩ else b.pg x }
def qpC (D:Nat→Nat→List Int) (n i:Nat):Nat→Nat→List Int:=fun x y=>if x=n∧y < i then [] else D x y
theorem qrV (st:Int) (b:Bk):clr st 0 b=b:=by unfold clr;simp
theorem qpA (D:Nat→Nat→List Int) (n:Nat):qpC D n 0=D:=by funext x y;unfold qpC;simp
theorem qrB (m:Ch) (n:Nat):m.setBk n (m.bk n)=m:=by
 unfold Ch.setBk
 congr 1
 funext x
 by_cases h:x=n
 ·subst h;simp
 ·simp [h]
theorem qrW (st:Int) (i:Nat) (b:Bk):(clr st i b).setPg i ⟨st,.slice none 0 0⟩=clr st (i+1) b:=by
 unfold clr Bk.setPg
 congr 1
 funext x
 by_cases h:x=i
 ·subst h;simp
 ·by_cases h2:x < i
  ·simp [h,h2,show x < i+1 by omega]
  ·simp [h,h2,show ¬ x < i+1 by omega]
theorem qpB (D:Nat→Nat→List Int) (n i:Nat):qiL (qpC D n i) n i []=qpC D n (i+1):=by
 funext x y
 unfold qpC qiL
 by_cases h:x=n
 ·subst h
  by_cases h2:y=i
  ·subst h2;simp
  ·by_cases h3:y < i
   ·simp [h2,h3,show y < i+1 by omega]
   ·simp [h2,h3,show ¬ y < i+1 by omega]
 ·simp [h]
theorem qrX (h:St w0 W gc gb gp m D) (n:Nat) (hn:n < m.g.B):Calls Tryz.prog 120 #[bp gb n] W fun e w'=>e=.returned (.tuple #[])∧St w0 w' gc gb gp (m.setBk n { clr 0 m.g.P (m.bk n) with nx:=0 }) (qpC D n m.g.P)∧qaY W w':=by
 have H:=aM h;have z2:=(h.cellB n hn).2.2.1;have hzz:=h.gok.2.1;clear h;go_enter Tryz.func120,Tryz.ntmps120
 go_upto_region 1 with (fail)
 go_loopw [8] (fun v8 wr=>∃ i:Nat,i≤m.g.P∧v8=.int .i64 i∧qaJ (St w0 wr gc gb gp (m.setBk n (clr 0 i (m.bk n))) (qpC D n i))∧qaJ (qaY W wr)) (fun i _=>m.g.P - (intOf i).toNat);case atStart=>exact ⟨0,Nat.zero_le _,rfl,⟨by rw [qrV,qrB,qpA];exact H.out⟩,⟨qaY.refl _⟩⟩
 case round =>
  obtain ⟨i,hi,rfl,HR,HK⟩:=hrel;clear z2;have z2:=(HR.out.cellB n hn).2.2.1;change wr.cell? ⟨gb,n*4+2,none⟩=some (.slice (some ⟨gp n,0,none⟩) m.g.P m.g.P) at z2
  by_cases hlt:i < m.g.P
  ·have d0:decide ((i:Int) < (m.g.P:Int))=true:=decide_eq_true (by omega);have hq:(i < m.g.P)=True:=eq_true hlt;have hqi:((i:Int) < (m.g.P:Int))=True:=eq_true (by omega);have f0:=qaE (HR.out.p n hn) (i*2);have f1:=qaE (HR.out.p n hn) (i*2+1);obtain ⟨q0,q1⟩:=HR.out.cellP n hn i hlt;have h9:=HR.out.page n hn i hlt 0 (.slice none 0 0) [] (Kd.R_nil _ _ _ _ _);rw [qaX,qbN,qrW,qpB] at h9;have hk9:=(HK.out.set (HR.out.p n hn) (by decide) (i*2) (.int .i64 0)).set (qcB (HR.out.p n hn) (i*2) (.int .i64 0)) (by decide) (i*2+1) (.slice none 0 0);have H9:=aM h9;have HK9:=aM hk9;clear h9 hk9;go_wp2;go_roundw;case rel=>exact ⟨i+1,by omega,by push_cast;rfl,H9,HK9⟩
   case measure=>simp [intOf];omega
  ·obtain rfl:i=m.g.P:=by omega
   have d0:decide ((m.g.P:Int) < (m.g.P:Int))=false:=decide_eq_false (by omega);have f3:=qaE HR.out.b (n*4+3);have z3:=(HR.out.cellB n hn).2.2.2;go_wp2;go_end0;have h9:=HR.out.nx n 0;rw [qaX,qbN] at h9;exact ⟨rfl,h9,HK.out.set HR.out.b (by decide) _ _⟩
theorem qrA (h:St w0 W gc gb gp m D) (n:Nat) (hn:n < m.g.B):Calls Tryz.prog 121 #[bp gb n] W fun e w'=>e=.returned (.tuple #[])∧St w0 w' gc gb gp (m.setBk n { clr 2 m.g.P (m.bk n) with nx:=(m.g.P:Int) }) (qpC D n m.g.P)∧qaY W w':=by
 have H:=aM h;have z2:=(h.cellB n hn).2.2.1;have hzz:=h.gok.2.1;clear h;go_enter Tryz.func121,Tryz.ntmps121
 go_upto_region 1 with (fail)
 go_loopw [8] (fun v8 wr=>∃ i:Nat,i≤m.g.P∧v8=.int .i64 i∧qaJ (St w0 wr gc gb gp (m.setBk n (clr 2 i (m.bk n))) (qpC D n i))∧qaJ (qaY W wr)) (fun i _=>m.g.P - (intOf i).toNat);case atStart=>exact ⟨0,Nat.zero_le _,rfl,⟨by rw [qrV,qrB,qpA];exact H.out⟩,⟨qaY.refl _⟩⟩
 case round =>
  obtain ⟨i,hi,rfl,HR,HK⟩:=hrel;clear z2;have z2:=(HR.out.cellB n hn).2.2.1;change wr.cell? ⟨gb,n*4+2,none⟩=some (.slice (some ⟨gp n,0,none⟩) m.g.P m.g.P) at z2
  by_cases hlt:i < m.g.P
  ·have d0:decide ((i:Int) < (m.g.P:Int))=true:=decide_eq_true (by omega);have hq:(i < m.g.P)=True:=eq_true hlt;have hqi:((i:Int) < (m.g.P:Int))=True:=eq_true (by omega);have f0:=qaE (HR.out.p n hn) (i*2);have f1:=qaE (HR.out.p n hn) (i*2+1);obtain ⟨q0,q1⟩:=HR.out.cellP n hn i hlt;have h9:=HR.out.page n hn i hlt 2 (.slice none 0 0) [] (Kd.R_nil _ _ _ _ _);rw [qaX,qbN,qrW,qpB] at h9;have hk9:=(HK.out.set (HR.out.p n hn) (by decide) (i*2) (.int .i64 2)).set (qcB (HR.out.p n hn) (i*2) (.int .i64 2)) (by decide) (i*2+1) (.slice none 0 0);have H9:=aM h9;have HK9:=aM hk9;clear h9 hk9;go_wp2;go_roundw;case rel=>exact ⟨i+1,by omega,by push_cast;rfl,H9,HK9⟩
   case measure=>simp [intOf];omega
  ·obtain rfl:i=m.g.P:=by omega
   have d0:decide ((m.g.P:Int) < (m.g.P:Int))=false:=decide_eq_false (by omega);have f3:=qaE HR.out.b (n*4+3);have z3:=(HR.out.cellB n hn).2.2.2;go_wp2;go_end0;have h9:=HR.out.nx n (m.g.P:Int);rw [qaX,qbN] at h9;exact ⟨rfl,h9,HK.out.set HR.out.b (by decide) _ _⟩
theorem qzK (h:St w0 W gc gb gp m D) (hoff:m.off=false) (hplan:qcX m.pl (tgt m)=none) (n:Nat) (hn:n < m.g.B) (hbad:(m.bk n).bad=false) :
  Calls Tryz.prog 63 #[cp gc,.int .i64 n] W fun e w'=>e=.returned (.int .i64 0)∧St w0 w' gc gb gp (({ m with ops:=wrap64 (m.ops+1) }:Ch).setBk n { clr 0 m.g.P { m.bk n with er:=wrap64 ((m.bk n).er+1) } with nx:=0 }) (qpC D n m.g.P)∧qaY W w':=by
 have HRY:=aM (qbP h hoff n hn);have H:=aM h;have HPL:=aM hplan;have HBD:=aM hbad;have hu44:=Tryz.underlying83;clear h hoff hplan hbad;go_enter Tryz.func63,Tryz.ntmps63
 go_upto_region 7 with (first
  | (go_at_call 114;(with_reducible refine HRY.out.mono ?_);rintro e w1 ⟨rfl,hb1⟩;have h1:=H.out.grow hb1;have H1:=aM h1;have HB1:=aM hb1;have z0:=(h1.cellB n hn).1;rw [HBD.out] at z0;clear hb1 h1))
 clear z0;have hbn:=qdB H1.out;rw [show qcX m.pl (wrap64 (wrap64 (m.ops+1) - m.frm))=none from HPL.out,show bgV none=.tuple #[.agg #[.int .i64 0,.int .i64 0,.int .i64 0],.bool false] from rfl] at hbn;have HBN:=aM hbn;clear hbn
 go_upto_region 8 with (first
  | (go_at_call 115;(with_reducible refine HBN.out.mono ?_);rintro e w2 ⟨rfl,h2,hk2⟩;have H2:=aM h2;have HK2:=aM ((qaY.of_below HB1.out).trans hk2);clear h2 hk2))
 generalize hW:w2.alloc (.cells #[.int .i64 0,.int .i64 0,.int .i64 0] 83)=W3;have hb3:Below w2.heap.size w2 W3:=by rw [← hW];exact qaA (Below.refl _ _) _
 have hx3:W3.heap[w2.heap.size]?=some (.cells #[.int .i64 0,.int .i64 0,.int .i64 0] 83 (0,0)):=by rw [← hW];exact qaM _ _ _
 have h3:=H2.out.grow hb3;have z1:=(h3.cellB n hn).2.1;have f1:=qaE h3.b (n*4+1);have H3:=aM h3;have HX3:=aM hx3;have HK3:=aM (HK2.out.trans (qaY.of_below hb3));clear hW hb3 h3 hx3
 go_upto_region 9 with (fail)
 have h4:=H3.out.er n (wrap64 ((m.bk n).er+1));have hk4:=HK3.out.set H3.out.b (by decide) (n*4+1) (.int .i64 (wrap64 ((m.bk n).er+1)));change St w0 (W3.setCell ⟨gb,n*4+1,none⟩ (.int .i64 (wrap64 ((m.bk n).er+1)))) gc gb gp _ D at h4;have hx4:=qaT (p:=⟨gb,n*4+1,none⟩) HX3.out (qaW HX3.out H3.out.b (by decide)) (.int .i64 (wrap64 ((m.bk n).er+1)));generalize W3.setCell ⟨gb,n*4+1,none⟩ (.int .i64 (wrap64 ((m.bk n).er+1)))=W4 at h4 hk4 hx4 ⊢;have x1:=jC hx4 1;have HCL:=aM (qrX h4 n hn);have HK4:=aM hk4;clear z1 f1 h4 hk4 hx4
 go_wp2_with (first
  | (go_at_call 120;(with_reducible refine HCL.out.mono ?_);rintro e w5 ⟨rfl,h5,hk5⟩;have H5:=aM h5;have HK5:=aM (HK4.out.trans hk5);clear h5 hk5))
 go_ret;have h6:=H5.out;rw [qaX,qbN] at h6;exact ⟨rfl,h6,HK5.out⟩
theorem qtV (h:St w0 W gc gb gp m D) (hoff:m.off=false) (f:F3) (hplan:qcX m.pl (tgt m)=some f) (hf1:f.f1=2) (n:Nat) (hn:n < m.g.B) (hbad:(m.bk n).bad=false) :
  Calls Tryz.prog 63 #[cp gc,.int .i64 n] W fun e w'=>e=.returned (.int .i64 5)∧St w0 w' gc gb gp (({ m with ops:=wrap64 (m.ops+1) }:Ch).setBk n { clr 2 m.g.P { m.bk n with er:=wrap64 ((m.bk n).er+1) } with nx:=(m.g.P:Int) }) (qpC D n m.g.P)∧qaY W w':=by
 have HRY:=aM (qbP h hoff n hn);have H:=aM h;have HPL:=aM hplan;have HBD:=aM hbad;have hu44:=Tryz.underlying83;have HF1:=aM hf1;clear h hoff hplan hbad hf1;go_enter Tryz.func63,Tryz.ntmps63
 go_upto_region 7 with (first
  | (go_at_call 114;(with_reducible refine HRY.out.mono ?_);rintro e w1 ⟨rfl,hb1⟩;have h1:=H.out.grow hb1;have H1:=aM h1;have HB1:=aM hb1;have z0:=(h1.cellB n hn).1;rw [HBD.out] at z0;clear hb1 h1))
 clear z0;have hbn:=qdB H1.out;rw [show qcX m.pl (wrap64 (wrap64 (m.ops+1) - m.frm))=some f from HPL.out,show bgV (some f)=.tuple #[.agg #[.int .i64 f.f0,.int .i64 f.f1,.int .i64 f.f2],.bool true] from rfl] at hbn;have HBN:=aM hbn;clear hbn
 go_upto_region 8 with (first
  | (go_at_call 115;(with_reducible refine HBN.out.mono ?_);rintro e w2 ⟨rfl,h2,hk2⟩;have H2:=aM h2;have HK2:=aM ((qaY.of_below HB1.out).trans hk2);clear h2 hk2))
 generalize hW:w2.alloc (.cells #[.int .i64 f.f0,.int .i64 f.f1,.int .i64 f.f2] 83)=W3;have hb3:Below w2.heap.size w2 W3:=by rw [← hW];exact qaA (Below.refl _ _) _
 have hx3:W3.heap[w2.heap.size]?=some (.cells #[.int .i64 f.f0,.int .i64 f.f1,.int .i64 f.f2] 83 (0,0)):=by rw [← hW];exact qaM _ _ _
 rw [HF1.out] at hx3;have h3:=H2.out.grow hb3;have z1:=(h3.cellB n hn).2.1;have f1:=qaE h3.b (n*4+1);have H3:=aM h3;have HX3:=aM hx3;have HK3:=aM (HK2.out.trans (qaY.of_below hb3));clear hW hb3 h3 hx3
 go_upto_region 9 with (fail)
 have h4:=H3.out.er n (wrap64 ((m.bk n).er+1));have hk4:=HK3.out.set H3.out.b (by decide) (n*4+1) (.int .i64 (wrap64 ((m.bk n).er+1)));change St w0 (W3.setCell ⟨gb,n*4+1,none⟩ (.int .i64 (wrap64 ((m.bk n).er+1)))) gc gb gp _ D at h4;have hx4:=qaT (p:=⟨gb,n*4+1,none⟩) HX3.out (qaW HX3.out H3.out.b (by decide)) (.int .i64 (wrap64 ((m.bk n).er+1)));generalize W3.setCell ⟨gb,n*4+1,none⟩ (.int .i64 (wrap64 ((m.bk n).er+1)))=W4 at h4 hk4 hx4 ⊢;have x1:=jC hx4 1;have HCL:=aM (qrA h4 n hn);have HK4:=aM hk4;clear z1 f1 h4 hk4 hx4
 go_wp2_with (first
  | (go_at_call 121;(with_reducible refine HCL.out.mono ?_);rintro e w5 ⟨rfl,h5,hk5⟩;have H5:=aM h5;have HK5:=aM (HK4.out.trans hk5);clear h5 hk5))
 go_ret;have h6:=H5.out;rw [qaX,qbN] at h6;exact ⟨rfl,h6,HK5.out⟩
theorem qtY (h:St w0 W gc gb gp m D) (hoff:m.off=false) (f:F3) (hplan:qcX m.pl (tgt m)=some f) (hf1:f.f1 ≠ 2) (hf2:f.f2 ≠ 1) (hf3:f.f2 ≠ 2) (n:Nat) (hn:n < m.g.B) (hbad:(m.bk n).bad=false) :
  Calls Tryz.prog 63 #[cp gc,.int .i64 n] W fun e w'=>e=.returned (.int .i64 6)∧St w0 w' gc gb gp (({ m with ops:=wrap64 (m.ops+1),off:=true }:Ch).setBk n { m.bk n with er:=wrap64 ((m.bk n).er+1) }) D∧qaY W w':=by
 have HRY:=aM (qbP h hoff n hn);have H:=aM h;have HPL:=aM hplan;have HBD:=aM hbad;have hu44:=Tryz.underlying83;have e1:(f.f1==(2:Int))=false:=by simp only [beq_eq_false_iff_ne];exact hf1
 have e2:(f.f2==(1:Int))=false:=by simp only [beq_eq_false_iff_ne];exact hf2
 have e3:(f.f2==(2:Int))=false:=by simp only [beq_eq_false_iff_ne];exact hf3
 clear h hoff hplan hbad hf1 hf2 hf3;go_enter Tryz.func63,Tryz.ntmps63
 go_upto_region 7 with (first
  | (go_at_call 114;(with_reducible refine HRY.out.mono ?_);rintro e w1 ⟨rfl,hb1⟩;have h1:=H.out.grow hb1;have H1:=aM h1;have HB1:=aM hb1;have z0:=(h1.cellB n hn).1;rw [HBD.out] at z0;clear hb1 h1))
 clear z0;have hbn:=qdB H1.out;rw [show qcX m.pl (wrap64 (wrap64 (m.ops+1) - m.frm))=some f from HPL.out,show bgV (some f)=.tuple #[.agg #[.int .i64 f.f0,.int .i64 f.f1,.int .i64 f.f2],.bool true] from rfl] at hbn;have HBN:=aM hbn;clear hbn
 go_upto_region 8 with (first
  | (go_at_call 115;(with_reducible refine HBN.out.mono ?_);rintro e w2 ⟨rfl,h2,hk2⟩;have H2:=aM h2;have HK2:=aM ((qaY.of_below HB1.out).trans hk2);clear h2 hk2))
 generalize hW:w2.alloc (.cells #[.int .i64 f.f0,.int .i64 f.f1,.int .i64 f.f2] 83)=W3;have hb3:Below w2.heap.size w2 W3:=by rw [← hW];exact qaA (Below.refl _ _) _
 have hx3:W3.heap[w2.heap.size]?=some (.cells #[.int .i64 f.f0,.int .i64 f.f1,.int .i64 f.f2] 83 (0,0)):=by rw [← hW];exact qaM _ _ _
 have h3:=H2.out.grow hb3;have z1:=(h3.cellB n hn).2.1;have f1:=qaE h3.b (n*4+1);have H3:=aM h3;have HX3:=aM hx3;have HK3:=aM (HK2.out.trans (qaY.of_below hb3));clear hW hb3 h3 hx3
 go_upto_region 9 with (fail)
 have h4:=H3.out.er n (wrap64 ((m.bk n).er+1));have hk4:=HK3.out.set H3.out.b (by decide) (n*4+1) (.int .i64 (wrap64 ((m.bk n).er+1)));change St w0 (W3.setCell ⟨gb,n*4+1,none⟩ (.int .i64 (wrap64 ((m.bk n).er+1)))) gc gb gp _ D at h4;have hx4:=qaT (p:=⟨gb,n*4+1,none⟩) HX3.out (qaW HX3.out H3.out.b (by decide)) (.int .i64 (wrap64 ((m.bk n).er+1)));generalize W3.setCell ⟨gb,n*4+1,none⟩ (.int .i64 (wrap64 ((m.bk n).er+1)))=W4 at h4 hk4 hx4 ⊢;have x1:=jC hx4 1;have fo:=qaE h4.c 7;have co:=h4.cellC 7;have H4:=aM h4;have HK4:=aM hk4;have HX4:=aM hx4;clear z1 f1 h4 hk4 hx4
 go_upto_region 16 with (fail)
 generalize hW:W4.setCell ⟨gc,7,none⟩ (.bool true)=W5;have h5:=H4.out.setC 7 (.bool true) (m':=(({ m with ops:=wrap64 (m.ops+1),off:=true }:Ch).setBk n { m.bk n with er:=wrap64 ((m.bk n).er+1) })) rfl rfl rfl H4.out.pln;rw [hW] at h5;have hk5:qaY W W5:=by rw [← hW];exact HK4.out.set H4.out.c (by decide) _ _
 have hx5:W5.heap[w2.heap.size]?=some (.cells #[.int .i64 f.f0,.int .i64 f.f1,.int .i64 f.f2] 83 (0,0)):=by rw [← hW];exact qaT HX4.out (qaW HX4.out H4.out.c (by decide)) _
 have x2:=jC hx5 2;have H5:=aM h5;have HK5:=aM hk5;clear hW h5 hk5 hx5 x1 fo co;go_wp2;go_ret;exact ⟨rfl,H5.out,HK5.out⟩
theorem qtX (h:St w0 W gc gb gp m D) (hoff:m.off=false) (f:F3) (hplan:qcX m.pl (tgt m)=some f) (hf1:f.f1 ≠ 2) (hf2:f.f2=1) (n:Nat) (hn:n < m.g.B) (hbad:(m.bk n).bad=false) :
  Calls Tryz.prog 63 #[cp gc,.int .i64 n] W fun e w'=>e=.returned (.int .i64 6)∧St w0 w' gc gb gp (({ m with ops:=wrap64 (m.ops+1),off:=true }:Ch).setBk n { clr 2 m.g.P { m.bk n with er:=wrap64 ((m.bk n).er+1) } with nx:=(m.g.P:Int) }) (qpC D n m.g.P)∧qaY W w':=by
 have HRY:=aM (qbP h hoff n hn);have H:=aM h;have HPL:=aM hplan;have HBD:=aM hbad;have hu44:=Tryz.underlying83;have e1:(f.f1==(2:Int))=false:=by simp only [beq_eq_false_iff_ne];exact hf1
 have HF2:=aM hf2;clear h hoff hplan hbad hf1 hf2;go_enter Tryz.func63,Tryz.ntmps63
 go_upto_region 7 with (first
  | (go_at_call 114;(with_reducible refine HRY.out.mono ?_);rintro e w1 ⟨rfl,hb1⟩;have h1:=H.out.grow hb1;have H1:=aM h1;have HB1:=aM hb1;have z0:=(h1.cellB n hn).1;rw [HBD.out] at z0;clear hb1 h1))
 clear z0;have hbn:=qdB H1.out;rw [show qcX m.pl (wrap64 (wrap64 (m.ops+1) - m.frm))=some f from HPL.out,show bgV (some f)=.tuple #[.agg #[.int .i64 f.f0,.int .i64 f.f1,.int .i64 f.f2],.bool true] from rfl] at hbn;have HBN:=aM hbn;clear hbn
 go_upto_region 8 with (first
  | (go_at_call 115;(with_reducible refine HBN.out.mono ?_);rintro e w2 ⟨rfl,h2,hk2⟩;have H2:=aM h2;have HK2:=aM ((qaY.of_below HB1.out).trans hk2);clear h2 hk2))
 generalize hW:w2.alloc (.cells #[.int .i64 f.f0,.int .i64 f.f1,.int .i64 f.f2] 83)=W3;have hb3:Below w2.heap.size w2 W3:=by rw [← hW];exact qaA (Below.refl _ _) _
 have hx3:W3.heap[w2.heap.size]?=some (.cells #[.int .i64 f.f0,.int .i64 f.f1,.int .i64 f.f2] 83 (0,0)):=by rw [← hW];exact qaM _ _ _
 rw [HF2.out] at hx3;have h3:=H2.out.grow hb3;have z1:=(h3.cellB n hn).2.1;have f1:=qaE h3.b (n*4+1);have H3:=aM h3;have HX3:=aM hx3;have HK3:=aM (HK2.out.trans (qaY.of_below hb3));clear hW hb3 h3 hx3
 go_upto_region 9 with (fail)
 have h4:=H3.out.er n (wrap64 ((m.bk n).er+1));have hk4:=HK3.out.set H3.out.b (by decide) (n*4+1) (.int .i64 (wrap64 ((m.bk n).er+1)));change St w0 (W3.setCell ⟨gb,n*4+1,none⟩ (.int .i64 (wrap64 ((m.bk n).er+1)))) gc gb gp _ D at h4;have hx4:=qaT (p:=⟨gb,n*4+1,none⟩) HX3.out (qaW HX3.out H3.out.b (by decide)) (.int .i64 (wrap64 ((m.bk n).er+1)));generalize W3.setCell ⟨gb,n*4+1,none⟩ (.int .i64 (wrap64 ((m.bk n).er+1)))=W4 at h4 hk4 hx4 ⊢;have x1:=jC hx4 1;have fo:=qaE h4.c 7;have co:=h4.cellC 7;have H4:=aM h4;have HK4:=aM hk4;have HX4:=aM hx4;clear z1 f1 h4 hk4 hx4
 go_upto_region 16 with (fail)
 generalize hW:W4.setCell ⟨gc,7,none⟩ (.bool true)=W5;have h5:=H4.out.setC 7 (.bool true) (m':=(({ m with ops:=wrap64 (m.ops+1),off:=true }:Ch).setBk n { m.bk n with er:=wrap64 ((m.bk n).er+1) })) rfl rfl rfl H4.out.pln;rw [hW] at h5;have hk5:qaY W W5:=by rw [← hW];exact HK4.out.set H4.out.c (by decide) _ _
 have hx5:W5.heap[w2.heap.size]?=some (.cells #[.int .i64 f.f0,.int .i64 f.f1,.int .i64 1] 83 (0,0)):=by rw [← hW];exact qaT HX4.out (qaW HX4.out H4.out.c (by decide)) _
 have x2:=jC hx5 2;have H5:=aM h5;have HK5:=aM hk5;clear hW h5 hk5 hx5 x1 fo co;have HCL:=aM (qrA H5.out n hn)
 go_wp2_with (first
  | (go_at_call 121;(with_reducible refine HCL.out.mono ?_);rintro e w6 ⟨rfl,h6,hk6⟩;have H6:=aM h6;have HK6:=aM (HK5.out.trans hk6);clear h6 hk6))
 go_ret;have h7:=H6.out;rw [qaX,qbN] at h7;exact ⟨rfl,h7,HK6.out⟩
theorem qtW (h:St w0 W gc gb gp m D) (hoff:m.off=false) (f:F3) (hplan:qcX m.pl (tgt m)=some f) (hf1:f.f1 ≠ 2) (hf2:f.f2=2) (n:Nat) (hn:n < m.g.B) (hbad:(m.bk n).bad=false) :
  Calls Tryz.prog 63 #[cp gc,.int .i64 n] W fun e w'=>e=.returned (.int .i64 6)∧St w0 w' gc gb gp (({ m with ops:=wrap64 (m.ops+1),off:=true }:Ch).setBk n { clr 0 m.g.P { m.bk n with er:=wrap64 ((m.bk n).er+1) } with nx:=0 }) (qpC D n m.g.P)∧qaY W w':=by
 have HRY:=aM (qbP h hoff n hn);have H:=aM h;have HPL:=aM hplan;have HBD:=aM hbad;have hu44:=Tryz.underlying83;have e1:(f.f1==(2:Int))=false:=by simp only [beq_eq_false_iff_ne];exact hf1
 have HF2:=aM hf2;clear h hoff hplan hbad hf1 hf2;go_enter Tryz.func63,Tryz.ntmps63
 go_upto_region 7 with (first
  | (go_at_call 114;(with_reducible refine HRY.out.mono ?_);rintro e w1 ⟨rfl,hb1⟩;have h1:=H.out.grow hb1;have H1:=aM h1;have HB1:=aM hb1;have z0:=(h1.cellB n hn).1;rw [HBD.out] at z0;clear hb1 h1))
 clear z0;have hbn:=qdB H1.out;rw [show qcX m.pl (wrap64 (wrap64 (m.ops+1) - m.frm))=some f from HPL.out,show bgV (some f)=.tuple #[.agg #[.int .i64 f.f0,.int .i64 f.f1,.int .i64 f.f2],.bool true] from rfl] at hbn;have HBN:=aM hbn;clear hbn
 go_upto_region 8 with (first
  | (go_at_call 115;(with_reducible refine HBN.out.mono ?_);rintro e w2 ⟨rfl,h2,hk2⟩;have H2:=aM h2;have HK2:=aM ((qaY.of_below HB1.out).trans hk2);clear h2 hk2))
 generalize hW:w2.alloc (.cells #[.int .i64 f.f0,.int .i64 f.f1,.int .i64 f.f2] 83)=W3;have hb3:Below w2.heap.size w2 W3:=by rw [← hW];exact qaA (Below.refl _ _) _
 have hx3:W3.heap[w2.heap.size]?=some (.cells #[.int .i64 f.f0,.int .i64 f.f1,.int .i64 f.f2] 83 (0,0)):=by rw [← hW];exact qaM _ _ _
 rw [HF2.out] at hx3;have h3:=H2.out.grow hb3;have z1:=(h3.cellB n hn).2.1;have f1:=qaE h3.b (n*4+1);have H3:=aM h3;have HX3:=aM hx3;have HK3:=aM (HK2.out.trans (qaY.of_below hb3));clear hW hb3 h3 hx3
 go_upto_region 9 with (fail)
 have h4:=H3.out.er n (wrap64 ((m.bk n).er+1));have hk4:=HK3.out.set H3.out.b (by decide) (n*4+1) (.int .i64 (wrap64 ((m.bk n).er+1)));change St w0 (W3.setCell ⟨gb,n*4+1,none⟩ (.int .i64 (wrap64 ((m.bk n).er+1)))) gc gb gp _ D at h4;have hx4:=qaT (p:=⟨gb,n*4+1,none⟩) HX3.out (qaW HX3.out H3.out.b (by decide)) (.int .i64 (wrap64 ((m.bk n).er+1)));generalize W3.setCell ⟨gb,n*4+1,none⟩ (.int .i64 (wrap64 ((m.bk n).er+1)))=W4 at h4 hk4 hx4 ⊢;have x1:=jC hx4 1;have fo:=qaE h4.c 7;have co:=h4.cellC 7;have H4:=aM h4;have HK4:=aM hk4;have HX4:=aM hx4;clear z1 f1 h4 hk4 hx4
 go_upto_region 16 with (fail)
 generalize hW:W4.setCell ⟨gc,7,none⟩ (.bool true)=W5;have h5:=H4.out.setC 7 (.bool true) (m':=(({ m with ops:=wrap64 (m.ops+1),off:=true }:Ch).setBk n { m.bk n with er:=wrap64 ((m.bk n).er+1) })) rfl rfl rfl H4.out.pln;rw [hW] at h5;have hk5:qaY W W5:=by rw [← hW];exact HK4.out.set H4.out.c (by decide) _ _
 have hx5:W5.heap[w2.heap.size]?=some (.cells #[.int .i64 f.f0,.int .i64 f.f1,.int .i64 2] 83 (0,0)):=by rw [← hW];exact qaT HX4.out (qaW HX4.out H4.out.c (by decide)) _
 have x2:=jC hx5 2;have H5:=aM h5;have HK5:=aM hk5;clear hW h5 hk5 hx5 x1 fo co;have HCL:=aM (qrX H5.out n hn)
 go_wp2_with (first
  | (go_at_call 120;(with_reducible refine HCL.out.mono ?_);rintro e w6 ⟨rfl,h6,hk6⟩;have H6:=aM h6;have HK6:=aM (HK5.out.trans hk6);clear h6 hk6))
 go_ret;have h7:=H6.out;rw [qaX,qbN] at h7;exact ⟨rfl,h7,HK6.out⟩
theorem qtU (h:St w0 W gc gb gp m D) (hoff:m.off=false) (n:Nat) (hn:n < m.g.B) (hbad:(m.bk n).bad=true) :
  Calls Tryz.prog 63 #[cp gc,.int .i64 n] W fun e w'=>e=.returned (.int .i64 1)∧St w0 w' gc gb gp { m with wrong:=wrap64 (m.wrong+1) } D∧qaY W w':=by
 have HRY:=aM (qbP h hoff n hn);have H:=aM h;have HB:=aM hbad;clear h hoff hbad;go_enter Tryz.func63,Tryz.ntmps63
 go_wp2_with (first
  | (go_at_call 114;(with_reducible refine HRY.out.mono ?_);rintro e w1 ⟨rfl,hb1⟩;have h1:=H.out.grow hb1;have H1:=aM h1;have HB1:=aM hb1;have z0:=(h1.cellB n hn).1;rw [HB.out] at z0;have y9:w1.cell? ⟨gc,9,none⟩=some (.int .i64 m.wrong):=h1.cellC 9;have f9:=qaE h1.c 9;clear hb1 h1))
 go_ret;exact ⟨rfl,H1.out.wrong _,(qaY.of_below HB1.out).set H1.out.c (by decide) _ _⟩
theorem vbY (h:St w0 W gc gb gp m D) (hoff:m.off=false) (n:Nat) (hn:n < m.g.B) :
  Calls Tryz.prog 65 #[cp gc,.int .i64 n] W fun e w'=>e=.returned (.int .i64 0)∧St w0 w' gc gb gp (m.setBk n { m.bk n with bad:=true }) D∧qaY W w':=by
 have HRY:=aM (qbP h hoff n hn);have H:=aM h;clear h hoff;go_enter Tryz.func65,Tryz.ntmps65
 go_wp2_with (first
  | (go_at_call 114;(with_reducible refine HRY.out.mono ?_);rintro e w1 ⟨rfl,hb1⟩;have h1:=H.out.grow hb1;have H1:=aM h1;have HB1:=aM hb1;have z0:=(h1.cellB n hn).1;have f0:=qaE h1.b (n*4);clear hb1 h1))
 go_ret;exact ⟨rfl,H1.out.badS n true,(qaY.of_below HB1.out).set H1.out.b (by decide) _ _⟩
theorem qrE {k:Int} (hk:k ≠ 0) (n:Int) (p:Int) (hr:Calls Tryz.prog 114 #[cp gc,.int .i64 n] W fun e w'=>e=.returned (.tuple #[.pointer none,.int .i64 k])∧Below W.heap.size W w') :
  Calls Tryz.prog 77 #[cp gc,.int .i64 n,.int .i64 p] W fun e w'=>e=.returned (.tuple #[.slice none 0 0,.int .i64 k])∧Below W.heap.size W w':=by
 have HRY:=aM hr;have e1:(k==0)=false:=by simp only [beq_eq_false_iff_ne];exact hk
 have e2:(k != 0)=true:=by simp only [bne_iff_ne];exact hk
 clear hr hk;go_enter Tryz.func77,Tryz.ntmps77
 go_wp2_with (first
  | (go_at_call 114;(with_reducible refine HRY.out.mono ?_);rintro e w1 ⟨rfl,hb1⟩;have HB1:=aM hb1;clear hb1))
 go_ret2;exact ⟨rfl,HB1.out⟩
theorem qkC {k:Int} (hk:k ≠ 0) (n:Int) (p:Int) (v:Value) (hr:Calls Tryz.prog 114 #[cp gc,.int .i64 n] W fun e w'=>e=.returned (.tuple #[.pointer none,.int .i64 k])∧Below W.heap.size W w') :
  Calls Tryz.prog 58 #[cp gc,.int .i64 n,.int .i64 p,v] W fun e w'=>e=.returned (.int .i64 k)∧Below W.heap.size W w':=by
 have HRY:=aM hr;have e1:(k==0)=false:=by simp only [beq_eq_false_iff_ne];exact hk
 have e2:(k != 0)=true:=by simp only [bne_iff_ne];exact hk
 clear hr hk;go_enter Tryz.func58,Tryz.ntmps58
 go_wp2_with (first
  | (go_at_call 114;(with_reducible refine HRY.out.mono ?_);rintro e w1 ⟨rfl,hb1⟩;have HB1:=aM hb1;clear hb1))
 go_ret;exact ⟨rfl,HB1.out⟩
theorem qoX {k:Int} (hk:k ≠ 0) (n:Int) (hr:Calls Tryz.prog 114 #[cp gc,.int .i64 n] W fun e w'=>e=.returned (.tuple #[.pointer none,.int .i64 k])∧Below W.heap.size W w') :
  Calls Tryz.prog 63 #[cp gc,.int .i64 n] W fun e w'=>e=.returned (.int .i64 k)∧Below W.heap.size W w':=by
 have HRY:=aM hr;have e1:(k==0)=false:=by simp only [beq_eq_false_iff_ne];exact hk
 have e2:(k != 0)=true:=by simp only [bne_iff_ne];exact hk
 clear hr hk;go_enter Tryz.func63,Tryz.ntmps63
 go_wp2_with (first
  | (go_at_call 114;(with_reducible refine HRY.out.mono ?_);rintro e w1 ⟨rfl,hb1⟩;have HB1:=aM hb1;clear hb1))
 go_ret;exact ⟨rfl,HB1.out⟩
theorem qrM {k:Int} (hk:k ≠ 0) (n:Int) (hr:Calls Tryz.prog 114 #[cp gc,.int .i64 n] W fun e w'=>e=.returned (.tuple #[.pointer none,.int .i64 k])∧Below W.heap.size W w') :
  Calls Tryz.prog 65 #[cp gc,.int .i64 n] W fun e w'=>e=.returned (.int .i64 k)∧Below W.heap.size W w':=by
 have HRY:=aM hr;have e1:(k==0)=false:=by simp only [beq_eq_false_iff_ne];exact hk
 have e2:(k != 0)=true:=by simp only [bne_iff_ne];exact hk
 clear hr hk;go_enter Tryz.func65,Tryz.ntmps65
 go_wp2_with (first
  | (go_at_call 114;(with_reducible refine HRY.out.mono ?_);rintro e w1 ⟨rfl,hb1⟩;have HB1:=aM hb1;clear hb1))
 go_ret;exact ⟨rfl,HB1.out⟩
theorem qsQ (h:St w0 W gc gb gp m D) (hoff:m.off=false) (n:Nat) (hn:n < m.g.B) (p:Int) (hp:p < 0∨m.g.P≤p) :
  Calls Tryz.prog 77 #[cp gc,.int .i64 n,.int .i64 p] W fun e w'=>e=.returned (.tuple #[.slice none 0 0,.int .i64 22])∧Below W.heap.size W w':=by
 have HRY:=aM (qbP h hoff n hn);have H:=aM h;clear h hoff
 by_cases h0:p < 0
 ·have d1:decide (p < 0)=true:=decide_eq_true h0;clear hp;go_enter Tryz.func77,Tryz.ntmps77
  go_wp2_with (first
   | (go_at_call 114;(with_reducible refine HRY.out.mono ?_);rintro e w1 ⟨rfl,hb1⟩;have HB1:=aM hb1;clear hb1))
  go_ret2;exact ⟨rfl,HB1.out⟩
 ·have d1:decide (p < 0)=false:=decide_eq_false h0;have d2:decide ((m.g.P:Int)≤p)=true:=decide_eq_true (by omega);clear hp;go_enter Tryz.func77,Tryz.ntmps77
  go_wp2_with (first
   | (go_at_call 114;(with_reducible refine HRY.out.mono ?_);rintro e w1 ⟨rfl,hb1⟩;have h1:=H.out.grow hb1;have HB1:=aM hb1;have z2:=(h1.cellB n hn).2.2.1;clear hb1 h1))
  go_ret2;exact ⟨rfl,HB1.out⟩
theorem qmV (h:St w0 W gc gb gp m D) (hoff:m.off=false) (n:Nat) (hn:n < m.g.B) (p:Int) (A:Option Addr) (len c:Nat) (hp:p < 0∨m.g.P≤p∨m.g.Z < len) :
  Calls Tryz.prog 58 #[cp gc,.int .i64 n,.int .i64 p,.slice A len c] W fun e w'=>e=.returned (.int .i64 22)∧Below W.heap.size W w':=by
 have HRY:=aM (qbP h hoff n hn);have H:=aM h;clear h hoff
 by_cases h0:p < 0
 ·have d1:decide (p < 0)=true:=decide_eq_true h0;clear hp;go_enter Tryz.func58,Tryz.ntmps58
  go_wp2_with (first
   | (go_at_call 114;(with_reducible refine HRY.out.mono ?_);rintro e w1 ⟨rfl,hb1⟩;have HB1:=aM hb1;clear hb1))
  go_ret;exact ⟨rfl,HB1.out⟩
 ·have d1:decide (p < 0)=false:=decide_eq_false h0
  by_cases h1:m.g.P≤p
  ·have d2:decide ((m.g.P:Int)≤p)=true:=decide_eq_true h1;clear hp;go_enter Tryz.func58,Tryz.ntmps58
   go_wp2_with (first
    | (go_at_call 114;(with_reducible refine HRY.out.mono ?_);rintro e w1 ⟨rfl,hb1⟩;have h1:=H.out.grow hb1;have HB1:=aM hb1;have z2:=(h1.cellB n hn).2.2.1;clear hb1 h1))
   go_ret;exact ⟨rfl,HB1.out⟩
  ·have d2:decide ((m.g.P:Int)≤p)=false:=decide_eq_false h1;have hl:m.g.Z < len:=by omega
   have d3:decide ((m.g.Z:Int) < (len:Int))=true:=decide_eq_true (by omega);have d4:decide (m.g.Z < len)=true:=decide_eq_true hl;clear hp;go_enter Tryz.func58,Tryz.ntmps58
   go_wp2_with (first
    | (go_at_call 114;(with_reducible refine HRY.out.mono ?_);rintro e w1 ⟨rfl,hb1⟩;have h1:=H.out.grow hb1;have HB1:=aM hb1;have z2:=(h1.cellB n hn).2.2.1;have y2:w1.cell? ⟨gc,2,none⟩=some (.int .i64 m.g.Z):=h1.cellC 2;clear hb1 h1))
   go_ret;exact ⟨rfl,HB1.out⟩
end
section
def qmB (n:Int):Bool:=if 0 < n then bits BinOp.and IntKind.i64 n (wrap64 (n - 1))==0 else false
theorem qcU (n:Int) (W:World):Calls Tryz.prog 108 #[.int .i64 n] W fun e w'=>e=.returned (.bool (qmB n))∧Below W.heap.size W w':=by
 by_cases h:0 < n
 ·have d0:decide (0 < n)=true:=decide_eq_true h;go_enter Tryz.func108,Tryz.ntmps108;go_wp2;go_ret;refine ⟨?_,Below.refl _ _⟩;unfold qmB;rw [if_pos h];rfl
 ·have d0:decide (0 < n)=false:=decide_eq_false h;go_enter Tryz.func108,Tryz.ntmps108;go_wp2;go_ret;refine ⟨?_,Below.refl _ _⟩;unfold qmB;rw [if_neg (Int.not_lt.2 h)];rfl
theorem vbN (B P Z R:Int) (W:World) (c0:decide ((16:Int)≤B)=false):Calls Tryz.prog 50 #[.agg #[.int .i64 B,.int .i64 P,.int .i64 Z,.int .i64 R]] W fun e w'=>e=.returned (.bool false)∧Below W.heap.size W w':=by
 go_enter Tryz.func50,Tryz.ntmps50
 go_upto_region 1 with (fail)
 generalize hW:W.alloc (.cells #[.int .i64 B,.int .i64 P,.int .i64 Z,.int .i64 R] 23)=W1;have hb:Below W.heap.size W W1:=by rw [← hW];exact qaA (Below.refl _ _) _
 have hg:W1.heap[W.heap.size]?=some (.cells #[.int .i64 B,.int .i64 P,.int .i64 Z,.int .i64 R] 23 (0,0)):=by rw [← hW];exact qaM _ _ _
 have g0:=fun (w':World) (h:Below W1.heap.size W1 w')=>jC (qaB hg h) 0
 have g1:=fun (w':World) (h:Below W1.heap.size W1 w')=>jC (qaB hg h) 1
 have g2:=fun (w':World) (h:Below W1.heap.size W1 w')=>jC (qaB hg h) 2
 have g3:=fun (w':World) (h:Below W1.heap.size W1 w')=>jC (qaB hg h) 3
 have G0:=aM g0;have G1:=aM g1;have G2:=aM g2;have G3:=aM g3;have HB:=aM hb;have a0:=g0 W1 (Below.refl _ _);have a1:=g1 W1 (Below.refl _ _);have a2:=g2 W1 (Below.refl _ _);have a3:=g3 W1 (Below.refl _ _);clear hW hb hg g0 g1 g2 g3;go_wp2;go_ret;exact ⟨rfl,HB.out⟩
theorem vbM (B P Z R:Int) (W:World) (c0:decide ((16:Int)≤B)=true) (c1:decide (B≤(256:Int))=false):Calls Tryz.prog 50 #[.agg #[.int .i64 B,.int .i64 P,.int .i64 Z,.int .i64 R]] W fun e w'=>e=.returned (.bool false)∧Below W.heap.size W w':=by
 go_enter Tryz.func50,Tryz.ntmps50
 go_upto_region 1 with (fail)
 generalize hW:W.alloc (.cells #[.int .i64 B,.int .i64 P,.int .i64 Z,.int .i64 R] 23)=W1;have hb:Below W.heap.size W W1:=by rw [← hW];exact qaA (Below.refl _ _) _
 have hg:W1.heap[W.heap.size]?=some (.cells #[.int .i64 B,.int .i64 P,.int .i64 Z,.int .i64 R] 23 (0,0)):=by rw [← hW];exact qaM _ _ _
 have g0:=fun (w':World) (h:Below W1.heap.size W1 w')=>jC (qaB hg h) 0
 have g1:=fun (w':World) (h:Below W1.heap.size W1 w')=>jC (qaB hg h) 1
 have g2:=fun (w':World) (h:Below W1.heap.size W1 w')=>jC (qaB hg h) 2
 have g3:=fun (w':World) (h:Below W1.heap.size W1 w')=>jC (qaB hg h) 3
 have G0:=aM g0;have G1:=aM g1;have G2:=aM g2;have G3:=aM g3;have HB:=aM hb;have a0:=g0 W1 (Below.refl _ _);have a1:=g1 W1 (Below.refl _ _);have a2:=g2 W1 (Below.refl _ _);have a3:=g3 W1 (Below.refl _ _);clear hW hb hg g0 g1 g2 g3;go_wp2;go_ret;exact ⟨rfl,HB.out⟩
theorem vbL (B P Z R:Int) (W:World) (c0:decide ((16:Int)≤B)=true) (c1:decide (B≤(256:Int))=true) (c2:decide ((8:Int)≤P)=false):Calls Tryz.prog 50 #[.agg #[.int .i64 B,.int .i64 P,.int .i64 Z,.int .i64 R]] W fun e w'=>e=.returned (.bool false)∧Below W.heap.size W w':=by
 go_enter Tryz.func50,Tryz.ntmps50
 go_upto_region 1 with (fail)
 generalize hW:W.alloc (.cells #[.int .i64 B,.int .i64 P,.int .i64 Z,.int .i64 R] 23)=W1;have hb:Below W.heap.size W W1:=by rw [← hW];exact qaA (Below.refl _ _) _
 have hg:W1.heap[W.heap.size]?=some (.cells #[.int .i64 B,.int .i64 P,.int .i64 Z,.int .i64 R] 23 (0,0)):=by rw [← hW];exact qaM _ _ _
 have g0:=fun (w':World) (h:Below W1.heap.size W1 w')=>jC (qaB hg h) 0
 have g1:=fun (w':World) (h:Below W1.heap.size W1 w')=>jC (qaB hg h) 1
 have g2:=fun (w':World) (h:Below W1.heap.size W1 w')=>jC (qaB hg h) 2
 have g3:=fun (w':World) (h:Below W1.heap.size W1 w')=>jC (qaB hg h) 3
 have G0:=aM g0;have G1:=aM g1;have G2:=aM g2;have G3:=aM g3;have HB:=aM hb;have a0:=g0 W1 (Below.refl _ _);have a1:=g1 W1 (Below.refl _ _);have a2:=g2 W1 (Below.refl _ _);have a3:=g3 W1 (Below.refl _ _);clear hW hb hg g0 g1 g2 g3;go_wp2;go_ret;exact ⟨rfl,HB.out⟩
theorem vbK (B P Z R:Int) (W:World) (c0:decide ((16:Int)≤B)=true) (c1:decide (B≤(256:Int))=true) (c2:decide ((8:Int)≤P)=true) (c3:decide (P≤(64:Int))=false):Calls Tryz.prog 50 #[.agg #[.int .i64 B,.int .i64 P,.int .i64 Z,.int .i64 R]] W fun e w'=>e=.returned (.bool false)∧Below W.heap.size W w':=by
 go_enter Tryz.func50,Tryz.ntmps50
 go_upto_region 1 with (fail)
 generalize hW:W.alloc (.cells #[.int .i64 B,.int .i64 P,.int .i64 Z,.int .i64 R] 23)=W1;have hb:Below W.heap.size W W1:=by rw [← hW];exact qaA (Below.refl _ _) _
 have hg:W1.heap[W.heap.size]?=some (.cells #[.int .i64 B,.int .i64 P,.int .i64 Z,.int .i64 R] 23 (0,0)):=by rw [← hW];exact qaM _ _ _
 have g0:=fun (w':World) (h:Below W1.heap.size W1 w')=>jC (qaB hg h) 0
 have g1:=fun (w':World) (h:Below W1.heap.size W1 w')=>jC (qaB hg h) 1
 have g2:=fun (w':World) (h:Below W1.heap.size W1 w')=>jC (qaB hg h) 2
 have g3:=fun (w':World) (h:Below W1.heap.size W1 w')=>jC (qaB hg h) 3
 have G0:=aM g0;have G1:=aM g1;have G2:=aM g2;have G3:=aM g3;have HB:=aM hb;have a0:=g0 W1 (Below.refl _ _);have a1:=g1 W1 (Below.refl _ _);have a2:=g2 W1 (Below.refl _ _);have a3:=g3 W1 (Below.refl _ _);clear hW hb hg g0 g1 g2 g3;go_wp2;go_ret;exact ⟨rfl,HB.out⟩
theorem vbJ (B P Z R:Int) (W:World) (c0:decide ((16:Int)≤B)=true) (c1:decide (B≤(256:Int))=true) (c2:decide ((8:Int)≤P)=true) (c3:decide (P≤(64:Int))=true) (c4:qmB P=false):Calls Tryz.prog 50 #[.agg #[.int .i64 B,.int .i64 P,.int .i64 Z,.int .i64 R]] W fun e w'=>e=.returned (.bool false)∧Below W.heap.size W w':=by
 go_enter Tryz.func50,Tryz.ntmps50
 go_upto_region 1 with (fail)
 generalize hW:W.alloc (.cells #[.int .i64 B,.int .i64 P,.int .i64 Z,.int .i64 R] 23)=W1;have hb:Below W.heap.size W W1:=by rw [← hW];exact qaA (Below.refl _ _) _
 have hg:W1.heap[W.heap.size]?=some (.cells #[.int .i64 B,.int .i64 P,.int .i64 Z,.int .i64 R] 23 (0,0)):=by rw [← hW];exact qaM _ _ _
 have g0:=fun (w':World) (h:Below W1.heap.size W1 w')=>jC (qaB hg h) 0
 have g1:=fun (w':World) (h:Below W1.heap.size W1 w')=>jC (qaB hg h) 1
 have g2:=fun (w':World) (h:Below W1.heap.size W1 w')=>jC (qaB hg h) 2
 have g3:=fun (w':World) (h:Below W1.heap.size W1 w')=>jC (qaB hg h) 3
 have G0:=aM g0;have G1:=aM g1;have G2:=aM g2;have G3:=aM g3;have HB:=aM hb;have a0:=g0 W1 (Below.refl _ _);have a1:=g1 W1 (Below.refl _ _);have a2:=g2 W1 (Below.refl _ _);have a3:=g3 W1 (Below.refl _ _);clear hW hb hg g0 g1 g2 g3
 go_wp2_with (first
  | (go_at_call 108;(with_reducible refine (qcU P _).mono ?_);rintro e w2 ⟨rfl,hb2⟩;have HB2:=aM hb2;clear hb2))
 go_ret;exact ⟨rfl,qaC HB.out HB2.out⟩
theorem vbI (B P Z R:Int) (W:World) (c0:decide ((16:Int)≤B)=true) (c1:decide (B≤(256:Int))=true) (c2:decide ((8:Int)≤P)=true) (c3:decide (P≤(64:Int))=true) (c4:qmB P=true) (c5:decide ((64:Int)≤Z)=false):Calls Tryz.prog 50 #[.agg #[.int .i64 B,.int .i64 P,.int .i64 Z,.int .i64 R]] W fun e w'=>e=.returned (.bool false)∧Below W.heap.size W w':=by
 go_enter Tryz.func50,Tryz.ntmps50
 go_upto_region 1 with (fail)
 generalize hW:W.alloc (.cells #[.int .i64 B,.int .i64 P,.int .i64 Z,.int .i64 R] 23)=W1;have hb:Below W.heap.size W W1:=by rw [← hW];exact qaA (Below.refl _ _) _
 have hg:W1.heap[W.heap.size]?=some (.cells #[.int .i64 B,.int .i64 P,.int .i64 Z,.int .i64 R] 23 (0,0)):=by rw [← hW];exact qaM _ _ _
 have g0:=fun (w':World) (h:Below W1.heap.size W1 w')=>jC (qaB hg h) 0
 have g1:=fun (w':World) (h:Below W1.heap.size W1 w')=>jC (qaB hg h) 1
 have g2:=fun (w':World) (h:Below W1.heap.size W1 w')=>jC (qaB hg h) 2
 have g3:=fun (w':World) (h:Below W1.heap.size W1 w')=>jC (qaB hg h) 3
 have G0:=aM g0;have G1:=aM g1;have G2:=aM g2;have G3:=aM g3;have HB:=aM hb;have a0:=g0 W1 (Below.refl _ _);have a1:=g1 W1 (Below.refl _ _);have a2:=g2 W1 (Below.refl _ _);have a3:=g3 W1 (Below.refl _ _);clear hW hb hg g0 g1 g2 g3
 go_wp2_with (first
  | (go_at_call 108;(with_reducible refine (qcU P _).mono ?_);rintro e w2 ⟨rfl,hb2⟩;have HB2:=aM hb2;have b0:=G0.out w2 hb2;have b1:=G1.out w2 hb2;have b2:=G2.out w2 hb2;have b3:=G3.out w2 hb2;clear hb2))
 go_ret;exact ⟨rfl,qaC HB.out HB2.out⟩
theorem vbH (B P Z R:Int) (W:World) (c0:decide ((16:Int)≤B)=true) (c1:decide (B≤(256:Int))=true) (c2:decide ((8:Int)≤P)=true) (c3:decide (P≤(64:Int))=true) (c4:qmB P=true) (c5:decide ((64:Int)≤Z)=true) (c6:decide (Z≤(512:Int))=false):Calls Tryz.prog 50 #[.agg #[.int .i64 B,.int .i64 P,.int .i64 Z,.int .i64 R]] W fun e w'=>e=.returned (.bool false)∧Below W.heap.size W w':=by
 go_enter Tryz.func50,Tryz.ntmps50
 go_upto_region 1 with (fail)
 generalize hW:W.alloc (.cells #[.int .i64 B,.int .i64 P,.int .i64 Z,.int .i64 R] 23)=W1;have hb:Below W.heap.size W W1:=by rw [← hW];exact qaA (Below.refl _ _) _
 have hg:W1.heap[W.heap.size]?=some (.cells #[.int .i64 B,.int .i64 P,.int .i64 Z,.int .i64 R] 23 (0,0)):=by rw [← hW];exact qaM _ _ _
 have g0:=fun (w':World) (h:Below W1.heap.size W1 w')=>jC (qaB hg h) 0
 have g1:=fun (w':World) (h:Below W1.heap.size W1 w')=>jC (qaB hg h) 1
 have g2:=fun (w':World) (h:Below W1.heap.size W1 w')=>jC (qaB hg h) 2
 have g3:=fun (w':World) (h:Below W1.heap.size W1 w')=>jC (qaB hg h) 3
 have G0:=aM g0;have G1:=aM g1;have G2:=aM g2;have G3:=aM g3;have HB:=aM hb;have a0:=g0 W1 (Below.refl _ _);have a1:=g1 W1 (Below.refl _ _);have a2:=g2 W1 (Below.refl _ _);have a3:=g3 W1 (Below.refl _ _);clear hW hb hg g0 g1 g2 g3
 go_wp2_with (first
  | (go_at_call 108;(with_reducible refine (qcU P _).mono ?_);rintro e w2 ⟨rfl,hb2⟩;have HB2:=aM hb2;have b0:=G0.out w2 hb2;have b1:=G1.out w2 hb2;have b2:=G2.out w2 hb2;have b3:=G3.out w2 hb2;clear hb2))
 go_ret;exact ⟨rfl,qaC HB.out HB2.out⟩
theorem vbG (B P Z R:Int) (W:World) (c0:decide ((16:Int)≤B)=true) (c1:decide (B≤(256:Int))=true) (c2:decide ((8:Int)≤P)=true) (c3:decide (P≤(64:Int))=true) (c4:qmB P=true) (c5:decide ((64:Int)≤Z)=true) (c6:decide (Z≤(512:Int))=true) (c7:qmB Z=false):Calls Tryz.prog 50 #[.agg #[.int .i64 B,.int .i64 P,.int .i64 Z,.int .i64 R]] W fun e w'=>e=.returned (.bool false)∧Below W.heap.size W w':=by
 go_enter Tryz.func50,Tryz.ntmps50
 go_upto_region 1 with (fail)
 generalize hW:W.alloc (.cells #[.int .i64 B,.int .i64 P,.int .i64 Z,.int .i64 R] 23)=W1;have hb:Below W.heap.size W W1:=by rw [← hW];exact qaA (Below.refl _ _) _
 have hg:W1.heap[W.heap.size]?=some (.cells #[.int .i64 B,.int .i64 P,.int .i64 Z,.int .i64 R] 23 (0,0)):=by rw [← hW];exact qaM _ _ _
 have g0:=fun (w':World) (h:Below W1.heap.size W1 w')=>jC (qaB hg h) 0
 have g1:=fun (w':World) (h:Below W1.heap.size W1 w')=>jC (qaB hg h) 1
 have g2:=fun (w':World) (h:Below W1.heap.size W1 w')=>jC (qaB hg h) 2
 have g3:=fun (w':World) (h:Below W1.heap.size W1 w')=>jC (qaB hg h) 3
 have G0:=aM g0;have G1:=aM g1;have G2:=aM g2;have G3:=aM g3;have HB:=aM hb;have a0:=g0 W1 (Below.refl _ _);have a1:=g1 W1 (Below.refl _ _);have a2:=g2 W1 (Below.refl _ _);have a3:=g3 W1 (Below.refl _ _);clear hW hb hg g0 g1 g2 g3
 go_wp2_with (first
  | (go_at_call 108;(with_reducible refine (qcU P _).mono ?_);rintro e w2 ⟨rfl,hb2⟩;have HB2:=aM hb2;have b0:=G0.out w2 hb2;have b1:=G1.out w2 hb2;have b2:=G2.out w2 hb2;have b3:=G3.out w2 hb2;clear hb2)
  | (go_at_call 108;(with_reducible refine (qcU Z _).mono ?_);rintro e w3 ⟨rfl,hb3⟩;have HB3:=aM (qaC HB2.out hb3);clear hb3))
 go_ret;exact ⟨rfl,qaC HB.out HB3.out⟩
theorem vbF (B P Z R:Int) (W:World) (c0:decide ((16:Int)≤B)=true) (c1:decide (B≤(256:Int))=true) (c2:decide ((8:Int)≤P)=true) (c3:decide (P≤(64:Int))=true) (c4:qmB P=true) (c5:decide ((64:Int)≤Z)=true) (c6:decide (Z≤(512:Int))=true) (c7:qmB Z=true) (c8:decide ((1536:Int)≤wrap64 (wrap64 (P - 2)*Z))=false):Calls Tryz.prog 50 #[.agg #[.int .i64 B,.int .i64 P,.int .i64 Z,.int .i64 R]] W fun e w'=>e=.returned (.bool false)∧Below W.heap.size W w':=by
 go_enter Tryz.func50,Tryz.ntmps50
 go_upto_region 1 with (fail)
 generalize hW:W.alloc (.cells #[.int .i64 B,.int .i64 P,.int .i64 Z,.int .i64 R] 23)=W1;have hb:Below W.heap.size W W1:=by rw [← hW];exact qaA (Below.refl _ _) _
 have hg:W1.heap[W.heap.size]?=some (.cells #[.int .i64 B,.int .i64 P,.int .i64 Z,.int .i64 R] 23 (0,0)):=by rw [← hW];exact qaM _ _ _
 have g0:=fun (w':World) (h:Below W1.heap.size W1 w')=>jC (qaB hg h) 0
 have g1:=fun (w':World) (h:Below W1.heap.size W1 w')=>jC (qaB hg h) 1
 have g2:=fun (w':World) (h:Below W1.heap.size W1 w')=>jC (qaB hg h) 2
 have g3:=fun (w':World) (h:Below W1.heap.size W1 w')=>jC (qaB hg h) 3
 have G0:=aM g0;have G1:=aM g1;have G2:=aM g2;have G3:=aM g3;have HB:=aM hb;have a0:=g0 W1 (Below.refl _ _);have a1:=g1 W1 (Below.refl _ _);have a2:=g2 W1 (Below.refl _ _);have a3:=g3 W1 (Below.refl _ _);clear hW hb hg g0 g1 g2 g3
 go_wp2_with (first
  | (go_at_call 108;(with_reducible refine (qcU P _).mono ?_);rintro e w2 ⟨rfl,hb2⟩;have HB2:=aM hb2;have b0:=G0.out w2 hb2;have b1:=G1.out w2 hb2;have b2:=G2.out w2 hb2;have b3:=G3.out w2 hb2;clear hb2)
  | (go_at_call 108;(with_reducible refine (qcU Z _).mono ?_);rintro e w3 ⟨rfl,hb3⟩;have hb4:=qaC HB2.out hb3;have HB3:=aM hb4;have e0:=G0.out w3 hb4;have e1:=G1.out w3 hb4;have e2:=G2.out w3 hb4;have e3:=G3.out w3 hb4;clear hb3 hb4))
 go_ret;exact ⟨rfl,qaC HB.out HB3.out⟩
theorem vbE (B P Z R:Int) (W:World) (c0:decide ((16:Int)≤B)=true) (c1:decide (B≤(256:Int))=true) (c2:decide ((8:Int)≤P)=true) (c3:decide (P≤(64:Int))=true) (c4:qmB P=true) (c5:decide ((64:Int)≤Z)=true) (c6:decide (Z≤(512:Int))=true) (c7:qmB Z=true) (c8:decide ((1536:Int)≤wrap64 (wrap64 (P - 2)*Z))=true) (c9:decide ((0:Int)≤R)=false):Calls Tryz.prog 50 #[.agg #[.int .i64 B,.int .i64 P,.int .i64 Z,.int .i64 R]] W fun e w'=>e=.returned (.bool false)∧Below W.heap.size W w':=by
 go_enter Tryz.func50,Tryz.ntmps50
 go_upto_region 1 with (fail)
 generalize hW:W.alloc (.cells #[.int .i64 B,.int .i64 P,.int .i64 Z,.int .i64 R] 23)=W1;have hb:Below W.heap.size W W1:=by rw [← hW];exact qaA (Below.refl _ _) _
 have hg:W1.heap[W.heap.size]?=some (.cells #[.int .i64 B,.int .i64 P,.int .i64 Z,.int .i64 R] 23 (0,0)):=by rw [← hW];exact qaM _ _ _
 have g0:=fun (w':World) (h:Below W1.heap.size W1 w')=>jC (qaB hg h) 0
 have g1:=fun (w':World) (h:Below W1.heap.size W1 w')=>jC (qaB hg h) 1
 have g2:=fun (w':World) (h:Below W1.heap.size W1 w')=>jC (qaB hg h) 2
 have g3:=fun (w':World) (h:Below W1.heap.size W1 w')=>jC (qaB hg h) 3
 have G0:=aM g0;have G1:=aM g1;have G2:=aM g2;have G3:=aM g3;have HB:=aM hb;have a0:=g0 W1 (Below.refl _ _);have a1:=g1 W1 (Below.refl _ _);have a2:=g2 W1 (Below.refl _ _);have a3:=g3 W1 (Below.refl _ _);clear hW hb hg g0 g1 g2 g3
 go_wp2_with (first
  | (go_at_call 108;(with_reducible refine (qcU P _).mono ?_);rintro e w2 ⟨rfl,hb2⟩;have HB2:=aM hb2;have b0:=G0.out w2 hb2;have b1:=G1.out w2 hb2;have b2:=G2.out w2 hb2;have b3:=G3.out w2 hb2;clear hb2)
  | (go_at_call 108;(with_reducible refine (qcU Z _).mono ?_);rintro e w3 ⟨rfl,hb3⟩;have hb4:=qaC HB2.out hb3;have HB3:=aM hb4;have e0:=G0.out w3 hb4;have e1:=G1.out w3 hb4;have e2:=G2.out w3 hb4;have e3:=G3.out w3 hb4;clear hb3 hb4))
 go_ret;exact ⟨rfl,qaC HB.out HB3.out⟩
theorem qyB (B P Z R:Int) (W:World) (c0:decide ((16:Int)≤B)=true) (c1:decide (B≤(256:Int))=true) (c2:decide ((8:Int)≤P)=true) (c3:decide (P≤(64:Int))=true) (c4:qmB P=true) (c5:decide ((64:Int)≤Z)=true) (c6:decide (Z≤(512:Int))=true) (c7:qmB Z=true) (c8:decide ((1536:Int)≤wrap64 (wrap64 (P - 2)*Z))=true) (c9:decide ((0:Int)≤R)=true) (c10:decide (R≤wrap64 (B.tdiv 4))=false):Calls Tryz.prog 50 #[.agg #[.int .i64 B,.int .i64 P,.int .i64 Z,.int .i64 R]] W fun e w'=>e=.returned (.bool false)∧Below W.heap.size W w':=by
 go_enter Tryz.func50,Tryz.ntmps50
 go_upto_region 1 with (fail)
 generalize hW:W.alloc (.cells #[.int .i64 B,.int .i64 P,.int .i64 Z,.int .i64 R] 23)=W1;have hb:Below W.heap.size W W1:=by rw [← hW];exact qaA (Below.refl _ _) _
 have hg:W1.heap[W.heap.size]?=some (.cells #[.int .i64 B,.int .i64 P,.int .i64 Z,.int .i64 R] 23 (0,0)):=by rw [← hW];exact qaM _ _ _
 have g0:=fun (w':World) (h:Below W1.heap.size W1 w')=>jC (qaB hg h) 0
 have g1:=fun (w':World) (h:Below W1.heap.size W1 w')=>jC (qaB hg h) 1
 have g2:=fun (w':World) (h:Below W1.heap.size W1 w')=>jC (qaB hg h) 2
 have g3:=fun (w':World) (h:Below W1.heap.size W1 w')=>jC (qaB hg h) 3
 have G0:=aM g0;have G1:=aM g1;have G2:=aM g2;have G3:=aM g3;have HB:=aM hb;have a0:=g0 W1 (Below.refl _ _);have a1:=g1 W1 (Below.refl _ _);have a2:=g2 W1 (Below.refl _ _);have a3:=g3 W1 (Below.refl _ _);clear hW hb hg g0 g1 g2 g3
 go_wp2_with (first
  | (go_at_call 108;(with_reducible refine (qcU P _).mono ?_);rintro e w2 ⟨rfl,hb2⟩;have HB2:=aM hb2;have b0:=G0.out w2 hb2;have b1:=G1.out w2 hb2;have b2:=G2.out w2 hb2;have b3:=G3.out w2 hb2;clear hb2)
  | (go_at_call 108;(with_reducible refine (qcU Z _).mono ?_);rintro e w3 ⟨rfl,hb3⟩;have hb4:=qaC HB2.out hb3;have HB3:=aM hb4;have e0:=G0.out w3 hb4;have e1:=G1.out w3 hb4;have e2:=G2.out w3 hb4;have e3:=G3.out w3 hb4;clear hb3 hb4))
 go_ret;exact ⟨rfl,qaC HB.out HB3.out⟩
theorem qyA (B P Z R:Int) (W:World) (c0:decide ((16:Int)≤B)=true) (c1:decide (B≤(256:Int))=true) (c2:decide ((8:Int)≤P)=true) (c3:decide (P≤(64:Int))=true) (c4:qmB P=true) (c5:decide ((64:Int)≤Z)=true) (c6:decide (Z≤(512:Int))=true) (c7:qmB Z=true) (c8:decide ((1536:Int)≤wrap64 (wrap64 (P - 2)*Z))=true) (c9:decide ((0:Int)≤R)=true) (c10:decide (R≤wrap64 (B.tdiv 4))=true):Calls Tryz.prog 50 #[.agg #[.int .i64 B,.int .i64 P,.int .i64 Z,.int .i64 R]] W fun e w'=>e=.returned (.bool true)∧Below W.heap.size W w':=by
 go_enter Tryz.func50,Tryz.ntmps50
 go_upto_region 1 with (fail)
 generalize hW:W.alloc (.cells #[.int .i64 B,.int .i64 P,.int .i64 Z,.int .i64 R] 23)=W1;have hb:Below W.heap.size W W1:=by rw [← hW];exact qaA (Below.refl _ _) _
 have hg:W1.heap[W.heap.size]?=some (.cells #[.int .i64 B,.int .i64 P,.int .i64 Z,.int .i64 R] 23 (0,0)):=by rw [← hW];exact qaM _ _ _
 have g0:=fun (w':World) (h:Below W1.heap.size W1 w')=>jC (qaB hg h) 0
 have g1:=fun (w':World) (h:Below W1.heap.size W1 w')=>jC (qaB hg h) 1
 have g2:=fun (w':World) (h:Below W1.heap.size W1 w')=>jC (qaB hg h) 2
 have g3:=fun (w':World) (h:Below W1.heap.size W1 w')=>jC (qaB hg h) 3
 have G0:=aM g0;have G1:=aM g1;have G2:=aM g2;have G3:=aM g3;have HB:=aM hb;have a0:=g0 W1 (Below.refl _ _);have a1:=g1 W1 (Below.refl _ _);have a2:=g2 W1 (Below.refl _ _);have a3:=g3 W1 (Below.refl _ _);clear hW hb hg g0 g1 g2 g3
 go_wp2_with (first
  | (go_at_call 108;(with_reducible refine (qcU P _).mono ?_);rintro e w2 ⟨rfl,hb2⟩;have HB2:=aM hb2;have b0:=G0.out w2 hb2;have b1:=G1.out w2 hb2;have b2:=G2.out w2 hb2;have b3:=G3.out w2 hb2;clear hb2)
  | (go_at_call 108;(with_reducible refine (qcU Z _).mono ?_);rintro e w3 ⟨rfl,hb3⟩;have hb4:=qaC HB2.out hb3;have HB3:=aM hb4;have e0:=G0.out w3 hb4;have e1:=G1.out w3 hb4;have e2:=G2.out w3 hb4;have e3:=G3.out w3 hb4;clear hb3 hb4))
 go_ret;exact ⟨rfl,qaC HB.out HB3.out⟩
def qbQ (B P Z R:Int):Bool:=decide ((16:Int)≤B) && (decide (B≤(256:Int)) && (decide ((8:Int)≤P) && (decide (P≤(64:Int)) && (qmB P && (decide ((64:Int)≤Z) && (decide (Z≤(512:Int)) && (qmB Z && (decide ((1536:Int)≤wrap64 (wrap64 (P - 2)*Z)) && (decide ((0:Int)≤R) && (decide (R≤wrap64 (B.tdiv 4))))))))))))
theorem qhT (B P Z R:Int) (W:World):Calls Tryz.prog 50 #[.agg #[.int .i64 B,.int .i64 P,.int .i64 Z,.int .i64 R]] W fun e w'=>e=.returned (.bool (qbQ B P Z R))∧Below W.heap.size W w':=by
 cases c0:decide ((16:Int)≤B) with
 | false=>refine (vbN B P Z R W c0).mono ?_;rintro e w' ⟨rfl,hb⟩;exact ⟨by unfold qbQ;simp only [c0,Bool.true_and,Bool.false_and],hb⟩
 | true =>
 cases c1:decide (B≤(256:Int)) with
 | false=>refine (vbM B P Z R W c0 c1).mono ?_;rintro e w' ⟨rfl,hb⟩;exact ⟨by unfold qbQ;simp only [c0,c1,Bool.true_and,Bool.false_and],hb⟩
 | true =>
 cases c2:decide ((8:Int)≤P) with
 | false=>refine (vbL B P Z R W c0 c1 c2).mono ?_;rintro e w' ⟨rfl,hb⟩;exact ⟨by unfold qbQ;simp only [c0,c1,c2,Bool.true_and,Bool.false_and],hb⟩
 | true =>
 cases c3:decide (P≤(64:Int)) with
 | false=>refine (vbK B P Z R W c0 c1 c2 c3).mono ?_;rintro e w' ⟨rfl,hb⟩;exact ⟨by unfold qbQ;simp only [c0,c1,c2,c3,Bool.true_and,Bool.false_and],hb⟩
 | true =>
 cases c4:qmB P with
 | false=>refine (vbJ B P Z R W c0 c1 c2 c3 c4).mono ?_;rintro e w' ⟨rfl,hb⟩;exact ⟨by unfold qbQ;simp only [c0,c1,c2,c3,c4,Bool.true_and,Bool.false_and],hb⟩
 | true =>
 cases c5:decide ((64:Int)≤Z) with
 | false=>refine (vbI B P Z R W c0 c1 c2 c3 c4 c5).mono ?_;rintro e w' ⟨rfl,hb⟩;exact ⟨by unfold qbQ;simp only [c0,c1,c2,c3,c4,c5,Bool.true_and,Bool.false_and],hb⟩
 | true =>
 cases c6:decide (Z≤(512:Int)) with
 | false=>refine (vbH B P Z R W c0 c1 c2 c3 c4 c5 c6).mono ?_;rintro e w' ⟨rfl,hb⟩;exact ⟨by unfold qbQ;simp only [c0,c1,c2,c3,c4,c5,c6,Bool.true_and,Bool.false_and],hb⟩
 | true =>
 cases c7:qmB Z with
 | false=>refine (vbG B P Z R W c0 c1 c2 c3 c4 c5 c6 c7).mono ?_;rintro e w' ⟨rfl,hb⟩;exact ⟨by unfold qbQ;simp only [c0,c1,c2,c3,c4,c5,c6,c7,Bool.true_and,Bool.false_and],hb⟩
 | true =>
 cases c8:decide ((1536:Int)≤wrap64 (wrap64 (P - 2)*Z)) with
 | false=>refine (vbF B P Z R W c0 c1 c2 c3 c4 c5 c6 c7 c8).mono ?_;rintro e w' ⟨rfl,hb⟩;exact ⟨by unfold qbQ;simp only [c0,c1,c2,c3,c4,c5,c6,c7,c8,Bool.true_and,Bool.false_and],hb⟩
 | true =>
 cases c9:decide ((0:Int)≤R) with
 | false=>refine (vbE B P Z R W c0 c1 c2 c3 c4 c5 c6 c7 c8 c9).mono ?_;rintro e w' ⟨rfl,hb⟩;exact ⟨by unfold qbQ;simp only [c0,c1,c2,c3,c4,c5,c6,c7,c8,c9,Bool.true_and,Bool.false_and],hb⟩
 | true =>
 cases c10:decide (R≤wrap64 (B.tdiv 4)) with
 | false=>refine (qyB B P Z R W c0 c1 c2 c3 c4 c5 c6 c7 c8 c9 c10).mono ?_;rintro e w' ⟨rfl,hb⟩;exact ⟨by unfold qbQ;simp only [c0,c1,c2,c3,c4,c5,c6,c7,c8,c9,c10,Bool.true_and,Bool.false_and],hb⟩
 | true =>
 refine (qyA B P Z R W c0 c1 c2 c3 c4 c5 c6 c7 c8 c9 c10).mono ?_;rintro e w' ⟨rfl,hb⟩;exact ⟨by unfold qbQ;simp only [c0,c1,c2,c3,c4,c5,c6,c7,c8,c9,c10,Bool.true_and],hb⟩
end
end Go.Proofs.YtdlimghdimkadaaGreatDoor.PAll

/- Part 15 of what the law ScanScans rests on. -/
import Derived.Test.YtdlimghdimkadaaGreatDoorQ6
import Derived.Test.YtdlimghdimkadaaGreatDoorQ14
import Derived.Test.YtdlimghdimkadaaGreatDoorQ1
import Derived.Test.YtdlimghdimkadaaGreatDoorQ11
import Derived.Test.YtdlimghdimkadaaGreatDoorQ7
import Derived.Test.YtdlimghdimkadaaGreatDoorQ3
set_option maxRecDepth 100000
set_option maxHeartbeats 32000000
set_option linter.unusedSimpArgs false
set_option linter.unusedVariables false
namespace Go.Proofs.YtdlimghdimkadaaGreatDoor.PAll
open Go Go.RowKit YtdlimghdimkadaaGreatDoorW.PrintWords YtdlimghdimkadaaGreatDoorW.PrintLast YtdlimghdimkadaaGreatDoorW.PrintMore
attribute [local go_sem] qdS qdQ qeJ qeI qcV qcU qdR qdP
section
open Go.Shelf Plain
variable {w0 W:World} {gd:Nat} {a:AC}
theorem qlR (B P Z R:Int) (W:World):(Instr.field 23 (.agg #[.int .i64 B,.int .i64 P,.int .i64 Z,.int .i64 R]) 1).run Tryz.prog W=.ok (.int .i64 P) W:=by kernel_rfl
theorem qlS (B P Z R:Int) (W:World):(Instr.field 23 (.agg #[.int .i64 B,.int .i64 P,.int .i64 Z,.int .i64 R]) 0).run Tryz.prog W=.ok (.int .i64 B) W:=by kernel_rfl
attribute [local go_sem] qlR qlS
theorem qbT.geometry (h:qbT w0 W gd a):Calls Tryz.prog 73 #[cp gd] W fun e w'=>e=.returned (gV a.g.B a.g.P a.g.Z a.g.R)∧Below W.heap.size W w':=by
 obtain ⟨m,h⟩:=h;exact h.geometry
theorem qmO (B P Z R:Int) (W:World):Calls Tryz.prog 14 #[gV B P Z R] W fun e w'=>e=.returned (.int .i64 (qfP B P Z R))∧Below W.heap.size W w':=by
 have hu28:=Tryz.underlying23
 cases hg:qcG B P Z R with
 | false =>
  have HRG:=aM (fun W=>qhP B P Z R W);rw [hg] at HRG;have HE:=aM (show qfP B P Z R=0 by unfold qfP;rw [hg];rfl);clear hg;go_enter Tryz.func14,Tryz.ntmps14
  go_upto_region 1 with (fail)
  generalize hW:W.alloc (.cells #[.int .i64 B,.int .i64 P,.int .i64 Z,.int .i64 R] 23)=W1;have hb:Below W.heap.size W W1:=by rw [← hW];exact qaA (Below.refl _ _) _
  have hg:W1.heap[W.heap.size]?=some (.cells #[.int .i64 B,.int .i64 P,.int .i64 Z,.int .i64 R] 23 (0,0)):=by rw [← hW];exact qaV _ _ _
  have HB:=aM hb;have a0:=jC hg 0;have a1:=jC hg 1;have a2:=jC hg 2;have a3:=jC hg 3;clear hW hb hg
  go_wp2_with (first
   | (go_at_call 53;(with_reducible refine (HRG.out _).mono ?_);rintro e w2 ⟨rfl,hb2⟩;have HB2:=aM hb2;clear hb2))
  go_ret;rw [HE.out];exact ⟨rfl,qaF HB.out HB2.out⟩
 | true =>
  have HRG:=aM (fun W=>qhP B P Z R W);rw [hg] at HRG;have HE:=aM (show qfP B P Z R=wrap64 (wrap64 (B - R) - 2) by unfold qfP;rw [hg];rfl);clear hg;go_enter Tryz.func14,Tryz.ntmps14
  go_upto_region 1 with (fail)
  generalize hW:W.alloc (.cells #[.int .i64 B,.int .i64 P,.int .i64 Z,.int .i64 R] 23)=W1;have hb:Below W.heap.size W W1:=by rw [← hW];exact qaA (Below.refl _ _) _
  have hg:W1.heap[W.heap.size]?=some (.cells #[.int .i64 B,.int .i64 P,.int .i64 Z,.int .i64 R] 23 (0,0)):=by rw [← hW];exact qaV _ _ _
  have HB:=aM hb;have HG:=aM hg;have a0:=jC hg 0;have a1:=jC hg 1;have a2:=jC hg 2;have a3:=jC hg 3;clear hW hb hg
  go_wp2_with (first
   | (go_at_call 53;(with_reducible refine (HRG.out _).mono ?_);rintro e w2 ⟨rfl,hb2⟩;have HB2:=aM hb2;have b0:=jC (qaE HG.out hb2) 0;have b3:=jC (qaE HG.out hb2) 3;clear hb2))
  go_ret;rw [HE.out];exact ⟨rfl,qaF HB.out HB2.out⟩
theorem vdU {g q t:Nat} {cs:Array Value} {W:World} (h:W.heap[q]?=some (.cells cs t (0,0))) (hne:q ≠ g) (u v x y z s:Value):((((((W.setCell ⟨g,0,none⟩ u).setCell ⟨g,1,none⟩ v).setCell ⟨g,2,none⟩ x).setCell ⟨g,3,none⟩ y).setCell ⟨g,4,none⟩ z).setCell ⟨g,5,none⟩ s).heap[q]?=some (.cells cs t (0,0)) :=
 qaR (qaR (qaR (qaR (qaR (qaR h hne _) hne _) hne _) hne _) hne _) hne _
theorem quT {a:AC} (h:AWF a) (n p:Int):(qbV a n p).1.length≤a.g.Z:=by
 unfold qbV
 split
 ·exact Nat.zero_le _
 split
 ·exact Nat.zero_le _
 split
 ·exact Nat.zero_le _
 split
 ·exact Nat.zero_le _
 split
 ·have:=((h.2 n.toNat).2.2 p.toNat).2.2;simp;omega
 ·simp
theorem qvV (h:qbT w0 W gd a) (hw:AWF a) (hby:qdH a) (i:Nat) :
  Calls Tryz.prog 74 #[cp gd,.int .i64 i] W fun e w'=>e=.returned (.tuple #[.agg (bC (qtG a (i:Int)).1),.bool (qtG a (i:Int)).2])∧Below W.heap.size W w':=by
 have HBAD:=aM (fun w1 (hb:Below W.heap.size W w1)=>(h.grow hb).bad (i:Int));have HNX:=aM (fun w1 (hb:Below W.heap.size W w1)=>(h.grow hb).next (i:Int));have HRD:=aM (fun w1 (hb:Below W.heap.size W w1) (p:Int)=>(h.grow hb).read (fun i j=>((hw.2 i).2.2 j).2.1) (fun i j=>((hw.2 i).2.2 j).2.2) (i:Int) p);have HGEO:=aM (show ∀ w1,Below W.heap.size W w1→Calls Tryz.prog 73 #[cp gd] w1 (fun e w'=>e=.returned (.agg #[.int .i64 a.g.B,.int .i64 a.g.P,.int .i64 a.g.Z,.int .i64 a.g.R])∧Below w1.heap.size w1 w') from fun w1 hb=>(h.grow hb).geometry);have HRL:=aM (fun p=>quT hw (i:Int) p);have HBY:=aM (fun p=>qkF hby (i:Int) p);have HZ5:=aM hw.1.2.2;have HLA:=aM (show qtG a (i:Int)=_ by unfold qtG;exact rfl);have hP:=hw.1.2.1
 obtain ⟨P2,hP2⟩:∃ P2,a.g.P - 2=P2:=⟨_,rfl⟩
 have hPP:P2≤62:=by omega
 have HPE:=aM (show (a.g.P:Int) - 2=(P2:Int) by omega);have hwP:wrap64 ((a.g.P:Int) - 2)=(P2:Int):=by unfold wrap64;omega
 have HWP:=aM hwP
 obtain ⟨lb,hlb⟩:∃ lb,lb=qfP a.g.B a.g.P a.g.Z a.g.R:=⟨_,rfl⟩
 have HLEB:=aM (show ∀ w1,Below W.heap.size W w1→Calls Tryz.prog 14 #[gV a.g.B a.g.P a.g.Z a.g.R] w1 (fun e w'=>e=.returned (.int .i64 lb)∧Below w1.heap.size w1 w') from fun w1 _=>by rw [hlb];exact qmO a.g.B a.g.P a.g.Z a.g.R w1);rw [← hlb,hP2] at HLA;have hu122:=Tryz.underlying122;have hu107:=Tryz.underlying107;have hu23:=Tryz.underlying23;clear h hw hby hP hP2 hlb hwP;go_enter Tryz.func74,Tryz.ntmps74
 go_upto_region 1 with (fail)
 generalize hW:W.alloc (.cells #[.int .i64 0,.int .i64 0,.int .i64 0,.int .i64 0,.int .u64 0,.bool false] 122)=W1;have HB1:=aM (show Below W.heap.size W W1 by rw [← hW];exact qaA (Below.refl _ _) _);have HR1:=aM (show W1.heap[W.heap.size]?=some (.cells #[.int .i64 0,.int .i64 0,.int .i64 0,.int .i64 0,.int .u64 0,.bool false] 122 (0,0)) by rw [← hW];exact qaV _ _ _);clear hW
 go_upto_region 2 with (fail)
 generalize hW:W1.alloc (.cells #[.int .i64 3,.int .i64 0,.int .i64 0,.int .i64 0,.int .u64 0,.bool false] 122)=W3;have hb3:Below W1.heap.size W1 W3:=by rw [← hW];exact qaA (Below.refl _ _) _
 have HX3:=aM (show W3.heap[W1.heap.size]?=some (.cells #[.int .i64 3,.int .i64 0,.int .i64 0,.int .i64 0,.int .u64 0,.bool false] 122 (0,0)) by rw [← hW];exact qaV _ _ _)
 obtain ⟨gx,hgx⟩:∃ gx,gx=W1.heap.size:=⟨_,rfl⟩
 have HGX:=aM (show W.heap.size≤gx∧gx ≠ W.heap.size by
  have h1:=qaG HB1.out;have h2:=qbR HR1.out
  omega)
 rw [← hgx] at HX3 ⊢;have HB3:=aM (qaF HB1.out hb3);have HR3:=aM (qaE HR1.out hb3);clear hW hb3 hgx;have HCB:=aM (HBAD.out _ HB3.out)
 cases hbad:qpN a (i:Int) with
 | true =>
  have HE:=aM (HLA.out.trans (if_pos hbad));rw [hbad] at HCB;clear hbad
  go_upto_region 3 with (first
   | (go_at_call 80;(with_reducible refine HCB.out.mono ?_);rintro e w2 ⟨rfl,hb2⟩;have HB2:=aM (qaF HB3.out hb2);have HR2:=aM (qaE HR3.out hb2);clear hb2))
  have fr0:=qaC HR2.out 0;have fr1:=qaC HR2.out 1;have fr2:=qaC HR2.out 2;have fr3:=qaC HR2.out 3;have fr4:=qaC HR2.out 4;have fr5:=qaC HR2.out 5;have yr0:=jC HR2.out 0;have yr1:=jC HR2.out 1;have yr2:=jC HR2.out 2;have yr3:=jC HR2.out 3;have yr4:=jC HR2.out 4;have yr5:=jC HR2.out 5;go_wp2;refine bodyPost_ret (qbD rfl _ _ W.heap.size 122 #[.int .i64 1,.int .i64 0,.int .i64 0,.int .i64 0,.int .u64 0,.bool false] (0,0) _ rfl (qiT HR2.out _ _ _ _ _ _) Tryz.underlying122 rfl (by kernel_rfl)) rfl ?_;rw [HE.out];exact ⟨rfl,qbL HB2.out (Nat.le_refl _) _ _ _ _ _ _⟩
 | false =>
  have HLA2:=aM (HLA.out.trans (if_neg (by rw [hbad];decide)));rw [hbad] at HCB;clear hbad HLA
  go_upto_region 4 with (first
   | (go_at_call 80;(with_reducible refine HCB.out.mono ?_);rintro e w2 ⟨rfl,hb2⟩;have HB2:=aM (qaF HB3.out hb2);have HR2:=aM (qaE HR3.out hb2);have HX2:=aM (qaE HX3.out hb2);clear hb2))
  have HP0:=aM (HRD.out _ HB2.out 0);have HL0:=aM (HBY.out 0);have HN0:=aM (HRL.out 0);generalize qbV a (i:Int) 0=p0 at HP0 HL0 HN0 HLA2;obtain ⟨l0,k0⟩:=p0;simp only at HP0 HL0 HN0 HLA2
  go_upto_region 5 with (first
   | (go_at_call 78;(with_reducible refine HP0.out.mono ?_);rintro e w4 ⟨v4,rfl,ho4,hb4⟩;have HO4:=aM ho4;have HB4:=aM (qaF HB2.out hb4);have HR4:=aM (qaE HR2.out hb4);have HX4:=aM (qaE HX2.out hb4);clear ho4 hb4))
  obtain ⟨A4,c4,e4⟩:=Kd.R_slice HO4.out;rw [e4] at HO4;subst e4;have hrd4:=Kd.R_reads' HO4.out;have HC4:=aM (qlE A4 c4 l0 w4 HL0.out (by have:=HN0.out;have:=HZ5.out;omega) hrd4.2.2 hrd4.2.1);clear hrd4;generalize qaX l0=pc at HC4 HLA2;obtain ⟨ct,ic⟩:=pc;simp only at HC4 HLA2
  go_upto_region 6 with (first
   | (go_at_call 126;(with_reducible refine HC4.out.mono ?_);rintro e w5 ⟨rfl,hb5⟩;have HB5:=aM (qaF HB4.out hb5);have HR5:=aM (qaE HR4.out hb5);have hx5:=qaE HX4.out hb5;have HX5:=aM hx5;have z1:=jC hx5 1;have f51:=qaC hx5 1;clear hb5 hx5))
  go_upto_region 7 with (fail)
  generalize hW:w5.setCell ⟨gx,1,none⟩ (.int .i64 ct)=W6;have HB6:=aM (show Below W.heap.size W W6 by rw [← hW];exact qaH HB5.out HGX.out.1);have HR6:=aM (show W6.heap[W.heap.size]?=some (.cells #[.int .i64 0,.int .i64 0,.int .i64 0,.int .i64 0,.int .u64 0,.bool false] 122 (0,0)) by rw [← hW];exact qaR HR5.out HGX.out.2.symm _);have HX6:=aM (show W6.heap[gx]?=some (.cells #[.int .i64 3,.int .i64 ct,.int .i64 0,.int .i64 0,.int .u64 0,.bool false] 122 (0,0)) by rw [← hW];exact qaU HX5.out 1 _ rfl);clear hW z1 f51
  cases ic with
  | false =>
   have HE:=aM (HLA2.out.trans (if_pos rfl));have x0:=jC HX6.out 0;have x1:=jC HX6.out 1;have x2:=jC HX6.out 2;have x3:=jC HX6.out 3;have x4:=jC HX6.out 4;have x5:=jC HX6.out 5;have fr0:=qaC HR6.out 0;have fr1:=qaC HR6.out 1;have fr2:=qaC HR6.out 2;have fr3:=qaC HR6.out 3;have fr4:=qaC HR6.out 4;have fr5:=qaC HR6.out 5;have yr0:=jC HR6.out 0;have yr1:=jC HR6.out 1;have yr2:=jC HR6.out 2;have yr3:=jC HR6.out 3;have yr4:=jC HR6.out 4;have yr5:=jC HR6.out 5;go_wp2;refine bodyPost_ret (qbD rfl _ _ W.heap.size 122 #[.int .i64 3,.int .i64 ct,.int .i64 0,.int .i64 0,.int .u64 0,.bool false] (0,0) _ rfl (qiT HR6.out _ _ _ _ _ _) Tryz.underlying122 rfl (by kernel_rfl)) rfl ?_;rw [HE.out];exact ⟨rfl,qbL HB6.out (Nat.le_refl _) _ _ _ _ _ _⟩
  | true =>
   have HLA3:=aM (HLA2.out.trans (if_neg (by decide)));clear HLA2;have HCN:=aM (HNX.out _ HB6.out)
   obtain ⟨nx,hnx⟩:∃ nx,nx=qdY a (i:Int):=⟨_,rfl⟩
   have HNE:=aM hnx;rw [← hnx] at HCN HLA3;clear hnx
   by_cases h1:nx=1
   ·subst h1;have HE:=aM (HLA3.out.trans (if_pos rfl))
    go_upto_region 10 with (first
     | (go_at_call 82;(with_reducible refine HCN.out.mono ?_);rintro e w7 ⟨rfl,hb7⟩;have HB7:=aM (qaF HB6.out hb7);have HR7:=aM (qaE HR6.out hb7);have hx7:=qaE HX6.out hb7;have HX7:=aM hx7;have z0:=jC hx7 0;have f70:=qaC hx7 0;clear hb7 hx7))
    go_upto_region 11 with (fail)
    generalize hW:w7.setCell ⟨gx,0,none⟩ (.int .i64 2)=W8;have HB8:=aM (show Below W.heap.size W W8 by rw [← hW];exact qaH HB7.out HGX.out.1);have HR8:=aM (show W8.heap[W.heap.size]?=some (.cells #[.int .i64 0,.int .i64 0,.int .i64 0,.int .i64 0,.int .u64 0,.bool false] 122 (0,0)) by rw [← hW];exact qaR HR7.out HGX.out.2.symm _);have HX8:=aM (show W8.heap[gx]?=some (.cells #[.int .i64 2,.int .i64 ct,.int .i64 0,.int .i64 0,.int .u64 0,.bool false] 122 (0,0)) by rw [← hW];exact qaU HX7.out 0 _ rfl);clear hW z0 f70;have x0:=jC HX8.out 0;have x1:=jC HX8.out 1;have x2:=jC HX8.out 2;have x3:=jC HX8.out 3;have x4:=jC HX8.out 4;have x5:=jC HX8.out 5;have fr0:=qaC HR8.out 0;have fr1:=qaC HR8.out 1;have fr2:=qaC HR8.out 2;have fr3:=qaC HR8.out 3;have fr4:=qaC HR8.out 4;have fr5:=qaC HR8.out 5;have yr0:=jC HR8.out 0;have yr1:=jC HR8.out 1;have yr2:=jC HR8.out 2;have yr3:=jC HR8.out 3;have yr4:=jC HR8.out 4;have yr5:=jC HR8.out 5;go_wp2;refine bodyPost_ret (qbD rfl _ _ W.heap.size 122 #[.int .i64 2,.int .i64 ct,.int .i64 0,.int .i64 0,.int .u64 0,.bool false] (0,0) _ rfl (qiT HR8.out _ _ _ _ _ _) Tryz.underlying122 rfl (by kernel_rfl)) rfl ?_
    rw [HE.out];exact ⟨rfl,qbL HB8.out (Nat.le_refl _) _ _ _ _ _ _⟩
   ·have e1:(nx==1)=false:=by simp only [beq_eq_false_iff_ne];exact h1
    have HLB:=aM (HLA3.out.trans (if_neg h1));clear h1 HLA3
    go_upto_region 12 with (first
     | (go_at_call 82;(with_reducible refine HCN.out.mono ?_);rintro e w7 ⟨rfl,hb7⟩;have HB7:=aM (qaF HB6.out hb7);have HR7:=aM (qaE HR6.out hb7);have HX7:=aM (qaE HX6.out hb7);clear hb7))
    have HP1:=aM (HRD.out _ HB7.out 1);have HL1:=aM (HBY.out 1);have HN1:=aM (HRL.out 1);generalize qbV a (i:Int) 1=p1 at HP1 HL1 HN1 HLB;obtain ⟨l1,k1⟩:=p1;simp only at HP1 HL1 HN1 HLB
    go_upto_region 13 with (first
     | (go_at_call 78;(with_reducible refine HP1.out.mono ?_);rintro e w8 ⟨v8,rfl,ho8,hb8⟩;have HO8:=aM ho8;have HB8:=aM (qaF HB7.out hb8);have HR8:=aM (qaE HR7.out hb8);have HX8:=aM (qaE HX7.out hb8);clear ho8 hb8))
    obtain ⟨A8,c8,e8⟩:=Kd.R_slice HO8.out;rw [e8] at HO8;subst e8;have hrd8:=Kd.R_reads' HO8.out;have HC8:=aM (qnS A8 c8 l1 w8 HL1.out (by have:=HN1.out;have:=HZ5.out;omega) hrd8.2.2 hrd8.2.1);clear hrd8;generalize qbA l1=pm at HC8 HLB;obtain ⟨⟨ml,ms,mp⟩,im⟩:=pm;simp only at HC8 HLB
    go_upto_region 14 with (first
     | (go_at_call 127;(with_reducible refine HC8.out.mono ?_);rintro e wm ⟨rfl,hbm⟩;have HBm:=aM (qaF HB8.out hbm);have HRm:=aM (qaE HR8.out hbm);have HXm:=aM (qaE HX8.out hbm);clear hbm))
    obtain ⟨gm,hgm⟩:∃ gm,gm=wm.heap.size:=⟨_,rfl⟩
    generalize hW:wm.alloc (.cells #[.int .i64 ml,.int .u64 ms,.int .i64 mp] 107)=W8;have hb8:Below wm.heap.size wm W8:=by rw [← hW];exact qaA (Below.refl _ _) _
    have HMA:=aM (show W8.heap[gm]?=some (.cells #[.int .i64 ml,.int .u64 ms,.int .i64 mp] 107 (0,0)) by rw [← hW,hgm];exact qaV _ _ _);rw [← hgm];have HBA:=aM (qaF HBm.out hb8);have HRA:=aM (qaE HRm.out hb8);have HXA:=aM (qaE HXm.out hb8);clear hW hb8 hgm
    go_upto_region 15 with (first
     | (go_at_call 73;(with_reducible refine (HGEO.out _ HBA.out).mono ?_);rintro e w9 ⟨rfl,hb9⟩;have HB9:=aM (qaF HBA.out hb9);have HR9:=aM (qaE HRA.out hb9);have HX9:=aM (qaE HXA.out hb9);have HM9:=aM (qaE HMA.out hb9);have hwP:=HWP.out;clear hb9))
    generalize w9=W9 at HB9 HR9 HX9 HM9 ⊢;rw [HWP.out];clear hwP
    cases im with
    | false =>
     have HE:=aM (HLB.out.trans (if_pos (.inl rfl)));refine Reg.det [(0,60,?r1v0),(1,61,?r1v1),(2,62,?r1v2),(3,63,undef),(4,64,undef),(5,65,undef),(6,66,undef),(7,67,undef),(8,68,undef),(9,69,?r1v9),(10,70,?r1v10),(11,71,undef),(12,72,undef),(13,73,undef),(14,74,undef),(15,75,?r1v15)] (fun w'=>Below W9.heap.size W9 w') (by rfl) rfl (by kernel_rfl) ?r1S ?r1steps ?r1okv ?r1hlt ?r1fin;case r1S=>exact qaW (Below.refl _ _)
     case r1steps =>
      refine Reg.fS 0 rfl rfl (fun a w hS hK K hC=>?_) ?_
      ·refine Reg.sO ?_;have e12:=hK.off 12 _ rfl rfl;clear hK;go_simp;exact hC _ hS
      refine Reg.fS 1 rfl rfl (fun a w hS hK K hC=>?_) ?_
      ·refine Reg.sO ?_;have e60:=hK.sl 0 rfl;clear hK;go_simp;exact hC _ hS
      refine Reg.fS 2 rfl rfl (fun a w hS hK K hC=>?_) ?_
      ·refine Reg.sO ?_;have e61:=hK.sl 1 rfl;clear hK;go_simp;exact hC _ hS
      refine Reg.fS 3 rfl rfl (fun a w hS hK K hC=>?_) ?_
      ·refine Reg.step_off (qaO (g:=2) rfl rfl rfl (hK.sl 2 rfl)) ?_;exact hC _ hS
      refine Reg.fS 4 rfl rfl (fun a w hS hK K hC=>?_) ?_
      ·refine Reg.step_off (qaO (g:=2) rfl rfl rfl (hK.sl 2 rfl)) ?_;exact hC _ hS
      refine Reg.fS 5 rfl rfl (fun a w hS hK K hC=>?_) ?_
      ·refine Reg.step_off (qaO (g:=2) rfl rfl rfl (hK.sl 2 rfl)) ?_;exact hC _ hS
      refine Reg.fS 6 rfl rfl (fun a w hS hK K hC=>?_) ?_
      ·refine Reg.step_off (qaO (g:=2) rfl rfl rfl (hK.sl 2 rfl)) ?_;exact hC _ hS
      refine Reg.fS 7 rfl rfl (fun a w hS hK K hC=>?_) ?_
      ·refine Reg.step_off (qaO (g:=2) rfl rfl rfl (hK.sl 2 rfl)) ?_;exact hC _ hS
      refine Reg.fS 8 rfl rfl (fun a w hS hK K hC=>?_) ?_
      ·refine Reg.step_off (qaO (g:=2) rfl rfl rfl (hK.sl 2 rfl)) ?_;exact hC _ hS
      refine Reg.fS 9 rfl rfl (fun a w hS hK K hC=>?_) ?_
      ·refine Reg.sO ?_;have e62:=hK.sl 2 rfl;have e68:=hK.sl 8 rfl;clear hK;go_simp;exact hC _ hS
      refine Reg.fS 10 rfl rfl (fun a w hS hK K hC=>?_) ?_
      ·refine Reg.sO ?_;have e69:=hK.sl 9 rfl;clear hK;go_simp;exact hC _ hS
      refine Reg.fS 11 rfl rfl (fun a w hS hK K hC=>?_) ?_
      ·refine Reg.step_off (qaO (g:=10) rfl rfl rfl (hK.sl 10 rfl)) ?_;exact hC _ hS
      refine Reg.fS 12 rfl rfl (fun a w hS hK K hC=>?_) ?_
      ·refine Reg.step_off (qaO (g:=10) rfl rfl rfl (hK.sl 10 rfl)) ?_;exact hC _ hS
      refine Reg.fS 13 rfl rfl (fun a w hS hK K hC=>?_) ?_
      ·refine Reg.step_off (qaO (g:=10) rfl rfl rfl (hK.sl 10 rfl)) ?_;exact hC _ hS
      refine Reg.fS 14 rfl rfl (fun a w hS hK K hC=>?_) ?_
      ·refine Reg.step_off (qaO (g:=10) rfl rfl rfl (hK.sl 10 rfl)) ?_;exact hC _ hS
      refine Reg.fS 15 rfl rfl (fun a w hS hK K hC=>?_) ?_
      ·refine Reg.sO ?_;have e70:=hK.sl 10 rfl;have e74:=hK.sl 14 rfl;clear hK;go_simp;exact hC _ hS
      exact Reg.from_nil
     case r1okv=>rfl
     case r1hlt=>rfl
     case r1fin =>
      intro wz hS;simp only [Reg.putV,List.foldl_cons,List.foldl_nil,Act.put,List.setIfInBounds_toArray,List.set_cons_zero,List.set_cons_succ];have HB10:=aM (qaF HB9.out hS);have HR10:=aM (qaE HR9.out hS);have HX10:=aM (qaE HX9.out hS);clear hS;have x0:=jC HX10.out 0;have x1:=jC HX10.out 1;have x2:=jC HX10.out 2;have x3:=jC HX10.out 3;have x4:=jC HX10.out 4;have x5:=jC HX10.out 5;have fr0:=qaC HR10.out 0;have fr1:=qaC HR10.out 1;have fr2:=qaC HR10.out 2;have fr3:=qaC HR10.out 3;have fr4:=qaC HR10.out 4;have fr5:=qaC HR10.out 5;have yr0:=jC HR10.out 0;have yr1:=jC HR10.out 1;have yr2:=jC HR10.out 2;have yr3:=jC HR10.out 3;have yr4:=jC HR10.out 4;have yr5:=jC HR10.out 5;go_wp2;refine bodyPost_ret (qbD rfl _ _ W.heap.size 122 #[.int .i64 3,.int .i64 ct,.int .i64 0,.int .i64 0,.int .u64 0,.bool false] (0,0) _ rfl (qiT HR10.out _ _ _ _ _ _) Tryz.underlying122 rfl (by kernel_rfl)) rfl ?_;rw [HE.out];exact ⟨rfl,qbL HB10.out (Nat.le_refl _) _ _ _ _ _ _⟩
    | true =>
     by_cases hlt:lb≤ml
     ·have HE:=aM (HLB.out.trans (if_pos (.inr (.inl hlt))));have g1:decide (lb≤ml)=true:=decide_eq_true hlt;clear hlt;refine Reg.det [(0,60,?r2v0),(1,61,?r2v1),(2,62,?r2v2),(3,63,?r2v3),(4,64,?r2v4),(5,65,?r2v5),(6,66,?r2v6),(7,67,?r2v7),(8,68,?r2v8),(9,69,?r2v9),(10,70,?r2v10),(11,71,undef),(12,72,undef),(13,73,undef),(14,74,undef),(15,75,?r2v15)] (fun w'=>Below W9.heap.size W9 w') (by rfl) rfl (by kernel_rfl) ?r2S ?r2steps ?r2okv ?r2hlt ?r2fin;case r2S=>exact qaW (Below.refl _ _)
      case r2steps =>
       refine Reg.fS 0 rfl rfl (fun a w hS hK K hC=>?_) ?_
       ·refine Reg.sO ?_;have e12:=hK.off 12 _ rfl rfl;clear hK;go_simp;exact hC _ hS
       refine Reg.fS 1 rfl rfl (fun a w hS hK K hC=>?_) ?_
       ·refine Reg.sO ?_;have e60:=hK.sl 0 rfl;clear hK;go_simp;exact hC _ hS
       refine Reg.fS 2 rfl rfl (fun a w hS hK K hC=>?_) ?_
       ·refine Reg.sO ?_;have e61:=hK.sl 1 rfl;clear hK;go_simp;exact hC _ hS
       refine Reg.fS 3 rfl rfl (fun a w hS hK K hC=>?_) ?_
       ·refine Reg.step_on (qaL (g:=2) rfl rfl rfl (hK.sl 2 rfl)) ?_;have e11:=hK.off 11 _ rfl rfl;clear hK;go_simp;exact hC _ hS
       refine Reg.fS 4 rfl rfl (fun a w hS hK K hC=>?_) ?_
       ·refine Reg.step_on (qaL (g:=2) rfl rfl rfl (hK.sl 2 rfl)) ?_;have e63:=hK.sl 3 rfl;have hm:=qaE HM9.out hS;have zm0:=jC hm 0;have zm2:=jC hm 2;clear hm;clear hK;go_simp;exact hC _ hS
       refine Reg.fS 5 rfl rfl (fun a w hS hK K hC=>?_) ?_
       ·refine Reg.step_on (qaL (g:=2) rfl rfl rfl (hK.sl 2 rfl)) ?_;have e0:=hK.off 0 _ rfl rfl;clear hK;go_simp;exact hC _ hS
       refine Reg.fS 6 rfl rfl (fun a w hS hK K hC=>?_) ?_
       ·refine Reg.step_on (qaL (g:=2) rfl rfl rfl (hK.sl 2 rfl)) ?_;have e65:=hK.sl 5 rfl;clear hK;go_simp;go_at_call 73;(with_reducible refine (HGEO.out w (qaF HB9.out hS)).mono ?_);rintro e w' ⟨rfl,hb⟩;exact hC w' (qaF hS hb)
       refine Reg.fS 7 rfl rfl (fun a w hS hK K hC=>?_) ?_
       ·refine Reg.step_on (qaL (g:=2) rfl rfl rfl (hK.sl 2 rfl)) ?_;have e66:=hK.sl 6 rfl;clear hK;go_simp;go_at_call 14;(with_reducible refine (HLEB.out w (qaF HB9.out hS)).mono ?_);rintro e w' ⟨rfl,hb⟩;exact hC w' (qaF hS hb)
       refine Reg.fS 8 rfl rfl (fun a w hS hK K hC=>?_) ?_
       ·refine Reg.step_on (qaL (g:=2) rfl rfl rfl (hK.sl 2 rfl)) ?_;have e64:=hK.sl 4 rfl;have e67:=hK.sl 7 rfl;clear hK;go_simp;exact hC _ hS
       refine Reg.fS 9 rfl rfl (fun a w hS hK K hC=>?_) ?_
       ·refine Reg.sO ?_;have e62:=hK.sl 2 rfl;have e68:=hK.sl 8 rfl;clear hK;go_simp;exact hC _ hS
       refine Reg.fS 10 rfl rfl (fun a w hS hK K hC=>?_) ?_
       ·refine Reg.sO ?_;have e69:=hK.sl 9 rfl;clear hK;go_simp;exact hC _ hS
       refine Reg.fS 11 rfl rfl (fun a w hS hK K hC=>?_) ?_
       ·refine Reg.step_off (qaO (g:=10) rfl rfl rfl (hK.sl 10 rfl)) ?_;exact hC _ hS
       refine Reg.fS 12 rfl rfl (fun a w hS hK K hC=>?_) ?_
       ·refine Reg.step_off (qaO (g:=10) rfl rfl rfl (hK.sl 10 rfl)) ?_;exact hC _ hS
       refine Reg.fS 13 rfl rfl (fun a w hS hK K hC=>?_) ?_
       ·refine Reg.step_off (qaO (g:=10) rfl rfl rfl (hK.sl 10 rfl)) ?_;exact hC _ hS
       refine Reg.fS 14 rfl rfl (fun a w hS hK K hC=>?_) ?_
       ·refine Reg.step_off (qaO (g:=10) rfl rfl rfl (hK.sl 10 rfl)) ?_;exact hC _ hS
       refine Reg.fS 15 rfl rfl (fun a w hS hK K hC=>?_) ?_
       ·refine Reg.sO ?_;have e70:=hK.sl 10 rfl;have e74:=hK.sl 14 rfl;clear hK;go_simp;exact hC _ hS
       exact Reg.from_nil
      case r2okv=>rfl
      case r2hlt=>rfl
      case r2fin =>
       intro wz hS;simp only [Reg.putV,List.foldl_cons,List.foldl_nil,Act.put,List.setIfInBounds_toArray,List.set_cons_zero,List.set_cons_succ];have HB10:=aM (qaF HB9.out hS);have HR10:=aM (qaE HR9.out hS);have HX10:=aM (qaE HX9.out hS);clear hS;have x0:=jC HX10.out 0;have x1:=jC HX10.out 1;have x2:=jC HX10.out 2;have x3:=jC HX10.out 3;have x4:=jC HX10.out 4;have x5:=jC HX10.out 5;have fr0:=qaC HR10.out 0;have fr1:=qaC HR10.out 1;have fr2:=qaC HR10.out 2;have fr3:=qaC HR10.out 3;have fr4:=qaC HR10.out 4;have fr5:=qaC HR10.out 5;have yr0:=jC HR10.out 0;have yr1:=jC HR10.out 1;have yr2:=jC HR10.out 2;have yr3:=jC HR10.out 3;have yr4:=jC HR10.out 4;have yr5:=jC HR10.out 5;go_wp2;refine bodyPost_ret (qbD rfl _ _ W.heap.size 122 #[.int .i64 3,.int .i64 ct,.int .i64 0,.int .i64 0,.int .u64 0,.bool false] (0,0) _ rfl (qiT HR10.out _ _ _ _ _ _) Tryz.underlying122 rfl (by kernel_rfl)) rfl ?_;rw [HE.out];exact ⟨rfl,qbL HB10.out (Nat.le_refl _) _ _ _ _ _ _⟩
     ·have g1:decide (lb≤ml)=false:=decide_eq_false hlt
      by_cases hgt:(P2:Int) < mp
      ·have HE:=aM (HLB.out.trans (if_pos (.inr (.inr (by rw [HPE.out];exact hgt)))));have g2:decide ((P2:Int) < mp)=true:=decide_eq_true hgt;clear hlt hgt;refine Reg.det [(0,60,?r3v0),(1,61,?r3v1),(2,62,?r3v2),(3,63,?r3v3),(4,64,?r3v4),(5,65,?r3v5),(6,66,?r3v6),(7,67,?r3v7),(8,68,?r3v8),(9,69,?r3v9),(10,70,?r3v10),(11,71,?r3v11),(12,72,?r3v12),(13,73,?r3v13),(14,74,?r3v14),(15,75,?r3v15)] (fun w'=>Below W9.heap.size W9 w') (by rfl) rfl (by kernel_rfl) ?r3S ?r3steps ?r3okv ?r3hlt ?r3fin;case r3S=>exact qaW (Below.refl _ _)
       case r3steps =>
        refine Reg.fS 0 rfl rfl (fun a w hS hK K hC=>?_) ?_
        ·refine Reg.sO ?_;have e12:=hK.off 12 _ rfl rfl;clear hK;go_simp;exact hC _ hS
        refine Reg.fS 1 rfl rfl (fun a w hS hK K hC=>?_) ?_
        ·refine Reg.sO ?_;have e60:=hK.sl 0 rfl;clear hK;go_simp;exact hC _ hS
        refine Reg.fS 2 rfl rfl (fun a w hS hK K hC=>?_) ?_
        ·refine Reg.sO ?_;have e61:=hK.sl 1 rfl;clear hK;go_simp;exact hC _ hS
        refine Reg.fS 3 rfl rfl (fun a w hS hK K hC=>?_) ?_
        ·refine Reg.step_on (qaL (g:=2) rfl rfl rfl (hK.sl 2 rfl)) ?_;have e11:=hK.off 11 _ rfl rfl;clear hK;go_simp;exact hC _ hS
        refine Reg.fS 4 rfl rfl (fun a w hS hK K hC=>?_) ?_
        ·refine Reg.step_on (qaL (g:=2) rfl rfl rfl (hK.sl 2 rfl)) ?_;have e63:=hK.sl 3 rfl;have hm:=qaE HM9.out hS;have zm0:=jC hm 0;have zm2:=jC hm 2;clear hm;clear hK;go_simp;exact hC _ hS
        refine Reg.fS 5 rfl rfl (fun a w hS hK K hC=>?_) ?_
        ·refine Reg.step_on (qaL (g:=2) rfl rfl rfl (hK.sl 2 rfl)) ?_;have e0:=hK.off 0 _ rfl rfl;clear hK;go_simp;exact hC _ hS
        refine Reg.fS 6 rfl rfl (fun a w hS hK K hC=>?_) ?_
        ·refine Reg.step_on (qaL (g:=2) rfl rfl rfl (hK.sl 2 rfl)) ?_;have e65:=hK.sl 5 rfl;clear hK;go_simp;go_at_call 73;(with_reducible refine (HGEO.out w (qaF HB9.out hS)).mono ?_);rintro e w' ⟨rfl,hb⟩;exact hC w' (qaF hS hb)
        refine Reg.fS 7 rfl rfl (fun a w hS hK K hC=>?_) ?_
        ·refine Reg.step_on (qaL (g:=2) rfl rfl rfl (hK.sl 2 rfl)) ?_;have e66:=hK.sl 6 rfl;clear hK;go_simp;go_at_call 14;(with_reducible refine (HLEB.out w (qaF HB9.out hS)).mono ?_);rintro e w' ⟨rfl,hb⟩;exact hC w' (qaF hS hb)
        refine Reg.fS 8 rfl rfl (fun a w hS hK K hC=>?_) ?_
        ·refine Reg.step_on (qaL (g:=2) rfl rfl rfl (hK.sl 2 rfl)) ?_;have e64:=hK.sl 4 rfl;have e67:=hK.sl 7 rfl;clear hK;go_simp;exact hC _ hS
        refine Reg.fS 9 rfl rfl (fun a w hS hK K hC=>?_) ?_
        ·refine Reg.sO ?_;have e62:=hK.sl 2 rfl;have e68:=hK.sl 8 rfl;clear hK;go_simp;exact hC _ hS
        refine Reg.fS 10 rfl rfl (fun a w hS hK K hC=>?_) ?_
        ·refine Reg.sO ?_;have e69:=hK.sl 9 rfl;clear hK;go_simp;exact hC _ hS
        refine Reg.fS 11 rfl rfl (fun a w hS hK K hC=>?_) ?_
        ·refine Reg.step_on (qaL (g:=10) rfl rfl rfl (hK.sl 10 rfl)) ?_;have e11:=hK.off 11 _ rfl rfl;clear hK;go_simp;exact hC _ hS
        refine Reg.fS 12 rfl rfl (fun a w hS hK K hC=>?_) ?_
        ·refine Reg.step_on (qaL (g:=10) rfl rfl rfl (hK.sl 10 rfl)) ?_;have e71:=hK.sl 11 rfl;have hm:=qaE HM9.out hS;have zm0:=jC hm 0;have zm2:=jC hm 2;clear hm;clear hK;go_simp;exact hC _ hS
        refine Reg.fS 13 rfl rfl (fun a w hS hK K hC=>?_) ?_
        ·refine Reg.step_on (qaL (g:=10) rfl rfl rfl (hK.sl 10 rfl)) ?_;have e13:=hK.off 13 _ rfl rfl;clear hK;go_simp;exact hC _ hS
        refine Reg.fS 14 rfl rfl (fun a w hS hK K hC=>?_) ?_
        ·refine Reg.step_on (qaL (g:=10) rfl rfl rfl (hK.sl 10 rfl)) ?_;have e72:=hK.sl 12 rfl;have e73:=hK.sl 13 rfl;clear hK;go_simp;exact hC _ hS
        refine Reg.fS 15 rfl rfl (fun a w hS hK K hC=>?_) ?_
        ·refine Reg.sO ?_;have e70:=hK.sl 10 rfl;have e74:=hK.sl 14 rfl;clear hK;go_simp;exact hC _ hS
        exact Reg.from_nil
       case r3okv=>rfl
       case r3hlt=>rfl
       case r3fin =>
        intro wz hS;simp only [Reg.putV,List.foldl_cons,List.foldl_nil,Act.put,List.setIfInBounds_toArray,List.set_cons_zero,List.set_cons_succ];have HB10:=aM (qaF HB9.out hS);have HR10:=aM (qaE HR9.out hS);have HX10:=aM (qaE HX9.out hS);clear hS;have x0:=jC HX10.out 0;have x1:=jC HX10.out 1;have x2:=jC HX10.out 2;have x3:=jC HX10.out 3;have x4:=jC HX10.out 4;have x5:=jC HX10.out 5;have fr0:=qaC HR10.out 0;have fr1:=qaC HR10.out 1;have fr2:=qaC HR10.out 2;have fr3:=qaC HR10.out 3;have fr4:=qaC HR10.out 4;have fr5:=qaC HR10.out 5;have yr0:=jC HR10.out 0;have yr1:=jC HR10.out 1;have yr2:=jC HR10.out 2;have yr3:=jC HR10.out 3;have yr4:=jC HR10.out 4;have yr5:=jC HR10.out 5;go_wp2;refine bodyPost_ret (qbD rfl _ _ W.heap.size 122 #[.int .i64 3,.int .i64 ct,.int .i64 0,.int .i64 0,.int .u64 0,.bool false] (0,0) _ rfl (qiT HR10.out _ _ _ _ _ _) Tryz.underlying122 rfl (by kernel_rfl)) rfl ?_;rw [HE.out];exact ⟨rfl,qbL HB10.out (Nat.le_refl _) _ _ _ _ _ _⟩
      ·have HLA4:=aM (HLB.out.trans (if_neg (by rw [HPE.out];rintro (h|h|h);exact absurd h (by decide);exact hlt h;exact hgt h)));have g2:decide ((P2:Int) < mp)=false:=decide_eq_false hgt;clear hlt hgt;refine Reg.det [(0,60,?r4v0),(1,61,?r4v1),(2,62,?r4v2),(3,63,?r4v3),(4,64,?r4v4),(5,65,?r4v5),(6,66,?r4v6),(7,67,?r4v7),(8,68,?r4v8),(9,69,?r4v9),(10,70,?r4v10),(11,71,?r4v11),(12,72,?r4v12),(13,73,?r4v13),(14,74,?r4v14),(15,75,?r4v15)] (fun w'=>Below W9.heap.size W9 w') (by rfl) rfl (by kernel_rfl) ?r4S ?r4steps ?r4okv ?r4hlt ?r4fin;case r4S=>exact qaW (Below.refl _ _)
       case r4steps =>
        refine Reg.fS 0 rfl rfl (fun a w hS hK K hC=>?_) ?_
        ·refine Reg.sO ?_;have e12:=hK.off 12 _ rfl rfl;clear hK;go_simp;exact hC _ hS
        refine Reg.fS 1 rfl rfl (fun a w hS hK K hC=>?_) ?_
        ·refine Reg.sO ?_;have e60:=hK.sl 0 rfl;clear hK;go_simp;exact hC _ hS
        refine Reg.fS 2 rfl rfl (fun a w hS hK K hC=>?_) ?_
        ·refine Reg.sO ?_;have e61:=hK.sl 1 rfl;clear hK;go_simp;exact hC _ hS
        refine Reg.fS 3 rfl rfl (fun a w hS hK K hC=>?_) ?_
        ·refine Reg.step_on (qaL (g:=2) rfl rfl rfl (hK.sl 2 rfl)) ?_;have e11:=hK.off 11 _ rfl rfl;clear hK;go_simp;exact hC _ hS
        refine Reg.fS 4 rfl rfl (fun a w hS hK K hC=>?_) ?_
        ·refine Reg.step_on (qaL (g:=2) rfl rfl rfl (hK.sl 2 rfl)) ?_;have e63:=hK.sl 3 rfl;have hm:=qaE HM9.out hS;have zm0:=jC hm 0;have zm2:=jC hm 2;clear hm;clear hK;go_simp;exact hC _ hS
        refine Reg.fS 5 rfl rfl (fun a w hS hK K hC=>?_) ?_
        ·refine Reg.step_on (qaL (g:=2) rfl rfl rfl (hK.sl 2 rfl)) ?_;have e0:=hK.off 0 _ rfl rfl;clear hK;go_simp;exact hC _ hS
        refine Reg.fS 6 rfl rfl (fun a w hS hK K hC=>?_) ?_
        ·refine Reg.step_on (qaL (g:=2) rfl rfl rfl (hK.sl 2 rfl)) ?_;have e65:=hK.sl 5 rfl;clear hK;go_simp;go_at_call 73;(with_reducible refine (HGEO.out w (qaF HB9.out hS)).mono ?_);rintro e w' ⟨rfl,hb⟩;exact hC w' (qaF hS hb)
        refine Reg.fS 7 rfl rfl (fun a w hS hK K hC=>?_) ?_
        ·refine Reg.step_on (qaL (g:=2) rfl rfl rfl (hK.sl 2 rfl)) ?_;have e66:=hK.sl 6 rfl;clear hK;go_simp;go_at_call 14;(with_reducible refine (HLEB.out w (qaF HB9.out hS)).mono ?_);rintro e w' ⟨rfl,hb⟩;exact hC w' (qaF hS hb)
        refine Reg.fS 8 rfl rfl (fun a w hS hK K hC=>?_) ?_
        ·refine Reg.step_on (qaL (g:=2) rfl rfl rfl (hK.sl 2 rfl)) ?_;have e64:=hK.sl 4 rfl;have e67:=hK.sl 7 rfl;clear hK;go_simp;exact hC _ hS
        refine Reg.fS 9 rfl rfl (fun a w hS hK K hC=>?_) ?_
        ·refine Reg.sO ?_;have e62:=hK.sl 2 rfl;have e68:=hK.sl 8 rfl;clear hK;go_simp;exact hC _ hS
        refine Reg.fS 10 rfl rfl (fun a w hS hK K hC=>?_) ?_
        ·refine Reg.sO ?_;have e69:=hK.sl 9 rfl;clear hK;go_simp;exact hC _ hS
        refine Reg.fS 11 rfl rfl (fun a w hS hK K hC=>?_) ?_
        ·refine Reg.step_on (qaL (g:=10) rfl rfl rfl (hK.sl 10 rfl)) ?_;have e11:=hK.off 11 _ rfl rfl;clear hK;go_simp;exact hC _ hS
        refine Reg.fS 12 rfl rfl (fun a w hS hK K hC=>?_) ?_
        ·refine Reg.step_on (qaL (g:=10) rfl rfl rfl (hK.sl 10 rfl)) ?_;have e71:=hK.sl 11 rfl;have hm:=qaE HM9.out hS;have zm0:=jC hm 0;have zm2:=jC hm 2;clear hm;clear hK;go_simp;exact hC _ hS
        refine Reg.fS 13 rfl rfl (fun a w hS hK K hC=>?_) ?_
        ·refine Reg.step_on (qaL (g:=10) rfl rfl rfl (hK.sl 10 rfl)) ?_;have e13:=hK.off 13 _ rfl rfl;clear hK;go_simp;exact hC _ hS
        refine Reg.fS 14 rfl rfl (fun a w hS hK K hC=>?_) ?_
        ·refine Reg.step_on (qaL (g:=10) rfl rfl rfl (hK.sl 10 rfl)) ?_;have e72:=hK.sl 12 rfl;have e73:=hK.sl 13 rfl;clear hK;go_simp;exact hC _ hS
        refine Reg.fS 15 rfl rfl (fun a w hS hK K hC=>?_) ?_
        ·refine Reg.sO ?_;have e70:=hK.sl 10 rfl;have e74:=hK.sl 14 rfl;clear hK;go_simp;exact hC _ hS
        exact Reg.from_nil
       case r4okv=>rfl
       case r4hlt=>rfl
       case r4fin =>
        intro wz hS;simp only [Reg.putV,List.foldl_cons,List.foldl_nil,Act.put,List.setIfInBounds_toArray,List.set_cons_zero,List.set_cons_succ];have HB10:=aM (qaF HB9.out hS);have HR10:=aM (qaE HR9.out hS);have HX10:=aM (qaE HX9.out hS);have HM10:=aM (qaE HM9.out hS);clear hS;generalize wz=W10 at HB10 HR10 HX10 HM10 ⊢;clear g1 g2
        go_upto_region 19 with (fail)
        go_loopw [14,15] (fun v14 v15 wr=>∃ n:Nat,n≤P2∧v14=.int .i64 n∧v15=.bool false∧qaN (qgZ a (i:Int) P2 0=qgZ a (i:Int) (P2 - n) n)∧qaN (Below W10.heap.size W10 wr)) (fun n _ _=>P2 - (intOf n).toNat);case atStart=>exact ⟨0,Nat.zero_le _,rfl,rfl,⟨rfl⟩,⟨Below.refl _ _⟩⟩
        case round =>
         obtain ⟨n,hn,rfl,rfl,HM,HBr⟩:=hrel
         by_cases hlt:n < P2
         ·have d0:decide ((n:Int) < (P2:Int))=true:=decide_eq_true (by omega);have d0n:(n < P2)=True:=eq_true hlt;have hwn:IntKind.i64.wrap ((n:Int)+2)=(n:Int)+2:=by rw [qbJ];unfold wrap64;omega
          have hwn2:wrap64 ((n:Int)+2)=(n:Int)+2:=by unfold wrap64;omega
          have HNP:=aM hlt
          have HM2:=aM (show qgZ a (i:Int) P2 0=if qdY a (i:Int)≤(n:Int)+2 then (n,false) else if (qbV a (i:Int) ((n:Int)+2)).2=0 then qgZ a (i:Int) (P2 - (n+1)) (n+1) else (n,true) by
           rw [HM.out,show P2 - n=(P2 - (n+1))+1 by omega];rfl)
          rw [← HNE.out] at HM2;have HCX:=aM (HNX.out _ (qaF HB10.out HBr.out));rw [← HNE.out] at HCX
          by_cases hnx:nx≤(n:Int)+2
          ·have d1:decide ((n:Int)+2 < nx)=false:=decide_eq_false (by omega);have HU:=aM (HM2.out.trans (if_pos hnx));clear hnx hlt hn
           go_upto_region 24 with (first
            | (go_at_call 82;(with_reducible refine HCX.out.mono ?_);rintro e wy ⟨rfl,hby⟩;have HBy:=aM (qaF HBr.out hby);clear hby))
           by_cases hmp:mp≤(n:Int)
           ·have q1:decide (mp≤(n:Int))=true:=decide_eq_true hmp;have HE:=aM (HLA4.out.trans (if_pos (by rw [HU.out];exact hmp)));rw [HU.out] at HE;have z2:=jC (qaE HM10.out HBy.out) 2;have z1:=jC (qaE HM10.out HBy.out) 1;have z0:=jC (qaE HM10.out HBy.out) 0;have HXr:=aM (qaE HX10.out HBy.out);have HRr:=aM (qaE HR10.out HBy.out);have fx0:=qaC HXr.out 0;have fx1:=qaC HXr.out 1;have fx2:=qaC HXr.out 2;have fx3:=qaC HXr.out 3;have fx4:=qaC HXr.out 4;have fx5:=qaC HXr.out 5;have x0:=jC HXr.out 0;have x1:=jC HXr.out 1;have x2:=jC HXr.out 2;have x3:=jC HXr.out 3;have x4:=jC HXr.out 4;have x5:=jC HXr.out 5;clear hmp
            go_upto_region 26 with (fail)
            generalize hW:(((((wy.setCell ⟨gx,0,none⟩ (.int .i64 4)).setCell ⟨gx,1,none⟩ (.int .i64 ct)).setCell ⟨gx,2,none⟩ (.int .i64 ml)).setCell ⟨gx,3,none⟩ (.int .i64 (n:Int))).setCell ⟨gx,4,none⟩ (.int .u64 ms)).setCell ⟨gx,5,none⟩ (.bool false)=WZ;have HXZ:=aM (show WZ.heap[gx]?=some (.cells #[.int .i64 4,.int .i64 ct,.int .i64 ml,.int .i64 (n:Int),.int .u64 ms,.bool false] 122 (0,0)) by rw [← hW];exact qiT HXr.out _ _ _ _ _ _);have HRZ:=aM (show WZ.heap[W.heap.size]?=some (.cells #[.int .i64 0,.int .i64 0,.int .i64 0,.int .i64 0,.int .u64 0,.bool false] 122 (0,0)) by rw [← hW];exact vdU HRr.out HGX.out.2.symm _ _ _ _ _ _);have HBZ:=aM (show Below W.heap.size W WZ by rw [← hW];exact qbL (qaF HB10.out HBy.out) HGX.out.1 _ _ _ _ _ _);clear hW x0 x1 x2 x3 x4 x5 fx0 fx1 fx2 fx3 fx4 fx5 z0 z1 z2;have x0:=jC HXZ.out 0;have x1:=jC HXZ.out 1;have x2:=jC HXZ.out 2;have x3:=jC HXZ.out 3;have x4:=jC HXZ.out 4;have x5:=jC HXZ.out 5;have fr0:=qaC HRZ.out 0;have fr1:=qaC HRZ.out 1;have fr2:=qaC HRZ.out 2;have fr3:=qaC HRZ.out 3;have fr4:=qaC HRZ.out 4;have fr5:=qaC HRZ.out 5;have yr0:=jC HRZ.out 0;have yr1:=jC HRZ.out 1;have yr2:=jC HRZ.out 2;have yr3:=jC HRZ.out 3
            have yr4:=jC HRZ.out 4;have yr5:=jC HRZ.out 5;go_wp2;refine bodyPost_ret (qbD rfl _ _ W.heap.size 122 #[.int .i64 4,.int .i64 ct,.int .i64 ml,.int .i64 (n:Int),.int .u64 ms,.bool false] (0,0) _ rfl (qiT HRZ.out _ _ _ _ _ _) Tryz.underlying122 rfl (by kernel_rfl)) rfl ?_;rw [HE.out];exact ⟨rfl,qbL HBZ.out (Nat.le_refl _) _ _ _ _ _ _⟩
           ·have q1:decide (mp≤(n:Int))=false:=decide_eq_false hmp;have HE:=aM (HLA4.out.trans (if_neg (by rw [HU.out];exact hmp)));have z2:=jC (qaE HM10.out HBy.out) 2;have HXr:=aM (qaE HX10.out HBy.out);have HRr:=aM (qaE HR10.out HBy.out);have HBZ:=aM (qaF HB10.out HBy.out);clear hmp;have x0:=jC HXr.out 0;have x1:=jC HXr.out 1;have x2:=jC HXr.out 2;have x3:=jC HXr.out 3;have x4:=jC HXr.out 4;have x5:=jC HXr.out 5;have fr0:=qaC HRr.out 0;have fr1:=qaC HRr.out 1;have fr2:=qaC HRr.out 2;have fr3:=qaC HRr.out 3;have fr4:=qaC HRr.out 4;have fr5:=qaC HRr.out 5;have yr0:=jC HRr.out 0;have yr1:=jC HRr.out 1;have yr2:=jC HRr.out 2;have yr3:=jC HRr.out 3;have yr4:=jC HRr.out 4;have yr5:=jC HRr.out 5;go_wp2;refine bodyPost_ret (qbD rfl _ _ W.heap.size 122 #[.int .i64 3,.int .i64 ct,.int .i64 0,.int .i64 0,.int .u64 0,.bool false] (0,0) _ rfl (qiT HRr.out _ _ _ _ _ _) Tryz.underlying122 rfl (by kernel_rfl)) rfl ?_;rw [HE.out];exact ⟨rfl,qbL HBZ.out (Nat.le_refl _) _ _ _ _ _ _⟩
          ·have d1:decide ((n:Int)+2 < nx)=true:=decide_eq_true (by omega);have HM3:=aM (HM2.out.trans (if_neg hnx));have HPN:=aM (fun w1 hb=>HRD.out w1 hb ((n:Int)+2));generalize qbV a (i:Int) ((n:Int)+2)=r at HPN HM3;obtain ⟨lr,kr⟩:=r;simp only at HPN HM3;clear hnx hlt
           by_cases hk:kr=0
           ·subst hk;have HM4:=aM (HM3.out.trans (if_pos rfl))
            go_wp2_with (first
             | (go_at_call 82;(with_reducible refine HCX.out.mono ?_);rintro e wy ⟨rfl,hby⟩;have HBy:=aM (qaF HBr.out hby);clear hby)
             | (go_at_call 78;(with_reducible refine (HPN.out _ (qaF HB10.out HBy.out)).mono ?_);rintro e wy2 ⟨v,rfl,-,hby⟩;have HBy2:=aM (qaF HBy.out hby);clear hby))
            go_roundw;case rel=>exact ⟨n+1,HNP.out,by push_cast;rfl,rfl,HM4,HBy2⟩
            case measure=>have:=HNP.out;simp [intOf];omega
           ·have e2:(kr==0)=false:=by simp only [beq_eq_false_iff_ne];exact hk
            have e2p:(kr=0)=False:=eq_false hk;have HU:=aM (HM3.out.trans (if_neg hk));clear hk hn
            go_upto_region 24 with (first
             | (go_at_call 82;(with_reducible refine HCX.out.mono ?_);rintro e wy ⟨rfl,hby⟩;have HBy:=aM (qaF HBr.out hby);clear hby)
             | (go_at_call 78;(with_reducible refine (HPN.out _ (qaF HB10.out HBy.out)).mono ?_);rintro e wy2 ⟨v,rfl,-,hby⟩;have HBy2:=aM (qaF HBy.out hby);clear hby))
            by_cases hmp:mp≤(n:Int)
            ·have q1:decide (mp≤(n:Int))=true:=decide_eq_true hmp;have HE:=aM (HLA4.out.trans (if_pos (by rw [HU.out];exact hmp)));rw [HU.out] at HE;have z2:=jC (qaE HM10.out HBy2.out) 2;have z1:=jC (qaE HM10.out HBy2.out) 1;have z0:=jC (qaE HM10.out HBy2.out) 0;have HXr:=aM (qaE HX10.out HBy2.out);have HRr:=aM (qaE HR10.out HBy2.out);have fx0:=qaC HXr.out 0;have fx1:=qaC HXr.out 1;have fx2:=qaC HXr.out 2;have fx3:=qaC HXr.out 3;have fx4:=qaC HXr.out 4;have fx5:=qaC HXr.out 5;have x0:=jC HXr.out 0;have x1:=jC HXr.out 1;have x2:=jC HXr.out 2;have x3:=jC HXr.out 3;have x4:=jC HXr.out 4;have x5:=jC HXr.out 5;clear hmp
             go_upto_region 26 with (fail)
             generalize hW:(((((wy2.setCell ⟨gx,0,none⟩ (.int .i64 4)).setCell ⟨gx,1,none⟩ (.int .i64 ct)).setCell ⟨gx,2,none⟩ (.int .i64 ml)).setCell ⟨gx,3,none⟩ (.int .i64 (n:Int))).setCell ⟨gx,4,none⟩ (.int .u64 ms)).setCell ⟨gx,5,none⟩ (.bool true)=WZ;have HXZ:=aM (show WZ.heap[gx]?=some (.cells #[.int .i64 4,.int .i64 ct,.int .i64 ml,.int .i64 (n:Int),.int .u64 ms,.bool true] 122 (0,0)) by rw [← hW];exact qiT HXr.out _ _ _ _ _ _);have HRZ:=aM (show WZ.heap[W.heap.size]?=some (.cells #[.int .i64 0,.int .i64 0,.int .i64 0,.int .i64 0,.int .u64 0,.bool false] 122 (0,0)) by rw [← hW];exact vdU HRr.out HGX.out.2.symm _ _ _ _ _ _);have HBZ:=aM (show Below W.heap.size W WZ by rw [← hW];exact qbL (qaF HB10.out HBy2.out) HGX.out.1 _ _ _ _ _ _);clear hW x0 x1 x2 x3 x4 x5 fx0 fx1 fx2 fx3 fx4 fx5 z0 z1 z2;have x0:=jC HXZ.out 0;have x1:=jC HXZ.out 1;have x2:=jC HXZ.out 2;have x3:=jC HXZ.out 3;have x4:=jC HXZ.out 4;have x5:=jC HXZ.out 5;have fr0:=qaC HRZ.out 0;have fr1:=qaC HRZ.out 1;have fr2:=qaC HRZ.out 2;have fr3:=qaC HRZ.out 3;have fr4:=qaC HRZ.out 4;have fr5:=qaC HRZ.out 5;have yr0:=jC HRZ.out 0;have yr1:=jC HRZ.out 1;have yr2:=jC HRZ.out 2;have yr3:=jC HRZ.out 3
             have yr4:=jC HRZ.out 4;have yr5:=jC HRZ.out 5;go_wp2;refine bodyPost_ret (qbD rfl _ _ W.heap.size 122 #[.int .i64 4,.int .i64 ct,.int .i64 ml,.int .i64 (n:Int),.int .u64 ms,.bool true] (0,0) _ rfl (qiT HRZ.out _ _ _ _ _ _) Tryz.underlying122 rfl (by kernel_rfl)) rfl ?_;rw [HE.out];exact ⟨rfl,qbL HBZ.out (Nat.le_refl _) _ _ _ _ _ _⟩
            ·have q1:decide (mp≤(n:Int))=false:=decide_eq_false hmp;have HE:=aM (HLA4.out.trans (if_neg (by rw [HU.out];exact hmp)));have z2:=jC (qaE HM10.out HBy2.out) 2;have HXr:=aM (qaE HX10.out HBy2.out);have HRr:=aM (qaE HR10.out HBy2.out);have HBZ:=aM (qaF HB10.out HBy2.out);clear hmp;have x0:=jC HXr.out 0;have x1:=jC HXr.out 1;have x2:=jC HXr.out 2;have x3:=jC HXr.out 3;have x4:=jC HXr.out 4;have x5:=jC HXr.out 5;have fr0:=qaC HRr.out 0;have fr1:=qaC HRr.out 1;have fr2:=qaC HRr.out 2;have fr3:=qaC HRr.out 3;have fr4:=qaC HRr.out 4;have fr5:=qaC HRr.out 5;have yr0:=jC HRr.out 0;have yr1:=jC HRr.out 1;have yr2:=jC HRr.out 2;have yr3:=jC HRr.out 3;have yr4:=jC HRr.out 4;have yr5:=jC HRr.out 5;go_wp2;refine bodyPost_ret (qbD rfl _ _ W.heap.size 122 #[.int .i64 3,.int .i64 ct,.int .i64 0,.int .i64 0,.int .u64 0,.bool false] (0,0) _ rfl (qiT HRr.out _ _ _ _ _ _) Tryz.underlying122 rfl (by kernel_rfl)) rfl ?_;rw [HE.out];exact ⟨rfl,qbL HBZ.out (Nat.le_refl _) _ _ _ _ _ _⟩
         ·obtain rfl:n=P2:=by omega
          have d0:decide ((n:Int) < (n:Int))=false:=decide_eq_false (by omega);have hm:=HM.out;rw [Nat.sub_self] at hm;have HU:=aM hm;clear hm hlt hn
          go_upto_region 24 with (fail)
          by_cases hmp:mp≤(n:Int)
          ·have q1:decide (mp≤(n:Int))=true:=decide_eq_true hmp;have HE:=aM (HLA4.out.trans (if_pos (by rw [HU.out];exact hmp)));rw [HU.out] at HE;have z2:=jC (qaE HM10.out HBr.out) 2;have z1:=jC (qaE HM10.out HBr.out) 1;have z0:=jC (qaE HM10.out HBr.out) 0;have HXr:=aM (qaE HX10.out HBr.out);have HRr:=aM (qaE HR10.out HBr.out);have fx0:=qaC HXr.out 0;have fx1:=qaC HXr.out 1;have fx2:=qaC HXr.out 2;have fx3:=qaC HXr.out 3;have fx4:=qaC HXr.out 4;have fx5:=qaC HXr.out 5;have x0:=jC HXr.out 0;have x1:=jC HXr.out 1;have x2:=jC HXr.out 2;have x3:=jC HXr.out 3;have x4:=jC HXr.out 4;have x5:=jC HXr.out 5;clear hmp
           go_upto_region 26 with (fail)
           generalize hW:(((((wr.setCell ⟨gx,0,none⟩ (.int .i64 4)).setCell ⟨gx,1,none⟩ (.int .i64 ct)).setCell ⟨gx,2,none⟩ (.int .i64 ml)).setCell ⟨gx,3,none⟩ (.int .i64 (n:Int))).setCell ⟨gx,4,none⟩ (.int .u64 ms)).setCell ⟨gx,5,none⟩ (.bool false)=WZ;have HXZ:=aM (show WZ.heap[gx]?=some (.cells #[.int .i64 4,.int .i64 ct,.int .i64 ml,.int .i64 (n:Int),.int .u64 ms,.bool false] 122 (0,0)) by rw [← hW];exact qiT HXr.out _ _ _ _ _ _);have HRZ:=aM (show WZ.heap[W.heap.size]?=some (.cells #[.int .i64 0,.int .i64 0,.int .i64 0,.int .i64 0,.int .u64 0,.bool false] 122 (0,0)) by rw [← hW];exact vdU HRr.out HGX.out.2.symm _ _ _ _ _ _);have HBZ:=aM (show Below W.heap.size W WZ by rw [← hW];exact qbL (qaF HB10.out HBr.out) HGX.out.1 _ _ _ _ _ _);clear hW x0 x1 x2 x3 x4 x5 fx0 fx1 fx2 fx3 fx4 fx5 z0 z1 z2;have x0:=jC HXZ.out 0;have x1:=jC HXZ.out 1;have x2:=jC HXZ.out 2;have x3:=jC HXZ.out 3;have x4:=jC HXZ.out 4;have x5:=jC HXZ.out 5;have fr0:=qaC HRZ.out 0;have fr1:=qaC HRZ.out 1;have fr2:=qaC HRZ.out 2;have fr3:=qaC HRZ.out 3;have fr4:=qaC HRZ.out 4;have fr5:=qaC HRZ.out 5;have yr0:=jC HRZ.out 0;have yr1:=jC HRZ.out 1;have yr2:=jC HRZ.out 2;have yr3:=jC HRZ.out 3
           have yr4:=jC HRZ.out 4;have yr5:=jC HRZ.out 5;go_wp2;refine bodyPost_ret (qbD rfl _ _ W.heap.size 122 #[.int .i64 4,.int .i64 ct,.int .i64 ml,.int .i64 (n:Int),.int .u64 ms,.bool false] (0,0) _ rfl (qiT HRZ.out _ _ _ _ _ _) Tryz.underlying122 rfl (by kernel_rfl)) rfl ?_;rw [HE.out];exact ⟨rfl,qbL HBZ.out (Nat.le_refl _) _ _ _ _ _ _⟩
          ·have q1:decide (mp≤(n:Int))=false:=decide_eq_false hmp;have HE:=aM (HLA4.out.trans (if_neg (by rw [HU.out];exact hmp)));have z2:=jC (qaE HM10.out HBr.out) 2;have HXr:=aM (qaE HX10.out HBr.out);have HRr:=aM (qaE HR10.out HBr.out);have HBZ:=aM (qaF HB10.out HBr.out);clear hmp;have x0:=jC HXr.out 0;have x1:=jC HXr.out 1;have x2:=jC HXr.out 2;have x3:=jC HXr.out 3;have x4:=jC HXr.out 4;have x5:=jC HXr.out 5;have fr0:=qaC HRr.out 0;have fr1:=qaC HRr.out 1;have fr2:=qaC HRr.out 2;have fr3:=qaC HRr.out 3;have fr4:=qaC HRr.out 4;have fr5:=qaC HRr.out 5;have yr0:=jC HRr.out 0;have yr1:=jC HRr.out 1;have yr2:=jC HRr.out 2;have yr3:=jC HRr.out 3;have yr4:=jC HRr.out 4;have yr5:=jC HRr.out 5;go_wp2;refine bodyPost_ret (qbD rfl _ _ W.heap.size 122 #[.int .i64 3,.int .i64 ct,.int .i64 0,.int .i64 0,.int .u64 0,.bool false] (0,0) _ rfl (qiT HRr.out _ _ _ _ _ _) Tryz.underlying122 rfl (by kernel_rfl)) rfl ?_;rw [HE.out];exact ⟨rfl,qbL HBZ.out (Nat.le_refl _) _ _ _ _ _ _⟩
end
section
open Go.Shelf Plain
abbrev qzC:=qpM
def qgX (x:qzC):Blk:=⟨x.f0,x.f1,x.f2,x.f3,x.f4,x.f5⟩
theorem quG (i:Nat) (h:i < 4611686018427387904):wrap64 ((i:Int)+1)=((i+1:Nat):Int):=by unfold wrap64;push_cast;omega
theorem rdB {xs:List Blk} {i:Nat} (h:i < xs.length):qbK xs (i:Int)=xs[i]:=by
 unfold qbK;rw [Int.toNat_natCast,List.getD_eq_getElem?_getD,List.getElem?_eq_getElem h];rfl
theorem rdR {xs:List qzC} {i:Nat} (h:i < xs.length):qaQ xs (i:Int)=xs[i]:=by
 unfold qaQ;rw [Int.toNat_natCast,List.getD_eq_getElem?_getD,List.getElem?_eq_getElem h];rfl
def qyK:List Blk→Nat
 | []=>0
 | b :: r=>(if b.f0=1 then 0 else 1)+qyK r
theorem qqI (xs:List Blk) (hl:xs.length < 4611686018427387904):∀ (m i a:Nat),i+m=xs.length→a≤i→scan_Good.l0 (m+1) (a:Int) xs (xs.length:Int) (i:Int)=some ((a+qyK (xs.drop i):Nat):Int)
 | 0,i,a,h,ha=>by
  unfold scan_Good.l0;rw [if_neg (by omega),List.drop_eq_nil_of_le (by omega)];rfl
 | m+1,i,a,h,ha=>by
  have hi:i < xs.length:=by omega
  unfold scan_Good.l0;rw [if_pos (by omega),if_pos (by omega),if_pos (by omega),rdB hi,quG i (by omega),quG a (by omega),List.drop_eq_getElem_cons hi];unfold qyK
  by_cases h1:xs[i].f0=1
  ·rw [if_pos h1,if_pos h1,qqI xs hl m (i+1) a (by omega) (by omega),Nat.zero_add]
  ·rw [if_neg h1,if_neg h1,qqI xs hl m (i+1) (a+1) (by omega) (by omega),Nat.add_assoc]
theorem vbJ (A:Option Addr) (c:Nat) (xs:List Blk) (w:World) (hr:Kd.C qtJ w A xs.length xs) (hc:xs.length≤c) (hl:xs.length < 4611686018427387904):Calls Tryz.prog 61 #[.slice A xs.length c] w fun e w'=>e=.returned (.int .i64 (qyK xs:Int))∧Below w.heap.size w w':=by
 refine scan_Good.calls (xs.length+1) A c xs _ w hr hc ?_;have:=qqI xs hl xs.length 0 0 (by omega) (by omega);rw [Nat.zero_add,List.drop_zero] at this;exact this
theorem qzI (xs:List qzC) (hl:xs.length≤2932031007402):∀ (m i:Nat),i+m=xs.length→pumicelaw07_Own.l0 (m+1) xs ((xs.take i).map qgX) (i:Int)=some (xs.map qgX)
 | 0,i,h=>by
  unfold pumicelaw07_Own.l0;rw [if_neg (by omega),List.take_of_length_le (by omega)]
 | m+1,i,h=>by
  have hi:i < xs.length:=by omega
  unfold pumicelaw07_Own.l0;rw [if_pos (by omega),if_pos (by omega),if_pos (by simp;omega),rdR hi,quG i (by omega)]
  have e:(xs.take i).map qgX ++ [(⟨xs[i].f0,xs[i].f1,xs[i].f2,xs[i].f3,xs[i].f4,xs[i].f5⟩:Blk)]=(xs.take (i+1)).map qgX:=by
   rw [List.take_add_one,List.getElem?_eq_getElem hi,List.map_append];rfl
  rw [e];exact qzI xs hl m (i+1) (by omega)
theorem vbK (A:Option Addr) (c:Nat) (xs:List Blk) (leb:Int) (w:World) (hr:Kd.C qtJ w A xs.length xs) (hl:xs.length < 4611686018427387904):Calls Tryz.prog 59 #[.slice A xs.length c,.int .i64 leb] w fun e w'=>e=.returned (.int .i64 (qoV leb xs 0))∧Below w.heap.size w w' :=
 (callsIn_wide (n:=4)).1 (vcC Fence.wide 4 trivial trivial trivial rfl (by omega) A c xs leb w hr (by omega))
theorem qyA (A:Option Addr) (c:Nat) (xs:List Blk) (w:World) (hr:Kd.C qtJ w A xs.length xs) (hl:xs.length < 4611686018427387904):Calls Tryz.prog 60 #[.slice A xs.length c] w fun e w'=>e=.returned (.int .i64 (qrS xs))∧Below w.heap.size w w' :=
 (callsIn_wide (n:=4)).1 (qzD Fence.wide 4 trivial trivial trivial rfl (by omega) A c xs w hr (by omega))
end
section
open Go.Shelf Plain
attribute [local go_sem] qlR qlS
variable {w0 W:World} {gd:Nat} {a:AC}
abbrev kR:Kd qzC:=vbF
def toR (x:Blk):qzC:=⟨x.f0,x.f1,x.f2,x.f3,x.f4,x.f5⟩
theorem vcU:(Tryz.prog.info? 122).map (fun i=>(i.zero,i.size,i.bytes))=some (some (.agg #[(.int .i64 0),(.int .i64 0),(.int .i64 0),(.int .i64 0),(.int .u64 0),(.bool false)]),6,48):=by kernel_rfl
theorem qrO (xs:List qzC) (k:Nat) (h:k < xs.length):(xs.map qgX).getD k default=qgX xs[k]:=by
 rw [List.getD_eq_getElem?_getD,List.getElem?_map,List.getElem?_eq_getElem h];rfl
theorem qnU (xs:List qzC) (i:Nat) (hi:i < xs.length) (hl:xs.length < 4611686018427387904) (b:Bool) (hb:b=true↔qfD (xs.map qgX) i):∀ m j:Nat,j+m=xs.length→(∀ k,k < j→¬ vaU (xs.map qgX) i k)→pumiceref07_older.l0 (m+1) xs (i:Int) (j:Int)=some b
 | 0,j,h,hn=>by
  unfold pumiceref07_older.l0;rw [if_neg (by omega)];have:¬ qfD (xs.map qgX) i:=fun ⟨k,hk,ho⟩=>hn k (by simp at hk;omega) ho
  cases b with
  | true=>exact absurd (hb.1 rfl) this
  | false=>rfl
 | m+1,j,h,hn=>by
  have hj:j < xs.length:=by omega
  have gj:=qrO xs j hj;have gi:=qrO xs i hi
  have next:¬ vaU (xs.map qgX) i j→pumiceref07_older.l0 (m+1) xs (i:Int) (wrap64 ((j:Int)+1))=some b:=fun hx=>by
   rw [quG j (by omega)];refine qnU xs i hi hl b hb m (j+1) (by omega) (fun k hk=>?_)
   by_cases hkj:k=j
   ·subst hkj;exact hx
   ·exact hn k (by omega)
  have yes:vaU (xs.map qgX) i j→(some true:Option Bool)=some b:=fun hx=>by
   have:b=true:=hb.2 ⟨j,by simp;exact hj,hx⟩;rw [this]
  have oc:vaU (xs.map qgX) i j↔(¬ j=i∧xs[j].f0=4∧xs[j].f2=xs[i].f2∧(xs[i].f4 < xs[j].f4∨xs[j].f4=xs[i].f4∧j < i)):=by
   unfold vaU;rw [gj,gi];exact Iff.rfl
  unfold pumiceref07_older.l0;rw [if_pos (by omega)]
  by_cases e:j=i
  ·rw [if_pos (by omega)];exact next (fun h=>(oc.1 h).1 e)
  rw [if_neg (by omega),if_pos (by omega),rdR hj,rdR hi]
  by_cases h0:xs[j].f0=4
  ·rw [if_pos h0,if_pos (by omega),if_pos (by omega)]
   by_cases h2:xs[j].f2=xs[i].f2
   ·rw [if_pos h2]
    by_cases h4:xs[j].f4 > xs[i].f4
    ·rw [if_pos h4];exact yes (oc.2 ⟨e,h0,h2,.inl h4⟩)
    rw [if_neg h4]
    by_cases h5:xs[j].f4=xs[i].f4
    ·rw [if_pos h5]
     by_cases h6:j < i
     ·rw [if_pos (by omega)];exact yes (oc.2 ⟨e,h0,h2,.inr ⟨h5,h6⟩⟩)
     ·rw [if_neg (by omega)]
      exact next (fun h=>by
       rcases (oc.1 h).2.2.2 with h|h
       ·omega
       ·exact h6 h.2)
    ·rw [if_neg h5]
     exact next (fun h=>by
      rcases (oc.1 h).2.2.2 with h|h
      ·omega
      ·exact h5 h.1)
   ·rw [if_neg h2];exact next (fun h=>h2 (oc.1 h).2.2.1)
  ·rw [if_neg h0];exact next (fun h=>h0 (oc.1 h).2.1)
theorem quP (A:Option Addr) (c:Nat) (xs:List qzC) (i:Nat) (hi:i < xs.length) (w:World) (hr:Kd.C kR w A xs.length xs) (hc:xs.length≤c) (hl:xs.length < 4611686018427387904) (b:Bool) (hb:b=true↔qfD (xs.map qgX) i) :
  Calls Tryz.prog 75 #[.slice A xs.length c,.int .i64 i] w fun e w'=>e=.returned (.bool b)∧Below w.heap.size w w':=by
 refine (pumiceref07_older.calls (xs.length+1) A c xs i b w hr hc (qnU xs i hi hl b hb xs.length 0 (by omega) (fun k hk=>absurd hk (Nat.not_lt_zero k)))).mono ?_;rintro e w' ⟨rfl,hd⟩;exact ⟨rfl,hd.below⟩
theorem quO (h:qbT w0 W gd a) (ho:a.off=true):Calls Tryz.prog 19 #[cp gd] W fun e w'=>e=.returned (.tuple #[.slice none 0 0,.int .i64 6])∧Below W.heap.size W w':=by
 have hon:=h.on;rw [ho] at hon;have HON:=aM (show Calls Tryz.prog 72 #[cp gd] W fun e w'=>e=.returned (.bool false)∧Below W.heap.size W w' from hon);clear h ho hon;go_enter Tryz.func19,Tryz.ntmps19;go_wp2_with (first|(go_at_call 72;(with_reducible refine HON.out.mono ?_);rintro e w1 ⟨rfl,hb1⟩;have HB1:=aM hb1;clear hb1));go_ret2;exact ⟨rfl,HB1.out⟩
theorem qxJ (h:qbT w0 W gd a) (hw:AWF a) (hby:qdH a) (ho:a.off=false):Calls Tryz.prog 19 #[cp gd] W fun e w'=>∃ v:Value,e=.returned (.tuple #[v,.int .i64 0])∧Kd.R kR 122 w' W.heap.size (fun _=>True) v ((qgF a).map toR)∧Below W.heap.size W w':=by
 have hon:=h.on;rw [ho] at hon;have HON:=aM (show Calls Tryz.prog 72 #[cp gd] W fun e w'=>e=.returned (.bool true)∧Below W.heap.size W w' from hon);have HGEO:=aM (show ∀ w1,Below W.heap.size W w1→Calls Tryz.prog 73 #[cp gd] w1 (fun e w'=>e=.returned (.agg #[.int .i64 a.g.B,.int .i64 a.g.P,.int .i64 a.g.Z,.int .i64 a.g.R])∧Below w1.heap.size w1 w') from fun w1 hb=>(h.grow hb).geometry)
 have HLK:=aM (show ∀ w1,Below W.heap.size W w1→∀ i:Nat,i < a.g.B→Calls Tryz.prog 74 #[cp gd,.int .i64 i] w1 (fun e w'=>e=.returned (.tuple #[.agg (bC (qcQ a (i:Int)).1),.bool (qcQ a (i:Int)).2])∧Below w1.heap.size w1 w') from fun w1 hb i hi=>by
  have h1:=qvV (h.grow hb) hw hby i;rw [vbC hw ho hi] at h1
  exact h1)
 have HBB:=aM hw.1.1;have hu122:=Tryz.underlying122;have hu23:=Tryz.underlying23;clear h hw hby ho hon;go_enter Tryz.func19,Tryz.ntmps19
 go_upto_region 9 with (first|(go_at_call 72;(with_reducible refine HON.out.mono ?_);rintro e w1 ⟨rfl,hb1⟩;have HB1:=aM hb1;clear hb1))
 go_loopw [4,5,6,7,8] (fun v4 v5 v6 v7 v8 wr=>∃ i:Nat,i≤a.g.B∧v8=.int .i64 i∧v6=.int .i64 (qdC (qbB a i)).1∧v7=.int .i64 (qdC (qbB a i)).2∧qaN (Kd.R Kd.bool 4 wr W.heap.size (fun _=>True) v5 ((qbB a i).map (fun y:Blk × Bool=>y.2)))∧qaN (Kd.R kR 122 wr W.heap.size (fun _=>True) v4 ((qbB a i).map (fun y:Blk × Bool=>toR y.1)))∧qaN (Below W.heap.size W wr)) (fun _ _ _ _ i _=>a.g.B - (intOf i).toNat);case atStart=>exact ⟨0,Nat.zero_le _,rfl,rfl,rfl,⟨Kd.R_nil _ _ _ _ _⟩,⟨Kd.R_nil _ _ _ _ _⟩,HB1⟩
 case round =>
  obtain ⟨i,hi,rfl,rfl,rfl,HT,HV,HBr⟩:=hrel
  by_cases hlt:i < a.g.B
  ·have d0:decide ((i:Int) < (a.g.B:Int))=true:=decide_eq_true (by omega);have hqi:((i:Int) < (a.g.B:Int))=True:=eq_true (by omega);have hq:(i < a.g.B)=True:=eq_true hlt;have HIL:=aM hlt;have HWI:=aM (show wrap64 ((i:Int)+1)=(i:Int)+1 by unfold wrap64;have:=HBB.out;omega);have HS:=aM (show qdC (qbB a (i+1))=qxE (qdC (qbB a i)) (qcQ a (i:Int)) by rw [qfY];simp [qdC,List.foldl_append]);have HC:=aM (fun w1 hb=>HLK.out w1 hb i hlt);have HLS:=aM (qfY a i);generalize hbi:qcQ a (i:Int)=bi at HS HC HLS;clear hbi;obtain ⟨b,is⟩:=bi;generalize qdC (qbB a i)=sm at HS ⊢;clear hi hlt
   go_upto_region 12 with (first
    | (go_at_call 73;(with_reducible refine (HGEO.out _ HBr.out).mono ?_);rintro e w2 ⟨rfl,hb2⟩;have HB2:=aM (qaF HBr.out hb2);have HT2:=aM (Kd.R_below HT.out hb2);have HV2:=aM (Kd.R_below HV.out hb2);clear hb2)
    | (go_at_call 74;(with_reducible refine (HC.out _ HB2.out).mono ?_);rintro e w4 ⟨rfl,hb4⟩;have HB4:=aM (qaF HB2.out hb4);have HT4:=aM (Kd.R_below HT2.out hb4);have HV4:=aM (Kd.R_below HV2.out hb4);clear hb4))
   have HX5:=aM (qaV w4 (bC b) 122);have HB5:=aM (qaA HB4.out (.cells (bC b) 122));have HV5:=aM (Kd.R_alloc HV4.out (.cells (bC b) 122));have HT5:=aM (Kd.R_alloc HT4.out (.cells (bC b) 122))
   have HNE:=aM (show some w4.heap.size ≠ u4.ownBlock by
    obtain ⟨inner,ho4⟩:=Kd.R_own HV4.out;intro e;have:=qrN ho4 _ e.symm
    omega)
   have HLN:qaN (((qbB a i).map (fun y:Blk × Bool=>toR y.1)).length=i∧((qbB a i).map (fun y:Blk × Bool=>y.2)).length=i):=⟨by simp [qdE]⟩
   have HL':=aM (show (qbB a (i+1)).map (fun y:Blk × Bool=>toR y.1)=(qbB a i).map (fun y:Blk × Bool=>toR y.1) ++ [toR b]∧(qbB a (i+1)).map (fun y:Blk × Bool=>y.2)=(qbB a i).map (fun y:Blk × Bool=>y.2) ++ [is] by rw [HLS.out];simp);clear HT2 HV2 HT HV;generalize (qbB a i).map (fun y:Blk × Bool=>toR y.1)=L1 at HV5 HLN HL' HV4;generalize (qbB a i).map (fun y:Blk × Bool=>y.2)=T1 at HT5 HLN HL' HT4;generalize hW:w4.alloc (.cells (bC b) 122)=W5 at HX5 HB5 HV5 HT5 ⊢
   obtain ⟨gx,hgx⟩:∃ gx,gx=w4.heap.size:=⟨_,rfl⟩
   rw [← hgx] at HX5 HNE ⊢;clear hW hgx;have x0:=jC HX5.out 0;have x1:=jC HX5.out 1;have x2:=jC HX5.out 2;have x3:=jC HX5.out 3;have x4:=jC HX5.out 4;have x5:=jC HX5.out 5
   go_upto_region 14 with (first
    | ((with_reducible refine qbC (b:=.append) (xs:=#[.tmp 32,.tmp 34]) rfl ?_);at_builtin;refine Kd.R_append kR (w0:=W) W.heap.size rfl (.tmp 32) (.tmp 34) 43 122 (.agg #[.int .i64 0,.int .i64 0,.int .i64 0,.int .i64 0,.int .u64 0,.bool false]) 48 rfl Tryz.underlying43 vcU rfl (by decide) (by omega) u4 L1 (toR b) [.int .i64 b.f0,.int .i64 b.f1,.int .i64 b.f2,.int .i64 b.f3,.int .u64 b.f4,.bool b.f5] (fun _=>True) (fun _=>False) rfl (by first|(go_simp;done)|(go_simp;rfl)) ?aP (fun _ hk=>hk.elim) ?aF ?aO ?aB ?aS ?aL ?_;(case aP=>exact qrT _ _ _ (toR b));(case aF=>exact (fun _ _=>trivial));(case aO=>exact HV5.out);(case aB=>exact HB5.out);(case aS=>exact qaG HB5.out);(case aL=>have:=HLN.out.1;have:=HIL.out;have:=HBB.out;omega);intro v7 w7 ho hb hg hat;have HV7:=aM ho;have HB7:=aM hb;have HT7:=aM (by obtain ⟨inner,hown⟩:=Kd.R_own HV5.out;exact qgN HT5.out hown (by decide) hg);have HX7:=aM (qcX HX5.out hg HNE.out);clear ho hb hg hat x0 x1 x2 x3 x4 x5)
    | ((with_reducible refine qbC (b:=.append) (xs:=#[.tmp 36,.tmp 38]) rfl ?_);at_builtin;go_loud (refine Kd.R_append Kd.bool (w0:=W) W.heap.size rfl (.tmp 36) (.tmp 38) 114 4 (.bool false) 1 rfl qlP qrW rfl (by decide) (by omega) u5 T1 is [.bool is] (fun _=>True) (fun _=>False) rfl (by first|(go_simp;done)|(go_simp;rfl)) ?aP (fun _ hk=>hk.elim) ?aF ?aO ?aB ?aS ?aL ?_);(case aP=>exact (rfl:[Value.bool is]=[Value.bool is]));(case aF=>exact (fun _ _=>trivial));(case aO=>exact HT7.out);(case aB=>exact HB7.out);(case aS=>exact qaG HB7.out);(case aL=>have:=HLN.out.2;have:=HIL.out;have:=HBB.out;omega);intro v8 w8 ho hb hg hat;have HT8:=aM ho;have HB8:=aM hb;have HV8:=aM (by obtain ⟨inner,hown⟩:=Kd.R_own HT7.out;exact qgN HV7.out hown (by decide) hg);have HX8:=aM (qcX HX7.out hg (qmX HT7.out HX7.out (by decide)));clear ho hb hg hat))
   cases is with
   | true =>
    have HS2:=aM (show qdC (qbB a (i+1))=(wrap64 (sm.1+b.f1),wrap64 (sm.2+1)) from HS.out);have x1:=jC HX8.out 1;go_wp2;go_roundw;case rel=>exact ⟨i+1,HIL.out,by rw [HWI.out];push_cast;rfl,by rw [HS2.out],by rw [HS2.out],⟨by rw [HL'.out.2];exact HT8.out⟩,⟨by rw [HL'.out.1];exact HV8.out⟩,HB8⟩
    case measure =>
     have h9:=HWI.out;have h8:=HIL.out;generalize wrap64 ((i:Int)+1)=z at h9 ⊢;subst h9;simp [intOf];omega
   | false =>
    have HS2:=aM (show qdC (qbB a (i+1))=sm from HS.out);go_wp2;go_roundw;case rel=>exact ⟨i+1,HIL.out,by rw [HWI.out];push_cast;rfl,by rw [HS2.out],by rw [HS2.out],⟨by rw [HL'.out.2];exact HT8.out⟩,⟨by rw [HL'.out.1];exact HV8.out⟩,HB8⟩
    case measure =>
     have h9:=HWI.out;have h8:=HIL.out;generalize wrap64 ((i:Int)+1)=z at h9 ⊢;subst h9;simp [intOf];omega
  ·obtain rfl:i=a.g.B:=by omega
   have d0:decide ((a.g.B:Int) < (a.g.B:Int))=false:=decide_eq_false (by omega)
   have HLN:qaN (((qbB a a.g.B).map (fun y:Blk × Bool=>toR y.1)).length=a.g.B∧((qbB a a.g.B).map (fun y:Blk × Bool=>y.2)).length=a.g.B):=⟨by simp [qdE]⟩
   obtain ⟨A4,c4,e4⟩:=Kd.R_slice HV.out;obtain ⟨gt,ct,e5,hgt,hglt,tcells,hgtc⟩:=Kd.R_form HT.out (by rw [HLN.out.2];have:=HBB.out;omega);subst e4;subst e5;have hrv:=Kd.R_reads' HV.out;have HRV:=aM hrv
   have HTO:=aM (fun (j:Nat) (hj:j < (qbB a a.g.B).length)=>(show wr.cell? ⟨gt,j,none⟩=some (.bool (qbB a a.g.B)[j].2) by
    have h1:=qnO HT.out j (by rw [HLN.out.2];rw [qdE] at hj;exact hj)
    simpa using h1))
   clear hrv hgt hglt hgtc;have HLL:=aM (qdE a a.g.B)
   have hsc:qgF a=(List.range a.g.B).map (allB (qbB a a.g.B)):=by
    unfold qgF;rw [qyB,qdE]
   have HSL:=aM (qhM a)
   have HSG:=aM (show ∀ j:Nat,j < a.g.B→(qgF a)[j]?=some (allB (qbB a a.g.B) j) from fun j hj=>by
    rw [hsc,List.getElem?_map,List.getElem?_range hj]
    rfl)
   have HAB:=aM (show ∀ j:Nat,(((qdJ (qdC (qbB a a.g.B)) ((qbB a a.g.B).getD j default)).f0=4∧qfD ((qbB a a.g.B).map (fun y:Blk × Bool=>y.1)) j)→allB (qbB a a.g.B) j=qjX (qdJ (qdC (qbB a a.g.B)) ((qbB a a.g.B).getD j default)))∧(¬ ((qdJ (qdC (qbB a a.g.B)) ((qbB a a.g.B).getD j default)).f0=4∧qfD ((qbB a a.g.B).map (fun y:Blk × Bool=>y.1)) j)→allB (qbB a a.g.B) j=qdJ (qdC (qbB a a.g.B)) ((qbB a a.g.B).getD j default)) from fun j=>⟨fun h=>if_pos h,fun h=>if_neg h⟩)
   obtain ⟨S,hS⟩:∃ S,S=qgF a:=⟨_,rfl⟩
   rw [← hS] at HSL HSG;have HSE:=aM hS;clear hS;rw [HLN.out.1,HLN.out.2];clear hsc hi hlt
   go_upto_region 19 with (first
    | (go_at_call 73;(with_reducible refine (HGEO.out _ HBr.out).mono ?_);rintro e wm ⟨rfl,hbm⟩;have HBM:=aM hbm;have HBm:=aM (qaF HBr.out hbm);clear hbm))
   have HCM:=aM (Kd.C_below HRV.out.2.2 HBM.out);have HTM:=aM (fun (j:Nat) (hj:j < (qbB a a.g.B).length)=>qbI (HTO.out j hj) HBM.out);have HCC:=aM HRV.out.2.1;rw [HLN.out.1] at HCM HCC
   have HOW:=aM (show ((qbB a a.g.B).map (fun y:Blk × Bool=>toR y.1)).map qgX=(qbB a a.g.B).map (fun y:Blk × Bool=>y.1) by
    rw [List.map_map]
    rfl)
   have HOL:=aM (show ∀ wx,Below wm.heap.size wm wx→∀ (j:Nat),j < a.g.B→∀ b:Bool,(b=true↔qfD ((qbB a a.g.B).map (fun y:Blk × Bool=>y.1)) j)→Calls Tryz.prog 75 #[.slice A4 a.g.B c4,.int .i64 j] wx (fun e w'=>e=.returned (.bool b)∧Below wx.heap.size wx w') from fun wx hb j hj b hbo=>by
    have h1:=quP A4 c4 ((qbB a a.g.B).map (fun y:Blk × Bool=>toR y.1)) j (by rw [HLN.out.1];exact hj) wx (by rw [HLN.out.1];exact Kd.C_below HCM.out hb) (by rw [HLN.out.1];exact HCC.out) (by rw [HLN.out.1];have:=HBB.out;omega) b (by rw [HOW.out];exact hbo);rw [HLN.out.1] at h1
    exact h1)
   have HEL:=aM (show ∀ j:Nat,j < (qbB a a.g.B).length→qaQ ((qbB a a.g.B).map (fun y:Blk × Bool=>toR y.1)) (j:Int)=toR ((qbB a a.g.B).getD j default).1 from fun j hj=>by
    rw [rdR (by simpa using hj),List.getElem_map,List.getD_eq_getElem?_getD,List.getElem?_eq_getElem hj]
    rfl)
   have HTN:=aM (show ∀ j:Nat,j < (qbB a a.g.B).length→wm.cell? ⟨gt,j,none⟩=some (.bool ((qbB a a.g.B).getD j default).2) from fun j hj=>by
    rw [HTM.out j hj,List.getD_eq_getElem?_getD,List.getElem?_eq_getElem hj]
    rfl)
   clear HRV HTO HT HV HBM HTM HOW;generalize qdC (qbB a a.g.B)=sm at HAB ⊢;generalize qbB a a.g.B=L at HLL HTN HSG HAB HCM HLN HOL HEL;generalize L.map (fun y:Blk × Bool=>toR y.1)=LR at HCM HLN HEL;generalize wm=Wm at HBm HCM HTN HOL ⊢;go_loopw [11,12] (fun v11 v12 wr=>∃ j:Nat,j≤a.g.B∧v12=.int .i64 j∧qaN (Kd.R kR 122 wr Wm.heap.size (fun _=>True) v11 ((S.take j).map toR))∧qaN (Below Wm.heap.size Wm wr)) (fun _ j _=>a.g.B - (intOf j).toNat);case atStart=>exact ⟨0,Nat.zero_le _,rfl,⟨Kd.R_nil _ _ _ _ _⟩,⟨Below.refl _ _⟩⟩
   case round =>
    clear HBr;obtain ⟨j,hj,rfl,HVr,HBr⟩:=hrel
    by_cases hlt:j < a.g.B
    ·have d1:decide ((j:Int) < (a.g.B:Int))=true:=decide_eq_true (by omega);have hq:(j < a.g.B)=True:=eq_true hlt;have hqi:((j:Int) < (a.g.B:Int))=True:=eq_true (by omega);have HWJ:=aM (show wrap64 ((j:Int)+1)=(j:Int)+1 by unfold wrap64;have:=HBB.out;omega);have HJ:=aM hlt;have hjL:j < L.length:=by rw [HLL.out];exact hlt
     have HAL:=aM (HAB.out j);have HPL:=aM (show (S.take (j+1)).map toR=(S.take j).map toR ++ [toR (allB L j)] by rw [List.take_add_one,HSG.out j hlt];simp)
     have HPN:qaN (((S.take j).map toR).length=j):=⟨by rw [List.length_map,List.length_take,HSL.out];omega⟩
     obtain ⟨ad,ead,z0,z1,z2,z3,z4,z5⟩:=qbY (Kd.C_below HCM.out HBr.out) (j:Int) (by omega) (by omega);subst ead;rw [HEL.out j hjL] at z0 z1 z2 z3 z4 z5;rw [Int.toNat_natCast] at z0 z1 z2 z3 z4 z5;have yt:=qbI (HTN.out j hjL) HBr.out;generalize (S.take j).map toR=PL at HPL HPN HVr;generalize L.getD j default=x at HAL z0 z1 z2 z3 z4 z5 yt;obtain ⟨b,is⟩:=x;simp only at HAL yt;replace z0:wr.cell? _=some (.int .i64 b.f0):=z0;replace z1:wr.cell? _=some (.int .i64 b.f1):=z1;replace z2:wr.cell? _=some (.int .i64 b.f2):=z2;replace z3:wr.cell? _=some (.int .i64 b.f3):=z3;replace z4:wr.cell? _=some (.int .u64 b.f4):=z4;replace z5:wr.cell? _=some (.bool b.f5):=z5;clear hj hlt hjL
     go_upto_region 22 with (fail)
     obtain ⟨gx,hgx⟩:∃ gx,gx=wr.heap.size:=⟨_,rfl⟩
     have HGX:=aM hgx;have HX5:=aM (qaV wr (bC b) 122);have HBX5:=aM (qaA (Below.refl wr.heap.size wr) (.cells (bC b) 122));generalize hW:wr.alloc (.cells (bC b) 122)=W5 at HX5 HBX5 ⊢;rw [← hgx] at HX5 ⊢;replace yt:=qbI yt HBX5.out;have x0:=jC HX5.out 0;clear hW hgx z0 z1 z2 z3 z4 z5
     obtain ⟨cd,hcd⟩:∃ cd:Bool,cd=decide (¬ b.f0=1∧is=false∧0 < sm.2):=⟨_,rfl⟩
     obtain ⟨e,he⟩:∃ e,e=qdJ sm (b,is):=⟨_,rfl⟩
     have HCD:=aM hcd;have HEE:=aM he;rw [← he] at HAL
     obtain ⟨fb,hfb⟩:∃ fb,fb=allB L j:=⟨_,rfl⟩
     rw [← hfb] at HAL HPL;clear hcd he hfb;go_cut [70] from 47 to 89 (fun v wx=>v=.bool cd∧wx=W5)
     case first =>
      by_cases hb0:b.f0=1
      ·have e0:(b.f0==1)=true:=by simp only [beq_iff_eq];exact hb0
       have e0n:(b.f0 != 1)=false:=by rw [bne,e0];rfl
       have hc:cd=false:=by rw [HCD.out];simp [hb0]
       subst hc;clear hb0;go_wp2;go_meet;case rel=>exact ⟨rfl,rfl⟩
      ·have e0:(b.f0==1)=false:=by simp only [beq_eq_false_iff_ne];exact hb0
       have e0n:(b.f0 != 1)=true:=by rw [bne,e0];rfl
       cases is with
       | true =>
        have hc:cd=false:=by rw [HCD.out];simp
        subst hc;clear hb0;go_wp2;go_meet;case rel=>exact ⟨rfl,rfl⟩
       | false =>
        by_cases hm0:0 < sm.2
        ·have e2:decide (0 < sm.2)=true:=decide_eq_true hm0;have hc:cd=true:=by rw [HCD.out];simp [hb0,hm0]
         subst hc;clear hb0 hm0;go_wp2;go_meet;case rel=>exact ⟨rfl,rfl⟩
        ·have e2:decide (0 < sm.2)=false:=decide_eq_false hm0;have hc:cd=false:=by rw [HCD.out];simp [hm0]
         subst hc;clear hb0 hm0;go_wp2;go_meet;case rel=>exact ⟨rfl,rfl⟩
     case rest =>
     obtain ⟨rfl,hwc⟩:=hcut;subst hwc;clear x0 yt;generalize wc=W6 at HX5 HBX5 ⊢
     go_upto_if 70 with (fail)
     go_cut [] from 47 to 89 (fun wx=>qaN (wx.heap[gx]?=some (.cells (bC e) 122 (0,0)))∧qaN (Below wr.heap.size wr wx))
     case first =>
      cases cd with
      | true =>
       have hc:=of_decide_eq_true HCD.out.symm;have he:e={ b with f1:=wrap64 (Int.tdiv sm.1 sm.2) }:=by rw [HEE.out];unfold qdJ;rw [if_pos hc]
       have HE2:=aM he;have hne:(sm.2==0)=false:=by simp only [beq_eq_false_iff_ne];have:=hc.2.2;omega
       have hne2:¬ sm.2=0:=by have:=hc.2.2;omega
       clear hc he;have x1:=jC HX5.out 1;have fx1:=qaC HX5.out 1;go_wp2;go_meet;case rel=>exact ⟨⟨by rw [HE2.out];exact qaU HX5.out 1 _ rfl⟩,⟨qaH HBX5.out (Nat.le_of_eq HGX.out.symm)⟩⟩
      | false =>
       have hc:=of_decide_eq_false HCD.out.symm;have he:e=b:=by rw [HEE.out];unfold qdJ;rw [if_neg hc]
       have HE2:=aM he;clear hc he;go_wp2;go_meet;case rel=>exact ⟨⟨by rw [HE2.out];exact HX5.out⟩,HBX5⟩
     case rest =>
     obtain ⟨HX7,HBX7⟩:=hcut;clear HX5 HBX5;generalize wc=W7 at HX7 HBX7 ⊢
     obtain ⟨od,hod⟩:∃ od:Bool,(od=true↔(e.f0=4∧qfD (L.map (fun y:Blk × Bool=>y.1)) j)):=by
      by_cases hx:e.f0=4∧qfD (L.map (fun y:Blk × Bool=>y.1)) j
      ·exact ⟨true,by simp [hx]⟩
      ·exact ⟨false,by simp [hx]⟩
     have HOD:=aM hod;clear hod;have x0:=jC HX7.out 0
     go_upto_region 24 with (fail)
     go_cut [82] from 47 to 89 (fun v wx=>v=.bool od∧qaN (Below W7.heap.size W7 wx))
     case first =>
      by_cases h4:e.f0=4
      ·have e4:(e.f0==4)=true:=by simp only [beq_iff_eq];exact h4
       have HCO:=aM (HOL.out W7 (qaF HBr.out HBX7.out) j HJ.out od (by rw [HOD.out];simp [h4]));clear h4
       go_wp2_with (first
        | (go_at_call 75;(with_reducible refine HCO.out.mono ?_);rintro e8 w8 ⟨rfl,hb8⟩;have HB8:=aM hb8;clear hb8))
       go_meet;case rel=>exact ⟨rfl,HB8⟩
      ·have e4:(e.f0==4)=false:=by simp only [beq_eq_false_iff_ne];exact h4
       have hc:od=false:=by
        cases od with
        | true=>exact absurd (HOD.out.1 rfl).1 h4
        | false=>rfl
       subst hc;clear h4;go_wp2;go_meet;case rel=>exact ⟨rfl,⟨Below.refl _ _⟩⟩
     case rest =>
     obtain ⟨rfl,HB8⟩:=hcut;generalize wc=W8 at HB8 ⊢;have HX8:=aM (qaE HX7.out HB8.out);have HBX8:=aM (qaF HBX7.out HB8.out);clear x0
     go_upto_if 82 with (fail)
     go_cut [] from 47 to 89 (fun wx=>qaN (wx.heap[gx]?=some (.cells (bC fb) 122 (0,0)))∧qaN (Below wr.heap.size wr wx))
     case first =>
      cases od with
      | true =>
       have HE2:=aM (HAL.out.1 (HOD.out.1 rfl));have y0:=jC HX8.out 0;have y1:=jC HX8.out 1;have y2:=jC HX8.out 2;have y3:=jC HX8.out 3;have y4:=jC HX8.out 4;have y5:=jC HX8.out 5;have f0:=qaC HX8.out 0;have f1:=qaC HX8.out 1;have f2:=qaC HX8.out 2;have f3:=qaC HX8.out 3;have f4:=qaC HX8.out 4;have f5:=qaC HX8.out 5;go_wp2;go_meet;case rel=>exact ⟨⟨by rw [HE2.out];exact qiT HX8.out _ _ _ _ _ _⟩,⟨qbL HBX8.out (Nat.le_of_eq HGX.out.symm) _ _ _ _ _ _⟩⟩
      | false =>
       have HE2:=aM (HAL.out.2 (fun h=>absurd (HOD.out.2 h) (by decide)));go_wp2;go_meet;case rel=>exact ⟨⟨by rw [HE2.out];exact HX8.out⟩,HBX8⟩
     case rest =>
     obtain ⟨HX9,HBX9⟩:=hcut;clear HX8 HBX8 HX7 HBX7 HB8;generalize wc=W9 at HX9 HBX9 ⊢;have x0:=jC HX9.out 0;have x1:=jC HX9.out 1;have x2:=jC HX9.out 2;have x3:=jC HX9.out 3;have x4:=jC HX9.out 4;have x5:=jC HX9.out 5;have HVA:=aM (Kd.R_below HVr.out HBX9.out);have HBA:=aM (qaF HBr.out HBX9.out)
     go_wp2_with (first
      | ((with_reducible refine qbC (b:=.append) (xs:=#[.tmp 86,.tmp 88]) rfl ?_);at_builtin;refine Kd.R_append kR (w0:=Wm) Wm.heap.size rfl (.tmp 86) (.tmp 88) 43 122 (.agg #[.int .i64 0,.int .i64 0,.int .i64 0,.int .i64 0,.int .u64 0,.bool false]) 48 rfl Tryz.underlying43 vcU rfl (by decide) (by omega) u11 PL (toR fb) [.int .i64 fb.f0,.int .i64 fb.f1,.int .i64 fb.f2,.int .i64 fb.f3,.int .u64 fb.f4,.bool fb.f5] (fun _=>True) (fun _=>False) rfl (by first|(go_simp;done)|(go_simp;rfl)) ?aP (fun _ hk=>hk.elim) ?aF ?aO ?aB ?aS ?aL ?_;(case aP=>exact qrT _ _ _ (toR fb));(case aF=>exact (fun _ _=>trivial));(case aO=>exact HVA.out);(case aB=>exact HBA.out);(case aS=>exact qaG HBA.out);(case aL=>have:=HPN.out;have:=HJ.out;have:=HBB.out;omega);intro vA wA ho hb hg hat;have HVB:=aM ho;have HBB2:=aM hb;clear ho hb hg hat))
     go_roundw;case rel=>exact ⟨j+1,HJ.out,by rw [HWJ.out];push_cast;rfl,⟨by rw [HPL.out];exact HVB.out⟩,HBB2⟩
     case measure =>
      have h9:=HWJ.out;have h8:=HJ.out;generalize wrap64 ((j:Int)+1)=z at h9 ⊢;subst h9;simp [intOf];omega
    ·obtain rfl:j=a.g.B:=by omega
     have d1:decide ((a.g.B:Int) < (a.g.B:Int))=false:=decide_eq_false (by omega);have HTK:=aM (show S.take a.g.B=S by rw [← HSL.out];exact List.take_length);rw [HTK.out,HSE.out] at HVr;clear hj hlt;go_wp2;go_ret2;exact ⟨u11,rfl,Kd.R_lower HVr.out (qaG HBm.out),qaF HBm.out HBr.out⟩
end
section
variable {w0 W:World} {gc gd:Nat} {a:AC}
theorem vbL (h:qdG w0 W gc a) (h2:qbT w0 W gd a) (hp:qcJ a.pl=true) (o:SOp) (A3:Option Addr) (c3:Nat) (A4:Option Addr) (c4:Nat) (l3:o.d.length≤c3) (g3:kB.C w0 A3 o.d.length o.d) (l4:o.pl.length≤c4) (g4:kF.C w0 A4 o.pl.length o.pl) :
  Calls Tryz.prog 16 #[cp gc,cp gd,.agg #[.int .i64 o.k,.int .i64 o.b,.int .i64 o.p,.slice A3 o.d.length c3,.slice A4 o.pl.length c4]] W fun e w'=>e=.returned (.bool true)∧qdG w0 w' gc (qfI a o)∧qbT w0 w' gd (qfI a o)∧KK W w':=by
 have H:=aM h;have HD:=aM h2;have HPL:=aM hp;have L3:=aM l3;have G3:=aM g3;have L4:=aM l4;have G4:=aM g4;have hu58:=Tryz.underlying38;clear h h2 hp l3 g3 l4 g4;go_enter Tryz.func16,Tryz.ntmps16
 go_upto_region 1 with (fail)
 obtain ⟨go,hgo⟩:∃ go,go=W.heap.size:=⟨_,rfl⟩
 generalize hW:W.alloc (.cells #[.int .i64 o.k,.int .i64 o.b,.int .i64 o.p,.slice A3 o.d.length c3,.slice A4 o.pl.length c4] 38)=W1;have hb1:Below W.heap.size W W1:=by rw [← hW];exact qaA (Below.refl _ _) _
 have HO:=aM (show W1.heap[go]?=some (.cells #[.int .i64 o.k,.int .i64 o.b,.int .i64 o.p,.slice A3 o.d.length c3,.slice A4 o.pl.length c4] 38 (0,0)) by rw [← hW,hgo];exact qaV _ _ _);have H1:=aM (H.out.grow hb1);have H2:=aM (HD.out.grow hb1);have HKB:=aM (KK.of_below hb1);rw [← hgo];clear hW hb1 hgo;have k0:=jC HO.out 0
 by_cases h1:o.k=1
 ·have e1:(o.k==1)=true:=by simp [h1]
  have e1b:(o.k=1)=True:=eq_true h1
  obtain ⟨a',ha'⟩:∃ a',a'=(qcT a o.b o.p o.d).2:=⟨_,rfl⟩
  have HE:=aM (show qfI a o=a' by unfold qfI;simp [h1,ha']);have HP:=aM (show ∀ wq,qdG w0 wq gc a→Calls Tryz.prog 58 #[cp gc,.int .i64 o.b,.int .i64 o.p,.slice A3 o.d.length c3] wq (fun e w'=>e=.returned (.int .i64 (qcT a o.b o.p o.d).1)∧qdG w0 w' gc a'∧qbF wq w') by rw [ha'];exact fun wq hq=>hq.program o.b o.p A3 c3 o.d (fun w' hb _=>Kd.C_below G3.out hb) L3.out);have HQ:=aM (show ∀ wq,qbT w0 wq gd a→Calls Tryz.prog 62 #[cp gd,.int .i64 o.b,.int .i64 o.p,.slice A3 o.d.length c3] wq (fun e w'=>e=.returned (.int .i64 (qcT a o.b o.p o.d).1)∧qbT w0 w' gd a'∧qaP wq w') by rw [ha'];exact fun wq hq=>hq.program HPL.out o.b o.p A3 c3 o.d (fun w' hb _=>Kd.C_below G3.out hb) L3.out);clear h1 ha'
  go_upto_region 3 with (fail)
  refine RelS.relS [(0,11,.inl ?r1v0),(1,12,.inl ?r1v1),(2,13,.inl ?r1v2),(3,14,.inl ?r1v3),(4,15,.inl ?r1v4),(5,16,.inl ?r1v5),(6,17,.inl ?r1v6),(7,18,.inl ?r1v7),(8,19,.inl ?r1v8),(9,20,.inl ?r1v9),(10,21,.inl ?r1v10),(11,22,.inl ?r1v11),(12,23,.inl ?r1v12),(13,24,.inl ?r1v13),(14,25,.inl ?r1v14),(15,26,.inl ?r1v15),(16,27,.inl ?r1v16),(17,6,.inl ?r1v17)] [7,15] (qxB w0 W1 gc gd a a') (fun _ _=>True) (by rfl) rfl (by kernel_rfl) (by decide) (by decide) ?r1S (Rel.stable_inl (Rel.stable_inl (Rel.stable_inl (Rel.stable_inl (Rel.stable_inl (Rel.stable_inl (Rel.stable_inl (Rel.stable_inl (Rel.stable_inl (Rel.stable_inl (Rel.stable_inl (Rel.stable_inl (Rel.stable_inl (Rel.stable_inl (Rel.stable_inl (Rel.stable_inl (Rel.stable_inl (Rel.stable_inl Rel.stable_nil)))))))))))))))))) ?r1steps ?r1okv ?r1hlt ?r1fin;case r1S=>exact ⟨H1.out.grow (qaW (Below.refl _ _)),H2.out.grow (qaW (Below.refl _ _)),KK.of_below (qaW (Below.refl _ _))⟩
  case r1steps =>
   refine RelS.fromS_some 0 rfl rfl (fun s a wq hlo hhi hS hK K hC=>?_) ?_
   ·refine Reg.sO ?_;clear hlo hhi;have e0:=hK.off 0 _ rfl rfl;clear hK;go_simp;exact hC _ hS trivial
   refine RelS.fromS_some 1 rfl rfl (fun s a wq hlo hhi hS hK K hC=>?_) ?_
   ·refine Reg.sO ?_;clear hlo hhi;have e5:=hK.off 5 _ rfl rfl;clear hK;go_simp;exact hC _ hS trivial
   refine RelS.fromS_some 2 rfl rfl (fun s a wq hlo hhi hS hK K hC=>?_) ?_
   ·refine Reg.sO ?_;clear hlo hhi;have e12:=hK.sl 1 rfl;have zz:=jC (hS.kk _ _ _ _ (by decide) (by decide) (by decide) (by decide) (by decide) (by decide) HO.out) 1;clear hK;go_simp;exact hC _ hS trivial
   refine RelS.fromS_some 3 rfl rfl (fun s a wq hlo hhi hS hK K hC=>?_) ?_
   ·refine Reg.sO ?_;clear hlo hhi;have e5:=hK.off 5 _ rfl rfl;clear hK;go_simp;exact hC _ hS trivial
   refine RelS.fromS_some 4 rfl rfl (fun s a wq hlo hhi hS hK K hC=>?_) ?_
   ·refine Reg.sO ?_;clear hlo hhi;have e14:=hK.sl 3 rfl;have zz:=jC (hS.kk _ _ _ _ (by decide) (by decide) (by decide) (by decide) (by decide) (by decide) HO.out) 2;clear hK;go_simp;exact hC _ hS trivial
   refine RelS.fromS_some 5 rfl rfl (fun s a wq hlo hhi hS hK K hC=>?_) ?_
   ·refine Reg.sO ?_;clear hlo hhi;have e5:=hK.off 5 _ rfl rfl;clear hK;go_simp;exact hC _ hS trivial
   refine RelS.fromS_some 6 rfl rfl (fun s a wq hlo hhi hS hK K hC=>?_) ?_
   ·refine Reg.sO ?_;clear hlo hhi;have e16:=hK.sl 5 rfl;have zz:=jC (hS.kk _ _ _ _ (by decide) (by decide) (by decide) (by decide) (by decide) (by decide) HO.out) 3;clear hK;go_simp;exact hC _ hS trivial
   refine RelS.fromS_some 7 rfl rfl (fun s a wq hlo hhi hS hK K hC=>?_) ?_
   ·refine Reg.sO ?_;obtain rfl:s=0:=Nat.le_antisymm (Nat.le_trans hhi (Nat.le_of_eq (by kernel_rfl))) (Nat.le_trans (Nat.le_of_eq (by kernel_rfl)) hlo);clear hlo hhi;have e11:=hK.sl 0 rfl;have e13:=hK.sl 2 rfl;have e15:=hK.sl 4 rfl;have e17:=hK.sl 6 rfl;clear hK;go_simp;obtain ⟨s1,s2,s3⟩:=hS;go_at_call 58;(with_reducible refine (HP.out wq s1).mono ?_);rintro e w' ⟨rfl,h2,hk⟩;exact hC _ ⟨h2,s2.kept hk h2.below,s3.trans (KK.of_keeps hk)⟩ trivial
   refine RelS.fromS_some 8 rfl rfl (fun s a wq hlo hhi hS hK K hC=>?_) ?_
   ·refine Reg.sO ?_;clear hlo hhi;have e1:=hK.off 1 _ rfl rfl;clear hK;go_simp;exact hC _ hS trivial
   refine RelS.fromS_some 9 rfl rfl (fun s a wq hlo hhi hS hK K hC=>?_) ?_
   ·refine Reg.sO ?_;clear hlo hhi;have e5:=hK.off 5 _ rfl rfl;clear hK;go_simp;exact hC _ hS trivial
   refine RelS.fromS_some 10 rfl rfl (fun s a wq hlo hhi hS hK K hC=>?_) ?_
   ·refine Reg.sO ?_;clear hlo hhi;have e20:=hK.sl 9 rfl;have zz:=jC (hS.kk _ _ _ _ (by decide) (by decide) (by decide) (by decide) (by decide) (by decide) HO.out) 1;clear hK;go_simp;exact hC _ hS trivial
   refine RelS.fromS_some 11 rfl rfl (fun s a wq hlo hhi hS hK K hC=>?_) ?_
   ·refine Reg.sO ?_;clear hlo hhi;have e5:=hK.off 5 _ rfl rfl;clear hK;go_simp;exact hC _ hS trivial
   refine RelS.fromS_some 12 rfl rfl (fun s a wq hlo hhi hS hK K hC=>?_) ?_
   ·refine Reg.sO ?_;clear hlo hhi;have e22:=hK.sl 11 rfl;have zz:=jC (hS.kk _ _ _ _ (by decide) (by decide) (by decide) (by decide) (by decide) (by decide) HO.out) 2;clear hK;go_simp;exact hC _ hS trivial
   refine RelS.fromS_some 13 rfl rfl (fun s a wq hlo hhi hS hK K hC=>?_) ?_
   ·refine Reg.sO ?_;clear hlo hhi;have e5:=hK.off 5 _ rfl rfl;clear hK;go_simp;exact hC _ hS trivial
   refine RelS.fromS_some 14 rfl rfl (fun s a wq hlo hhi hS hK K hC=>?_) ?_
   ·refine Reg.sO ?_;clear hlo hhi;have e24:=hK.sl 13 rfl;have zz:=jC (hS.kk _ _ _ _ (by decide) (by decide) (by decide) (by decide) (by decide) (by decide) HO.out) 3;clear hK;go_simp;exact hC _ hS trivial
   refine RelS.fromS_some 15 rfl rfl (fun s a wq hlo hhi hS hK K hC=>?_) ?_
   ·refine Reg.sO ?_;obtain rfl:s=1:=Nat.le_antisymm (Nat.le_trans hhi (Nat.le_of_eq (by kernel_rfl))) (Nat.le_trans (Nat.le_of_eq (by kernel_rfl)) hlo);clear hlo hhi;have e19:=hK.sl 8 rfl;have e21:=hK.sl 10 rfl;have e23:=hK.sl 12 rfl;have e25:=hK.sl 14 rfl;clear hK;go_simp;obtain ⟨s1,s2,s3⟩:=hS;go_at_call 62;(with_reducible refine (HQ.out wq s2).mono ?_);rintro e w' ⟨rfl,h2,hk⟩;exact hC _ ⟨s1.kept hk h2.below,h2,s3.trans (KK.of_dkeeps hk)⟩ trivial
   refine RelS.fromS_some 16 rfl rfl (fun s a wq hlo hhi hS hK K hC=>?_) ?_
   ·refine Reg.sO ?_;clear hlo hhi;have e18:=hK.sl 7 rfl;have e26:=hK.sl 15 rfl;clear hK;go_simp;exact hC _ hS trivial
   refine RelS.fromS_some 17 rfl rfl (fun s a wq hlo hhi hS hK K hC=>?_) ?_
   ·refine Reg.sO ?_;clear hlo hhi;have e27:=hK.sl 16 rfl;clear hK;go_simp;exact hC _ hS trivial
   exact RelS.fromS_nil
  case r1okv=>rfl
  case r1hlt=>rfl
  case r1fin =>
   intro U wz hS hU;clear hU;simp only [Rel.inst,Nat.zero_add,Reg.putV,List.foldl_cons,List.foldl_nil,Act.put,List.setIfInBounds_toArray,List.set_cons_zero,List.set_cons_succ];have HS:=aM (show qxB w0 W1 gc gd a a' 2 wz from hS);clear hS;go_wp2;go_ret;rw [HE.out];exact ⟨by first|rfl|(simp;done),HS.out.1,HS.out.2.1,HKB.out.trans HS.out.2.2⟩
 have e1:(o.k==1)=false:=by simp [h1]
 have e1b:(o.k=1)=False:=eq_false h1
 by_cases h2:o.k=2
 ·have e2:(o.k==2)=true:=by simp [h2]
  have e2b:(o.k=2)=True:=eq_true h2
  obtain ⟨a',ha'⟩:∃ a',a'=(qdX a o.b).2:=⟨_,rfl⟩
  have HE:=aM (show qfI a o=a' by unfold qfI;simp [h2,ha']);have HP:=aM (show ∀ wq,qdG w0 wq gc a→Calls Tryz.prog 63 #[cp gc,.int .i64 o.b] wq (fun e w'=>e=.returned (.int .i64 (qdX a o.b).1)∧qdG w0 w' gc a'∧qbF wq w') by rw [ha'];exact fun wq hq=>hq.erase o.b);have HQ:=aM (show ∀ wq,qbT w0 wq gd a→Calls Tryz.prog 64 #[cp gd,.int .i64 o.b] wq (fun e w'=>e=.returned (.int .i64 (qdX a o.b).1)∧qbT w0 w' gd a'∧qaP wq w') by rw [ha'];exact fun wq hq=>hq.erase HPL.out o.b);clear h2 ha'
  go_upto_region 5 with (fail)
  refine RelS.relS [(0,30,.inl ?r2v0),(1,31,.inl ?r2v1),(2,32,.inl ?r2v2),(3,33,.inl ?r2v3),(4,34,.inl ?r2v4),(5,35,.inl ?r2v5),(6,36,.inl ?r2v6),(7,37,.inl ?r2v7),(8,38,.inl ?r2v8),(9,6,.inl ?r2v9)] [3,7] (qxB w0 W1 gc gd a a') (fun _ _=>True) (by rfl) rfl (by kernel_rfl) (by decide) (by decide) ?r2S (Rel.stable_inl (Rel.stable_inl (Rel.stable_inl (Rel.stable_inl (Rel.stable_inl (Rel.stable_inl (Rel.stable_inl (Rel.stable_inl (Rel.stable_inl (Rel.stable_inl Rel.stable_nil)))))))))) ?r2steps ?r2okv ?r2hlt ?r2fin;case r2S=>exact ⟨H1.out.grow (qaW (Below.refl _ _)),H2.out.grow (qaW (Below.refl _ _)),KK.of_below (qaW (Below.refl _ _))⟩
  case r2steps =>
   refine RelS.fromS_some 0 rfl rfl (fun s a wq hlo hhi hS hK K hC=>?_) ?_
   ·refine Reg.sO ?_;clear hlo hhi;have e0:=hK.off 0 _ rfl rfl;clear hK;go_simp;exact hC _ hS trivial
   refine RelS.fromS_some 1 rfl rfl (fun s a wq hlo hhi hS hK K hC=>?_) ?_
   ·refine Reg.sO ?_;clear hlo hhi;have e5:=hK.off 5 _ rfl rfl;clear hK;go_simp;exact hC _ hS trivial
   refine RelS.fromS_some 2 rfl rfl (fun s a wq hlo hhi hS hK K hC=>?_) ?_
   ·refine Reg.sO ?_;clear hlo hhi;have e31:=hK.sl 1 rfl;have zz:=jC (hS.kk _ _ _ _ (by decide) (by decide) (by decide) (by decide) (by decide) (by decide) HO.out) 1;clear hK;go_simp;exact hC _ hS trivial
   refine RelS.fromS_some 3 rfl rfl (fun s a wq hlo hhi hS hK K hC=>?_) ?_
   ·refine Reg.sO ?_;obtain rfl:s=0:=Nat.le_antisymm (Nat.le_trans hhi (Nat.le_of_eq (by kernel_rfl))) (Nat.le_trans (Nat.le_of_eq (by kernel_rfl)) hlo);clear hlo hhi;have e30:=hK.sl 0 rfl;have e32:=hK.sl 2 rfl;clear hK;go_simp;obtain ⟨s1,s2,s3⟩:=hS;go_at_call 63;(with_reducible refine (HP.out wq s1).mono ?_);rintro e w' ⟨rfl,h2,hk⟩;exact hC _ ⟨h2,s2.kept hk h2.below,s3.trans (KK.of_keeps hk)⟩ trivial
   refine RelS.fromS_some 4 rfl rfl (fun s a wq hlo hhi hS hK K hC=>?_) ?_
   ·refine Reg.sO ?_;clear hlo hhi;have e1:=hK.off 1 _ rfl rfl;clear hK;go_simp;exact hC _ hS trivial
   refine RelS.fromS_some 5 rfl rfl (fun s a wq hlo hhi hS hK K hC=>?_) ?_
   ·refine Reg.sO ?_;clear hlo hhi;have e5:=hK.off 5 _ rfl rfl;clear hK;go_simp;exact hC _ hS trivial
   refine RelS.fromS_some 6 rfl rfl (fun s a wq hlo hhi hS hK K hC=>?_) ?_
   ·refine Reg.sO ?_;clear hlo hhi;have e35:=hK.sl 5 rfl;have zz:=jC (hS.kk _ _ _ _ (by decide) (by decide) (by decide) (by decide) (by decide) (by decide) HO.out) 1;clear hK;go_simp;exact hC _ hS trivial
   refine RelS.fromS_some 7 rfl rfl (fun s a wq hlo hhi hS hK K hC=>?_) ?_
   ·refine Reg.sO ?_;obtain rfl:s=1:=Nat.le_antisymm (Nat.le_trans hhi (Nat.le_of_eq (by kernel_rfl))) (Nat.le_trans (Nat.le_of_eq (by kernel_rfl)) hlo);clear hlo hhi;have e34:=hK.sl 4 rfl;have e36:=hK.sl 6 rfl;clear hK;go_simp;obtain ⟨s1,s2,s3⟩:=hS;go_at_call 64;(with_reducible refine (HQ.out wq s2).mono ?_);rintro e w' ⟨rfl,h2,hk⟩;exact hC _ ⟨s1.kept hk h2.below,h2,s3.trans (KK.of_dkeeps hk)⟩ trivial
   refine RelS.fromS_some 8 rfl rfl (fun s a wq hlo hhi hS hK K hC=>?_) ?_
   ·refine Reg.sO ?_;clear hlo hhi;have e33:=hK.sl 3 rfl;have e37:=hK.sl 7 rfl;clear hK;go_simp;exact hC _ hS trivial
   refine RelS.fromS_some 9 rfl rfl (fun s a wq hlo hhi hS hK K hC=>?_) ?_
   ·refine Reg.sO ?_;clear hlo hhi;have e38:=hK.sl 8 rfl;clear hK;go_simp;exact hC _ hS trivial
   exact RelS.fromS_nil
  case r2okv=>rfl
  case r2hlt=>rfl
  case r2fin =>
   intro U wz hS hU;clear hU;simp only [Rel.inst,Nat.zero_add,Reg.putV,List.foldl_cons,List.foldl_nil,Act.put,List.setIfInBounds_toArray,List.set_cons_zero,List.set_cons_succ];have HS:=aM (show qxB w0 W1 gc gd a a' 2 wz from hS);clear hS;go_wp2;go_ret;rw [HE.out];exact ⟨by first|rfl|(simp;done),HS.out.1,HS.out.2.1,HKB.out.trans HS.out.2.2⟩
 have e2:(o.k==2)=false:=by simp [h2]
 have e2b:(o.k=2)=False:=eq_false h2
 by_cases h3:o.k=3
 ·have e3:(o.k==3)=true:=by simp [h3]
  have e3b:(o.k=3)=True:=eq_true h3
  obtain ⟨a',ha'⟩:∃ a',a'=(qfO a o.b).2:=⟨_,rfl⟩
  have HE:=aM (show qfI a o=a' by unfold qfI;simp [h3,ha']);have HP:=aM (show ∀ wq,qdG w0 wq gc a→Calls Tryz.prog 65 #[cp gc,.int .i64 o.b] wq (fun e w'=>e=.returned (.int .i64 (qfO a o.b).1)∧qdG w0 w' gc a'∧qbF wq w') by rw [ha'];exact fun wq hq=>hq.mark o.b);have HQ:=aM (show ∀ wq,qbT w0 wq gd a→Calls Tryz.prog 66 #[cp gd,.int .i64 o.b] wq (fun e w'=>e=.returned (.int .i64 (qfO a o.b).1)∧qbT w0 w' gd a'∧qaP wq w') by rw [ha'];exact fun wq hq=>hq.mark o.b);clear h3 ha'
  go_upto_region 7 with (fail)
  refine RelS.relS [(0,41,.inl ?r3v0),(1,42,.inl ?r3v1),(2,43,.inl ?r3v2),(3,44,.inl ?r3v3),(4,45,.inl ?r3v4),(5,46,.inl ?r3v5),(6,47,.inl ?r3v6),(7,48,.inl ?r3v7),(8,49,.inl ?r3v8),(9,6,.inl ?r3v9)] [3,7] (qxB w0 W1 gc gd a a') (fun _ _=>True) (by rfl) rfl (by kernel_rfl) (by decide) (by decide) ?r3S (Rel.stable_inl (Rel.stable_inl (Rel.stable_inl (Rel.stable_inl (Rel.stable_inl (Rel.stable_inl (Rel.stable_inl (Rel.stable_inl (Rel.stable_inl (Rel.stable_inl Rel.stable_nil)))))))))) ?r3steps ?r3okv ?r3hlt ?r3fin;case r3S=>exact ⟨H1.out.grow (qaW (Below.refl _ _)),H2.out.grow (qaW (Below.refl _ _)),KK.of_below (qaW (Below.refl _ _))⟩
  case r3steps =>
   refine RelS.fromS_some 0 rfl rfl (fun s a wq hlo hhi hS hK K hC=>?_) ?_
   ·refine Reg.sO ?_;clear hlo hhi;have e0:=hK.off 0 _ rfl rfl;clear hK;go_simp;exact hC _ hS trivial
   refine RelS.fromS_some 1 rfl rfl (fun s a wq hlo hhi hS hK K hC=>?_) ?_
   ·refine Reg.sO ?_;clear hlo hhi;have e5:=hK.off 5 _ rfl rfl;clear hK;go_simp;exact hC _ hS trivial
   refine RelS.fromS_some 2 rfl rfl (fun s a wq hlo hhi hS hK K hC=>?_) ?_
   ·refine Reg.sO ?_;clear hlo hhi;have e42:=hK.sl 1 rfl;have zz:=jC (hS.kk _ _ _ _ (by decide) (by decide) (by decide) (by decide) (by decide) (by decide) HO.out) 1;clear hK;go_simp;exact hC _ hS trivial
   refine RelS.fromS_some 3 rfl rfl (fun s a wq hlo hhi hS hK K hC=>?_) ?_
   ·refine Reg.sO ?_;obtain rfl:s=0:=Nat.le_antisymm (Nat.le_trans hhi (Nat.le_of_eq (by kernel_rfl))) (Nat.le_trans (Nat.le_of_eq (by kernel_rfl)) hlo);clear hlo hhi;have e41:=hK.sl 0 rfl;have e43:=hK.sl 2 rfl;clear hK;go_simp;obtain ⟨s1,s2,s3⟩:=hS;go_at_call 65;(with_reducible refine (HP.out wq s1).mono ?_);rintro e w' ⟨rfl,h2,hk⟩;exact hC _ ⟨h2,s2.kept hk h2.below,s3.trans (KK.of_keeps hk)⟩ trivial
   refine RelS.fromS_some 4 rfl rfl (fun s a wq hlo hhi hS hK K hC=>?_) ?_
   ·refine Reg.sO ?_;clear hlo hhi;have e1:=hK.off 1 _ rfl rfl;clear hK;go_simp;exact hC _ hS trivial
   refine RelS.fromS_some 5 rfl rfl (fun s a wq hlo hhi hS hK K hC=>?_) ?_
   ·refine Reg.sO ?_;clear hlo hhi;have e5:=hK.off 5 _ rfl rfl;clear hK;go_simp;exact hC _ hS trivial
   refine RelS.fromS_some 6 rfl rfl (fun s a wq hlo hhi hS hK K hC=>?_) ?_
   ·refine Reg.sO ?_;clear hlo hhi;have e46:=hK.sl 5 rfl;have zz:=jC (hS.kk _ _ _ _ (by decide) (by decide) (by decide) (by decide) (by decide) (by decide) HO.out) 1;clear hK;go_simp;exact hC _ hS trivial
   refine RelS.fromS_some 7 rfl rfl (fun s a wq hlo hhi hS hK K hC=>?_) ?_
   ·refine Reg.sO ?_;obtain rfl:s=1:=Nat.le_antisymm (Nat.le_trans hhi (Nat.le_of_eq (by kernel_rfl))) (Nat.le_trans (Nat.le_of_eq (by kernel_rfl)) hlo);clear hlo hhi;have e45:=hK.sl 4 rfl;have e47:=hK.sl 6 rfl;clear hK;go_simp;obtain ⟨s1,s2,s3⟩:=hS;go_at_call 66;(with_reducible refine (HQ.out wq s2).mono ?_);rintro e w' ⟨rfl,h2,hk⟩;exact hC _ ⟨s1.kept hk h2.below,h2,s3.trans (KK.of_dkeeps hk)⟩ trivial
   refine RelS.fromS_some 8 rfl rfl (fun s a wq hlo hhi hS hK K hC=>?_) ?_
   ·refine Reg.sO ?_;clear hlo hhi;have e44:=hK.sl 3 rfl;have e48:=hK.sl 7 rfl;clear hK;go_simp;exact hC _ hS trivial
   refine RelS.fromS_some 9 rfl rfl (fun s a wq hlo hhi hS hK K hC=>?_) ?_
   ·refine Reg.sO ?_;clear hlo hhi;have e49:=hK.sl 8 rfl;clear hK;go_simp;exact hC _ hS trivial
   exact RelS.fromS_nil
  case r3okv=>rfl
  case r3hlt=>rfl
  case r3fin =>
   intro U wz hS hU;clear hU;simp only [Rel.inst,Nat.zero_add,Reg.putV,List.foldl_cons,List.foldl_nil,Act.put,List.setIfInBounds_toArray,List.set_cons_zero,List.set_cons_succ];have HS:=aM (show qxB w0 W1 gc gd a a' 2 wz from hS);clear hS;go_wp2;go_ret;rw [HE.out];exact ⟨by first|rfl|(simp;done),HS.out.1,HS.out.2.1,HKB.out.trans HS.out.2.2⟩
 have e3:(o.k==3)=false:=by simp [h3]
 have e3b:(o.k=3)=False:=eq_false h3
 by_cases h4:o.k=4
 ·have e4:(o.k==4)=true:=by simp [h4]
  have e4b:(o.k=4)=True:=eq_true h4;have HE:=aM (show qfI a o={ a with off:=false } by unfold qfI;simp [h4]);clear h4
  go_wp2_with (first
   | (go_at_call 49;(with_reducible refine H1.out.power.mono ?_);rintro e w2 ⟨rfl,h3,hk3⟩;have H3:=aM h3;have HD3:=aM (H2.out.kept hk3 h3.below);have HK3:=aM (HKB.out.trans (KK.of_keeps hk3));clear h3 hk3)
   | (go_at_call 67;(with_reducible refine HD3.out.power.mono ?_);rintro e w3 ⟨rfl,h4,hk4⟩;have HD4:=aM h4;have H4:=aM (H3.out.kept hk4 h4.below);have HK4:=aM (HK3.out.trans (KK.of_dkeeps hk4));clear h4 hk4))
  go_ret;rw [HE.out];exact ⟨rfl,H4.out,HD4.out,HK4.out⟩
 have e4:(o.k==4)=false:=by simp [h4]
 have e4b:(o.k=4)=False:=eq_false h4
 by_cases h5:o.k=5
 ·have e5:(o.k==5)=true:=by simp [h5]
  have e5b:(o.k=5)=True:=eq_true h5
  obtain ⟨a',ha'⟩:∃ a',a'=(qqY a o.pl).2:=⟨_,rfl⟩
  have HE:=aM (show qfI a o=a' by unfold qfI;simp [h5,ha']);have HP:=aM (show ∀ wq,qdG w0 wq gc a→Calls Tryz.prog 44 #[cp gc,.slice A4 o.pl.length c4] wq (fun e w'=>e=.returned (.int .i64 (qqY a o.pl).1)∧qdG w0 w' gc a'∧qbF wq w') by rw [ha'];exact fun wq hq=>hq.arm A4 c4 o.pl (Kd.C_below G4.out hq.below) L4.out);have HQ:=aM (show ∀ wq,qbT w0 wq gd a→Calls Tryz.prog 68 #[cp gd,.slice A4 o.pl.length c4] wq (fun e w'=>e=.returned (.int .i64 (qqY a o.pl).1)∧qbT w0 w' gd a'∧qaP wq w') by rw [ha'];exact fun wq hq=>hq.arm A4 c4 o.pl (Kd.C_below G4.out hq.below) L4.out);clear h5 ha'
  go_upto_region 12 with (fail)
  refine RelS.relS [(0,58,.inl ?r4v0),(1,59,.inl ?r4v1),(2,60,.inl ?r4v2),(3,61,.inl ?r4v3),(4,62,.inl ?r4v4),(5,63,.inl ?r4v5),(6,64,.inl ?r4v6),(7,65,.inl ?r4v7),(8,66,.inl ?r4v8),(9,6,.inl ?r4v9)] [3,7] (qxB w0 W1 gc gd a a') (fun _ _=>True) (by rfl) rfl (by kernel_rfl) (by decide) (by decide) ?r4S (Rel.stable_inl (Rel.stable_inl (Rel.stable_inl (Rel.stable_inl (Rel.stable_inl (Rel.stable_inl (Rel.stable_inl (Rel.stable_inl (Rel.stable_inl (Rel.stable_inl Rel.stable_nil)))))))))) ?r4steps ?r4okv ?r4hlt ?r4fin;case r4S=>exact ⟨H1.out.grow (qaW (Below.refl _ _)),H2.out.grow (qaW (Below.refl _ _)),KK.of_below (qaW (Below.refl _ _))⟩
  case r4steps =>
   refine RelS.fromS_some 0 rfl rfl (fun s a wq hlo hhi hS hK K hC=>?_) ?_
   ·refine Reg.sO ?_;clear hlo hhi;have e0:=hK.off 0 _ rfl rfl;clear hK;go_simp;exact hC _ hS trivial
   refine RelS.fromS_some 1 rfl rfl (fun s a wq hlo hhi hS hK K hC=>?_) ?_
   ·refine Reg.sO ?_;clear hlo hhi;have e5:=hK.off 5 _ rfl rfl;clear hK;go_simp;exact hC _ hS trivial
   refine RelS.fromS_some 2 rfl rfl (fun s a wq hlo hhi hS hK K hC=>?_) ?_
   ·refine Reg.sO ?_;clear hlo hhi;have e59:=hK.sl 1 rfl;have zz:=jC (hS.kk _ _ _ _ (by decide) (by decide) (by decide) (by decide) (by decide) (by decide) HO.out) 4;clear hK;go_simp;exact hC _ hS trivial
   refine RelS.fromS_some 3 rfl rfl (fun s a wq hlo hhi hS hK K hC=>?_) ?_
   ·refine Reg.sO ?_;obtain rfl:s=0:=Nat.le_antisymm (Nat.le_trans hhi (Nat.le_of_eq (by kernel_rfl))) (Nat.le_trans (Nat.le_of_eq (by kernel_rfl)) hlo);clear hlo hhi;have e58:=hK.sl 0 rfl;have e60:=hK.sl 2 rfl;clear hK;go_simp;obtain ⟨s1,s2,s3⟩:=hS;go_at_call 44;(with_reducible refine (HP.out wq s1).mono ?_);rintro e w' ⟨rfl,h2,hk⟩;exact hC _ ⟨h2,s2.kept hk h2.below,s3.trans (KK.of_keeps hk)⟩ trivial
   refine RelS.fromS_some 4 rfl rfl (fun s a wq hlo hhi hS hK K hC=>?_) ?_
   ·refine Reg.sO ?_;clear hlo hhi;have e1:=hK.off 1 _ rfl rfl;clear hK;go_simp;exact hC _ hS trivial
   refine RelS.fromS_some 5 rfl rfl (fun s a wq hlo hhi hS hK K hC=>?_) ?_
   ·refine Reg.sO ?_;clear hlo hhi;have e5:=hK.off 5 _ rfl rfl;clear hK;go_simp;exact hC _ hS trivial
   refine RelS.fromS_some 6 rfl rfl (fun s a wq hlo hhi hS hK K hC=>?_) ?_
   ·refine Reg.sO ?_;clear hlo hhi;have e63:=hK.sl 5 rfl;have zz:=jC (hS.kk _ _ _ _ (by decide) (by decide) (by decide) (by decide) (by decide) (by decide) HO.out) 4;clear hK;go_simp;exact hC _ hS trivial
   refine RelS.fromS_some 7 rfl rfl (fun s a wq hlo hhi hS hK K hC=>?_) ?_
   ·refine Reg.sO ?_;obtain rfl:s=1:=Nat.le_antisymm (Nat.le_trans hhi (Nat.le_of_eq (by kernel_rfl))) (Nat.le_trans (Nat.le_of_eq (by kernel_rfl)) hlo);clear hlo hhi;have e62:=hK.sl 4 rfl;have e64:=hK.sl 6 rfl;clear hK;go_simp;obtain ⟨s1,s2,s3⟩:=hS;go_at_call 68;(with_reducible refine (HQ.out wq s2).mono ?_);rintro e w' ⟨rfl,h2,hk⟩;exact hC _ ⟨s1.kept hk h2.below,h2,s3.trans (KK.of_dkeeps hk)⟩ trivial
   refine RelS.fromS_some 8 rfl rfl (fun s a wq hlo hhi hS hK K hC=>?_) ?_
   ·refine Reg.sO ?_;clear hlo hhi;have e61:=hK.sl 3 rfl;have e65:=hK.sl 7 rfl;clear hK;go_simp;exact hC _ hS trivial
   refine RelS.fromS_some 9 rfl rfl (fun s a wq hlo hhi hS hK K hC=>?_) ?_
   ·refine Reg.sO ?_;clear hlo hhi;have e66:=hK.sl 8 rfl;clear hK;go_simp;exact hC _ hS trivial
   exact RelS.fromS_nil
  case r4okv=>rfl
  case r4hlt=>rfl
  case r4fin =>
   intro U wz hS hU;clear hU;simp only [Rel.inst,Nat.zero_add,Reg.putV,List.foldl_cons,List.foldl_nil,Act.put,List.setIfInBounds_toArray,List.set_cons_zero,List.set_cons_succ];have HS:=aM (show qxB w0 W1 gc gd a a' 2 wz from hS);clear hS;go_wp2;go_ret;rw [HE.out];exact ⟨by first|rfl|(simp;done),HS.out.1,HS.out.2.1,HKB.out.trans HS.out.2.2⟩
 have e5:(o.k==5)=false:=by simp [h5]
 have e5b:(o.k=5)=False:=eq_false h5;have HE:=aM (show qfI a o=a by unfold qfI;simp [h1,h2,h3,h4,h5]);clear h1 h2 h3 h4 h5;go_wp2;go_ret;rw [HE.out];exact ⟨rfl,H1.out,H2.out,HKB.out⟩
end
end Go.Proofs.YtdlimghdimkadaaGreatDoor.PAll

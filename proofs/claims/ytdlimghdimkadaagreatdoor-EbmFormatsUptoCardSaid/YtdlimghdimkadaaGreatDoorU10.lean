/- Part 10 of what the law EbmFormats rests on. -/
import Derived.Test.YtdlimghdimkadaaGreatDoorU9
import Derived.Test.YtdlimghdimkadaaGreatDoorU6
import Derived.Deep.RegionWith
set_option maxRecDepth 100000
set_option maxHeartbeats 32000000
set_option linter.unusedSimpArgs false
set_option linter.unusedVariables false
namespace Go.Proofs.YtdlimghdimkadaaGreatDoor.PAll
open Go Go.RowKit YtdlimghdimkadaaGreatDoorW.PrintWords YtdlimghdimkadaaGreatDoorW.PrintLast YtdlimghdimkadaaGreatDoorW.PrintMore
attribute [local go_sem] qdG qdE qdY qdX qcJ qcI qdF qdD
section
open Go.Shelf Plain
variable {w0 W W':World} {gm gc gl cl ge ce:Nat} {a a':AC} {m m':AM}
def qnS:Blk:=⟨0,0,0,0,0,false⟩
def AM.ok (m:AM):Prop:=∀ k,k < m.lebs.length→m.lebs.getD k 0 < m.l.length
def qcA (m:AM) (leb:Int):Blk × Bool:=if leb < 0∨m.lebs.length≤leb∨m.lebs.getD leb.toNat 0 < 0 then (qnS,false) else (m.l.getD (m.lebs.getD leb.toNat 0).toNat qnS,true)
def rst (W:World) (gr:Nat) (b:Blk):Nat→World→Prop
 | 0,w'=>Below W.heap.size W w'∧w'.heap[gr]?=some (.cells #[.int .i64 0,.int .i64 0,.int .i64 0,.int .i64 0,.int .u64 0,.bool false] 68 (0,0))
 | _+1,w'=>Below W.heap.size W w'∧w'.heap[gr]?=some (.cells #[.int .i64 b.f0,.int .i64 b.f1,.int .i64 b.f2,.int .i64 b.f3,.int .u64 b.f4,.bool b.f5] 68 (0,0))
theorem rst.below {gr:Nat} {b:Blk} {k:Nat} {w':World} (h:rst W gr b k w'):Below W.heap.size W w':=by
 cases k with
 | zero=>exact h.1
 | succ k=>exact h.1
theorem qoK (h:Man w0 W gm gc gl cl ge ce a m) (hok:m.ok) (leb:Int):Calls Tryz.prog 92 #[kp gm,.int .i64 leb] W fun x w'=>x=.returned (.tuple #[.agg (bC (qcA m leb).1),.bool (qcA m leb).2])∧Below W.heap.size W w':=by
 have HC:=aM h.c;have hu:=Tryz.underlying68
 by_cases h1:leb < 0
 ·have d0:decide (leb < 0)=true:=decide_eq_true h1;have d0n:(leb < 0)=True:=eq_true h1;have HE:=aM (show qcA m leb=(qnS,false) from if_pos (.inl h1));clear h h1 hok;go_enter Tryz.func92,Tryz.ntmps92
  go_upto_region 1 with (fail)
  generalize hW:W.alloc (.cells #[.int .i64 0,.int .i64 0,.int .i64 0,.int .i64 0,.int .u64 0,.bool false] 68)=W1;have HB1:=aM (show Below W.heap.size W W1 by rw [← hW];exact qaA (Below.refl _ _) _);have HR1:=aM (show W1.heap[W.heap.size]?=some (.cells #[.int .i64 0,.int .i64 0,.int .i64 0,.int .i64 0,.int .u64 0,.bool false] 68 (0,0)) by rw [← hW];exact qaM _ _ _);clear hW;have fr0:=qaE HR1.out 0;have fr1:=qaE HR1.out 1;have fr2:=qaE HR1.out 2;have fr3:=qaE HR1.out 3;have fr4:=qaE HR1.out 4;have fr5:=qaE HR1.out 5;have yr0:=Joins.cell_of_block HR1.out 0;have yr1:=Joins.cell_of_block HR1.out 1;have yr2:=Joins.cell_of_block HR1.out 2;have yr3:=Joins.cell_of_block HR1.out 3;have yr4:=Joins.cell_of_block HR1.out 4;have yr5:=Joins.cell_of_block HR1.out 5;go_wp2;refine bodyPost_ret (qbF rfl _ _ W.heap.size 68 #[.int .i64 0,.int .i64 0,.int .i64 0,.int .i64 0,.int .u64 0,.bool false] (0,0) _ rfl (qrC HR1.out _ _ _ _ _ _) Tryz.underlying68 rfl (by kernel_rfl)) rfl ?_;rw [HE.out];exact ⟨rfl,qbZ HB1.out (Nat.le_refl _) _ _ _ _ _ _⟩
 have d0:decide (leb < 0)=false:=decide_eq_false h1;have d0n:(leb < 0)=False:=eq_false h1
 by_cases h2:(m.lebs.length:Int)≤leb
 ·have d1:decide ((m.lebs.length:Int)≤leb)=true:=decide_eq_true h2;have d1n:((m.lebs.length:Int)≤leb)=True:=eq_true h2;have HE:=aM (show qcA m leb=(qnS,false) from if_pos (.inr (.inl h2)));clear h h1 h2 hok;go_enter Tryz.func92,Tryz.ntmps92
  go_upto_region 1 with (fail)
  generalize hW:W.alloc (.cells #[.int .i64 0,.int .i64 0,.int .i64 0,.int .i64 0,.int .u64 0,.bool false] 68)=W1;have hb1:Below W.heap.size W W1:=by rw [← hW];exact qaA (Below.refl _ _) _
  have HB1:=aM hb1;have HR1:=aM (show W1.heap[W.heap.size]?=some (.cells #[.int .i64 0,.int .i64 0,.int .i64 0,.int .i64 0,.int .u64 0,.bool false] 68 (0,0)) by rw [← hW];exact qaM _ _ _);have z6:W1.cell? ⟨gm,6,none⟩=some (.slice (some ⟨ge,0,none⟩) m.lebs.length ce):=Joins.cell_of_block (qaB HC.out hb1) 6;clear hW hb1;have fr0:=qaE HR1.out 0;have fr1:=qaE HR1.out 1;have fr2:=qaE HR1.out 2;have fr3:=qaE HR1.out 3;have fr4:=qaE HR1.out 4;have fr5:=qaE HR1.out 5;have yr0:=Joins.cell_of_block HR1.out 0;have yr1:=Joins.cell_of_block HR1.out 1;have yr2:=Joins.cell_of_block HR1.out 2;have yr3:=Joins.cell_of_block HR1.out 3;have yr4:=Joins.cell_of_block HR1.out 4;have yr5:=Joins.cell_of_block HR1.out 5;go_wp2;refine bodyPost_ret (qbF rfl _ _ W.heap.size 68 #[.int .i64 0,.int .i64 0,.int .i64 0,.int .i64 0,.int .u64 0,.bool false] (0,0) _ rfl (qrC HR1.out _ _ _ _ _ _) Tryz.underlying68 rfl (by kernel_rfl)) rfl ?_;rw [HE.out];exact ⟨rfl,qbZ HB1.out (Nat.le_refl _) _ _ _ _ _ _⟩
 have d1:decide ((m.lebs.length:Int)≤leb)=false:=decide_eq_false h2;have d1n:((m.lebs.length:Int)≤leb)=False:=eq_false h2
 obtain ⟨k,rfl⟩:∃ k:Nat,leb=(k:Int):=⟨leb.toNat,by omega⟩
 have hk:k < m.lebs.length:=by omega
 have hq:(k < m.lebs.length)=True:=eq_true hk;have hqi:((k:Int) < (m.lebs.length:Int))=True:=eq_true (by omega);have hqm:(m.lebs.length≤k)=False:=eq_false (by omega)
 obtain ⟨p,hp⟩:∃ p,p=m.lebs.getD k 0:=⟨_,rfl⟩
 have hpi:m.lebs[k]=p:=by rw [hp,List.getD_eq_getElem?_getD,List.getElem?_eq_getElem hk];rfl
 have HIR:=aM (fun (w:World) (hb:Below W.heap.size W w)=>(show w.cell? ⟨ge,k,none⟩=some (.int .i64 p) from by
  have:=qaH (h.b.cell k hk) hb;rw [hpi] at this
  exact this))
 have hpl:p < m.l.length:=by rw [hp];exact hok k hk
 by_cases h3:p < 0
 ·have d2:decide (p < 0)=true:=decide_eq_true h3;have d2n:(p < 0)=True:=eq_true h3;have HE:=aM (show qcA m (k:Int)=(qnS,false) from if_pos (.inr (.inr (by rw [Int.toNat_natCast,← hp];exact h3))));clear h h1 h2 h3 hok hp hpi hpl hk;go_enter Tryz.func92,Tryz.ntmps92
  go_upto_region 1 with (fail)
  generalize hW:W.alloc (.cells #[.int .i64 0,.int .i64 0,.int .i64 0,.int .i64 0,.int .u64 0,.bool false] 68)=W1;have hb1:Below W.heap.size W W1:=by rw [← hW];exact qaA (Below.refl _ _) _
  have HB1:=aM hb1;have HR1:=aM (show W1.heap[W.heap.size]?=some (.cells #[.int .i64 0,.int .i64 0,.int .i64 0,.int .i64 0,.int .u64 0,.bool false] 68 (0,0)) by rw [← hW];exact qaM _ _ _);have z6:W1.cell? ⟨gm,6,none⟩=some (.slice (some ⟨ge,0,none⟩) m.lebs.length ce):=Joins.cell_of_block (qaB HC.out hb1) 6;have zi:=HIR.out W1 hb1;clear hW hb1;have fr0:=qaE HR1.out 0;have fr1:=qaE HR1.out 1;have fr2:=qaE HR1.out 2;have fr3:=qaE HR1.out 3;have fr4:=qaE HR1.out 4;have fr5:=qaE HR1.out 5;have yr0:=Joins.cell_of_block HR1.out 0;have yr1:=Joins.cell_of_block HR1.out 1;have yr2:=Joins.cell_of_block HR1.out 2;have yr3:=Joins.cell_of_block HR1.out 3;have yr4:=Joins.cell_of_block HR1.out 4;have yr5:=Joins.cell_of_block HR1.out 5;go_wp2;refine bodyPost_ret (qbF rfl _ _ W.heap.size 68 #[.int .i64 0,.int .i64 0,.int .i64 0,.int .i64 0,.int .u64 0,.bool false] (0,0) _ rfl (qrC HR1.out _ _ _ _ _ _) Tryz.underlying68 rfl (by kernel_rfl)) rfl ?_;rw [HE.out];exact ⟨rfl,qbZ HB1.out (Nat.le_refl _) _ _ _ _ _ _⟩
 have d2:decide (p < 0)=false:=decide_eq_false h3;have d2n:(p < 0)=False:=eq_false h3
 obtain ⟨i,rfl⟩:∃ i:Nat,p=(i:Int):=⟨p.toNat,by omega⟩
 have hi:i < m.l.length:=by omega
 have hq2:(i < m.l.length)=True:=eq_true hi;have hqi2:((i:Int) < (m.l.length:Int))=True:=eq_true (by omega)
 obtain ⟨b,hb⟩:∃ b,b=m.l[i]:=⟨_,rfl⟩
 have HE:=aM (show qcA m (k:Int)=(b,true) by
  unfold qcA;rw [Int.toNat_natCast,← hp,if_neg (by omega),Int.toNat_natCast,List.getD_eq_getElem?_getD,List.getElem?_eq_getElem hi,hb]
  rfl)
 have HLR:=aM (fun (w:World) (hbw:Below W.heap.size W w)=>(show w.cell? ⟨gl,i*6,none⟩=some (.int .i64 b.f0)∧w.cell? ⟨gl,i*6+1,none⟩=some (.int .i64 b.f1)∧w.cell? ⟨gl,i*6+2,none⟩=some (.int .i64 b.f2)∧w.cell? ⟨gl,i*6+3,none⟩=some (.int .i64 b.f3)∧w.cell? ⟨gl,i*6+4,none⟩=some (.int .u64 b.f4)∧w.cell? ⟨gl,i*6+5,none⟩=some (.bool b.f5) from by
  obtain ⟨y0,y1,y2,y3,y4,y5⟩:=h.l.cell i hi;rw [hb]
  exact ⟨qaH y0 hbw,qaH y1 hbw,qaH y2 hbw,qaH y3 hbw,qaH y4 hbw,qaH y5 hbw⟩))
 clear h h1 h2 h3 hok hp hpi hpl hk hi hb;go_enter Tryz.func92,Tryz.ntmps92
 go_upto_region 1 with (fail)
 obtain ⟨gr,hgr⟩:∃ gr,gr=W.heap.size:=⟨_,rfl⟩
 generalize hW:W.alloc (.cells #[.int .i64 0,.int .i64 0,.int .i64 0,.int .i64 0,.int .u64 0,.bool false] 68)=W1;have hb1:Below W.heap.size W W1:=by rw [← hW];exact qaA (Below.refl _ _) _
 have HB1:=aM hb1;have HR1:=aM (show W1.heap[gr]?=some (.cells #[.int .i64 0,.int .i64 0,.int .i64 0,.int .i64 0,.int .u64 0,.bool false] 68 (0,0)) by rw [← hW,hgr];exact qaM _ _ _);have HC1:=aM (qaB HC.out hb1);have z6:W1.cell? ⟨gm,6,none⟩=some (.slice (some ⟨ge,0,none⟩) m.lebs.length ce):=Joins.cell_of_block HC1.out 6;have zi:=HIR.out W1 hb1;rw [← hgr];have HGE:=aM (Nat.le_of_eq hgr.symm);clear hW hb1 hgr
 go_upto_region 3 with (fail)
 clear z6 zi;refine RelS.relS [(0,32,.inl ?r1v0),(1,33,.inl ?r1v1),(2,34,.inl ?r1v2),(3,35,.inl ?r1v3),(4,36,.inl ?r1v4),(5,37,.inl ?r1v5),(6,38,.inl ?r1v6),(7,39,.inl ?r1v7),(8,40,.inl ?r1v8),(9,41,.inl ?r1v9),(10,42,.inl ?r1v10),(11,43,.inl ?r1v11),(12,44,.inl ?r1v12),(14,5,.inl ?r1v14)] [13] (rst W gr b) (fun _ _=>True) (by rfl) rfl (by kernel_rfl) (by decide) (by decide) ?r1S (Rel.stable_inl (Rel.stable_inl (Rel.stable_inl (Rel.stable_inl (Rel.stable_inl (Rel.stable_inl (Rel.stable_inl (Rel.stable_inl (Rel.stable_inl (Rel.stable_inl (Rel.stable_inl (Rel.stable_inl (Rel.stable_inl (Rel.stable_inl Rel.stable_nil)))))))))))))) ?r1steps ?r1okv ?r1hlt ?r1fin;case r1S=>exact ⟨qaO HB1.out,HR1.out⟩
 case r1steps =>
  refine RelS.fromS_some 0 rfl rfl (fun s a wq hlo hhi hS hK K hC=>?_) ?_
  ·refine Reg.sO ?_;clear hlo hhi;have e0:=hK.off 0 _ rfl rfl;clear hK;go_simp;exact hC _ hS trivial
  refine RelS.fromS_some 1 rfl rfl (fun s a wq hlo hhi hS hK K hC=>?_) ?_
  ·refine Reg.sO ?_;clear hlo hhi;have e32:=hK.sl 0 rfl;clear hK;go_simp;exact hC _ hS trivial
  refine RelS.fromS_some 2 rfl rfl (fun s a wq hlo hhi hS hK K hC=>?_) ?_
  ·refine Reg.sO ?_;clear hlo hhi;have e33:=hK.sl 1 rfl;clear hK;go_simp;exact hC _ hS trivial
  refine RelS.fromS_some 3 rfl rfl (fun s a wq hlo hhi hS hK K hC=>?_) ?_
  ·refine Reg.sO ?_;clear hlo hhi;have e34:=hK.sl 2 rfl;have zc:wq.cell? ⟨gm,5,none⟩=some (.slice (some ⟨gl,0,none⟩) m.l.length cl):=Joins.cell_of_block (qaB HC.out hS.below) 5;clear hK;go_simp;exact hC _ hS trivial
  refine RelS.fromS_some 4 rfl rfl (fun s a wq hlo hhi hS hK K hC=>?_) ?_
  ·refine Reg.sO ?_;clear hlo hhi;have e0:=hK.off 0 _ rfl rfl;clear hK;go_simp;exact hC _ hS trivial
  refine RelS.fromS_some 5 rfl rfl (fun s a wq hlo hhi hS hK K hC=>?_) ?_
  ·refine Reg.sO ?_;clear hlo hhi;have e36:=hK.sl 4 rfl;clear hK;go_simp;exact hC _ hS trivial
  refine RelS.fromS_some 6 rfl rfl (fun s a wq hlo hhi hS hK K hC=>?_) ?_
  ·refine Reg.sO ?_;clear hlo hhi;have e37:=hK.sl 5 rfl;clear hK;go_simp;exact hC _ hS trivial
  refine RelS.fromS_some 7 rfl rfl (fun s a wq hlo hhi hS hK K hC=>?_) ?_
  ·refine Reg.sO ?_;clear hlo hhi;have e38:=hK.sl 6 rfl;have zc:wq.cell? ⟨gm,6,none⟩=some (.slice (some ⟨ge,0,none⟩) m.lebs.length ce):=Joins.cell_of_block (qaB HC.out hS.below) 6;clear hK;go_simp;exact hC _ hS trivial
  refine RelS.fromS_some 8 rfl rfl (fun s a wq hlo hhi hS hK K hC=>?_) ?_
  ·refine Reg.sO ?_;clear hlo hhi;have e1:=hK.off 1 _ rfl rfl;clear hK;go_simp;exact hC _ hS trivial
  refine RelS.fromS_some 9 rfl rfl (fun s a wq hlo hhi hS hK K hC=>?_) ?_
  ·refine Reg.sO ?_;clear hlo hhi;have e39:=hK.sl 7 rfl;have e40:=hK.sl 8 rfl;clear hK;go_simp;exact hC _ hS trivial
  refine RelS.fromS_some 10 rfl rfl (fun s a wq hlo hhi hS hK K hC=>?_) ?_
  ·refine Reg.sO ?_;clear hlo hhi;have e41:=hK.sl 9 rfl;have zi:=HIR.out wq hS.below;clear hK;go_simp;exact hC _ hS trivial
  refine RelS.fromS_some 11 rfl rfl (fun s a wq hlo hhi hS hK K hC=>?_) ?_
  ·refine Reg.sO ?_;clear hlo hhi;have e35:=hK.sl 3 rfl;have e42:=hK.sl 10 rfl;clear hK;go_simp;exact hC _ hS trivial
  refine RelS.fromS_some 12 rfl rfl (fun s a wq hlo hhi hS hK K hC=>?_) ?_
  ·refine Reg.sO ?_;clear hlo hhi;have e43:=hK.sl 11 rfl;obtain ⟨z0,z1,z2,z3,z4,z5⟩:=HLR.out wq hS.below;clear hK;go_simp;exact hC _ hS trivial
  refine RelS.fromS_none rfl rfl (fun s a wq hlo hhi hS hK K hC=>?_) ?_
  ·refine Reg.sO ?_;obtain rfl:s=0:=Nat.le_antisymm (Nat.le_trans hhi (Nat.le_of_eq (by kernel_rfl))) (Nat.le_trans (Nat.le_of_eq (by kernel_rfl)) hlo);clear hlo hhi;have e4:=hK.off 4 _ rfl rfl;have e44:=hK.sl 12 rfl;obtain ⟨hb,hx⟩:=hS;have HBs:=aM hb;have HXs:=aM hx;have x0:=Joins.cell_of_block hx 0;have f0:=qaE hx 0;have x1:=Joins.cell_of_block hx 1;have f1:=qaE hx 1;have x2:=Joins.cell_of_block hx 2;have f2:=qaE hx 2;have x3:=Joins.cell_of_block hx 3;have f3:=qaE hx 3;have x4:=Joins.cell_of_block hx 4;have f4:=qaE hx 4;have x5:=Joins.cell_of_block hx 5;have f5:=qaE hx 5;clear hK hb hx;go_simp;exact hC _ ⟨qbZ HBs.out HGE.out _ _ _ _ _ _,qrC HXs.out _ _ _ _ _ _⟩ trivial
  refine RelS.fromS_some 13 rfl rfl (fun s a wq hlo hhi hS hK K hC=>?_) ?_
  ·refine Reg.sO ?_;clear hlo hhi;clear hK;go_simp;exact hC _ hS trivial
  exact RelS.fromS_nil
 case r1okv=>rfl
 case r1hlt=>rfl
 case r1fin =>
  intro U wz hS hU;clear hU;simp only [Rel.inst,Nat.zero_add,Reg.putV,List.foldl_cons,List.foldl_nil,Act.put,List.setIfInBounds_toArray,List.set_cons_zero,List.set_cons_succ];have hz:rst W gr b 1 wz:=hS;have HBZ:=aM hz.1;have HRZ:=aM hz.2;clear hS hz;go_wp2;refine bodyPost_ret (qbF rfl _ _ gr 68 #[.int .i64 b.f0,.int .i64 b.f1,.int .i64 b.f2,.int .i64 b.f3,.int .u64 b.f4,.bool b.f5] (0,0) _ rfl HRZ.out Tryz.underlying68 rfl (by kernel_rfl)) rfl ?_;rw [HE.out];exact ⟨rfl,HBZ.out⟩
theorem qeR (h:Man w0 W gm gc gl cl ge ce a m) (hok:m.ok) (leb:Int):Calls Tryz.prog 27 #[kp gm,.int .i64 leb] W fun x w'=>x=.returned (.int .i64 (qcA m leb).1.f3)∧Below W.heap.size W w':=by
 have HBK:=aM (qoK h hok leb);generalize qcA m leb=r at HBK ⊢;obtain ⟨b,is⟩:=r;simp only at HBK ⊢;clear h hok;go_enter Tryz.func27,Tryz.ntmps27
 go_upto_region 2 with (first|(go_at_call 92;(with_reducible refine HBK.out.mono ?_);rintro x w1 ⟨rfl,hb1⟩;have HB1:=aM hb1;clear hb1))
 generalize hW:w1.alloc (.cells (bC b) 68)=W2;have HB2:=aM (show Below W.heap.size W W2 by rw [← hW];exact qaA HB1.out _);have x3:=Joins.cell_of_block (show W2.heap[w1.heap.size]?=some (.cells (bC b) 68 (0,0)) by rw [← hW];exact qaM _ _ _) 3;clear hW;go_wp2;go_ret;exact ⟨rfl,HB2.out⟩
theorem qiS (h:Man w0 W gm gc gl cl ge ce a m) (hok:m.ok) (leb:Int):Calls Tryz.prog 34 #[kp gm,.int .i64 leb] W fun x w'=>x=.returned (.bool (qcA m leb).1.f5)∧Below W.heap.size W w':=by
 have HBK:=aM (qoK h hok leb);generalize qcA m leb=r at HBK ⊢;obtain ⟨b,is⟩:=r;simp only at HBK ⊢;clear h hok;go_enter Tryz.func34,Tryz.ntmps34
 go_upto_region 2 with (first|(go_at_call 92;(with_reducible refine HBK.out.mono ?_);rintro x w1 ⟨rfl,hb1⟩;have HB1:=aM hb1;clear hb1))
 generalize hW:w1.alloc (.cells (bC b) 68)=W2;have HB2:=aM (show Below W.heap.size W W2 by rw [← hW];exact qaA HB1.out _);have x5:=Joins.cell_of_block (show W2.heap[w1.heap.size]?=some (.cells (bC b) 68 (0,0)) by rw [← hW];exact qaM _ _ _) 5;clear hW;go_wp2;go_ret;exact ⟨rfl,HB2.out⟩
end
section
open Go.Shelf Plain
variable {w0 W W':World} {gm gc gl cl ge ce:Nat} {a a':AC} {m m':AM}
def qcY (s:List Nat) (w0 W:World) (A:Option Addr) (xss:List (List Int)):Prop:=xss.length≤1000∧∀ j,j < xss.length→∃ (ad:Addr) (Aj:Option Addr) (cj:Nat),A=some ad∧(xss.getD j []).length≤cj∧∀ w',Below w0.heap.size w0 w'→MK s W w'→w'.cell? (ad.add j)=some (.slice Aj (xss.getD j []).length cj)∧Kd.C kB w' Aj (xss.getD j []).length (xss.getD j [])
theorem qcY.nil (s:List Nat) (w0 W:World) (A:Option Addr):qcY s w0 W A []:=⟨Nat.zero_le _,fun j hj=>absurd hj (Nat.not_lt_zero j)⟩
theorem qcY.mono {s s':List Nat} {A:Option Addr} {xss:List (List Int)} (h:qcY s w0 W A xss) (hs:∀ x,x ∈ s'→x ∈ s):qcY s' w0 W A xss :=
 ⟨h.1,fun j hj=>by obtain ⟨ad,Aj,cj,h1,h2,h3⟩:=h.2 j hj;exact ⟨ad,Aj,cj,h1,h2,fun w' hb hk=>h3 w' hb (hk.mono hs)⟩⟩
theorem qcY.later {s:List Nat} {A:Option Addr} {xss:List (List Int)} (h:qcY s w0 W A xss) (hk:MK s W W'):qcY s w0 W' A xss :=
 ⟨h.1,fun j hj=>by obtain ⟨ad,Aj,cj,h1,h2,h3⟩:=h.2 j hj;exact ⟨ad,Aj,cj,h1,h2,fun w' hb hk2=>h3 w' hb (hk.trans hk2)⟩⟩
def qcV (a:AC) (i:Nat):Nat→List (List Int)→Int × AC
 | _,[]=>(0,a)
 | p,x :: r=>if (qaZ a (i:Int) (p:Int) x).1=0 then qcV (qaZ a (i:Int) (p:Int) x).2 i (p+1) r else qaZ a (i:Int) (p:Int) x
def AM.next (m:AM):AM:={ m with seq:=IntKind.u64.wrap (m.seq+1) }
def qbM (a:AC) (m:AM) (i:Nat) (leb least:Int) (xss:List (List Int)):Int × AC × AM :=
 if ¬ (qaZ a (i:Int) 1 (qoL leb m.seq least a.g.Z).1).1=0 then ((qaZ a (i:Int) 1 (qoL leb m.seq least a.g.Z).1).1,(qaZ a (i:Int) 1 (qoL leb m.seq least a.g.Z).1).2,m.next.die (qaZ a (i:Int) 1 (qoL leb m.seq least a.g.Z).1).1)
 else if ¬ (qcV (qaZ a (i:Int) 1 (qoL leb m.seq least a.g.Z).1).2 i 2 xss).1=0 then ((qcV (qaZ a (i:Int) 1 (qoL leb m.seq least a.g.Z).1).2 i 2 xss).1,(qcV (qaZ a (i:Int) 1 (qoL leb m.seq least a.g.Z).1).2 i 2 xss).2,m.next.die (qcV (qaZ a (i:Int) 1 (qoL leb m.seq least a.g.Z).1).2 i 2 xss).1)
 else (0,(qcV (qaZ a (i:Int) 1 (qoL leb m.seq least a.g.Z).1).2 i 2 xss).2,m.next.put i ⟨4,(m.l.getD i default).f1,leb,xss.length,0,false⟩)
theorem qqN (h:Man w0 W gm gc gl cl ge ce a m) (i:Nat) (hi:i < a.g.B) (leb least:Int) (hs:0≤m.seq) (A:Option Addr) (c:Nat) (xss:List (List Int)) (hc:xss.length≤c) (hp:qcY [gm,gl] w0 W A xss) :
  Calls Tryz.prog 160 #[kp gm,.int .i64 i,.int .i64 leb,.int .i64 least,.slice A xss.length c] W fun x w'=>∃ v:Value,x=.returned v∧FV w' v (qbM a m i leb least xss).1∧Man w0 w' gm gc gl cl ge ce (qbM a m i leb least xss).2.1 (qbM a m i leb least xss).2.2∧MK [gm,gl] W w':=by
 have HMP:=aM (fun (w:World)=>qsZ leb m.seq least a.g.Z hs w);generalize hmp:qoL leb m.seq least a.g.Z=mp at HMP;obtain ⟨hl,he⟩:=mp;simp only at HMP;have H:=aM h;have c7:W.cell? ⟨gm,7,none⟩=some (.int .u64 m.seq):=h.cell 7;have c3:W.cell? ⟨gm,3,none⟩=some (.int .i64 a.g.Z):=h.cell 3;clear h;go_enter Tryz.func160,Tryz.ntmps160
 go_upto_region 1 with (fail)
 go_cut [11,12] (fun v11 v12 wx=>v12=.int .i64 he∧∃ (A1:Option Addr) (c1:Nat),v11=.slice A1 hl.length c1∧qaJ (Kd.R kB 5 wx W.heap.size (fun _=>True) (.slice A1 hl.length c1) hl)∧qaJ (Below W.heap.size W wx))
 case first =>
  go_region_with (first
   | (go_at_call 169;refine (HMP.out _).mono ?_;rintro x w1 ⟨v1,rfl,hr1,hb1⟩;obtain ⟨A1,c1,e1⟩:=Kd.R_slice hr1;subst e1;have HR1:=aM hr1;have HB1:=aM hb1;clear hr1 hb1))
  all_goals go_wp2
  all_goals go_meet
  all_goals first|exact ⟨rfl,_,_,rfl,HR1,HB1⟩|exact ⟨rfl,_,_,rfl,HR1,⟨qaC (qaO (Below.refl _ _)) HB1.out⟩⟩
 case rest =>
 obtain ⟨rfl,A1,c1,rfl,HR1,HB1⟩:=hcut;generalize wc=w1 at HR1 HB1 ⊢;have H1:=aM (H.out.grow HB1.out);have y7:w1.cell? ⟨gm,7,none⟩=some (.int .u64 m.seq):=H1.out.cell 7;have f7:=qaE H1.out.c 7;clear c7 c3
 go_upto_region 3 with (fail)
 generalize hW:w1.setCell ⟨gm,7,none⟩ (.int .u64 (IntKind.u64.wrap (m.seq+1)))=W2;have H2:=aM (show Man w0 W2 gm gc gl cl ge ce a m.next by rw [← hW];exact H1.out.setM 7 _ rfl rfl rfl);have HK2:=aM (show MK [gm,gl] W W2 by rw [← hW];exact (MK.of_below HB1.out).set H1.out.c (.inl rfl) 7 _);have HR2:=aM (show Kd.R kB 5 W2 W.heap.size (fun _=>True) (.slice A1 hl.length c1) hl by rw [← hW];exact Kd.R_set HR1.out H1.out.c (by decide) _ _);clear hW y7 f7;have y0:W2.cell? ⟨gm,0,none⟩=some (cp gc):=H2.out.cell 0;have HP2:=aM (H2.out.chip.program (i:Int) 1 A1 c1 hl (fun w' hb hk=>qxO hk HR2.out) (Kd.R_reads' HR2.out).2.1);have HG2:=aM (qeP a (i:Int) 1 hl);have HF:=aM (show qbM a m i leb least xss=if ¬ (qaZ a (i:Int) 1 hl).1=0 then ((qaZ a (i:Int) 1 hl).1,(qaZ a (i:Int) 1 hl).2,m.next.die (qaZ a (i:Int) 1 hl).1) else if ¬ (qcV (qaZ a (i:Int) 1 hl).2 i 2 xss).1=0 then ((qcV (qaZ a (i:Int) 1 hl).2 i 2 xss).1,(qcV (qaZ a (i:Int) 1 hl).2 i 2 xss).2,m.next.die (qcV (qaZ a (i:Int) 1 hl).2 i 2 xss).1) else (0,(qcV (qaZ a (i:Int) 1 hl).2 i 2 xss).2,m.next.put i ⟨4,(m.l.getD i default).f1,leb,xss.length,0,false⟩) by unfold qbM;rw [hmp]);generalize qaZ a (i:Int) 1 hl=q at HP2 HG2 HF;obtain ⟨e1,a1⟩:=q;simp only at HP2 HG2 HF;clear hmp
 go_upto_region 4 with (first
  | (go_at_call 58;(with_reducible refine HP2.out.mono ?_);rintro x w3 ⟨rfl,hc3,hk3⟩;have H3:=aM (H2.out.onChip hc3 hk3 HG2.out);have HK3:=aM (HK2.out.trans (MK.of_keeps hk3));clear hc3 hk3)
  | (go_at_call 131;(with_reducible refine (qgL H3.out (i:Int) e1).mono ?_);rintro x w4 ⟨v4,rfl,hv,h4,hk4⟩;have HV:=aM hv;have H4:=aM h4;have HK4:=aM (HK3.out.trans hk4);clear hv h4 hk4))
 clear y0
 by_cases h0:¬ e1=0
 ·have HE:=aM (HF.out.trans (if_pos h0))
  rcases HV.out with ⟨h9,-⟩|⟨-,g,b,rfl,hf⟩
  ·exact absurd h9 h0
  clear h0 hf;go_wp2;go_ret;rw [HE.out];exact ⟨_,rfl,HV.out,H4.out,HK4.out⟩
 have h0':e1=0:=Decidable.not_not.1 h0;subst h0'
 rcases HV.out.symm with ⟨h9,-⟩|⟨-,rfl⟩
 ·exact absurd rfl h9
 have HF2:=aM (HF.out.trans (if_neg h0));rw [qgZ m.next (show (0:Int) ≠ 6 by decide)] at H4;clear h0 HV HF;have HIB:=aM hi;have HXB:=aM hp;have HXC:=aM hp.1;clear hi hp hs hc;have hmx:=HXC.out
 go_upto_region 7 with (fail)
 go_loopw [55] (fun v55 wr=>∃ (j:Nat) (aj:AC),j≤xss.length∧v55=.int .i64 j∧qaJ (qcV a1 i 2 xss=qcV aj i (2+j) (xss.drop j))∧qaJ (aj.g=a.g)∧qaJ (Man w0 wr gm gc gl cl ge ce aj m.next)∧qaJ (MK [gm,gl] W wr)) (fun j _=>xss.length - (intOf j).toNat);case atStart=>exact ⟨0,a1,Nat.zero_le _,rfl,⟨rfl⟩,HG2,H4,HK4⟩
 case round =>
  clear H4 HK4;obtain ⟨j,aj,hj,rfl,HPJ,HGJ,HMJ,HKJ⟩:=hrel
  by_cases hlt:j < xss.length
  ·have d0:decide ((j:Int) < (xss.length:Int))=true:=decide_eq_true (by omega);have hq:(j < xss.length)=True:=eq_true hlt;have hqi:((j:Int) < (xss.length:Int))=True:=eq_true (by omega);have hwj:wrap64 ((j:Int)+2)=(j:Int)+2:=by unfold wrap64;omega
   obtain ⟨ad,Aj,cj,eA,lj,hat⟩:=HXB.out.2 j hlt;subst eA;have hdr:xss.drop j=xss.getD j [] :: xss.drop (j+1):=by rw [List.getD_eq_getElem?_getD,List.getElem?_eq_getElem hlt,List.drop_eq_getElem_cons hlt];rfl
   generalize xss.getD j []=l at lj hat hdr;have z0:=(hat wr HMJ.out.chip.below HKJ.out).1;have HPj:=aM (HMJ.out.chip.program (i:Int) ((j:Int)+2) Aj cj l (fun w' hb hk=>(hat w' hb (HKJ.out.trans (MK.of_keeps hk))).2) lj);have HGj:=aM ((qeP aj (i:Int) ((j:Int)+2) l).trans HGJ.out);have HGj2:=aM (qeP aj (i:Int) ((j:Int)+2) l)
   have HPS:=aM (show qcV a1 i 2 xss=if (qaZ aj (i:Int) ((j:Int)+2) l).1=0 then qcV (qaZ aj (i:Int) ((j:Int)+2) l).2 i (2+(j+1)) (xss.drop (j+1)) else qaZ aj (i:Int) ((j:Int)+2) l by
    rw [HPJ.out,hdr];show (if (qaZ aj (i:Int) ((2+j:Nat):Int) l).1=0 then _ else _)=_;rw [show ((2+j:Nat):Int)=(j:Int)+2 by omega]
    rfl)
   generalize qaZ aj (i:Int) ((j:Int)+2) l=q2 at HPj HGj HGj2 HPS;obtain ⟨e2,a2⟩:=q2;simp only at HPj HGj HGj2 HPS;have y0:wr.cell? ⟨gm,0,none⟩=some (cp gc):=HMJ.out.cell 0;have HLT:=aM hlt;clear hat hdr lj hj
   by_cases h2:e2=0
   ·subst h2;have HPN:=aM (HPS.out.trans (if_pos rfl))
    go_wp2_with (first
     | (go_at_call 58;(with_reducible refine HPj.out.mono ?_);rintro x w5 ⟨rfl,hc5,hk5⟩;have H5:=aM (HMJ.out.onChip hc5 hk5 HGj2.out);have HK5:=aM (HKJ.out.trans (MK.of_keeps hk5));clear hc5 hk5)
     | (go_at_call 131;(with_reducible refine (qgL H5.out (i:Int) 0).mono ?_);rintro x w6 ⟨v6,rfl,hv,h6,hk6⟩;(rcases hv.symm with ⟨h9,-⟩|⟨-,rfl⟩;exact absurd rfl h9);rw [qgZ m.next (show (0:Int) ≠ 6 by decide)] at h6;have H6:=aM h6;have HK6:=aM (HK5.out.trans hk6);clear h6 hk6))
    go_roundw;case rel=>exact ⟨j+1,a2,HLT.out,by push_cast;rfl,HPN,HGj,H6,HK6⟩
    case measure=>have:=HLT.out;simp [intOf];omega
   ·have HPN:=aM (HPS.out.trans (if_neg h2));have HE:=aM (HF2.out.trans (if_pos (by rw [HPN.out];exact h2)));have HN2:=aM h2;rw [HPN.out] at HE;clear h2
    go_upto_region 10 with (first
     | (go_at_call 58;(with_reducible refine HPj.out.mono ?_);rintro x w5 ⟨rfl,hc5,hk5⟩;have H5:=aM (HMJ.out.onChip hc5 hk5 HGj2.out);have HK5:=aM (HKJ.out.trans (MK.of_keeps hk5));clear hc5 hk5)
     | (go_at_call 131;(with_reducible refine (qgL H5.out (i:Int) e2).mono ?_);rintro x w6 ⟨v6,rfl,hv,h6,hk6⟩;have HV6:=aM hv;have H6:=aM h6;have HK6:=aM (HK5.out.trans hk6);clear h6 hk6 hv))
    rcases HV6.out with ⟨h9,-⟩|⟨-,g,b,rfl,hf⟩
    ·exact absurd h9 HN2.out
    clear hf;go_wp2;go_ret;rw [HE.out];exact ⟨_,rfl,HV6.out,H6.out,HK6.out⟩
  ·obtain rfl:j=xss.length:=by omega
   have d0:decide ((xss.length:Int) < (xss.length:Int))=false:=decide_eq_false (by omega);have hpe:qcV a1 i 2 xss=(0,aj):=by rw [HPJ.out,List.drop_length];rfl
   have HE:=aM (HF2.out.trans (if_neg (by rw [hpe];exact fun h=>h rfl)));rw [hpe] at HE;have HII:=aM (show i < m.next.l.length by rw [HMJ.out.ln,HGJ.out];exact HIB.out);have HLN:=aM (show m.next.l=m.l from rfl)
   obtain ⟨f,hf⟩:∃ f,f=(m.l.getD i default).f1:=⟨_,rfl⟩
   rw [← hf] at HE;have hml:i < m.l.length:=HII.out;have hfl:(m.l[i]'hml).f1=f:=by rw [hf,qbO hml]
   obtain ⟨z0,z1,z2,z3,z4,z5⟩:=HMJ.out.l.cell i HII.out;replace z1:wr.cell? ⟨gl,i*6+1,none⟩=some (.int .i64 f):=by rw [← hfl];exact z1
   have f0:=HMJ.out.l.frozen (i*6);have f1:=HMJ.out.l.frozen (i*6+1);have f2:=HMJ.out.l.frozen (i*6+2);have f3:=HMJ.out.l.frozen (i*6+3);have f4:=HMJ.out.l.frozen (i*6+4);have f5:=HMJ.out.l.frozen (i*6+5);have y5:wr.cell? ⟨gm,5,none⟩=some (.slice (some ⟨gl,0,none⟩) m.next.l.length cl):=HMJ.out.cell 5;have hq:(i < m.next.l.length)=True:=eq_true HII.out;have hqi:((i:Int) < (m.next.l.length:Int))=True:=eq_true (by have:=HII.out;omega);have hu:=Tryz.underlying68;have HNW:=aM (HMJ.out.setL i HII.out ⟨4,f,leb,xss.length,0,false⟩);have HNK:=aM (by obtain ⟨cells,hg,-⟩:=HMJ.out.l;exact HKJ.out.setB hg i ⟨4,f,leb,xss.length,0,false⟩);clear hpe hj hlt hf hfl hml
   go_upto_region 13 with (fail)
   go_cut [] (fun wx=>qaJ (Man w0 wx gm gc gl cl ge ce aj (m.next.put i ⟨4,f,leb,xss.length,0,false⟩))∧qaJ (MK [gm,gl] W wx))
   case first =>
    go_region
    all_goals (try go_wp2)
    all_goals go_meet
    all_goals exact ⟨⟨HNW.out.grow (qaO (Below.refl _ _))⟩,⟨HNK.out.trans (MK.of_below (qaO (Below.refl _ _)))⟩⟩
   case rest =>
   obtain ⟨HA,HB⟩:=hcut;clear z0 z1 z2 z3 z4 z5 f0 f1 f2 f3 f4 f5 y5;go_wp2;go_ret;rw [HE.out];exact ⟨_,rfl,.inl ⟨rfl,rfl⟩,HA.out,HB.out⟩
end
section
open Go.Shelf Plain
variable {w0 W W':World} {gm gc gl cl ge ce:Nat} {a a':AC} {m m':AM}
theorem qkM (xs:List Blk):∀ k,k≤xs.length→qbR (fil xs 2 k)=-1∨∃ i,i < k∧qbR (fil xs 2 k)=(i:Int)∧(xs.getD i default).f0=2
 | 0,_=>.inl rfl
 | k+1,h=>by
  rw [qkL xs k (by omega)];unfold qrN
  split
  ·rename_i hc
   exact .inr ⟨k,by omega,rfl,hc.1⟩
  ·rcases qkM xs k (by omega) with e|⟨i,hi,e,h2⟩
   ·exact .inl e
   ·exact .inr ⟨i,by omega,e,h2⟩
theorem qhI (xs:List Blk):qgH xs=-1∨∃ i,i < xs.length∧qgH xs=(i:Int)∧(xs.getD i default).f0=2:=qkM xs xs.length (Nat.le_refl _)
def qbX:List Blk→Nat
 | []=>0
 | b :: r=>(if b.f0=2 then 1 else 0)+qbX r
theorem qiF:∀ (xs:List Blk) (i:Nat) (b:Blk),i < xs.length→(xs.getD i default).f0=2→¬ b.f0=2→qbX (xs.set i b)+1=qbX xs
 | [],i,b,h,_,_=>absurd h (Nat.not_lt_zero i)
 | x :: r,0,b,_,h2,hb=>by
  have hx:x.f0=2:=h2;show (if b.f0=2 then 1 else 0)+qbX r+1=(if x.f0=2 then 1 else 0)+qbX r;rw [if_neg hb,if_pos hx];omega
 | x :: r,i+1,b,h,h2,hb=>by
  have ih:=qiF r i b (by simpa using h) (by simpa using h2) hb;show (if x.f0=2 then 1 else 0)+qbX (r.set i b)+1=(if x.f0=2 then 1 else 0)+qbX r;omega
theorem qwM (a:AC) (m:AM) (i:Nat) (leb least:Int) (xss:List (List Int)) (h:¬ (qbM a m i leb least xss).1=0):(qbM a m i leb least xss).2.2.l=m.l:=by
 unfold qbM at h ⊢
 split
 ·rfl
 split
 ·rfl
 ·rename_i h1 h2
  rw [if_neg h1,if_neg h2] at h;exact absurd rfl h
theorem qoV (a:AC) (m:AM) (i:Nat) (leb least:Int) (xss:List (List Int)):(qbM a m i leb least xss).2.1.g=a.g:=by
 have key:∀ (xss:List (List Int)) (b:AC) (p:Nat),(qcV b i p xss).2.g=b.g:=by
  intro xss
  induction xss with
  | nil=>intro b p;rfl
  | cons x r ih =>
   intro b p;unfold qcV
   split
   ·rw [ih,qeP]
   ·exact qeP _ _ _ _
 unfold qbM
 split
 ·exact qeP _ _ _ _
 split
 ·show (qcV _ i 2 xss).2.g=a.g;rw [key,qeP]
 ·show (qcV _ i 2 xss).2.g=a.g;rw [key,qeP]
theorem vbA (n:Int):0≤IntKind.u64.wrap n:=by
 unfold IntKind.wrap;simp [IntKind.bits,IntKind.signed];omega
theorem qnK (a:AC) (m:AM) (i:Nat) (leb least:Int) (xss:List (List Int)):0≤(qbM a m i leb least xss).2.2.seq:=by
 have h:=vbA (m.seq+1);unfold qbM
 split
 ·exact h
 split <;> exact h
def qaV (pk:Bool→AM→Int) (pg:AC→AM→List (List Int)) (leb least:Int):Nat→Bool→AC→AM→Int × Int × AC × AM
 | 0,_,a,m=>(-1,30,a,m)
 | n+1,st,a,m=>if pk st m < 0 then (-1,30,a,m)
  else if (qbM a m (pk st m).toNat leb least (pg a m)).1=5 then qaV pk pg leb least n false (qeW (qbM a m (pk st m).toNat leb least (pg a m)).2.1 (pk st m)).2 ((qbM a m (pk st m).toNat leb least (pg a m)).2.2.put (pk st m).toNat qmJ)
  else (pk st m,(qbM a m (pk st m).toNat leb least (pg a m)).1,(qbM a m (pk st m).toNat leb least (pg a m)).2.1,(qbM a m (pk st m).toNat leb least (pg a m)).2.2)
abbrev fnV (f:Nat) (caps free:Array Value):Value:=.func (.func f) caps free
theorem qsY (W:World):Calls Tryz.prog 138 #[] W fun x w'=>x=.returned (.tuple #[.slice none 0 0,.nilIface])∧Below W.heap.size W w':=by
 go_enter Tryz.func138,Tryz.ntmps138;go_wp2;go_ret2;exact ⟨rfl,Below.refl _ _⟩
theorem qjV (W:World):Calls Tryz.prog 159 #[] W fun x w'=>x=.returned (eno 30)∧Below W.heap.size W w':=by
 go_enter Tryz.func159,Tryz.ntmps159;go_wp2;go_ret;exact ⟨rfl,Below.refl _ _⟩
theorem vbQ (h:Man w0 W gm gc gl cl ge ce a m) (s:List Nat) (hs1:gm ∈ s) (hs2:gl ∈ s) (leb least:Int) (hs:0≤m.seq) (n:Nat) (hn:qbX m.l < n)
  (pk:Bool→AM→Int) (pg:AC→AM→List (List Int)) (I:Bool→AC→AM→Prop) (X:Bool→World→Prop)
  (hI:I true a m) (hX0:X true W) (hX:∀ st w w',X st w→MK [gm,gl] w w'→X st w')
  (hfree:∀ st b o,I st b o→pk st o=-1∨∃ i:Nat,i < o.l.length∧pk st o=(i:Int)∧(o.l.getD i default).f0=2)
  (hpick:∀ st w b o,Man w0 w gm gc gl cl ge ce b o→I st b o→X st w→Calls Tryz.prog 95 #[kp gm] w fun x w'=>x=.returned (.int .i64 (pk st o))∧Man w0 w' gm gc gl cl ge ce b o∧X false w'∧MK s w w')
  (hpages:∀ st w b o,Man w0 w gm gc gl cl ge ce b o→I st b o→X false w→Calls Tryz.prog 138 #[] w fun x w'=>∃ (A:Option Addr) (c:Nat),x=.returned (.tuple #[.slice A (pg b o).length c,.nilIface])∧(pg b o).length≤c∧qcY [gm,gl] w0 w' A (pg b o)∧Man w0 w' gm gc gl cl ge ce b o∧MK [gm,gl] w w')
  (hstep:∀ st b o (i:Nat),I st b o→i < o.l.length→pk st o=(i:Int)→(o.l.getD i default).f0=2→(qbM b o i leb least (pg b o)).1=5→I false (qeW (qbM b o i leb least (pg b o)).2.1 (i:Int)).2 ((qbM b o i leb least (pg b o)).2.2.put i qmJ)) :
  Calls Tryz.prog 137 #[kp gm,.int .i64 leb,.int .i64 least,fnV 138 #[] #[],fnV 95 #[kp gm] #[]] W fun x w'=>∃ v:Value,x=.returned (.tuple #[.int .i64 (qaV pk pg leb least n true a m).1,v])∧EV w' v (qaV pk pg leb least n true a m).2.1∧Man w0 w' gm gc gl cl ge ce (qaV pk pg leb least n true a m).2.2.1 (qaV pk pg leb least n true a m).2.2.2∧MK s W w':=by
 have H:=aM h;have HS:=aM hs;have HN:=aM hn;have HSS:=aM (show ∀ x,x ∈ [gm,gl]→x ∈ s from fun x hx=>by rcases List.mem_cons.1 hx with rfl|hx;exact hs1;rcases List.mem_cons.1 hx with rfl|hx;exact hs2;cases hx);have HI0:=aM hI;have HX0:=aM hX0;have HXX:=aM hX;have HFR:=aM hfree;have HPK:=aM hpick;have HPGS:=aM hpages;have HST:=aM hstep;clear h hs hn hs1 hs2 hI hX0 hX hfree hpick hpages hstep;go_enter Tryz.func137,Tryz.ntmps137
 go_upto_region 1 with (fail)
 go_loopg [] n (fun kq wr=>∃ (st:Bool) (b:AC) (o:AM),qaJ (qaV pk pg leb least n true a m=qaV pk pg leb least kq st b o)∧qaJ (Man w0 wr gm gc gl cl ge ce b o)∧qaJ (0≤o.seq)∧qaJ (qbX o.l < kq)∧qaJ (kq≤n)∧qaJ (MK s W wr)∧qaJ (I st b o)∧qaJ (X st wr));case atStart=>exact ⟨true,a,m,⟨rfl⟩,H,HS,HN,⟨Nat.le_refl _⟩,⟨MK.refl _ _⟩,HI0,HX0⟩
 case round =>
  clear HI0 HX0;obtain ⟨st,b,o,HP,HM,HQ,HF,HKN,HK,HI,HXW⟩:=hrel
  cases gk with
  | zero=>exact absurd HF.out (Nat.not_lt_zero _)
  | succ k1 =>
   have HLS:=aM (HPK.out st wr b o HM.out HI.out HXW.out)
   rcases HFR.out st b o HI.out with e|⟨i,hi,e,h2⟩
   ·have HE:=aM (show qaV pk pg leb least n true a m=(-1,30,b,o) by rw [HP.out];unfold qaV;rw [if_pos (by rw [e];decide)]);rw [e] at HLS;have d0:decide ((-1:Int) < 0)=true:=rfl;clear e
    go_wp2_with (first
     | (go_at_call 95;(with_reducible refine HLS.out.mono ?_);rintro x w1 ⟨rfl,hm,hx1,hk1⟩;have H1:=aM hm;have HK1:=aM (HK.out.trans hk1);clear hm hx1 hk1)
     | (go_at_call 159;(with_reducible refine (qjV _).mono ?_);rintro x w2 ⟨rfl,hb⟩;have HB2:=aM hb;clear hb))
    go_ret2;rw [HE.out];exact ⟨_,rfl,.inr ⟨(show (30:Int) ≠ 0 by decide),.inl rfl⟩,H1.out.grow HB2.out,HK1.out.trans (MK.of_below HB2.out)⟩
   ·rw [e] at HLS;have hib:i < b.g.B:=by have:=HM.out.ln;omega
    have d0:decide ((i:Int) < 0)=false:=decide_eq_false (by omega);have HPG:=aM (fun w hm hx=>HPGS.out st w b o hm HI.out hx);have HSI:=aM (HST.out st b o i HI.out hi e h2)
    have HPA:=aM (show qaV pk pg leb least n true a m=if (qbM b o i leb least (pg b o)).1=5 then qaV pk pg leb least k1 false (qeW (qbM b o i leb least (pg b o)).2.1 (i:Int)).2 ((qbM b o i leb least (pg b o)).2.2.put i qmJ) else ((i:Int),(qbM b o i leb least (pg b o)).1,(qbM b o i leb least (pg b o)).2.1,(qbM b o i leb least (pg b o)).2.2) by
     rw [HP.out];show (if pk st o < 0 then _ else _)=_
     rw [if_neg (by rw [e];omega),e,Int.toNat_natCast])
    generalize pg b o=xs at HPG HSI HPA;have HFI:=aM (show ∀ (w:World) (A:Option Addr) (c:Nat),xs.length≤c→qcY [gm,gl] w0 w A xs→Man w0 w gm gc gl cl ge ce b o→Calls Tryz.prog 160 #[kp gm,.int .i64 i,.int .i64 leb,.int .i64 least,.slice A xs.length c] w (fun x w'=>∃ v:Value,x=.returned v∧FV w' v (qbM b o i leb least xs).1∧Man w0 w' gm gc gl cl ge ce (qbM b o i leb least xs).2.1 (qbM b o i leb least xs).2.2∧MK [gm,gl] w w') from fun w A c hc hp hm=>qqN hm i hib leb least HQ.out A c xs hc hp);have HSQ:=aM (qnK b o i leb least xs);have HFL:=aM (qwM b o i leb least xs);have HFG:=aM (qoV b o i leb least xs);generalize qbM b o i leb least xs=r at HFI HSQ HFL HFG HPA HSI;obtain ⟨e1,b1,o1⟩:=r;simp only at HFI HSQ HFL HFG HPA HSI;have HII:=aM hi;have HIB:=aM (show i < b1.g.B by rw [HFG.out];exact hib);have H2:=aM h2;clear e h2 hi hib
    go_upto_region 7 with (first
     | (go_at_call 95;(with_reducible refine HLS.out.mono ?_);rintro x w1 ⟨rfl,hm,hx1,hk1⟩;have H1:=aM hm;have HX1:=aM hx1;have HK1:=aM (HK.out.trans hk1);clear hm hx1 hk1)
     | (go_at_call 138;(with_reducible refine (HPG.out _ H1.out HX1.out).mono ?_);rintro x w2 ⟨A2,c2,rfl,hc2,hp2,hm2,hk2⟩;have HC2:=aM hc2;have HP2:=aM hp2;have HM2:=aM hm2;have HX2:=aM (HXX.out _ _ _ HX1.out hk2);have HK2:=aM (HK1.out.trans (hk2.mono HSS.out));clear hc2 hp2 hm2 hk2)
     | (go_at_call 160;(with_reducible refine (HFI.out _ _ _ HC2.out HP2.out HM2.out).mono ?_);rintro x w3 ⟨v3,rfl,hv,h3,hk3⟩;have HV:=aM hv;have H3:=aM h3;have HX3:=aM (HXX.out _ _ _ HX2.out hk3);have HK3:=aM (HK2.out.trans (hk3.mono HSS.out));clear hv h3 hk3))
    have HIS:=aM (qeS HV.out.ev 5 (by decide))
    rcases HV.out with ⟨h9,rfl⟩|⟨h9,g,bb,rfl,hf⟩
    ·subst h9;have HE:=aM (HPA.out.trans (if_neg (by decide)));go_wp2;go_ret2;rw [HE.out];exact ⟨_,rfl,.inl ⟨rfl,rfl⟩,H3.out,HK3.out⟩
    ·have HN9:=aM h9;clear hf
     by_cases h5:e1=5
     ·subst h5;have HE:=aM (HPA.out.trans (if_pos rfl));rw [show ((5:Int)==5)=true from rfl] at HIS;clear h9
      go_wp2_with (first
       | (go_at_call 129;(with_reducible refine HIS.out.mono ?_);rintro x w4 ⟨rfl,hb⟩;have H4:=aM (H3.out.grow hb);have HX4:=aM (HXX.out _ _ _ HX3.out (MK.of_below hb));have HK4:=aM (HK3.out.trans (MK.of_below hb));clear hb)
       | (go_at_call 133;(with_reducible refine (qiB H4.out i HIB.out).mono ?_);rintro x w5 ⟨rfl,h5,hk5⟩;have H5:=aM h5;have HX5:=aM (HXX.out _ _ _ HX4.out hk5);have HK5:=aM (HK4.out.trans (hk5.mono HSS.out));clear h5 hk5))
      go_roundg k1;case measure=>have:=HKN.out;omega
      case rel =>
       have hl:=HFL.out (by decide);refine ⟨_,_,_,HE,H5,HSQ,⟨?_⟩,⟨by have:=HKN.out;omega⟩,HK5,⟨HSI.out (by trivial)⟩,HX5⟩;have h7:=qiF o.l i qmJ HII.out H2.out (by decide);have h8:=HF.out;show qbX (o1.l.set i qmJ) < k1;rw [hl];omega
     ·have HE:=aM (HPA.out.trans (if_neg h5));rw [show (e1==5)=false by simp only [beq_eq_false_iff_ne];exact h5] at HIS;clear h9 h5
      go_wp2_with (first
       | (go_at_call 129;(with_reducible refine HIS.out.mono ?_);rintro x w4 ⟨rfl,hb⟩;have HB4:=aM hb;clear hb))
      go_ret2;rw [HE.out];exact ⟨_,rfl,(HV.out.grow HB4.out).ev,H3.out.grow HB4.out,HK3.out.trans (MK.of_below HB4.out)⟩
theorem vbS (ap:Addr) (h:Man w0 W gm gc gl cl ge ce a m) (s:List Nat) (hs1:gm ∈ s) (hs2:gl ∈ s) (leb least:Int) (hs:0≤m.seq) (n:Nat) (hn:qbX m.l < n)
  (pk:Bool→AM→Int) (pg:AC→AM→List (List Int)) (I:Bool→AC→AM→Prop) (X:Bool→World→Prop)
  (hI:I true a m) (hX0:X true W) (hX:∀ st w w',X st w→MK [gm,gl] w w'→X st w')
  (hfree:∀ st b o,I st b o→pk st o=-1∨∃ i:Nat,i < o.l.length∧pk st o=(i:Int)∧(o.l.getD i default).f0=2)
  (hpick:∀ st w b o,Man w0 w gm gc gl cl ge ce b o→I st b o→X st w→Calls Tryz.prog 95 #[kp gm] w fun x w'=>x=.returned (.int .i64 (pk st o))∧Man w0 w' gm gc gl cl ge ce b o∧X false w'∧MK s w w')
  (hpages:∀ st w b o,Man w0 w gm gc gl cl ge ce b o→I st b o→X false w→Calls Tryz.prog 94 #[.pointer (some ap)] w fun x w'=>∃ (A:Option Addr) (c:Nat),x=.returned (.tuple #[.slice A (pg b o).length c,.nilIface])∧(pg b o).length≤c∧qcY [gm,gl] w0 w' A (pg b o)∧Man w0 w' gm gc gl cl ge ce b o∧MK [gm,gl] w w')
  (hstep:∀ st b o (i:Nat),I st b o→i < o.l.length→pk st o=(i:Int)→(o.l.getD i default).f0=2→(qbM b o i leb least (pg b o)).1=5→I false (qeW (qbM b o i leb least (pg b o)).2.1 (i:Int)).2 ((qbM b o i leb least (pg b o)).2.2.put i qmJ)) :
  Calls Tryz.prog 137 #[kp gm,.int .i64 leb,.int .i64 least,fnV 94 #[] #[.pointer (some ap)],fnV 95 #[kp gm] #[]] W fun x w'=>∃ v:Value,x=.returned (.tuple #[.int .i64 (qaV pk pg leb least n true a m).1,v])∧EV w' v (qaV pk pg leb least n true a m).2.1∧Man w0 w' gm gc gl cl ge ce (qaV pk pg leb least n true a m).2.2.1 (qaV pk pg leb least n true a m).2.2.2∧MK s W w':=by
 have H:=aM h;have HS:=aM hs;have HN:=aM hn;have HSS:=aM (show ∀ x,x ∈ [gm,gl]→x ∈ s from fun x hx=>by rcases List.mem_cons.1 hx with rfl|hx;exact hs1;rcases List.mem_cons.1 hx with rfl|hx;exact hs2;cases hx);have HI0:=aM hI;have HX0:=aM hX0;have HXX:=aM hX;have HFR:=aM hfree;have HPK:=aM hpick;have HPGS:=aM hpages;have HST:=aM hstep;clear h hs hn hs1 hs2 hI hX0 hX hfree hpick hpages hstep;go_enter Tryz.func137,Tryz.ntmps137
 go_upto_region 1 with (fail)
 go_loopg [] n (fun kq wr=>∃ (st:Bool) (b:AC) (o:AM),qaJ (qaV pk pg leb least n true a m=qaV pk pg leb least kq st b o)∧qaJ (Man w0 wr gm gc gl cl ge ce b o)∧qaJ (0≤o.seq)∧qaJ (qbX o.l < kq)∧qaJ (kq≤n)∧qaJ (MK s W wr)∧qaJ (I st b o)∧qaJ (X st wr));case atStart=>exact ⟨true,a,m,⟨rfl⟩,H,HS,HN,⟨Nat.le_refl _⟩,⟨MK.refl _ _⟩,HI0,HX0⟩
 case round =>
  clear HI0 HX0;obtain ⟨st,b,o,HP,HM,HQ,HF,HKN,HK,HI,HXW⟩:=hrel
  cases gk with
  | zero=>exact absurd HF.out (Nat.not_lt_zero _)
  | succ k1 =>
   have HLS:=aM (HPK.out st wr b o HM.out HI.out HXW.out)
   rcases HFR.out st b o HI.out with e|⟨i,hi,e,h2⟩
   ·have HE:=aM (show qaV pk pg leb least n true a m=(-1,30,b,o) by rw [HP.out];unfold qaV;rw [if_pos (by rw [e];decide)]);rw [e] at HLS;have d0:decide ((-1:Int) < 0)=true:=rfl;clear e
    go_wp2_with (first
     | (go_at_call 95;(with_reducible refine HLS.out.mono ?_);rintro x w1 ⟨rfl,hm,hx1,hk1⟩;have H1:=aM hm;have HK1:=aM (HK.out.trans hk1);clear hm hx1 hk1)
     | (go_at_call 159;(with_reducible refine (qjV _).mono ?_);rintro x w2 ⟨rfl,hb⟩;have HB2:=aM hb;clear hb))
    go_ret2;rw [HE.out];exact ⟨_,rfl,.inr ⟨(show (30:Int) ≠ 0 by decide),.inl rfl⟩,H1.out.grow HB2.out,HK1.out.trans (MK.of_below HB2.out)⟩
   ·rw [e] at HLS;have hib:i < b.g.B:=by have:=HM.out.ln;omega
    have d0:decide ((i:Int) < 0)=false:=decide_eq_false (by omega);have HPG:=aM (fun w hm hx=>HPGS.out st w b o hm HI.out hx);have HSI:=aM (HST.out st b o i HI.out hi e h2)
    have HPA:=aM (show qaV pk pg leb least n true a m=if (qbM b o i leb least (pg b o)).1=5 then qaV pk pg leb least k1 false (qeW (qbM b o i leb least (pg b o)).2.1 (i:Int)).2 ((qbM b o i leb least (pg b o)).2.2.put i qmJ) else ((i:Int),(qbM b o i leb least (pg b o)).1,(qbM b o i leb least (pg b o)).2.1,(qbM b o i leb least (pg b o)).2.2) by
     rw [HP.out];show (if pk st o < 0 then _ else _)=_
     rw [if_neg (by rw [e];omega),e,Int.toNat_natCast])
    generalize pg b o=xs at HPG HSI HPA;have HFI:=aM (show ∀ (w:World) (A:Option Addr) (c:Nat),xs.length≤c→qcY [gm,gl] w0 w A xs→Man w0 w gm gc gl cl ge ce b o→Calls Tryz.prog 160 #[kp gm,.int .i64 i,.int .i64 leb,.int .i64 least,.slice A xs.length c] w (fun x w'=>∃ v:Value,x=.returned v∧FV w' v (qbM b o i leb least xs).1∧Man w0 w' gm gc gl cl ge ce (qbM b o i leb least xs).2.1 (qbM b o i leb least xs).2.2∧MK [gm,gl] w w') from fun w A c hc hp hm=>qqN hm i hib leb least HQ.out A c xs hc hp);have HSQ:=aM (qnK b o i leb least xs);have HFL:=aM (qwM b o i leb least xs);have HFG:=aM (qoV b o i leb least xs);generalize qbM b o i leb least xs=r at HFI HSQ HFL HFG HPA HSI;obtain ⟨e1,b1,o1⟩:=r;simp only at HFI HSQ HFL HFG HPA HSI;have HII:=aM hi;have HIB:=aM (show i < b1.g.B by rw [HFG.out];exact hib);have H2:=aM h2;clear e h2 hi hib
    go_upto_region 7 with (first
     | (go_at_call 95;(with_reducible refine HLS.out.mono ?_);rintro x w1 ⟨rfl,hm,hx1,hk1⟩;have H1:=aM hm;have HX1:=aM hx1;have HK1:=aM (HK.out.trans hk1);clear hm hx1 hk1)
     | (go_at_call 94;(with_reducible refine (HPG.out _ H1.out HX1.out).mono ?_);rintro x w2 ⟨A2,c2,rfl,hc2,hp2,hm2,hk2⟩;have HC2:=aM hc2;have HP2:=aM hp2;have HM2:=aM hm2;have HX2:=aM (HXX.out _ _ _ HX1.out hk2);have HK2:=aM (HK1.out.trans (hk2.mono HSS.out));clear hc2 hp2 hm2 hk2)
     | (go_at_call 160;(with_reducible refine (HFI.out _ _ _ HC2.out HP2.out HM2.out).mono ?_);rintro x w3 ⟨v3,rfl,hv,h3,hk3⟩;have HV:=aM hv;have H3:=aM h3;have HX3:=aM (HXX.out _ _ _ HX2.out hk3);have HK3:=aM (HK2.out.trans (hk3.mono HSS.out));clear hv h3 hk3))
    have HIS:=aM (qeS HV.out.ev 5 (by decide))
    rcases HV.out with ⟨h9,rfl⟩|⟨h9,g,bb,rfl,hf⟩
    ·subst h9;have HE:=aM (HPA.out.trans (if_neg (by decide)));go_wp2;go_ret2;rw [HE.out];exact ⟨_,rfl,.inl ⟨rfl,rfl⟩,H3.out,HK3.out⟩
    ·have HN9:=aM h9;clear hf
     by_cases h5:e1=5
     ·subst h5;have HE:=aM (HPA.out.trans (if_pos rfl));rw [show ((5:Int)==5)=true from rfl] at HIS;clear h9
      go_wp2_with (first
       | (go_at_call 129;(with_reducible refine HIS.out.mono ?_);rintro x w4 ⟨rfl,hb⟩;have H4:=aM (H3.out.grow hb);have HX4:=aM (HXX.out _ _ _ HX3.out (MK.of_below hb));have HK4:=aM (HK3.out.trans (MK.of_below hb));clear hb)
       | (go_at_call 133;(with_reducible refine (qiB H4.out i HIB.out).mono ?_);rintro x w5 ⟨rfl,h5,hk5⟩;have H5:=aM h5;have HX5:=aM (HXX.out _ _ _ HX4.out hk5);have HK5:=aM (HK4.out.trans (hk5.mono HSS.out));clear h5 hk5))
      go_roundg k1;case measure=>have:=HKN.out;omega
      case rel =>
       have hl:=HFL.out (by decide);refine ⟨_,_,_,HE,H5,HSQ,⟨?_⟩,⟨by have:=HKN.out;omega⟩,HK5,⟨HSI.out (by trivial)⟩,HX5⟩;have h7:=qiF o.l i qmJ HII.out H2.out (by decide);have h8:=HF.out;show qbX (o1.l.set i qmJ) < k1;rw [hl];omega
     ·have HE:=aM (HPA.out.trans (if_neg h5));rw [show (e1==5)=false by simp only [beq_eq_false_iff_ne];exact h5] at HIS;clear h9 h5
      go_wp2_with (first
       | (go_at_call 129;(with_reducible refine HIS.out.mono ?_);rintro x w4 ⟨rfl,hb⟩;have HB4:=aM hb;clear hb))
      go_ret2;rw [HE.out];exact ⟨_,rfl,(HV.out.grow HB4.out).ev,H3.out.grow HB4.out,HK3.out.trans (MK.of_below HB4.out)⟩
theorem vbR (am al af at_:Addr) (h:Man w0 W gm gc gl cl ge ce a m) (s:List Nat) (hs1:gm ∈ s) (hs2:gl ∈ s) (leb least:Int) (hs:0≤m.seq) (n:Nat) (hn:qbX m.l < n)
  (pk:Bool→AM→Int) (pg:AC→AM→List (List Int)) (I:Bool→AC→AM→Prop) (X:Bool→World→Prop)
  (hI:I true a m) (hX0:X true W) (hX:∀ st w w',X st w→MK [gm,gl] w w'→X st w')
  (hfree:∀ st b o,I st b o→pk st o=-1∨∃ i:Nat,i < o.l.length∧pk st o=(i:Int)∧(o.l.getD i default).f0=2)
  (hpick:∀ st w b o,Man w0 w gm gc gl cl ge ce b o→I st b o→X st w→Calls Tryz.prog 102 #[.pointer (some af),.pointer (some at_),.pointer (some am)] w fun x w'=>x=.returned (.int .i64 (pk st o))∧Man w0 w' gm gc gl cl ge ce b o∧X false w'∧MK s w w')
  (hpages:∀ st w b o,Man w0 w gm gc gl cl ge ce b o→I st b o→X false w→Calls Tryz.prog 100 #[.pointer (some am),.pointer (some al)] w fun x w'=>∃ (A:Option Addr) (c:Nat),x=.returned (.tuple #[.slice A (pg b o).length c,.nilIface])∧(pg b o).length≤c∧qcY [gm,gl] w0 w' A (pg b o)∧Man w0 w' gm gc gl cl ge ce b o∧MK [gm,gl] w w')
  (hstep:∀ st b o (i:Nat),I st b o→i < o.l.length→pk st o=(i:Int)→(o.l.getD i default).f0=2→(qbM b o i leb least (pg b o)).1=5→I false (qeW (qbM b o i leb least (pg b o)).2.1 (i:Int)).2 ((qbM b o i leb least (pg b o)).2.2.put i qmJ)) :
  Calls Tryz.prog 137 #[kp gm,.int .i64 leb,.int .i64 least,fnV 100 #[] #[.pointer (some am),.pointer (some al)],fnV 102 #[] #[.pointer (some af),.pointer (some at_),.pointer (some am)]] W fun x w'=>∃ v:Value,x=.returned (.tuple #[.int .i64 (qaV pk pg leb least n true a m).1,v])∧EV w' v (qaV pk pg leb least n true a m).2.1∧Man w0 w' gm gc gl cl ge ce (qaV pk pg leb least n true a m).2.2.1 (qaV pk pg leb least n true a m).2.2.2∧MK s W w':=by
 have H:=aM h;have HS:=aM hs;have HN:=aM hn;have HSS:=aM (show ∀ x,x ∈ [gm,gl]→x ∈ s from fun x hx=>by rcases List.mem_cons.1 hx with rfl|hx;exact hs1;rcases List.mem_cons.1 hx with rfl|hx;exact hs2;cases hx);have HI0:=aM hI;have HX0:=aM hX0;have HXX:=aM hX;have HFR:=aM hfree;have HPK:=aM hpick;have HPGS:=aM hpages;have HST:=aM hstep;clear h hs hn hs1 hs2 hI hX0 hX hfree hpick hpages hstep;go_enter Tryz.func137,Tryz.ntmps137
 go_upto_region 1 with (fail)
 go_loopg [] n (fun kq wr=>∃ (st:Bool) (b:AC) (o:AM),qaJ (qaV pk pg leb least n true a m=qaV pk pg leb least kq st b o)∧qaJ (Man w0 wr gm gc gl cl ge ce b o)∧qaJ (0≤o.seq)∧qaJ (qbX o.l < kq)∧qaJ (kq≤n)∧qaJ (MK s W wr)∧qaJ (I st b o)∧qaJ (X st wr));case atStart=>exact ⟨true,a,m,⟨rfl⟩,H,HS,HN,⟨Nat.le_refl _⟩,⟨MK.refl _ _⟩,HI0,HX0⟩
 case round =>
  clear HI0 HX0;obtain ⟨st,b,o,HP,HM,HQ,HF,HKN,HK,HI,HXW⟩:=hrel
  cases gk with
  | zero=>exact absurd HF.out (Nat.not_lt_zero _)
  | succ k1 =>
   have HLS:=aM (HPK.out st wr b o HM.out HI.out HXW.out)
   rcases HFR.out st b o HI.out with e|⟨i,hi,e,h2⟩
   ·have HE:=aM (show qaV pk pg leb least n true a m=(-1,30,b,o) by rw [HP.out];unfold qaV;rw [if_pos (by rw [e];decide)]);rw [e] at HLS;have d0:decide ((-1:Int) < 0)=true:=rfl;clear e
    go_wp2_with (first
     | (go_at_call 102;(with_reducible refine HLS.out.mono ?_);rintro x w1 ⟨rfl,hm,hx1,hk1⟩;have H1:=aM hm;have HK1:=aM (HK.out.trans hk1);clear hm hx1 hk1)
     | (go_at_call 159;(with_reducible refine (qjV _).mono ?_);rintro x w2 ⟨rfl,hb⟩;have HB2:=aM hb;clear hb))
    go_ret2;rw [HE.out];exact ⟨_,rfl,.inr ⟨(show (30:Int) ≠ 0 by decide),.inl rfl⟩,H1.out.grow HB2.out,HK1.out.trans (MK.of_below HB2.out)⟩
   ·rw [e] at HLS;have hib:i < b.g.B:=by have:=HM.out.ln;omega
    have d0:decide ((i:Int) < 0)=false:=decide_eq_false (by omega);have HPG:=aM (fun w hm hx=>HPGS.out st w b o hm HI.out hx);have HSI:=aM (HST.out st b o i HI.out hi e h2)
    have HPA:=aM (show qaV pk pg leb least n true a m=if (qbM b o i leb least (pg b o)).1=5 then qaV pk pg leb least k1 false (qeW (qbM b o i leb least (pg b o)).2.1 (i:Int)).2 ((qbM b o i leb least (pg b o)).2.2.put i qmJ) else ((i:Int),(qbM b o i leb least (pg b o)).1,(qbM b o i leb least (pg b o)).2.1,(qbM b o i leb least (pg b o)).2.2) by
     rw [HP.out];show (if pk st o < 0 then _ else _)=_
     rw [if_neg (by rw [e];omega),e,Int.toNat_natCast])
    generalize pg b o=xs at HPG HSI HPA;have HFI:=aM (show ∀ (w:World) (A:Option Addr) (c:Nat),xs.length≤c→qcY [gm,gl] w0 w A xs→Man w0 w gm gc gl cl ge ce b o→Calls Tryz.prog 160 #[kp gm,.int .i64 i,.int .i64 leb,.int .i64 least,.slice A xs.length c] w (fun x w'=>∃ v:Value,x=.returned v∧FV w' v (qbM b o i leb least xs).1∧Man w0 w' gm gc gl cl ge ce (qbM b o i leb least xs).2.1 (qbM b o i leb least xs).2.2∧MK [gm,gl] w w') from fun w A c hc hp hm=>qqN hm i hib leb least HQ.out A c xs hc hp);have HSQ:=aM (qnK b o i leb least xs);have HFL:=aM (qwM b o i leb least xs);have HFG:=aM (qoV b o i leb least xs);generalize qbM b o i leb least xs=r at HFI HSQ HFL HFG HPA HSI;obtain ⟨e1,b1,o1⟩:=r;simp only at HFI HSQ HFL HFG HPA HSI;have HII:=aM hi;have HIB:=aM (show i < b1.g.B by rw [HFG.out];exact hib);have H2:=aM h2;clear e h2 hi hib
    go_upto_region 7 with (first
     | (go_at_call 102;(with_reducible refine HLS.out.mono ?_);rintro x w1 ⟨rfl,hm,hx1,hk1⟩;have H1:=aM hm;have HX1:=aM hx1;have HK1:=aM (HK.out.trans hk1);clear hm hx1 hk1)
     | (go_at_call 100;(with_reducible refine (HPG.out _ H1.out HX1.out).mono ?_);rintro x w2 ⟨A2,c2,rfl,hc2,hp2,hm2,hk2⟩;have HC2:=aM hc2;have HP2:=aM hp2;have HM2:=aM hm2;have HX2:=aM (HXX.out _ _ _ HX1.out hk2);have HK2:=aM (HK1.out.trans (hk2.mono HSS.out));clear hc2 hp2 hm2 hk2)
     | (go_at_call 160;(with_reducible refine (HFI.out _ _ _ HC2.out HP2.out HM2.out).mono ?_);rintro x w3 ⟨v3,rfl,hv,h3,hk3⟩;have HV:=aM hv;have H3:=aM h3;have HX3:=aM (HXX.out _ _ _ HX2.out hk3);have HK3:=aM (HK2.out.trans (hk3.mono HSS.out));clear hv h3 hk3))
    have HIS:=aM (qeS HV.out.ev 5 (by decide))
    rcases HV.out with ⟨h9,rfl⟩|⟨h9,g,bb,rfl,hf⟩
    ·subst h9;have HE:=aM (HPA.out.trans (if_neg (by decide)));go_wp2;go_ret2;rw [HE.out];exact ⟨_,rfl,.inl ⟨rfl,rfl⟩,H3.out,HK3.out⟩
    ·have HN9:=aM h9;clear hf
     by_cases h5:e1=5
     ·subst h5;have HE:=aM (HPA.out.trans (if_pos rfl));rw [show ((5:Int)==5)=true from rfl] at HIS;clear h9
      go_wp2_with (first
       | (go_at_call 129;(with_reducible refine HIS.out.mono ?_);rintro x w4 ⟨rfl,hb⟩;have H4:=aM (H3.out.grow hb);have HX4:=aM (HXX.out _ _ _ HX3.out (MK.of_below hb));have HK4:=aM (HK3.out.trans (MK.of_below hb));clear hb)
       | (go_at_call 133;(with_reducible refine (qiB H4.out i HIB.out).mono ?_);rintro x w5 ⟨rfl,h5,hk5⟩;have H5:=aM h5;have HX5:=aM (HXX.out _ _ _ HX4.out hk5);have HK5:=aM (HK4.out.trans (hk5.mono HSS.out));clear h5 hk5))
      go_roundg k1;case measure=>have:=HKN.out;omega
      case rel =>
       have hl:=HFL.out (by decide);refine ⟨_,_,_,HE,H5,HSQ,⟨?_⟩,⟨by have:=HKN.out;omega⟩,HK5,⟨HSI.out (by trivial)⟩,HX5⟩;have h7:=qiF o.l i qmJ HII.out H2.out (by decide);have h8:=HF.out;show qbX (o1.l.set i qmJ) < k1;rw [hl];omega
     ·have HE:=aM (HPA.out.trans (if_neg h5));rw [show (e1==5)=false by simp only [beq_eq_false_iff_ne];exact h5] at HIS;clear h9 h5
      go_wp2_with (first
       | (go_at_call 129;(with_reducible refine HIS.out.mono ?_);rintro x w4 ⟨rfl,hb⟩;have HB4:=aM hb;clear hb))
      go_ret2;rw [HE.out];exact ⟨_,rfl,(HV.out.grow HB4.out).ev,H3.out.grow HB4.out,HK3.out.trans (MK.of_below HB4.out)⟩
end
section
open Go.Shelf Plain
theorem qwT {n page:Int} (hn:0≤n∧n≤2147483647) (hp:64≤page∧page≤512):qdN n page=(qbE (countP n) page,0):=by
 unfold qdN;rw [if_neg (by omega)]
theorem vbZ {leb seq pages page:Int} (h1:0≤leb∧leb < 256) (h3:0≤pages∧pages≤64) (hp:64≤page∧page≤512):qoL leb seq pages page=(qbE (qhM leb seq pages) page,0):=by
 unfold qoL;rw [if_neg (by omega)]
theorem qvT (w:World):Calls Tryz.prog 11 #[.agg #[.int .i64 16,.int .i64 16,.int .i64 128,.int .i64 2],.slice none 0 0] w fun e w'=>∃ gc:Nat,e=.returned (.tuple #[cp gc,.int .i64 0])∧qdW w w' gc (qpP qfT []) :=
 qrY qfT none 0 [] w ⟨rfl,by decide,fun h=>by cases h⟩ (Nat.le_refl _) (by kernel_rfl) (by rfl)
theorem qxV (w:World):Calls Tryz.prog 55 #[] w fun e w'=>e=.returned (.agg #[.int .i64 16,.int .i64 16,.int .i64 128,.int .i64 2])∧Below w.heap.size w w':=pumicelaw03_Small.calls 16 16 128 2 w rfl
end
section
open Go.Shelf Plain
structure qgP (g:Geo) (b:ABk) (c:Int):Prop where
 bad:b.bad=false
 er:b.er=c
 nx:b.nx=1
 p0:b.pg 0=⟨1,qbE (countP c) g.Z⟩
 pr:∀ j,1≤j→j < g.P→(b.pg j).st=0
structure qlH (g:Geo) (b:ABk) (c leb seq least:Int) (ds:List (List Int)):Prop where
 bad:b.bad=false
 er:b.er=c
 nx:b.nx=(ds.length:Int)+2
 p0:b.pg 0=⟨1,qbE (countP c) g.Z⟩
 p1:b.pg 1=⟨1,qbE (qhM leb seq least) g.Z⟩
 pd:∀ j,j < ds.length→b.pg (j+2)=⟨1,ds.getD j []⟩
 pz:∀ j,j < ds.length→(ds.getD j []).length≤g.Z
 pr:∀ j,ds.length+2≤j→j < g.P→(b.pg j).st=0
 ln:ds.length+2≤g.P
 lb:(0≤leb∧leb < 256)∧leb < qeJ g.B g.P g.Z g.R
 sq:0≤seq∧seq < 18446744073709551616
 le:0≤least∧least≤(ds.length:Int)
structure qsH (i:Nat) (a a':AC):Prop where
 g:a'.g=a.g
 off:a'.off=a.off
 pl:a'.pl=a.pl
 wr:a'.wrong=a.wrong
 bk:∀ j,j ≠ i→a'.bk j=a.bk j
 by_:(∀ j,qbA ((a.bk i).pg j).d→qbA ((a'.bk i).pg j).d)→qbV a→qbV a'
theorem qsH.refl (i:Nat) (a:AC):qsH i a a:=⟨rfl,rfl,rfl,rfl,fun _ _=>rfl,fun _ h=>h⟩
theorem qpV {i:Nat} {a a':AC} (g:a'.g=a.g) (off:a'.off=a.off) (pl:a'.pl=a.pl) (wr:a'.wrong=a.wrong) (bk:∀ j,j ≠ i→a'.bk j=a.bk j):qsH i a a' :=
 ⟨g,off,pl,wr,bk,fun hi h k j=>by
  by_cases hk:k=i
  ·subst hk;exact hi j (h k j)
  ·rw [bk k hk];exact h k j⟩
theorem qsH.trans {i:Nat} {a b c:AC} (h:qsH i a b) (h2:qsH i b c):qsH i a c :=
 qpV (h2.g.trans h.g) (h2.off.trans h.off) (h2.pl.trans h.pl) (h2.wr.trans h.wr) (fun j hj=>(h2.bk j hj).trans (h.bk j hj))
theorem qjI (a:AC) (n p:Nat) (l:List Int) (hp:p < 1000000):qsH n a (a.tick.put n p 1 l)∧(a.tick.put n p 1 l).bk n={ ((a.bk n).setPg p ⟨1,l⟩) with nx:=(p:Int)+1 }:=by
 refine ⟨qpV rfl rfl rfl rfl fun j hj=>?_,?_⟩
 ·show (if j=n then _ else a.bk j)=a.bk j;exact if_neg hj
 ·show (if n=n then _ else a.bk n)=_;rw [if_pos rfl,qxS p hp];rfl
theorem qrH:∀ (xss:List (List Int)) (a:AC) (i p:Nat),a.off=false→a.pl=[]→i < a.g.B→(a.bk i).bad=false→(a.bk i).nx=(p:Int)→p+xss.length≤a.g.P→a.g.P≤64→(∀ x,x ∈ xss→x.length≤a.g.Z) →
  ∃ a',qcV a i p xss=(0,a')∧qsH i a a'∧(a'.bk i).bad=false∧(a'.bk i).er=(a.bk i).er∧(a'.bk i).nx=(p:Int)+xss.length∧(∀ j,j < p→(a'.bk i).pg j=(a.bk i).pg j)∧(∀ j,j < xss.length→(a'.bk i).pg (p+j)=⟨1,xss.getD j []⟩)∧(∀ j,p+xss.length≤j→(a'.bk i).pg j=(a.bk i).pg j)
 | [],a,i,p,_,_,_,hb,hn,_,_,_=>⟨a,rfl,qsH.refl _ _,hb,rfl,by simp [hn],fun _ _=>rfl,fun j hj=>absurd hj (Nat.not_lt_zero j),fun _ _=>rfl⟩
 | x :: r,a,i,p,ho,hpl,hi,hb,hn,hl,hP,hz=>by
  have hl2:p+(r.length+1)≤a.g.P:=by simpa using hl
  have e1:=qjJ (a:=a) (n:=i) (p:=p) (l:=x) ho hi (by omega) (hz x (by simp)) hb hn hpl;obtain ⟨ht,hk⟩:=qjI a i p x (by omega);obtain ⟨a',e2,ht2,h1,h2,h3,h4,h5,h6⟩:=qrH r (a.tick.put i p 1 x) i (p+1) ho hpl hi (by rw [hk];exact hb) (by rw [hk];push_cast;rfl) (by show p+1+r.length≤a.g.P;omega) hP (fun y hy=>hz y (by simp [hy]));refine ⟨a',?_,ht.trans ht2,h1,?_,?_,?_,?_,?_⟩
  ·unfold qcV;rw [e1,if_pos rfl];exact e2
  ·rw [h2,hk];rfl
  ·rw [h3,List.length_cons];push_cast;omega
  ·intro j hj;rw [h4 j (by omega),hk];show (if j=p then _ else _)=_;rw [if_neg (by omega)]
  ·intro j hj
   cases j with
   | zero =>
    rw [h4 (p+0) (by omega),hk];exact if_pos rfl
   | succ j =>
    have:=h5 j (by simpa using hj);rw [show p+(j+1)=p+1+j by omega,this];rfl
  ·intro j hj;have hj2:p+(r.length+1)≤j:=by simpa using hj
   rw [h6 j (by omega),hk];show (if j=p then _ else _)=_;rw [if_neg (by omega)]
theorem vcJ {a:AC} {m:AM} {i:Nat} {leb least c:Int} {xss:List (List Int)} (ho:a.off=false) (hp:a.pl=[]) (hg:GOK a.g) (hi:i < a.g.B) (hf:qgP a.g (a.bk i) c) (hl:(0≤leb∧leb < 256)∧leb < qeJ a.g.B a.g.P a.g.Z a.g.R) (hq:0≤m.seq∧m.seq < 18446744073709551616) (hle:0≤least∧least≤(xss.length:Int)) (hx:xss.length+2≤a.g.P) (hz:∀ x,x ∈ xss→x.length≤a.g.Z) (hby:qbV a) (hxb:∀ x,x ∈ xss→qbA x) :
  ∃ a',qbM a m i leb least xss=(0,a',m.next.put i ⟨4,(m.l.getD i default).f1,leb,xss.length,0,false⟩)∧qsH i a a'∧qlH a.g (a'.bk i) c leb m.seq least xss∧qbV a':=by
 obtain ⟨-,hgP,hgZ⟩:=hg;have hm:qoL leb m.seq least a.g.Z=(qbE (qhM leb m.seq least) a.g.Z,0):=vbZ hl.1 (by omega) (by omega);have hlen:(qbE (qhM leb m.seq least) a.g.Z).length=a.g.Z:=by rw [qcP];omega
 have hib:qbA (qbE (qhM leb m.seq least) a.g.Z):=qhJ (qmE _ _ _ (by omega)) _;have e1:=qjJ (a:=a) (n:=i) (p:=1) (l:=qbE (qhM leb m.seq least) a.g.Z) ho hi (by omega) (by omega) hf.bad (by rw [hf.nx];rfl) hp;obtain ⟨ht,hk⟩:=qjI a i 1 (qbE (qhM leb m.seq least) a.g.Z) (by omega);obtain ⟨a',e2,ht2,h1,h2,h3,h4,h5,h6⟩:=qrH xss (a.tick.put i 1 1 (qbE (qhM leb m.seq least) a.g.Z)) i 2 ho hp hi (by rw [hk];exact hf.bad) (by rw [hk];rfl) (by show 2+xss.length≤a.g.P;omega) hgP.2 hz
 have hz2:∀ j,j < xss.length→xss.getD j [] ∈ xss:=fun j hj=>by
  rw [List.getD_eq_getElem?_getD,List.getElem?_eq_getElem hj];exact List.getElem_mem hj
 have p0:(a'.bk i).pg 0=⟨1,qbE (countP c) a.g.Z⟩:=by
  rw [h4 0 (by omega),hk];exact hf.p0
 have p1:(a'.bk i).pg 1=⟨1,qbE (qhM leb m.seq least) a.g.Z⟩:=by
  rw [h4 1 (by omega),hk];rfl
 have pd:∀ j,j < xss.length→(a'.bk i).pg (j+2)=⟨1,xss.getD j []⟩:=fun j hj=>by
  rw [show j+2=2+j by omega];exact h5 j hj
 have pq:∀ j,xss.length+2≤j→(a'.bk i).pg j=(a.bk i).pg j:=fun j hj=>by
  rw [h6 j (by omega),hk];show (if j=1 then _ else _)=_;rw [if_neg (by omega)]
 refine ⟨a',?_,ht.trans ht2,⟨h1,?_,?_,p0,p1,pd,?_,?_,hx,hl,hq,hle⟩,?_⟩
 ·unfold qbM;have e1':qaZ a (i:Int) 1 (qbE (qhM leb m.seq least) a.g.Z)=(0,a.tick.put i 1 1 (qbE (qhM leb m.seq least) a.g.Z)):=e1;rw [hm,e1',if_neg (of_decide_eq_true rfl),e2,if_neg (of_decide_eq_true rfl)]
 ·rw [h2,hk];exact hf.er
 ·rw [h3];omega
 ·intro j hj;exact hz _ (hz2 j hj)
 ·intro j hj hj2;rw [pq j hj];exact hf.pr j (by omega) hj2
 ·refine (ht.trans ht2).by_ (fun j hb=>?_) hby
  by_cases j0:j=0
  ·subst j0;rw [h4 0 (by omega),hk];exact hby i 0
  by_cases j1:j=1
  ·subst j1;rw [p1];exact hib
  by_cases j2:j < xss.length+2
  ·obtain ⟨q,rfl⟩:∃ q,j=q+2:=⟨j - 2,by omega⟩
   rw [pd q (by omega)];exact hxb _ (hz2 q (by omega))
  ·rw [pq j (by omega)];exact hb
theorem qwQ {a:AC} {n:Nat} (h1:a.off=false) (h2:n < a.g.B) (h5:(a.bk n).bad=false) (h7:a.pl=[]):qbY a (n:Int)=(0,a.tick.erased n 0 0):=by
 unfold qbY;rw [if_neg (by rw [h1];decide),if_neg (by omega),Int.toNat_natCast,if_neg (by rw [h5];decide)];have:a.hit=none:=by unfold AC.hit;rw [h7];rfl
 rw [this]
theorem qqO (a:AC) (n:Nat) (he:0≤(a.bk n).er∧(a.bk n).er < 2147483647):qsH n a (a.tick.erased n 0 0)∧((a.tick.erased n 0 0).bk n).bad=(a.bk n).bad∧((a.tick.erased n 0 0).bk n).er=(a.bk n).er+1∧((a.tick.erased n 0 0).bk n).nx=0∧(∀ j,j < a.g.P→((a.tick.erased n 0 0).bk n).pg j=⟨0,[]⟩)∧∀ j,¬ j < a.g.P→((a.tick.erased n 0 0).bk n).pg j=(a.bk n).pg j:=by
 have hw:wrap64 ((a.bk n).er+1)=(a.bk n).er+1:=by unfold wrap64;omega
 have hb:(a.tick.erased n 0 0).bk n={ ({ a.bk n with er:=wrap64 ((a.bk n).er+1) }:ABk).clr 0 a.g.P with nx:=0 }:=by
  show (if n=n then _ else a.bk n)=_;rw [if_pos rfl];rfl
 refine ⟨qpV rfl rfl rfl rfl fun j hj=>?_,?_,?_,?_,fun j hj=>?_,fun j hj=>?_⟩
 ·show (if j=n then _ else a.bk j)=a.bk j;exact if_neg hj
 ·rw [hb];rfl
 ·rw [hb];exact hw
 ·rw [hb]
 ·rw [hb];exact if_pos hj
 ·rw [hb];exact if_neg hj
theorem qwJ {a:AC} {m:AM} {i:Nat} {c:Int} (ho:a.off=false) (hp:a.pl=[]) (hg:GOK a.g) (hi:i < a.g.B) (hb:(a.bk i).bad=false) (he:(a.bk i).er=c) (hm:(m.l.getD i default).f1=c) (hc:0≤c∧c < 2147483647) (hby:qbV a) :
  ∃ a',qcF a m i=(0,a',m.put i ⟨2,c+1,0,0,0,false⟩)∧qsH i a a'∧qgP a.g (a'.bk i) (c+1)∧qbV a':=by
 obtain ⟨-,hgP,hgZ⟩:=hg;have e1:=qwQ ho hi hb hp;obtain ⟨ht,k1,k2,k3,k4,k5⟩:=qqO a i (by rw [he];exact hc);have hw:wrap64 (c+1)=c+1:=by unfold wrap64;omega
 have hcl:qdN (c+1) a.g.Z=(qbE (countP (c+1)) a.g.Z,0):=qwT (by omega) (by omega);have hlen:(qbE (countP (c+1)) a.g.Z).length=a.g.Z:=by rw [qcP];omega
 have e2:=qjJ (a:=a.tick.erased i 0 0) (n:=i) (p:=0) (l:=qbE (countP (c+1)) a.g.Z) ho hi (by show 0 < a.g.P;omega) (by rw [hlen];exact Nat.le_refl _) (k1.trans hb) (by rw [k3];rfl) hp;obtain ⟨ht2,hk⟩:=qjI (a.tick.erased i 0 0) i 0 (qbE (countP (c+1)) a.g.Z) (by omega);have e2':qaZ (a.tick.erased i 0 0) (i:Int) 0 (qbE (countP (c+1)) a.g.Z)=(0,(a.tick.erased i 0 0).tick.put i 0 1 (qbE (countP (c+1)) a.g.Z)):=e2
 have pn:∀ j,1≤j→(((a.tick.erased i 0 0).tick.put i 0 1 (qbE (countP (c+1)) a.g.Z)).bk i).pg j=((a.tick.erased i 0 0).bk i).pg j:=fun j hj=>by
  rw [hk];show (if j=0 then _ else _)=_;rw [if_neg (by omega)]
 have p0:(((a.tick.erased i 0 0).tick.put i 0 1 (qbE (countP (c+1)) a.g.Z)).bk i).pg 0=⟨1,qbE (countP (c+1)) a.g.Z⟩:=by
  rw [hk];rfl
 refine ⟨(a.tick.erased i 0 0).tick.put i 0 1 (qbE (countP (c+1)) a.g.Z),?_,ht.trans ht2,⟨?_,?_,?_,p0,?_⟩,?_⟩
 ·unfold qcF;rw [e1,if_neg (of_decide_eq_true rfl),if_neg (of_decide_eq_true rfl),hm,hw,hcl,e2',if_neg (of_decide_eq_true rfl),if_neg (of_decide_eq_true rfl)]
 ·rw [hk];exact k1.trans hb
 ·rw [hk];exact k2.trans (by rw [he])
 ·rw [hk];rfl
 ·intro j hj hj2;rw [pn j hj,k4 j hj2]
 ·refine (ht.trans ht2).by_ (fun j hb2=>?_) hby
  by_cases j0:j=0
  ·subst j0;rw [p0];exact qhJ (qgM _) _
  ·rw [pn j (by omega)]
   by_cases hj:j < a.g.P
   ·rw [k4 j hj];exact fun _ h=>nomatch h
   ·rw [k5 j hj];exact hb2
theorem qnX {a:AC} {n p:Nat} (h1:a.off=false) (h2:n < a.g.B) (h3:p < a.g.P) (h5:((a.bk n).pg p).st=0):qbW a (n:Int) (p:Int)=(List.replicate a.g.Z 255,0):=by
 unfold qbW;rw [if_neg (by rw [h1];decide),if_neg (by omega),if_neg (by omega),Int.toNat_natCast,Int.toNat_natCast,h5,if_neg (of_decide_eq_true rfl),if_neg (of_decide_eq_true rfl)]
theorem qhV {a:AC} {n p:Nat} {l:List Int} (h1:a.off=false) (h2:n < a.g.B) (h3:p < a.g.P) (h5:(a.bk n).pg p=⟨1,l⟩):qbW a (n:Int) (p:Int)=(l ++ List.replicate (a.g.Z - l.length) 255,0):=by
 unfold qbW;rw [if_neg (by rw [h1];decide),if_neg (by omega),if_neg (by omega),Int.toNat_natCast,Int.toNat_natCast,h5,if_neg (of_decide_eq_true rfl),if_pos rfl]
theorem qiA {a:AC} {n:Nat} (h:n < a.g.B):qhH a (n:Int)=(a.bk n).nx:=by unfold qhH;rw [if_neg (by omega),Int.toNat_natCast]
theorem qqT {a:AC} {n:Nat} (h:n < a.g.B):vaP a (n:Int)=(a.bk n).bad:=by unfold vaP;rw [if_neg (by omega),Int.toNat_natCast]
theorem qvM {a:AC} {n p:Nat} {l:List Int} (h1:a.off=false) (h2:n < a.g.B) (h3:p < a.g.P) (h4:(p:Int) < (a.bk n).nx) (h5:(a.bk n).pg p=⟨1,l⟩):qcN a (n:Int) (p:Int)=(l ++ List.replicate (a.g.Z - l.length) 255,true):=by
 unfold qcN;rw [qiA h2,if_neg (by omega),qhV h1 h2 h3 h5];rfl
theorem qtC {a:AC} {i:Nat} {c:Int} (ho:a.off=false) (hg:GOK a.g) (hi:i < a.g.B) (hf:qgP a.g (a.bk i) c) (hc:0≤c∧c≤2147483647):qdO a (i:Int)=(⟨2,c,0,0,0,false⟩,true):=by
 obtain ⟨-,hgP,hgZ⟩:=hg;have e1:qcN a (i:Int) ((0:Nat):Int)=(qbE (countP c) a.g.Z,true):=qkE ho hi (by omega) (by rw [hf.nx];decide) hf.p0 (by rw [qcP];omega);have e1':qcN a (i:Int) 0=(qbE (countP c) a.g.Z,true):=e1;unfold qdO;rw [qqT hi,hf.bad,if_neg (of_decide_eq_true rfl),e1',if_neg (of_decide_eq_true rfl),qhF hc (by omega),if_neg (of_decide_eq_true rfl),qiA hi,hf.nx,if_pos rfl]
theorem qnT {a:AC} {i:Nat} {c leb seq least:Int} {ds:List (List Int)} (ho:a.off=false) (hi:i < a.g.B) (hf:qlH a.g (a.bk i) c leb seq least ds):∀ (k n:Nat),n+k=a.g.P - 2→n≤ds.length→qhN a (i:Int) k n=(ds.length,false)
 | 0,n,h,hn=>by
  have:=hf.ln;have e:n=ds.length:=by omega
  subst e;rfl
 | k+1,n,h,hn=>by
  have hln:=hf.ln;have ec:(n:Int)+2=((n+2:Nat):Int):=by push_cast;rfl
  unfold qhN;rw [ec]
  by_cases hlt:n < ds.length
  ·rw [qvM ho hi (by omega) (by rw [hf.nx];omega) (hf.pd n hlt),if_pos rfl];exact qnT ho hi hf k (n+1) (by omega) (by omega)
  ·have e:n=ds.length:=by omega
   have e2:qcN a (i:Int) ((n+2:Nat):Int)=([],false):=by
    unfold qcN;rw [qiA hi,if_pos (by rw [hf.nx];omega)]
   rw [e2,if_neg (of_decide_eq_true rfl),qnX ho hi (by omega) (hf.pr _ (by omega) (by omega))];subst e;rfl
theorem qvY {a:AC} {i:Nat} {c leb seq least:Int} {ds:List (List Int)} (ho:a.off=false) (hg:GOK a.g) (hi:i < a.g.B) (hf:qlH a.g (a.bk i) c leb seq least ds) (hc:0≤c∧c≤2147483647):qdO a (i:Int)=(⟨4,c,leb,ds.length,seq,false⟩,true):=by
 obtain ⟨-,hgP,hgZ⟩:=hg;have hln:=hf.ln;have hle:=hf.le;have e1:qcN a (i:Int) ((0:Nat):Int)=(qbE (countP c) a.g.Z,true):=qkE ho hi (by omega) (by rw [hf.nx];omega) hf.p0 (by rw [qcP];omega);have e1':qcN a (i:Int) 0=(qbE (countP c) a.g.Z,true):=e1;have e2:qcN a (i:Int) ((1:Nat):Int)=(qbE (qhM leb seq least) a.g.Z,true):=qkE ho hi (by omega) (by rw [hf.nx];omega) hf.p1 (by rw [qcP];omega);have e2':qcN a (i:Int) 1=(qbE (qhM leb seq least) a.g.Z,true):=e2;have e3:qhN a (i:Int) (a.g.P - 2) 0=(ds.length,false):=qnT ho hi hf _ 0 (by omega) (Nat.zero_le _);have hq:=qvK (page:=a.g.Z) hf.lb.1 hf.sq (pages:=least) (by omega) (by omega)
 have e4:qyP a (i:Int) ((leb,seq,least),true)=true:=by
  unfold qyP;rw [e3];simp only [Bool.true_and,Bool.and_eq_true,decide_eq_true_eq];exact ⟨hf.lb.2,by omega,by omega⟩
 unfold qdO;rw [qqT hi,hf.bad,if_neg (of_decide_eq_true rfl),e1',if_neg (of_decide_eq_true rfl),qhF hc (by omega),if_neg (of_decide_eq_true rfl),qiA hi,hf.nx,if_neg (by omega),e2',if_neg (of_decide_eq_true rfl),hq,if_pos e4,e3]
end
section
open Go.Shelf Plain
def qlI {α:Type} (D:Nat→α) (k:Nat) (x:α):Nat→α:=fun j=>if j=k then x else D j
theorem qfY {α:Type} (D:Nat→α) (k:Nat) (x:α):qlI D k x k=x:=if_pos rfl
theorem qfG {α:Type} (D:Nat→α) {k j:Nat} (x:α) (h:j ≠ k):qlI D k x j=D j:=if_neg h
theorem quP {α:Type} (D:Nat→α) (k:Nat):qlI D k (D k)=D:=by
 funext j
 unfold qlI
 by_cases h:j=k
 ·rw [if_pos h,h]
 ·rw [if_neg h]
theorem qdU {α:Type} (l:List α) (i j:Nat) (x d:α) (hi:i < l.length):(l.set i x).getD j d=if j=i then x else l.getD j d:=by
 by_cases h:j=i
 ·subst h;rw [if_pos rfl,List.getD_eq_getElem?_getD,List.getElem?_set_self hi];rfl
 ·rw [if_neg h,List.getD_eq_getElem?_getD,List.getElem?_set_ne (fun e=>h e.symm),List.getD_eq_getElem?_getD]
structure qbG (n:Nat) (ex:Int) (a:AC) (m:AM) (D:Nat→List (List Int)):Prop where
 off:a.off=false
 pl:a.pl=[]
 dead:m.dead=false
 rg:qbQ a.g.B a.g.P a.g.Z a.g.R=true
 gok:GOK a.g
 by_:qbV a
 len:m.l.length=a.g.B
 lbs:(m.lebs.length:Int)=qeJ a.g.B a.g.P a.g.Z a.g.R
 sq:0≤m.seq∧m.seq+(n:Int) < 4611686018427387904
 ct:∀ i,i < a.g.B→0≤(m.l.getD i default).f1∧(m.l.getD i default).f1+(n:Int) < 2147483647
 lv:∀ k,k < m.lebs.length→(m.lebs.getD k 0=-1∧D k=[])∨∃ i:Nat,i < a.g.B∧(i:Int) ≠ ex∧m.lebs.getD k 0=(i:Int)∧(m.l.getD i default).f0=4∧(m.l.getD i default).f2=(k:Int)
 bl:∀ i,i < a.g.B→(i:Int) ≠ ex→(m.l.getD i default=⟨2,(m.l.getD i default).f1,0,0,0,false⟩∧qgP a.g (a.bk i) (m.l.getD i default).f1)∨∃ (k:Nat) (seq least s:Int),k < m.lebs.length∧m.lebs.getD k 0=(i:Int)∧m.l.getD i default=⟨4,(m.l.getD i default).f1,(k:Int),((D k).length:Int),s,false⟩∧qlH a.g (a.bk i) (m.l.getD i default).f1 (k:Int) seq least (D k)∧seq < m.seq
 xb:∀ i,i < a.g.B→(i:Int)=ex→(a.bk i).bad=false∧(a.bk i).er=(m.l.getD i default).f1
theorem qeI {B P Z R:Int} (h:qbQ B P Z R=true):qeJ B P Z R=B - R - 2∧0≤R∧R*4≤B∧16≤B∧B≤256:=by
 have h2:=h;unfold qbQ at h;simp only [Bool.and_eq_true,decide_eq_true_eq] at h;obtain ⟨h16,h256,-,-,-,-,-,-,-,hR0,hR4⟩:=h;have e:B.tdiv 4=B / 4:=Int.tdiv_eq_ediv_of_nonneg (by omega);rw [e] at hR4;have hw:wrap64 (B / 4)=B / 4:=by unfold wrap64;omega
 rw [hw] at hR4;refine ⟨?_,hR0,by omega,h16,h256⟩;unfold qeJ;rw [if_pos h2];unfold wrap64;omega
variable {n:Nat} {ex:Int} {a a':AC} {m m':AM} {D:Nat→List (List Int)}
theorem qbG.less (h:qbG n ex a m D) {q:Nat} (hq:q≤n):qbG q ex a m D :=
 { h with sq:=⟨h.sq.1,by have:=h.sq.2;omega⟩,ct:=fun i hi=>⟨(h.ct i hi).1,by have:=(h.ct i hi).2;omega⟩ }
theorem qbG.cut (h:qbG n ex a m D) {k:Nat} (hk:k < m.lebs.length):k < 256∧(k:Int) < qeJ a.g.B a.g.P a.g.Z a.g.R:=by
 have h1:=h.lbs;obtain ⟨h2,h3,h4,h5,h6⟩:=qeI h.rg;omega
theorem qbG.fill (h:qbG (n+1) (-1) a m D) {k:Nat} (hk:k < m.lebs.length) {i:Nat} (hi:i < a.g.B) (hf:(m.l.getD i default).f0=2) (least:Int) (xss:List (List Int)) (hle:0≤least∧least≤(xss.length:Int)) (hx:xss.length+2≤a.g.P) (hz:∀ x,x ∈ xss→x.length≤a.g.Z) (hxb:∀ x,x ∈ xss→qbA x) :
  ∃ a',qbM a m i (k:Int) least xss=(0,a',m.next.put i ⟨4,(m.l.getD i default).f1,(k:Int),xss.length,0,false⟩)∧a'.g=a.g∧a'.wrong=a.wrong∧qbG n (m.lebs.getD k 0) a' { m.next.put i ⟨4,(m.l.getD i default).f1,(k:Int),xss.length,0,false⟩ with lebs:=m.lebs.set k (i:Int) } (qlI D k xss):=by
 have hlen:=h.len;have hcut:=h.cut hk
 have hfree:qgP a.g (a.bk i) (m.l.getD i default).f1:=by
  rcases h.bl i hi (by omega) with ⟨-,hb⟩|⟨k2,seq,l2,s,-,-,he,-,-⟩
  ·exact hb
  ·rw [he] at hf;exact absurd hf (of_decide_eq_true rfl)
 have hct:=h.ct i hi;have hsq:=h.sq;obtain ⟨a',e,ht,hm,hby⟩:=vcJ (m:=m) h.off h.pl h.gok hi hfree (leb:=(k:Int)) (least:=least) ⟨by omega,hcut.2⟩ ⟨hsq.1,by omega⟩ hle hx hz h.by_ hxb;generalize hc:(m.l.getD i default).f1=c at *
 have hw:IntKind.u64.wrap (m.seq+1)=m.seq+1:=by
  unfold IntKind.wrap;simp [IntKind.bits,IntKind.signed];omega
 have hget:∀ j,(m.l.set i (⟨4,c,(k:Int),xss.length,0,false⟩:Blk)).getD j default=if j=i then ⟨4,c,(k:Int),xss.length,0,false⟩ else m.l.getD j default:=fun j=>qdU _ _ _ _ _ (by omega)
 have hleb:∀ j,(m.lebs.set k (i:Int)).getD j 0=if j=k then (i:Int) else m.lebs.getD j 0:=fun j=>qdU _ _ _ _ _ hk
 refine ⟨a',e,ht.g,ht.wr,{ off:=ht.off.trans h.off,pl:=ht.pl.trans h.pl,dead:=h.dead,rg:=?_,gok:=?_,by_:=hby,len:=?_,lbs:=?_,sq:=?_,ct:=?_,lv:=?_,bl:=?_,xb:=?_ }⟩
 ·rw [ht.g];exact h.rg
 ·rw [ht.g];exact h.gok
 ·rw [ht.g];exact (List.length_set ..).trans hlen
 ·rw [ht.g];show ((m.lebs.set k (i:Int)).length:Int)=_;rw [List.length_set];exact h.lbs
 ·show 0≤IntKind.u64.wrap (m.seq+1)∧IntKind.u64.wrap (m.seq+1)+(n:Int) < _;rw [hw];omega
 ·intro j hj;rw [ht.g] at hj;show 0≤((m.l.set i _).getD j default).f1∧((m.l.set i _).getD j default).f1+(n:Int) < _;rw [hget j]
  by_cases hji:j=i
  ·rw [if_pos hji];show 0≤c∧c+(n:Int) < _;omega
  ·rw [if_neg hji];have:=h.ct j hj;omega
 ·intro q hq
  have hq2:q < m.lebs.length:=by
   have:q < (m.lebs.set k (i:Int)).length:=hq
   rwa [List.length_set] at this
  rw [ht.g];show ((m.lebs.set k (i:Int)).getD q 0=-1∧qlI D k xss q=[])∨∃ j:Nat,j < a.g.B∧(j:Int) ≠ m.lebs.getD k 0∧(m.lebs.set k (i:Int)).getD q 0=(j:Int)∧((m.l.set i _).getD j default).f0=4∧((m.l.set i _).getD j default).f2=(q:Int);rw [hleb q]
  by_cases hqk:q=k
  ·subst hqk;refine .inr ⟨i,hi,?_,if_pos rfl,by rw [hget,if_pos rfl],by rw [hget,if_pos rfl]⟩
   rcases h.lv q hq2 with ⟨e1,-⟩|⟨j,hj,-,e1,e2,-⟩
   ·rw [e1];omega
   ·rw [e1];intro e3;obtain rfl:i=j:=by omega
    rw [hf] at e2;exact absurd e2 (by decide)
  ·rw [if_neg hqk,qfG D _ hqk]
   rcases h.lv q hq2 with e1|⟨j,hj,-,e1,e2,e3⟩
   ·exact .inl e1
   ·have hji:j ≠ i:=by
     intro e4;subst e4;rw [hf] at e2;exact absurd e2 (by decide)
    refine .inr ⟨j,hj,?_,e1,by rw [hget,if_neg hji];exact e2,by rw [hget,if_neg hji];exact e3⟩;intro e4
    rcases h.lv k hk with ⟨e5,-⟩|⟨j2,-,-,e5,-,e6⟩
    ·rw [e5] at e4;omega
    ·rw [e5] at e4;obtain rfl:j=j2:=by omega
     rw [e3] at e6;exact hqk (by omega)
 ·intro j hj hjx;rw [ht.g] at hj ⊢;have hjx2:(j:Int) ≠ m.lebs.getD k 0:=hjx;show ((m.l.set i _).getD j default=⟨2,((m.l.set i _).getD j default).f1,0,0,0,false⟩∧qgP a.g (a'.bk j) ((m.l.set i _).getD j default).f1)∨∃ (q:Nat) (seq least s:Int),q < (m.lebs.set k (i:Int)).length∧(m.lebs.set k (i:Int)).getD q 0=(j:Int)∧(m.l.set i _).getD j default=⟨4,((m.l.set i _).getD j default).f1,(q:Int),((qlI D k xss q).length:Int),s,false⟩∧qlH a.g (a'.bk j) ((m.l.set i _).getD j default).f1 (q:Int) seq least (qlI D k xss q)∧seq < IntKind.u64.wrap (m.seq+1);rw [hget j,hw,List.length_set]
  by_cases hji:j=i
  ·subst hji;rw [if_pos rfl];refine .inr ⟨k,m.seq,least,0,hk,by rw [hleb,if_pos rfl],by rw [qfY],?_,by omega⟩;rw [qfY];exact hm
  ·rw [if_neg hji,ht.bk j hji]
   rcases h.bl j hj (by omega) with hl|⟨q,seq,l2,s,h1,h2,h3,h4,h5⟩
   ·exact .inl hl
   ·have hqk:q ≠ k:=by
     intro e4;subst e4;exact hjx2 h2.symm
    refine .inr ⟨q,seq,l2,s,h1,by rw [hleb,if_neg hqk];exact h2,by rw [qfG D _ hqk];exact h3,by rw [qfG D _ hqk];exact h4,by omega⟩
 ·intro j hj hjx;rw [ht.g] at hj;have hjx2:(j:Int)=m.lebs.getD k 0:=hjx;show (a'.bk j).bad=false∧(a'.bk j).er=((m.l.set i _).getD j default).f1;rw [hget j]
  rcases h.lv k hk with ⟨e5,-⟩|⟨j2,h2,-,e5,e6,e7⟩
  ·rw [e5] at hjx2;omega
  ·rw [e5] at hjx2;obtain rfl:j=j2:=by omega
   have hji:j ≠ i:=by
    intro e4;subst e4;rw [hf] at e6;exact absurd e6 (of_decide_eq_true rfl)
   rw [if_neg hji,ht.bk j hji]
   rcases h.bl j hj (by omega) with ⟨hl,-⟩|⟨q,seq,l2,s,h1,h2,h3,h4,h5⟩
   ·rw [hl] at e6;exact absurd e6 (of_decide_eq_true rfl)
   ·exact ⟨h4.bad,h4.er⟩
theorem qbG.free {e:Nat} (h:qbG (n+1) (e:Int) a m D) (he:e < a.g.B) :
  ∃ a',qcF a m e=(0,a',m.put e ⟨2,(m.l.getD e default).f1+1,0,0,0,false⟩)∧a'.g=a.g∧a'.wrong=a.wrong∧qbG n (-1) a' (m.put e ⟨2,(m.l.getD e default).f1+1,0,0,0,false⟩) D:=by
 obtain ⟨x1,x2⟩:=h.xb e he rfl;have hct:=h.ct e he;have hlen:=h.len;obtain ⟨a',e1,ht,hf,hby⟩:=qwJ (m:=m) h.off h.pl h.gok he x1 x2 rfl ⟨hct.1,by omega⟩ h.by_;generalize hc:(m.l.getD e default).f1=c at *;have hget:∀ j,(m.l.set e (⟨2,c+1,0,0,0,false⟩:Blk)).getD j default=if j=e then ⟨2,c+1,0,0,0,false⟩ else m.l.getD j default:=fun j=>qdU _ _ _ _ _ (by omega)
 refine ⟨a',e1,ht.g,ht.wr,{ off:=ht.off.trans h.off,pl:=ht.pl.trans h.pl,dead:=h.dead,rg:=?_,gok:=?_,by_:=hby,len:=?_,lbs:=?_,sq:=⟨h.sq.1,by have:=h.sq.2;show m.seq+(n:Int) < _;omega⟩,ct:=?_,lv:=?_,bl:=?_,xb:=?_ }⟩
 ·rw [ht.g];exact h.rg
 ·rw [ht.g];exact h.gok
 ·rw [ht.g];exact (List.length_set ..).trans hlen
 ·rw [ht.g];exact h.lbs
 ·intro j hj;rw [ht.g] at hj;show 0≤((m.l.set e _).getD j default).f1∧((m.l.set e _).getD j default).f1+(n:Int) < _;rw [hget j]
  by_cases hji:j=e
  ·rw [if_pos hji];show 0≤c+1∧c+1+(n:Int) < _;omega
  ·rw [if_neg hji];have:=h.ct j hj;omega
 ·intro q hq;rw [ht.g]
  rcases h.lv q hq with hl|⟨j,hj,hje,e2,e3,e4⟩
  ·exact .inl hl
  ·have hji:j ≠ e:=fun x=>hje (by rw [x])
   refine .inr ⟨j,hj,by omega,e2,?_,?_⟩
   ·show ((m.l.set e _).getD j default).f0=4;rw [hget,if_neg hji];exact e3
   ·show ((m.l.set e _).getD j default).f2=_;rw [hget,if_neg hji];exact e4
 ·intro j hj _;rw [ht.g] at hj ⊢;show ((m.l.set e _).getD j default=⟨2,((m.l.set e _).getD j default).f1,0,0,0,false⟩∧qgP a.g (a'.bk j) ((m.l.set e _).getD j default).f1)∨∃ (q:Nat) (seq least s:Int),q < m.lebs.length∧m.lebs.getD q 0=(j:Int)∧(m.l.set e _).getD j default=⟨4,((m.l.set e _).getD j default).f1,(q:Int),((D q).length:Int),s,false⟩∧qlH a.g (a'.bk j) ((m.l.set e _).getD j default).f1 (q:Int) seq least (D q)∧seq < m.seq;rw [hget j]
  by_cases hji:j=e
  ·subst hji;rw [if_pos rfl];exact .inl ⟨rfl,hf⟩
  ·rw [if_neg hji,ht.bk j hji];exact h.bl j hj (by omega)
 ·intro j hj hjx;omega
theorem qbG.drop (h:qbG n (-1) a m D) {k:Nat} (hk:k < m.lebs.length):qbG n (m.lebs.getD k 0) a { m with lebs:=m.lebs.set k (-1) } (qlI D k []):=by
 have hleb:∀ j,(m.lebs.set k (-1)).getD j 0=if j=k then -1 else m.lebs.getD j 0:=fun j=>qdU _ _ _ _ _ hk
 have hmap:∀ i:Nat,i < a.g.B→(i:Int)=m.lebs.getD k 0→(m.l.getD i default).f0=4∧(m.l.getD i default).f2=(k:Int):=fun i hi e=>by
  rcases h.lv k hk with ⟨e5,-⟩|⟨j2,h2,-,e5,e6,e7⟩
  ·omega
  ·obtain rfl:i=j2:=by omega
   exact ⟨e6,e7⟩
 refine { off:=h.off,pl:=h.pl,dead:=h.dead,rg:=h.rg,gok:=h.gok,by_:=h.by_,len:=h.len,lbs:=?_,sq:=h.sq,ct:=h.ct,lv:=?_,bl:=?_,xb:=?_ }
 ·show ((m.lebs.set k (-1)).length:Int)=_;rw [List.length_set];exact h.lbs
 ·intro q hq
  have hq2:q < m.lebs.length:=by
   have:q < (m.lebs.set k (-1)).length:=hq
   rwa [List.length_set] at this
  show ((m.lebs.set k (-1)).getD q 0=-1∧qlI D k [] q=[])∨∃ j:Nat,j < a.g.B∧(j:Int) ≠ m.lebs.getD k 0∧(m.lebs.set k (-1)).getD q 0=(j:Int)∧(m.l.getD j default).f0=4∧(m.l.getD j default).f2=(q:Int);rw [hleb q]
  by_cases hqk:q=k
  ·subst hqk;exact .inl ⟨if_pos rfl,qfY _ _ _⟩
  ·rw [if_neg hqk,qfG D _ hqk]
   rcases h.lv q hq2 with hl|⟨j,hj,hje,e2,e3,e4⟩
   ·exact .inl hl
   ·refine .inr ⟨j,hj,fun e5=>?_,e2,e3,e4⟩;have:=(hmap j hj e5).2;rw [e4] at this;exact hqk (by omega)
 ·intro j hj hjx;have hjx2:(j:Int) ≠ m.lebs.getD k 0:=hjx
  rcases h.bl j hj (by omega) with hl|⟨q,seq,l2,s,h1,h2,h3,h4,h5⟩
  ·exact .inl hl
  ·have hqk:q ≠ k:=by
    intro e4;subst e4;exact hjx2 h2.symm
   refine .inr ⟨q,seq,l2,s,by show q < (m.lebs.set k (-1)).length;rw [List.length_set];exact h1,by show (m.lebs.set k (-1)).getD q 0=_;rw [hleb,if_neg hqk];exact h2,by rw [qfG D _ hqk];exact h3,by rw [qfG D _ hqk];exact h4,h5⟩
 ·intro j hj hjx;have hjx2:(j:Int)=m.lebs.getD k 0:=hjx;have e6:=(hmap j hj hjx2).1
  rcases h.bl j hj (by omega) with ⟨hl,-⟩|⟨q,seq,l2,s,h1,h2,h3,h4,h5⟩
  ·rw [hl] at e6;exact absurd e6 (of_decide_eq_true rfl)
  ·exact ⟨h4.bad,h4.er⟩
theorem qbG.at (h:qbG n (-1) a m D) {k:Nat} (hk:k < m.lebs.length) {i:Nat} (e:m.lebs.getD k 0=(i:Int)):i < a.g.B∧∃ (seq least s:Int),m.l.getD i default=⟨4,(m.l.getD i default).f1,(k:Int),((D k).length:Int),s,false⟩∧qlH a.g (a.bk i) (m.l.getD i default).f1 (k:Int) seq least (D k)∧seq < m.seq:=by
 rcases h.lv k hk with ⟨e5,-⟩|⟨j2,h2,-,e5,e6,e7⟩
 ·omega
 ·obtain rfl:i=j2:=by omega
  refine ⟨h2,?_⟩
  rcases h.bl i h2 (by omega) with ⟨hl,-⟩|⟨q,seq,l2,s,h1,h3,h4,h5,h6⟩
  ·rw [hl] at e6;exact absurd e6 (of_decide_eq_true rfl)
  ·have hqk:q=k:=by
    rw [h4] at e7;have:(q:Int)=(k:Int):=e7;omega
   subst hqk;exact ⟨seq,l2,s,h4,h5,h6⟩
theorem qbG.prog (h:qbG n (-1) a m D) {k:Nat} (hk:k < m.lebs.length) {i:Nat} (e:m.lebs.getD k 0=(i:Int)) {x:List Int} (hx:(D k).length+2 < a.g.P) (hz:x.length≤a.g.Z) (hxb:qbA x) :
  ∃ a',qaZ a (i:Int) (((D k).length:Int)+2) x=(0,a')∧a'.g=a.g∧a'.wrong=a.wrong∧qbG n (-1) a' (m.put i { m.l.getD i default with f3:=((D k).length:Int)+1 }) (qlI D k (D k ++ [x])):=by
 obtain ⟨hi,seq,least,s,e1,hm,hs⟩:=h.at hk e;have hlen:=h.len;have hgP:=h.gok.2.1;have ec:((D k).length:Int)+2=(((D k).length+2:Nat):Int):=by push_cast;rfl
 have e2:=qjJ (a:=a) (n:=i) (p:=(D k).length+2) (l:=x) h.off hi hx hz hm.bad (by rw [hm.nx];push_cast;rfl) h.pl;obtain ⟨ht,hb⟩:=qjI a i ((D k).length+2) x (by omega)
 have pn:∀ j,j ≠ (D k).length+2→((a.tick.put i ((D k).length+2) 1 x).bk i).pg j=(a.bk i).pg j:=fun j hj=>by
  rw [hb];show (if j=(D k).length+2 then _ else _)=_;rw [if_neg hj]
 have pe:((a.tick.put i ((D k).length+2) 1 x).bk i).pg ((D k).length+2)=⟨1,x⟩:=by
  rw [hb];show (if (D k).length+2=(D k).length+2 then _ else _)=_;rw [if_pos rfl]
 have hln:(D k ++ [x]).length=(D k).length+1:=by simp
 have hgl:∀ j,j < (D k).length→(D k ++ [x]).getD j []=(D k).getD j []:=fun j hj=>by
  rw [List.getD_eq_getElem?_getD,List.getElem?_append_left hj,List.getD_eq_getElem?_getD]
 have hge:(D k ++ [x]).getD (D k).length []=x:=by
  rw [List.getD_eq_getElem?_getD,List.getElem?_append_right (Nat.le_refl _)];simp
 have hmap:qlH a.g ((a.tick.put i ((D k).length+2) 1 x).bk i) (m.l.getD i default).f1 (k:Int) seq least (D k ++ [x]):=by
  refine ⟨by rw [hb];exact hm.bad,by rw [hb];exact hm.er,by rw [hb,hln];push_cast;omega,by rw [pn 0 (by omega)];exact hm.p0,by rw [pn 1 (by omega)];exact hm.p1,fun j hj=>?_,fun j hj=>?_,fun j hj hj2=>?_,by rw [hln];omega,hm.lb,hm.sq,by have:=hm.le;rw [hln];push_cast;omega⟩
  ·by_cases hjl:j < (D k).length
   ·rw [pn (j+2) (by omega),hgl j hjl];exact hm.pd j hjl
   ·obtain rfl:j=(D k).length:=by omega
    rw [pe,hge]
  ·by_cases hjl:j < (D k).length
   ·rw [hgl j hjl];exact hm.pz j hjl
   ·obtain rfl:j=(D k).length:=by omega
    rw [hge];exact hz
  ·rw [hln] at hj;rw [pn j (by omega)];exact hm.pr j (by omega) hj2
 have hget:∀ j,(m.l.set i ({ m.l.getD i default with f3:=((D k).length:Int)+1 }:Blk)).getD j default=if j=i then { m.l.getD i default with f3:=((D k).length:Int)+1 } else m.l.getD j default:=fun j=>qdU _ _ _ _ _ (by omega)
 refine ⟨_,by rw [ec];exact e2,ht.g,ht.wr,{ off:=ht.off.trans h.off,pl:=ht.pl.trans h.pl,dead:=h.dead,rg:=?_,gok:=?_,by_:=?_,len:=?_,lbs:=?_,sq:=h.sq,ct:=?_,lv:=?_,bl:=?_,xb:=fun j hj hjx=>?_ }⟩
 ·rw [ht.g];exact h.rg
 ·rw [ht.g];exact h.gok
 ·refine ht.by_ (fun j hj=>?_) h.by_
  by_cases hje:j=(D k).length+2
  ·subst hje;rw [pe];exact hxb
  ·rw [pn j hje];exact hj
 ·rw [ht.g];exact (List.length_set ..).trans hlen
 ·rw [ht.g];exact h.lbs
 ·intro j hj;rw [ht.g] at hj;show 0≤((m.l.set i _).getD j default).f1∧((m.l.set i _).getD j default).f1+(n:Int) < _;rw [hget j]
  by_cases hji:j=i
  ·subst hji;rw [if_pos rfl];exact h.ct j hj
  ·rw [if_neg hji];exact h.ct j hj
 ·intro q hq;rw [ht.g]
  rcases h.lv q hq with ⟨hl,hl2⟩|⟨j,hj,hje,e2,e3,e4⟩
  ·refine .inl ⟨hl,?_⟩;rw [qfG D _ (fun x=>by subst x;omega)];exact hl2
  ·refine .inr ⟨j,hj,hje,e2,?_,?_⟩
   ·show ((m.l.set i _).getD j default).f0=4;rw [hget]
    by_cases hji:j=i
    ·subst hji;rw [if_pos rfl];exact e3
    ·rw [if_neg hji];exact e3
   ·show ((m.l.set i _).getD j default).f2=_;rw [hget]
    by_cases hji:j=i
    ·subst hji;rw [if_pos rfl];exact e4
    ·rw [if_neg hji];exact e4
 ·intro j hj _;rw [ht.g] at hj ⊢;show ((m.l.set i _).getD j default=⟨2,((m.l.set i _).getD j default).f1,0,0,0,false⟩∧qgP a.g (_:ABk) ((m.l.set i _).getD j default).f1)∨∃ (q:Nat) (seq least s:Int),q < m.lebs.length∧m.lebs.getD q 0=(j:Int)∧(m.l.set i _).getD j default=⟨4,((m.l.set i _).getD j default).f1,(q:Int),((qlI D k (D k ++ [x]) q).length:Int),s,false⟩∧qlH a.g (_:ABk) ((m.l.set i _).getD j default).f1 (q:Int) seq least (qlI D k (D k ++ [x]) q)∧seq < m.seq;rw [hget j]
  by_cases hji:j=i
  ·subst hji;rw [if_pos rfl];refine .inr ⟨k,seq,least,s,hk,e,?_,?_,hs⟩
   ·rw [qfY,hln,e1]
    push_cast
    rfl
   ·rw [qfY];exact hmap
  ·rw [if_neg hji,ht.bk j hji]
   rcases h.bl j hj (by omega) with hl|⟨q,seq,l2,s,h1,h3,h4,h5,h6⟩
   ·exact .inl hl
   ·have hqk:q ≠ k:=by
     intro e4;subst e4;rw [e] at h3;exact hji (by omega)
    exact .inr ⟨q,seq,l2,s,h1,h3,by rw [qfG D _ hqk];exact h4,by rw [qfG D _ hqk];exact h5,h6⟩
 ·omega
theorem veB:∀ (q:Nat) (f:Nat→Nat) (k:Nat),(∀ i,i < k→f i < q)→(∀ i j,i < k→j < k→f i=f j→i=j)→k≤q
 | 0,f,k,h,_=>by
  cases k with
  | zero=>exact Nat.le_refl _
  | succ k=>exact absurd (h 0 (by omega)) (Nat.not_lt_zero _)
 | q+1,f,k,h,hi=>by
  cases k with
  | zero=>exact Nat.zero_le _
  | succ k =>
   have key:=veB q (fun i=>if f i=q then f k else f i) k (fun i hk=>by
    have h1:=h i (by omega);have h2:=h k (by omega);show (if f i=q then f k else f i) < q
    by_cases e:f i=q
    ·rw [if_pos e]
     by_cases e2:f k=q
     ·have:=hi i k (by omega) (by omega) (by omega);omega
     ·omega
    ·rw [if_neg e];omega) (fun i j hk hj e=>by
    have e1:(if f i=q then f k else f i)=(if f j=q then f k else f j):=e
    by_cases ei:f i=q
    ·by_cases ej:f j=q
     ·exact hi i j (by omega) (by omega) (by omega)
     ·rw [if_pos ei,if_neg ej] at e1;have:=hi k j (by omega) (by omega) e1;omega
    ·by_cases ej:f j=q
     ·rw [if_neg ei,if_pos ej] at e1;have:=hi i k (by omega) (by omega) e1;omega
     ·rw [if_neg ei,if_neg ej] at e1
      exact hi i j (by omega) (by omega) e1)
   omega
theorem qkO (xs:List Blk):∀ k,k≤xs.length→qbR (fil xs 2 k)=-1→∀ i,i < k→¬ (xs.getD i default).f0=2
 | 0,_,_,i,hi=>by omega
 | k+1,h,e,i,hi=>by
  rw [qkL xs k (by omega)] at e;unfold qrN at e
  by_cases hc:(xs.getD k default).f0=2∧(qbR (fil xs 2 k) < 0∨(xs.getD k default).f1 < (xs.getD (qbR (fil xs 2 k)).toNat default).f1)
  ·rw [if_pos hc] at e;omega
  ·rw [if_neg hc] at e;have ih:=qkO xs k (by omega) e
   by_cases hik:i=k
   ·subst hik;intro h2;exact hc ⟨h2,.inl (by omega)⟩
   ·exact ih i (by omega)
theorem qbG.pick (h:qbG n (-1) a m D):∃ i:Nat,i < a.g.B∧qgH m.l=(i:Int)∧(m.l.getD i default).f0=2:=by
 rcases qhI m.l with e|⟨i,hi,e,h2⟩
 ·exfalso
  have hn:=qkO m.l m.l.length (Nat.le_refl _) e;have hlen:=h.len;have key:=veB m.lebs.length (fun i=>(m.l.getD i default).f2.toNat) a.g.B (fun i hi=>?_) (fun i j hi hj e2=>?_)
  ·have h1:=h.lbs;obtain ⟨h3,h4,-⟩:=qeI h.rg;omega
  ·rcases h.bl i hi (by omega) with ⟨hl,-⟩|⟨q,seq,l2,s,h1,h3,h4,h5,h6⟩
   ·exact absurd (by rw [hl]) (hn i (by omega))
   ·show (m.l.getD i default).f2.toNat < _;rw [h4];exact h1
  ·have e2':(m.l.getD i default).f2.toNat=(m.l.getD j default).f2.toNat:=e2
   rcases h.bl i hi (by omega) with ⟨hl,-⟩|⟨q,seq,l2,s,h1,h3,h4,h5,h6⟩
   ·exact absurd (by rw [hl]) (hn i (by omega))
   rcases h.bl j hj (by omega) with ⟨hl,-⟩|⟨q',seq',l2',s',h1',h3',h4',h5',h6'⟩
   ·exact absurd (by rw [hl]) (hn j (by omega))
   rw [h4,h4'] at e2';have e3:q=q':=e2';subst e3;omega
 ·exact ⟨i,by rw [← h.len];exact hi,e,h2⟩
theorem qkS:∀ xs:List Blk,(∀ i,i < xs.length→¬ (xs.getD i default).f0=1)→qlR xs=xs.length
 | [],_=>rfl
 | b :: r,h=>by
  unfold qlR;rw [if_neg (show ¬ b.f0=1 from h 0 (by simp)),qkS r (fun i hi=>h (i+1) (by simpa using hi)),List.length_cons];omega
theorem qbG.spent (h:qbG n (-1) a m D):qeH m=false∧qlR m.l=a.g.B:=by
 have hlen:=h.len
 have e:qlR m.l=m.l.length:=qkS _ fun i hi=>by
  rcases h.bl i (by omega) (by omega) with ⟨hl,-⟩|⟨q,seq,l2,s,h1,h3,h4,h5,h6⟩
  ·rw [hl];exact of_decide_eq_true rfl
  ·rw [h4];exact of_decide_eq_true rfl
 refine ⟨?_,e.trans hlen⟩;unfold qeH;rw [e,hlen];have h1:=h.lbs;obtain ⟨h3,h4,-⟩:=qeI h.rg;exact decide_eq_false (by omega)
theorem qbG.ok (h:qbG n (-1) a m D):m.ok:=fun k hk=>by
 rcases h.lv k hk with ⟨e5,-⟩|⟨j2,h2,-,e5,e6,e7⟩
 ·rw [e5];omega
 ·rw [e5,h.len];omega
theorem qbG.blk (h:qbG n (-1) a m D) {k:Nat} (hk:k < m.lebs.length):(qcA m (k:Int)).1.f3=((D k).length:Int)∧(qcA m (k:Int)).1.f5=false:=by
 unfold qcA;rw [Int.toNat_natCast]
 rcases h.lv k hk with ⟨e5,e6⟩|⟨i,h2,-,e5,e6,e7⟩
 ·rw [if_pos (.inr (.inr (by omega))),e6];exact ⟨rfl,rfl⟩
 ·obtain ⟨hi,seq,least,s,e1,hm,hs⟩:=h.at hk e5;have hlen:=h.len;rw [e5,if_neg (by omega),Int.toNat_natCast]
  have e8:m.l.getD i qnS=m.l.getD i default:=by
   rw [List.getD_eq_getElem?_getD,List.getD_eq_getElem?_getD,List.getElem?_eq_getElem (by omega)];rfl
  show (m.l.getD i qnS).f3=_∧(m.l.getD i qnS).f5=_;rw [e8,e1];exact ⟨rfl,rfl⟩
end
section
open Go.Shelf Plain
variable {n:Nat} {ex:Int} {a a':AC} {m m':AM} {D:Nat→List (List Int)}
theorem qoH (xs:List Blk) (i:Nat) (l:Int) (h4:(xs.getD i default).f0=4) (h2:(xs.getD i default).f2=l):∀ q,(∀ j,j < q→(xs.getD j default).f0=4→(xs.getD j default).f2=l→j=i)→qkH xs q l=if i < q then some i else none
 | 0,_=>by rw [if_neg (by omega)];rfl
 | q+1,hu=>by
  have ih:=qoH xs i l h4 h2 q (fun j hj=>hu j (by omega));unfold qkH
  by_cases hc:(xs.getD q default).f0=4∧l=(xs.getD q default).f2
  ·rw [if_pos hc,ih];obtain rfl:=hu q (by omega) hc.1 hc.2.symm;rw [if_neg (by omega),if_pos (by omega)]
  ·rw [if_neg hc,ih]
   have hqi:q ≠ i:=by
    intro e;subst e;exact hc ⟨h4,h2.symm⟩
   by_cases hi:i < q
   ·rw [if_pos hi,if_pos (by omega)]
   ·rw [if_neg hi,if_neg (by omega)]
theorem qrO (xs:List Blk) (hu:∀ i j,i < xs.length→j < xs.length→(xs.getD i default).f0=4→(xs.getD j default).f0=4→(xs.getD j default).f2=(xs.getD i default).f2→j=i):qoN xs=xs:=by
 apply List.ext_getElem?;intro i
 by_cases hi:i < xs.length
 ·rw [qwB xs i hi,List.getElem?_eq_getElem hi]
  congr 1
  by_cases h4:xs[i].f0=4
  ·have e:=qoH xs i xs[i].f2 (by rw [qbO hi];exact h4) (by rw [qbO hi]) xs.length (fun j hj a1 a2=>hu i j hi hj (by rw [qbO hi];exact h4) a1 (by rw [qbO hi];exact a2));rw [e,if_pos hi,if_neg (fun h=>h.2 rfl)]
  ·rw [if_neg (fun h=>h4 h.1)]
 ·rw [List.getElem?_eq_none (by rw [qoM];omega),List.getElem?_eq_none (by omega)]
theorem qtS (ls:List (Blk × Bool)) (h:∀ x,x ∈ ls→x.2=true):qnM ls=ls.map Prod.fst:=by
 unfold qnM;apply List.map_congr_left;intro x hx;unfold qiI;rw [if_neg (fun h2=>by rw [h x hx] at h2;exact absurd h2.2.1 (by decide))]
def vfY (a:AC) (m:AM) (D:Nat→List (List Int)) (i:Nat) (b:Blk):Prop:=(b.f0=(m.l.getD i default).f0∧b.f1=(m.l.getD i default).f1∧b.f2=(m.l.getD i default).f2)∧((b=⟨2,b.f1,0,0,0,false⟩∧qgP a.g (a.bk i) b.f1)∨∃ (k:Nat) (seq least:Int),k < m.lebs.length∧m.lebs.getD k 0=(i:Int)∧b=⟨4,b.f1,(k:Int),((D k).length:Int),seq,false⟩∧qlH a.g (a.bk i) b.f1 (k:Int) seq least (D k)∧seq < m.seq)
theorem qbG.look (h:qbG n (-1) a m D) {i:Nat} (hi:i < a.g.B):∃ b:Blk,qdO a (i:Int)=(b,true)∧vfY a m D i b:=by
 have hct:=h.ct i hi
 rcases h.bl i hi (by omega) with ⟨hl,hf⟩|⟨q,seq,l2,s,h1,h3,h4,h5,h6⟩
 ·refine ⟨_,qtC h.off h.gok hi hf (by omega),⟨?_,rfl,?_⟩,.inl ⟨rfl,hf⟩⟩
  ·rw [hl]
  ·rw [hl]
 ·refine ⟨_,qvY h.off h.gok hi h5 (by omega),⟨?_,rfl,?_⟩,.inr ⟨q,seq,l2,h1,h3,rfl,h5,h6⟩⟩
  ·rw [h4]
  ·rw [h4]
theorem qoR (ls:List (Blk × Bool)) (i:Nat) (x:Blk × Bool) (h:ls[i]?=some x):(ls.map Prod.fst).getD i default=x.1:=by
 rw [List.getD_eq_getElem?_getD,List.getElem?_map,h];rfl
theorem qbG.scan (h:qbG n (-1) a m D):(qcM a).length=a.g.B∧∀ i,i < a.g.B→vfY a m D i ((qcM a).getD i default):=by
 have e1:qnM (qbK a a.g.B)=(qbK a a.g.B).map Prod.fst:=qtS _ fun x hx=>by
  unfold qbK at hx;obtain ⟨i,hi,rfl⟩:=List.mem_map.1 hx;obtain ⟨s,e,-⟩:=h.look (List.mem_range.1 hi);rw [e]
 have hget:∀ i,i < a.g.B→vfY a m D i (((qbK a a.g.B).map Prod.fst).getD i default):=fun i hi=>by
  obtain ⟨s,e,hs⟩:=h.look hi;rw [qoR _ i _ (qtB a a.g.B i hi),e];exact hs
 have hln:((qbK a a.g.B).map Prod.fst).length=a.g.B:=by rw [List.length_map,qfB]
 have e2:qcM a=(qbK a a.g.B).map Prod.fst:=by
  unfold qcM;rw [e1];refine qrO _ fun i j hi hj h1 h2 h3=>?_
  rw [hln] at hi hj
  rcases (hget i hi).2 with ⟨hl,-⟩|⟨q,seq,l2,g1,g3,g4,g5,g6⟩
  ·rw [hl] at h1;exact absurd h1 (of_decide_eq_true rfl)
  rcases (hget j hj).2 with ⟨hl,-⟩|⟨q',seq',l2',g1',g3',g4',g5',g6'⟩
  ·rw [hl] at h2;exact absurd h2 (of_decide_eq_true rfl)
  rw [g4,g4'] at h3;have h3'':(q':Int)=(q:Int):=h3;obtain rfl:q'=q:=by omega
  omega
 rw [e2];exact ⟨hln,hget⟩
def qmR (s:Int) (b:Blk):Int:=if b.f0=4 then max s (IntKind.u64.wrap (b.f4+1)) else s
def qcD (l:List Blk) (nl:Nat):AM:=⟨l,(List.range nl).map (fun (i:Nat)=>qfO (i:Int) l 0),l.foldl qmR 0,false⟩
theorem quW (M:Int) (hM:M < 4611686018427387904):∀ (l:List Blk) (s:Int),0≤s→s≤M→(∀ b,b ∈ l→b.f0=4→0≤b.f4∧b.f4 < M)→(s≤l.foldl qmR s∧l.foldl qmR s≤M)∧∀ b,b ∈ l→b.f0=4→b.f4 < l.foldl qmR s
 | [],s,_,h,_=>⟨⟨Int.le_refl _,h⟩,fun b hb=>nomatch hb⟩
 | b :: r,s,h0,h,hb=>by
  rw [List.foldl_cons]
  have hs:s≤qmR s b∧qmR s b≤M∧(b.f0=4→b.f4 < qmR s b):=by
   unfold qmR
   by_cases h4:b.f0=4
   ·have hbb:=hb b (by simp) h4
    have hw:IntKind.u64.wrap (b.f4+1)=b.f4+1:=by
     unfold IntKind.wrap;simp [IntKind.bits,IntKind.signed];omega
    rw [if_pos h4,hw];omega
   ·rw [if_neg h4];exact ⟨Int.le_refl _,h,fun h=>absurd h h4⟩
  obtain ⟨⟨k1,k2⟩,k3⟩:=quW M hM r (qmR s b) (by omega) hs.2.1 (fun x hx=>hb x (by simp [hx]));refine ⟨⟨by omega,k2⟩,fun x hx hx4=>?_⟩
  rcases List.mem_cons.1 hx with rfl|hx
  ·have:=hs.2.2 hx4;omega
  ·exact k3 x hx hx4
theorem qiE (f:Nat→Int) (q k:Nat) (h:k < q):((List.range q).map f).getD k 0=f k:=by
 rw [List.getD_eq_getElem?_getD,List.getElem?_map,List.getElem?_range h];rfl
theorem qbG.attach (h:qbG n (-1) a m D):qbG n (-1) a (qcD (qcM a) m.lebs.length) D:=by
 obtain ⟨hln,hget⟩:=h.scan;generalize hxs:qcM a=xs at hln hget;have hll:(qcD xs m.lebs.length).lebs.length=m.lebs.length:=by simp [qcD]
 have hmem:∀ b,b ∈ xs→b.f0=4→0≤b.f4∧b.f4 < m.seq:=fun b hb h4=>by
  obtain ⟨i,hi,rfl⟩:=List.mem_iff_getElem.1 hb
  rcases (hget i (by omega)).2 with ⟨hl,-⟩|⟨q,seq,l2,g1,g3,g4,g5,g6⟩
  ·rw [qbO hi] at hl;rw [hl] at h4;exact absurd h4 (of_decide_eq_true rfl)
  ·rw [qbO hi] at g4;rw [g4];exact ⟨g5.sq.1,g6⟩
 obtain ⟨⟨k1,k2⟩,k3⟩:=quW m.seq (by have:=h.sq;omega) xs 0 (Int.le_refl _) h.sq.1 hmem;have hat:∀ i,i < a.g.B→(xs.getD i default).f0=(m.l.getD i default).f0∧(xs.getD i default).f1=(m.l.getD i default).f1∧(xs.getD i default).f2=(m.l.getD i default).f2:=fun i hi=>(hget i hi).1
 have huni:∀ k,k < m.lebs.length→∀ j,(hj:j < xs.length)→xs[j].f0=4→xs[j].f2=(k:Int)→m.lebs.getD k 0=(j:Int):=fun k hk j hj a1 a2=>by
  rcases (hget j (by omega)).2 with ⟨hl,-⟩|⟨q,seq,l2,g1,g3,g4,g5,g6⟩
  ·rw [qbO hj] at hl;rw [hl] at a1;exact absurd a1 (of_decide_eq_true rfl)
  ·rw [qbO hj] at g4;rw [g4] at a2;have a3:(q:Int)=(k:Int):=a2;obtain rfl:q=k:=by omega
   exact g3
 refine { off:=h.off,pl:=h.pl,dead:=rfl,rg:=h.rg,gok:=h.gok,by_:=h.by_,len:=hln,lbs:=?_,sq:=?_,ct:=?_,lv:=?_,bl:=?_,xb:=fun i hi e=>by omega }
 ·rw [hll];exact h.lbs
 ·show 0≤xs.foldl qmR 0∧xs.foldl qmR 0+(n:Int) < _;have:=h.sq;omega
 ·intro i hi;show 0≤(xs.getD i default).f1∧(xs.getD i default).f1+(n:Int) < _;rw [(hat i hi).2.1];exact h.ct i hi
 ·intro k hk;rw [hll] at hk;show (((List.range m.lebs.length).map (fun (i:Nat)=>qfO (i:Int) xs 0)).getD k 0=-1∧D k=[])∨∃ i:Nat,i < a.g.B∧(i:Int) ≠ -1∧((List.range m.lebs.length).map (fun (i:Nat)=>qfO (i:Int) xs 0)).getD k 0=(i:Int)∧(xs.getD i default).f0=4∧(xs.getD i default).f2=(k:Int);rw [qiE _ _ _ hk]
  rcases h.lv k hk with ⟨e5,e6⟩|⟨i,h2,h7,e5,e6,e8⟩
  ·refine .inl ⟨?_,e6⟩;refine qiT _ _ _ fun j hj hc=>?_
   have:=huni k hk j hj hc.1 hc.2;omega
  ·obtain ⟨b1,b2,b3⟩:=hat i h2;refine .inr ⟨i,h2,h7,?_,b1.trans e6,b3.trans e8⟩;have hi:i < xs.length:=by omega
   have:=qiG (k:Int) xs 0 i hi (by rw [← qbO hi];exact b1.trans e6) (by rw [← qbO hi];exact b3.trans e8) (fun j hj hji hc=>by
    have:=huni k hk j hj hc.1 hc.2
    omega)
   rw [this];simp
 ·intro i hi _;show (xs.getD i default=⟨2,(xs.getD i default).f1,0,0,0,false⟩∧qgP a.g (a.bk i) (xs.getD i default).f1)∨∃ (q:Nat) (seq least s:Int),q < (qcD xs m.lebs.length).lebs.length∧((List.range m.lebs.length).map (fun (i:Nat)=>qfO (i:Int) xs 0)).getD q 0=(i:Int)∧xs.getD i default=⟨4,(xs.getD i default).f1,(q:Int),((D q).length:Int),s,false⟩∧qlH a.g (a.bk i) (xs.getD i default).f1 (q:Int) seq least (D q)∧seq < xs.foldl qmR 0;have hi2:i < xs.length:=by omega
  rcases (hget i hi).2 with hl|⟨q,seq,l2,g1,g3,g4,g5,g6⟩
  ·exact .inl hl
  ·refine .inr ⟨q,seq,l2,seq,by rw [hll];exact g1,?_,g4,g5,?_⟩
   ·rw [qiE _ _ _ g1]
    have:=qiG (q:Int) xs 0 i hi2 (by rw [← qbO hi2,g4]) (by rw [← qbO hi2,g4]) (fun j hj hji hc=>by
     have:=huni q g1 j hj hc.1 hc.2
     omega)
    rw [this];simp
   ·have:=k3 _ (List.getElem_mem hi2) (by rw [← qbO hi2,g4]);rw [← qbO hi2,g4] at this;exact this
end
end Go.Proofs.YtdlimghdimkadaaGreatDoor.PAll

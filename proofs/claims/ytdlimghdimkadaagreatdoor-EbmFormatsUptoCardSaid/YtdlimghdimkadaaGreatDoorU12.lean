/- Part 12 of what the law EbmFormats rests on. -/
import Derived.Test.YtdlimghdimkadaaGreatDoorU11
import Derived.Deep.Slices
import Derived.SizedLaws
import Derived.ChangeArms
import Derived.Test.YtdlimghdimkadaaGreatDoorU0
set_option maxRecDepth 100000
set_option maxHeartbeats 32000000
set_option linter.unusedSimpArgs false
set_option linter.unusedVariables false
namespace Go.Proofs.YtdlimghdimkadaaGreatDoor.PAll
open Go Go.RowKit YtdlimghdimkadaaGreatDoorW.PrintWords YtdlimghdimkadaaGreatDoorW.PrintLast YtdlimghdimkadaaGreatDoorW.PrintMore
attribute [local go_sem] qdG qdE qdY qdX qcJ qcI qdF qdD
section
open Go.Shelf Plain
variable {w0 W W':World} {gm gc gl cl ge ce:Nat} {a a':AC} {m m':AM}
theorem qsF {n:Nat} {b:ABk} (h:qbV a) (hb:∀ j,qbA (b.pg j).d):qbV (a.setBk n b):=fun i j=>by
 show qbA (((if i=n then b else a.bk i):ABk).pg j).d
 by_cases hi:i=n
 ·rw [if_pos hi];exact hb j
 ·rw [if_neg hi];exact h i j
theorem qsG (h:qbV a) (n p:Nat) (st:Int) {d:List Int} (hd:qbA d):qbV (a.put n p st d):=qsF h fun j=>by
 show qbA ((if j=p then (⟨st,d⟩:APg) else (a.bk n).pg j):APg).d
 by_cases hj:j=p
 ·rw [if_pos hj];exact hd
 ·rw [if_neg hj];exact h n j
theorem veP (h:qbV a) (n:Nat) (st nx:Int):qbV (a.erased n st nx):=qsF h fun j=>by
 show qbA ((if j < a.g.P then (⟨st,[]⟩:APg) else (a.bk n).pg j):APg).d
 by_cases hj:j < a.g.P
 ·rw [if_pos hj];exact fun _ h=>nomatch h
 ·rw [if_neg hj];exact h n j
theorem qlD:qbA []:=fun _ h=>nomatch h
theorem vcW (h:qbV a) (n p:Int) {l:List Int} (hl:qbA l):qbV (qaZ a n p l).2:=by
 unfold qaZ
 repeat' split
 all_goals first
  | exact h
  | exact qsG (a:=a.tick) h _ _ _ hl
  | exact qsG (a:=a.tick) h _ _ _ qlD
  | exact qsG (a:=a.tick.cut) h _ _ _ hl
  | exact qsG (a:=a.tick.cut) h _ _ _ qlD
theorem qzX (h:qbV a) (n:Int):qbV (qbY a n).2:=by
 unfold qbY
 repeat' split
 all_goals first
  | exact h
  | exact veP (a:=a.tick) h _ _ _
  | exact veP (a:=a.tick.cut) h _ _ _
  | exact qsF (a:=a.tick.cut) h (fun j=>h _ j)
theorem qxH (h:qbV a) (n:Int):qbV (qeW a n).2:=by
 unfold qeW
 repeat' split
 all_goals first
  | exact h
  | exact qsF h (fun j=>h _ j)
theorem qoZ (n page:Int):qbA (qdN n page).1:=by
 unfold qdN
 split
 ·exact qlD
 ·exact qhJ (qgM _) _
theorem vcX (h:qbV a) (m:AM) (i:Nat):qbV (qcF a m i).2.1:=by
 have h1:=qzX h (i:Int);have h2:=vcW h1 (i:Int) 0 (qoZ (wrap64 ((m.l.getD i default).f1+1)) a.g.Z);unfold qcF
 repeat' split
 ·exact h1
 ·exact qxH h1 _
 ·exact h2
 ·exact qxH h2 _
 ·exact h2
theorem vaI (a:AC) (m:AM) (i:Nat):(qcF a m i).2.1.g=a.g:=by
 unfold qcF
 repeat' split
 ·exact qhL _ _
 ·exact (qrL _ _).trans (qhL _ _)
 ·exact (qeP _ _ _ _).trans (qhL _ _)
 ·exact (qrL _ _).trans ((qeP _ _ _ _).trans (qhL _ _))
 ·exact (qeP _ _ _ _).trans (qhL _ _)
theorem MK.fresh {s:List Nat} (h:MK s W W') (hs:∀ x,x ∈ s→W.heap.size≤x):MK [] W W':=fun k cs t fr a b c _ hk=>h k cs t fr a b c (.inr fun hm=>by
 have h1:=hs k hm;have h2:=qcG hk
 omega) hk
def unL (l:List Int) (i:Nat):List Int:=List.replicate i (-1) ++ l.drop i
theorem vaY (l:List Int) (i:Nat) (h:i≤l.length):(unL l i).length=l.length:=by simp [unL];omega
theorem vaX (l:List Int) (i:Nat) (h:i < l.length):(unL l i).set i (-1)=unL l (i+1):=by
 unfold unL;rw [List.set_append_right _ _ (by simp),List.length_replicate,Nat.sub_self,List.drop_eq_getElem_cons h,List.set_cons_zero,List.replicate_succ',List.append_assoc];rfl
theorem vaZ (l:List Int):unL l l.length=List.replicate l.length (-1):=by simp [unL]
theorem qpO (h:qdW w0 W gc a) (hby:qbV a) (aE:Addr) (hgE:gNone w0 aE) (hon:a.off=false) (nl:Nat) (hnl:(nl:Int)=qeJ a.g.B a.g.P a.g.Z a.g.R) (hnb:nl≤a.g.B) (hsp:qeH (qcD (qcM a) nl)=false)
  (r:Int × AC × AM) (hr:qzH a.g.B 0 a ⟨qcM a,List.replicate nl (-1),0,false⟩=r) (hr0:r.1=0) :
  Calls Tryz.prog 23 #[cp gc] W fun x w'=>∃ gm gl cl ge ce:Nat,x=.returned (.tuple #[kp gm,.int .i64 0])∧Man w0 w' gm gc gl cl ge ce r.2.1 r.2.2∧MK [] W w'∧W.heap.size≤gm∧W.heap.size≤gl∧W.heap.size≤ge:=by
 have HAT:=aM (qlG h hby aE (qaH hgE h.below) hon nl hnl hnb);have HGE:=aM hgE;have HBY:=aM hby;have HLN:=aM (qgA a);have hgok:=h.gok.1;have HG0:=aM (show ∃ g,g=a.g from ⟨_,rfl⟩);have HML:=aM (show ∃ m0:AM,m0=qcD (qcM a) nl∧m0.l=qcM a∧m0.lebs.length=nl∧m0.dead=false from ⟨_,rfl,rfl,by simp [qcD],rfl⟩);obtain ⟨m0,hm0,hml,hmb,hmd⟩:=HML.out;rw [← hm0] at HAT hsp;have HSP:=aM hsp;have HR:=aM hr;have HR0:=aM hr0;have HNB:=aM hnb;clear HML hm0 h hby hgE hon hnl hnb hsp hr hr0 HG0;generalize qcM a=xs at HR HLN hml;have hu68:=Tryz.underlying68;go_enter Tryz.func23,Tryz.ntmps23
 go_upto_region 4 with (first
  | (go_at_call 86;(with_reducible refine HAT.out.mono ?_);rintro z w1 ⟨gm,gl,cl,ge,ce,rfl,hm,hb,g1,g2,g3⟩;have H1:=aM hm;have HB1:=aM hb;have HF:=aM (show W.heap.size≤gm∧W.heap.size≤gl∧W.heap.size≤ge from ⟨g1,g2,g3⟩);clear hm hb g1 g2 g3))
 have HSPT:=aM (qcZ H1.out);rw [HSP.out] at HSPT
 go_upto_region 6 with (first
  | (go_at_call 40;(with_reducible refine HSPT.out.mono ?_);rintro z w2 ⟨rfl,hb⟩;have H2:=aM (H1.out.grow hb);have HK2:=aM (MK.of_below (s:=[gm,gl,ge]) (qaC HB1.out hb));clear hb))
 have c6:w2.cell? ⟨gm,6,none⟩=some (.slice (some ⟨ge,0,none⟩) m0.lebs.length ce):=H2.out.cell 6;rw [hmb] at c6;have HMB:=aM hmb;have HMLL:=aM hml;have HMD:=aM hmd;clear H1 HB1 HSPT HSP HAT hmb hml hmd
 go_upto_region 7 with (fail)
 clear c6;go_loopw [27] (fun v27 wr=>∃ i:Nat,i≤nl∧v27=.int .i64 i∧qaJ (Man w0 wr gm gc gl cl ge ce a { m0 with lebs:=unL m0.lebs i })∧qaJ (MK [gm,gl,ge] W wr)) (fun v27 _=>nl - (intOf v27).toNat);case atStart=>exact ⟨0,Nat.zero_le _,rfl,⟨by rw [show unL m0.lebs 0=m0.lebs by simp [unL]];exact H2.out⟩,HK2⟩
 case round =>
  clear H2 HK2;obtain ⟨i,hi,rfl,HM,HK⟩:=hrel
  by_cases hlt:i < nl
  ·have d0:decide ((i:Int) < (nl:Int))=true:=decide_eq_true (by omega);have hq:(i < nl)=True:=eq_true hlt;have hqi:((i:Int) < (nl:Int))=True:=eq_true (by omega);have hwj:wrap64 ((i:Int)+1)=(i:Int)+1:=by have:=HNB.out;unfold wrap64;omega
   have hwk:IntKind.i64.wrap ((i:Int)+1)=(i:Int)+1:=by rw [qbL];exact hwj
   have hln:(unL m0.lebs i).length=nl:=by rw [vaY _ _ (by rw [HMB.out];omega),HMB.out]
   have y6:wr.cell? ⟨gm,6,none⟩=some (.slice (some ⟨ge,0,none⟩) (unL m0.lebs i).length ce):=HM.out.cell 6;rw [hln] at y6
   obtain ⟨fo,fz⟩:∃ fo:Int,wr.cell? ⟨ge,i,none⟩=some (.int .i64 fo):=⟨_,HM.out.b.cell i (by show i < (unL m0.lebs i).length;rw [hln];exact hlt)⟩
   have fi:=HM.out.b.frozen i
   have H5:=aM (show Man w0 (wr.setCell ⟨ge,i,none⟩ (.int .i64 (-1))) gm gc gl cl ge ce a { m0 with lebs:=unL m0.lebs (i+1) } by
    have:=HM.out.setI i (by show i < (unL m0.lebs i).length;rw [hln];exact hlt) (-1);rw [← vaX m0.lebs i (by rw [HMB.out];exact hlt)]
    exact this)
   have HK5:=aM (show MK [gm,gl,ge] W (wr.setCell ⟨ge,i,none⟩ (.int .i64 (-1))) by obtain ⟨cells,hg,-⟩:=HM.out.b;exact HK.out.set hg (.inr (.inl rfl)) i (.int .i64 (-1)));have HLT:=aM hlt;clear hi hlt hln HM HK;go_wp2;go_roundw;case rel=>exact ⟨i+1,HLT.out,by push_cast;rfl,H5,HK5⟩
   case measure=>have:=HLT.out;simp [intOf];omega
  ·obtain rfl:i=nl:=by omega
   have d0:decide ((i:Int) < (i:Int))=false:=decide_eq_false (by omega)
   have hun:unL m0.lebs i=List.replicate i (-1):=by
    have:=vaZ m0.lebs;rw [HMB.out] at this;exact this
   rw [hun] at HM;have y7:wr.cell? ⟨gm,7,none⟩=some (.int .u64 m0.seq):=HM.out.cell 7;have f7:=qaE HM.out.c 7
   have H5:=aM (show Man w0 (wr.setCell ⟨gm,7,none⟩ (.int .u64 0)) gm gc gl cl ge ce a ⟨xs,List.replicate i (-1),0,false⟩ by
    have:=HM.out.setM (m':={ m0 with lebs:=List.replicate i (-1),seq:=0 }) 7 (.int .u64 0) rfl rfl rfl;rw [show (⟨xs,List.replicate i (-1),0,false⟩:AM)={ m0 with lebs:=List.replicate i (-1),seq:=0 } by rw [← HMLL.out,← HMD.out]]
    exact this)
   have HK5:=aM (show MK [gm,gl,ge] W (wr.setCell ⟨gm,7,none⟩ (.int .u64 0)) from HK.out.set HM.out.c (.inl rfl) 7 _);clear hun hlt hi HM HK
   go_upto_region 12 with (fail)
   generalize wr.setCell ⟨gm,7,none⟩ (.int .u64 0)=W5 at H5 HK5 ⊢;clear y7 f7 d0;have c5:W5.cell? ⟨gm,5,none⟩=some (.slice (some ⟨gl,0,none⟩) xs.length cl):=H5.out.cell 5;rw [HLN.out] at c5
   go_upto_region 13 with (fail)
   clear c5;have HCN:=HLN;go_loopw [45] (fun v45 wr=>∃ (j:Nat) (b:AC) (o:AM),j≤a.g.B∧v45=.int .i64 j∧qaJ (qzH (a.g.B - j) j b o=r)∧qaJ (Man w0 wr gm gc gl cl ge ce b o)∧qaJ (qbV b)∧qaJ (b.g=a.g)∧qaJ (MK [gm,gl,ge] W wr)) (fun v45 _=>a.g.B - (intOf v45).toNat);case atStart=>exact ⟨0,a,_,Nat.zero_le _,rfl,⟨by rw [Nat.sub_zero];exact HR.out⟩,H5,HBY,⟨rfl⟩,HK5⟩
   case round =>
    clear H5 HK5 HR HBY;obtain ⟨j,b,o,hj,rfl,HR,HM,HBY,HGG,HK⟩:=hrel
    by_cases hlt:j < a.g.B
    ·have d0:decide ((j:Int) < (a.g.B:Int))=true:=decide_eq_true (by omega);have hq:(j < a.g.B)=True:=eq_true hlt;have hqi:((j:Int) < (a.g.B:Int))=True:=eq_true (by omega);have hwj:wrap64 ((j:Int)+1)=(j:Int)+1:=by unfold wrap64;omega
     have hwk:IntKind.i64.wrap ((j:Int)+1)=(j:Int)+1:=by rw [qbL];exact hwj
     have hlo:o.l.length=a.g.B:=by rw [HM.out.ln,HGG.out]
     have hjo:j < o.l.length:=by omega
     have HJO:=aM hjo;have HJB:=aM (show j < b.g.B by rw [HGG.out];exact hlt)
     have HR1:=aM (show (if (o.l.getD j default).f0=1 then qzH (a.g.B - (j+1)) (j+1) b o
       else if (qcF b (o.put j { o.l.getD j default with f1:=(qaQ (qbW b (j:Int) 0).1).1 }) j).1=0 then qzH (a.g.B - (j+1)) (j+1) (qcF b (o.put j { o.l.getD j default with f1:=(qaQ (qbW b (j:Int) 0).1).1 }) j).2.1 (qcF b (o.put j { o.l.getD j default with f1:=(qaQ (qbW b (j:Int) 0).1).1 }) j).2.2
       else qcF b (o.put j { o.l.getD j default with f1:=(qaQ (qbW b (j:Int) 0).1).1 }) j)=r by
      have h1:=HR.out;rw [show a.g.B - j=(a.g.B - (j+1))+1 by omega] at h1
      exact h1)
     obtain ⟨z0,z1,z2,z3,z4,z5⟩:=HM.out.l.cell j hjo;have HBD:=aM (qbO hjo)
     obtain ⟨x,hx⟩:∃ x,x=o.l.getD j default:=⟨_,rfl⟩
     rw [← hx] at HR1;have hxj:o.l[j]=x:=by rw [hx];exact HBD.out.symm
     have HXJ:=aM (show ∀ q (hq:q < o.l.length),q=j→o.l[q]=x by rintro q hq rfl;exact hxj);rw [hxj] at z0 z1 z2 z3 z4 z5;have HLT:=aM hlt;clear hxj HBD hx hjo hlo hj hlt HR
     go_upto_region 15 with (fail)
     generalize hW:wr.alloc (.cells (bC x) 68)=W5
     obtain ⟨g8,hg8⟩:∃ g8,g8=wr.heap.size:=⟨_,rfl⟩
     rw [← hg8];have H5:=aM (show Man w0 W5 gm gc gl cl ge ce b o by rw [← hW];exact HM.out.grow (qaA (Below.refl _ _) _));have HK5:=aM (show MK [gm,gl,ge] W W5 by rw [← hW];exact HK.out.trans (MK.of_below (qaA (Below.refl _ _) _)));have hx5:W5.heap[g8]?=some (.cells (bC x) 68 (0,0)):=by rw [← hW,hg8];exact qaM _ _ _
     have x0:=Joins.cell_of_block hx5 0;clear hW hx5 z0 z1 z2 z3 z4 z5 HM HK hg8
     by_cases h1:x.f0=1
     ·have e0:(x.f0==1)=true:=by simp only [beq_iff_eq];exact h1
      have e0n:(x.f0=1)=True:=eq_true h1;have HR2:=aM ((if_pos h1).symm.trans HR1.out);clear h1;go_wp2;go_roundw;case rel=>exact ⟨j+1,b,o,HLT.out,by push_cast;rfl,HR2,H5,HBY,HGG,HK5⟩
      case measure=>have:=HLT.out;simp [intOf];omega
     ·have e0:(x.f0==1)=false:=by simp only [beq_eq_false_iff_ne];exact h1
      have e0n:(x.f0=1)=False:=eq_false h1;have HR2:=aM ((if_neg h1).symm.trans HR1.out);have HRD:=aM (H5.out.chip.read (j:Int) 0);have HPB:=aM (qhC HBY.out (j:Int) 0);generalize qbW b (j:Int) 0=rd at HRD HPB HR2;obtain ⟨pg,e9⟩:=rd;simp only at HRD HPB HR2;clear h1 HR1
      go_upto_region 17 with (first
       | (go_at_call 77;(with_reducible refine HRD.out.mono ?_);rintro z w6 ⟨v6,rfl,hr6,hb6⟩;obtain ⟨A6,c6,e6⟩:=Kd.R_slice hr6;subst e6;have HR6:=aM hr6;have HB6:=aM hb6;clear hr6 hb6))
      have HPC:=aM (fun (w:World) (hb:Below w6.heap.size w6 w)=>qhY A6 c6 pg aE w HPB.out (Kd.R_reads' (Kd.R_below HR6.out hb)).2.2 (Kd.R_reads' HR6.out).2.1 (qaH HGE.out (H5.out.grow (qaC HB6.out hb)).chip.below));generalize (qaQ pg).1=ct at HPC HR2
      have HST:=aM (fun (w:World) (hb:Below W5.heap.size W5 w)=>(show Man w0 (w.setCell ⟨gl,j*6+1,none⟩ (.int .i64 ct)) gm gc gl cl ge ce b (o.put j { x with f1:=ct })∧MK [gm,gl,ge] W (w.setCell ⟨gl,j*6+1,none⟩ (.int .i64 ct)) from
       ⟨(H5.out.grow hb).setF j HJO.out { x with f1:=ct } 1 (by decide) (fun t ht htj=>by rw [HXJ.out j HJO.out rfl];match t,ht,htj with | 0,_,_=>rfl | 2,_,_=>rfl | 3,_,_=>rfl | 4,_,_=>rfl | 5,_,_=>rfl),by
        obtain ⟨cells,hg,-⟩:=(H5.out.grow hb).l
        exact (HK5.out.trans (MK.of_below hb)).setF hg _ _⟩))
      have y5:w6.cell? ⟨gm,5,none⟩=some (.slice (some ⟨gl,0,none⟩) o.l.length cl):=(H5.out.grow HB6.out).cell 5;have hq2:(j < o.l.length)=True:=eq_true HJO.out;have hqi2:((j:Int) < (o.l.length:Int))=True:=eq_true (by have:=HJO.out;omega);go_cut [45] from 45 to 78 (fun v45 wx=>v45=.int .i64 j∧qaJ (Man w0 wx gm gc gl cl ge ce b (o.put j { x with f1:=ct }))∧qaJ (MK [gm,gl,ge] W wx))
      case first =>
       go_region_with (first
        | (go_at_call 87;(with_reducible refine (HPC.out _ (by first|exact qaO (Below.refl _ _)|exact Below.refl _ _)).mono ?_);rintro z w7 ⟨rfl,hb7⟩;have HB7:=aM (qaC (qaO (Below.refl _ _)) hb7);have y57:=qaH y5 HB7.out;have HB57:=aM (qaC HB6.out HB7.out);obtain ⟨-,k1,-,-,-,-⟩:=(H5.out.grow HB57.out).l.cell j HJO.out;have fz:=(H5.out.grow HB57.out).l.frozen (j*6+1);clear hb7))
       all_goals go_wp2
       all_goals go_meet
       all_goals exact ⟨rfl,⟨(HST.out _ HB57.out).1⟩,⟨(HST.out _ HB57.out).2⟩⟩
      case rest =>
       obtain ⟨rfl,H8,HK8⟩:=hcut;generalize wc=w8 at H8 HK8 ⊢;have HFR:=aM (qnJ H8.out j HJB.out);have HAB:=aM (vcX HBY.out (o.put j { x with f1:=ct }) j);have HGN:=aM ((vaI b (o.put j { x with f1:=ct }) j).trans HGG.out);generalize qcF b (o.put j { x with f1:=ct }) j=t at HFR HAB HGN HR2;obtain ⟨e10,b10,o10⟩:=t;simp only at HFR HAB HGN HR2
       have h10:e10=0:=by
        have h1:=HR2.out
        by_cases h2:e10=0
        ·exact h2
        ·rw [if_neg h2] at h1;have h3:=HR0.out;rw [← h1] at h3;exact h3
       subst h10;have HR3:=aM ((if_pos rfl).symm.trans HR2.out);clear y5 x0 H5 HK5 HST HPC HR2 HRD
       go_wp2_with (first
        | (go_at_call 88;(with_reducible refine HFR.out.mono ?_);rintro z w9 ⟨v9,rfl,hv9,h9,hk9⟩;(rcases hv9.symm with ⟨h99,-⟩|⟨-,rfl⟩;exact absurd rfl h99);have H9:=aM h9;have HK9:=aM (HK8.out.trans (hk9.mono (fun z hz=>by simp only [List.mem_cons,List.not_mem_nil,or_false] at hz ⊢;rcases hz with h|h;exact .inl h;exact .inr (.inl h))));clear h9 hk9))
       go_roundw;case rel=>exact ⟨j+1,b10,o10,HLT.out,by push_cast;rfl,HR3,H9,HAB,HGN,HK9⟩
       case measure=>have:=HLT.out;simp [intOf];omega
    ·obtain rfl:j=a.g.B:=by omega
     have d0:decide ((a.g.B:Int) < (a.g.B:Int))=false:=decide_eq_false (by omega);have HR1:=aM (show (0,b,o)=r by have h1:=HR.out;rw [Nat.sub_self] at h1;exact h1);clear hlt hj HR;go_wp2;go_ret2;rw [← HR1.out]
     exact ⟨gm,gl,cl,ge,ce,rfl,HM.out,HK.out.fresh (fun z hz=>by
      have hf:=HF.out;simp only [List.mem_cons,List.not_mem_nil,or_false] at hz
      rcases hz with rfl|rfl|rfl
      ·exact hf.1
      ·exact hf.2.1
      ·exact hf.2.2),HF.out⟩
end
section
open Go.Shelf Plain
variable {w0 W W':World} {gm gc gl cl ge ce:Nat} {a a':AC} {m m':AM}
def qzU:Nat→Nat→AC→AM→Int × AC × AM
 | 0,_,a,m=>(0,a,m)
 | k+1,i,a,m=>if ¬ (m.l.getD i default).f0=3∨qeH m=true then qzU k (i+1) a m
  else if (qcF a m i).1=0 then qzU k (i+1) (qcF a m i).2.1 (qcF a m i).2.2
  else qcF a m i
theorem qpJ:∀ (k i:Nat) (a:AC) (m:AM),(∀ j,i≤j→j < i+k→¬ (m.l.getD j default).f0=3)→qzU k i a m=(0,a,m)
 | 0,_,_,_,_=>rfl
 | k+1,i,a,m,h=>by
  unfold qzU;rw [if_pos (.inl (h i (Nat.le_refl _) (by omega)))];exact qpJ k (i+1) a m (fun j hj hj2=>h j (by omega) (by omega))
theorem qsM (m:AM):qeH m=true∨qeH m=false:=by cases qeH m <;> simp
theorem qxQ (h:qdW w0 W gc a) (hby:qbV a) (aE:Addr) (hgE:gNone w0 aE) (hon:a.off=false) (nl:Nat) (hnl:(nl:Int)=qeJ a.g.B a.g.P a.g.Z a.g.R) (hnb:nl≤a.g.B)
  (r:Int × AC × AM) (hr:qzU a.g.B 0 a (qcD (qcM a) nl)=r) (hr0:r.1=0) :
  Calls Tryz.prog 29 #[cp gc] W fun x w'=>∃ gm gl cl ge ce:Nat,x=.returned (.tuple #[kp gm,.int .i64 0])∧Man w0 w' gm gc gl cl ge ce r.2.1 r.2.2∧MK [] W w'∧W.heap.size≤gm∧W.heap.size≤gl∧W.heap.size≤ge:=by
 have HAT:=aM (qlG h hby aE (qaH hgE h.below) hon nl hnl hnb);have hgok:=h.gok.1;have HML:=aM (show (qcD (qcM a) nl).l.length=a.g.B from qgA a);have HR:=aM hr;have HR0:=aM hr0;clear h hby hgE hon hnl hnb hr hr0;generalize qcD (qcM a) nl=m0 at HAT HML HR;have hu68:=Tryz.underlying68;go_enter Tryz.func29,Tryz.ntmps29
 go_upto_region 4 with (first
  | (go_at_call 86;(with_reducible refine HAT.out.mono ?_);rintro z w1 ⟨gm,gl,cl,ge,ce,rfl,hm,hb,g1,g2,g3⟩;have H5:=aM hm;have HK5:=aM (MK.of_below (s:=[gm,gl,ge]) hb);have HF:=aM (show W.heap.size≤gm∧W.heap.size≤gl∧W.heap.size≤ge from ⟨g1,g2,g3⟩);clear hm hb g1 g2 g3))
 have c5:w1.cell? ⟨gm,5,none⟩=some (.slice (some ⟨gl,0,none⟩) m0.l.length cl):=H5.out.cell 5;rw [HML.out] at c5
 go_upto_region 5 with (fail)
 clear c5;go_loopw [22] (fun v22 wr=>∃ (j:Nat) (b:AC) (o:AM),j≤a.g.B∧v22=.int .i64 j∧qaJ (qzU (a.g.B - j) j b o=r)∧qaJ (Man w0 wr gm gc gl cl ge ce b o)∧qaJ (b.g=a.g)∧qaJ (MK [gm,gl,ge] W wr)) (fun v22 _=>a.g.B - (intOf v22).toNat);case atStart=>exact ⟨0,a,_,Nat.zero_le _,rfl,⟨by rw [Nat.sub_zero];exact HR.out⟩,H5,⟨rfl⟩,HK5⟩
 case round =>
  clear H5 HK5 HR HAT HML;obtain ⟨j,b,o,hj,rfl,HR,HM,HGG,HK⟩:=hrel
  by_cases hlt:j < a.g.B
  ·have d0:decide ((j:Int) < (a.g.B:Int))=true:=decide_eq_true (by omega);have hq:(j < a.g.B)=True:=eq_true hlt;have hqi:((j:Int) < (a.g.B:Int))=True:=eq_true (by omega);have hwj:wrap64 ((j:Int)+1)=(j:Int)+1:=by unfold wrap64;omega
   have hwk:IntKind.i64.wrap ((j:Int)+1)=(j:Int)+1:=by rw [qbL];exact hwj
   have hlo:o.l.length=a.g.B:=by rw [HM.out.ln,HGG.out]
   have hjo:j < o.l.length:=by omega
   have HJB:=aM (show j < b.g.B by rw [HGG.out];exact hlt)
   have HR1:=aM (show (if ¬ (o.l.getD j default).f0=3∨qeH o=true then qzU (a.g.B - (j+1)) (j+1) b o
     else if (qcF b o j).1=0 then qzU (a.g.B - (j+1)) (j+1) (qcF b o j).2.1 (qcF b o j).2.2
     else qcF b o j)=r by
    have h1:=HR.out;rw [show a.g.B - j=(a.g.B - (j+1))+1 by omega] at h1
    exact h1)
   obtain ⟨z0,z1,z2,z3,z4,z5⟩:=HM.out.l.cell j hjo;have HBD:=aM (qbO hjo)
   obtain ⟨x,hx⟩:∃ x,x=o.l.getD j default:=⟨_,rfl⟩
   rw [← hx] at HR1;have hxj:o.l[j]=x:=by rw [hx];exact HBD.out.symm
   rw [hxj] at z0 z1 z2 z3 z4 z5;have HLT:=aM hlt;clear hxj HBD hx hjo hlo hj hlt HR
   go_upto_region 7 with (fail)
   generalize hW:wr.alloc (.cells (bC x) 68)=W5
   obtain ⟨g8,hg8⟩:∃ g8,g8=wr.heap.size:=⟨_,rfl⟩
   rw [← hg8];have H5:=aM (show Man w0 W5 gm gc gl cl ge ce b o by rw [← hW];exact HM.out.grow (qaA (Below.refl _ _) _));have HK5:=aM (show MK [gm,gl,ge] W W5 by rw [← hW];exact HK.out.trans (MK.of_below (qaA (Below.refl _ _) _)));have hx5:W5.heap[g8]?=some (.cells (bC x) 68 (0,0)):=by rw [← hW,hg8];exact qaM _ _ _
   have x0:=Joins.cell_of_block hx5 0;clear hW hx5 z0 z1 z2 z3 z4 z5 HM HK hg8
   by_cases h3:x.f0=3
   ·have e0:(x.f0==3)=true:=by simp only [beq_iff_eq];exact h3
    have e0n:(x.f0 != 3)=false:=by rw [bne,e0];rfl
    have HSPT:=aM (qcZ H5.out)
    rcases qsM o with hsp|hsp
    ·have HR2:=aM ((if_pos (.inr hsp)).symm.trans HR1.out);rw [hsp] at HSPT;clear h3 HR1 hsp
     go_wp2_with (first
      | (go_at_call 40;(with_reducible refine HSPT.out.mono ?_);rintro z w2 ⟨rfl,hb⟩;have H6:=aM (H5.out.grow hb);have HK6:=aM (HK5.out.trans (MK.of_below hb));clear hb))
     go_roundw;case rel=>exact ⟨j+1,b,o,HLT.out,by push_cast;rfl,HR2,H6,HGG,HK6⟩
     case measure=>have:=HLT.out;simp [intOf];omega
    ·have HR2:=aM ((if_neg (fun h=>by rcases h with h|h;exact h h3;rw [hsp] at h;exact absurd h (by decide))).symm.trans HR1.out);rw [hsp] at HSPT;clear h3 HR1 hsp
     go_upto_region 8 with (first
      | (go_at_call 40;(with_reducible refine HSPT.out.mono ?_);rintro z w2 ⟨rfl,hb⟩;have H6:=aM (H5.out.grow hb);have HK6:=aM (HK5.out.trans (MK.of_below hb));clear hb))
     have HFR:=aM (qnJ H6.out j HJB.out);have HGN:=aM ((vaI b o j).trans HGG.out);generalize qcF b o j=t at HFR HGN HR2;obtain ⟨e10,b10,o10⟩:=t;simp only at HFR HGN HR2
     have h10:e10=0:=by
      have h1:=HR2.out
      by_cases h2:e10=0
      ·exact h2
      ·rw [if_neg h2] at h1;have h3:=HR0.out;rw [← h1] at h3;exact h3
     subst h10;have HR3:=aM ((if_pos rfl).symm.trans HR2.out);clear x0 H5 HK5 HR2 HSPT
     go_wp2_with (first
      | (go_at_call 88;(with_reducible refine HFR.out.mono ?_);rintro z w9 ⟨v9,rfl,hv9,h9,hk9⟩;(rcases hv9.symm with ⟨h99,-⟩|⟨-,rfl⟩;exact absurd rfl h99);have H9:=aM h9;have HK9:=aM (HK6.out.trans (hk9.mono (fun z hz=>by simp only [List.mem_cons,List.not_mem_nil,or_false] at hz ⊢;rcases hz with h|h;exact .inl h;exact .inr (.inl h))));clear h9 hk9))
     go_roundw;case rel=>exact ⟨j+1,b10,o10,HLT.out,by push_cast;rfl,HR3,H9,HGN,HK9⟩
     case measure=>have:=HLT.out;simp [intOf];omega
   ·have e0:(x.f0==3)=false:=by simp only [beq_eq_false_iff_ne];exact h3
    have e0n:(x.f0 != 3)=true:=by rw [bne,e0];rfl
    have HR2:=aM ((if_pos (.inl h3)).symm.trans HR1.out);clear h3 HR1;go_wp2;go_roundw;case rel=>exact ⟨j+1,b,o,HLT.out,by push_cast;rfl,HR2,H5,HGG,HK5⟩
    case measure=>have:=HLT.out;simp [intOf];omega
  ·obtain rfl:j=a.g.B:=by omega
   have d0:decide ((a.g.B:Int) < (a.g.B:Int))=false:=decide_eq_false (by omega);have HR1:=aM (show (0,b,o)=r by have h1:=HR.out;rw [Nat.sub_self] at h1;exact h1);clear hlt hj HR;go_wp2;go_ret2;rw [← HR1.out]
   exact ⟨gm,gl,cl,ge,ce,rfl,HM.out,HK.out.fresh (fun z hz=>by
    have hf:=HF.out;simp only [List.mem_cons,List.not_mem_nil,or_false] at hz
    rcases hz with rfl|rfl|rfl
    ·exact hf.1
    ·exact hf.2.1
    ·exact hf.2.2),HF.out⟩
end
section
open Go.Shelf Plain
variable {w0 W W':World} {gm gc gl cl ge ce:Nat} {a a':AC} {m m':AM}
theorem qzI (n:Nat) (hn:n≤1048576) (w:World):Calls Tryz.prog 97 #[.slice none 0 0,.int .i64 n] w fun e w'=>∃ v:Value,e=.returned v∧Kd.R kB 5 w' w.heap.size (fun _=>True) v (List.replicate n 255)∧Below w.heap.size w w':=by
 obtain ⟨K,h⟩:=qsD [] n hn;have h1:=bits_Fill.calls K none 0 [] (n:Int) (qfC [] n) w (Kd.R_reads' (Kd.R_nil kB 5 w 0 (fun _=>True))).2.2 (Nat.le_refl _) (h K (Nat.le_refl _));have e:qfC [] n=List.replicate n 255:=by simp [qfC]
 rw [e] at h1;exact h1
theorem vcZ (h:Man w0 W gm gc gl cl ge ce a m) (hok:m.ok) (leb page:Int) (hpg:page < 4611686018427387904):Calls Tryz.prog 31 #[kp gm,.int .i64 leb,.int .i64 page] W fun x w'=>∃ v:Value,x=.returned (.tuple #[v,.int .i64 (qmS a m leb page).2])∧Kd.R kB 5 w' W.heap.size (fun _=>True) v (qmS a m leb page).1∧Below W.heap.size W w':=by
 have H:=aM h;have hgP:=h.chip.gok.2.1;have hgZ:=h.chip.gok.2.2;have y6:W.cell? ⟨gm,6,none⟩=some (.slice (some ⟨ge,0,none⟩) m.lebs.length ce):=h.cell 6;have HMP:=aM (fun (w:World) (hb:Below W.heap.size W w)=>qcO (h.grow hb));have HPW:=aM (fun (w:World) (hb:Below W.heap.size W w)=>qdR (h.grow hb));have HUS:=aM (fun (w:World) (hb:Below W.heap.size W w)=>qeR (h.grow hb) hok leb);have HFL:=aM (fun (w:World)=>qzI a.g.Z (by omega) w)
 by_cases h1:leb < 0
 ·have d0:decide (leb < 0)=true:=decide_eq_true h1;have d0n:(leb < 0)=True:=eq_true h1;have HE:=aM (show qmS a m leb page=([],22) from if_pos (.inl h1));rw [HE.out];clear h HE hok hgP hgZ h1;go_enter Tryz.func31,Tryz.ntmps31;go_wp2;go_ret2;exact ⟨_,rfl,Kd.R_nil _ _ _ _ _,Below.refl _ _⟩
 have d0:decide (leb < 0)=false:=decide_eq_false h1;have d0n:(leb < 0)=False:=eq_false h1
 by_cases h2:(m.lebs.length:Int)≤leb
 ·have d1:decide ((m.lebs.length:Int)≤leb)=true:=decide_eq_true h2;have d1n:((m.lebs.length:Int)≤leb)=True:=eq_true h2;have HE:=aM (show qmS a m leb page=([],22) from if_pos (.inr (.inl h2)));rw [HE.out];clear h HE hok hgP hgZ h1 h2;go_enter Tryz.func31,Tryz.ntmps31;go_wp2;go_ret2;exact ⟨_,rfl,Kd.R_nil _ _ _ _ _,Below.refl _ _⟩
 have d1:decide ((m.lebs.length:Int)≤leb)=false:=decide_eq_false h2;have d1n:((m.lebs.length:Int)≤leb)=False:=eq_false h2
 by_cases h3:page < 0
 ·have d2:decide (page < 0)=true:=decide_eq_true h3;have d2n:(page < 0)=True:=eq_true h3;have HE:=aM (show qmS a m leb page=([],22) from if_pos (.inr (.inr (.inl h3))));rw [HE.out];clear h HE hok hgP hgZ h1 h2 h3;go_enter Tryz.func31,Tryz.ntmps31;go_wp2;go_ret2;exact ⟨_,rfl,Kd.R_nil _ _ _ _ _,Below.refl _ _⟩
 have d2:decide (page < 0)=false:=decide_eq_false h3;have d2n:(page < 0)=False:=eq_false h3
 by_cases h4:(a.g.P:Int) - 2≤page
 ·have d3:decide ((a.g.P:Int) - 2≤page)=true:=decide_eq_true h4;have d3n:((a.g.P:Int) - 2≤page)=True:=eq_true h4;have HE:=aM (show qmS a m leb page=([],22) from if_pos (.inr (.inr (.inr h4))));rw [HE.out];clear h HE hok hgP hgZ h1 h2 h3 h4;go_enter Tryz.func31,Tryz.ntmps31
  go_wp2_with (first
  | (go_at_call 26;(with_reducible refine (HMP.out _ (Below.refl _ _)).mono ?_);rintro x w2 ⟨rfl,hb2⟩;have HB2:=aM hb2;clear hb2)
  | (go_at_call 96;(with_reducible refine (HPW.out _ HB2.out).mono ?_);rintro x w4 ⟨rfl,hb4⟩;have HB4:=aM (qaC HB2.out hb4);clear hb4)
  | (go_at_call 27;(with_reducible refine (HUS.out _ HB4.out).mono ?_);rintro x w5 ⟨rfl,hb5⟩;have HB5:=aM (qaC HB4.out hb5);clear hb5)
  | (go_at_call 97;(with_reducible refine (HFL.out _).mono ?_);rintro x w6 ⟨v6,rfl,hr6,hb6⟩;have HR6:=aM hr6;have HB6:=aM hb6;clear hb6 hr6))
  go_ret2;exact ⟨_,rfl,Kd.R_nil _ _ _ _ _,HB2.out⟩
 have d3:decide ((a.g.P:Int) - 2≤page)=false:=decide_eq_false h4;have d3n:((a.g.P:Int) - 2≤page)=False:=eq_false h4
 have HE1:=aM (show qmS a m leb page=if ¬ qjD a m=0 then ([],qjD a m) else if (qcA m leb).1.f3≤page then (List.replicate a.g.Z 255,0) else qbW a (m.lebs.getD leb.toNat 0) (page+2) from if_neg (fun h=>by
  rcases h with h|h|h|h
  ·exact h1 h
  ·exact h2 h
  ·exact h3 h
  ·exact h4 h))
 by_cases hpw:qjD a m=0
 ·have HE2:=aM (HE1.out.trans (if_neg (fun h=>h hpw)));rw [hpw] at HPW
  by_cases hu:(qcA m leb).1.f3≤page
  ·have HE3:=aM (HE2.out.trans (if_pos hu));rw [HE3.out];generalize (qcA m leb).1.f3=u at hu HUS;have d5:decide (u≤page)=true:=decide_eq_true hu;have d5n:(u≤page)=True:=eq_true hu;clear h HE1 HE2 HE3 hok hgP hgZ h1 h2 h3 h4 hpw hu;go_enter Tryz.func31,Tryz.ntmps31
   go_upto_region 9 with (first
  | (go_at_call 26;(with_reducible refine (HMP.out _ (Below.refl _ _)).mono ?_);rintro x w2 ⟨rfl,hb2⟩;have HB2:=aM hb2;clear hb2)
  | (go_at_call 96;(with_reducible refine (HPW.out _ HB2.out).mono ?_);rintro x w4 ⟨rfl,hb4⟩;have HB4:=aM (qaC HB2.out hb4);clear hb4)
  | (go_at_call 27;(with_reducible refine (HUS.out _ HB4.out).mono ?_);rintro x w5 ⟨rfl,hb5⟩;have HB5:=aM (qaC HB4.out hb5);clear hb5)
  | (go_at_call 97;(with_reducible refine (HFL.out _).mono ?_);rintro x w6 ⟨v6,rfl,hr6,hb6⟩;have HR6:=aM hr6;have HB6:=aM hb6;clear hb6 hr6))
   have y3:w5.cell? ⟨gm,3,none⟩=some (.int .i64 a.g.Z):=(H.out.grow HB5.out).cell 3
   go_wp2_with (first
  | (go_at_call 26;(with_reducible refine (HMP.out _ (Below.refl _ _)).mono ?_);rintro x w2 ⟨rfl,hb2⟩;have HB2:=aM hb2;clear hb2)
  | (go_at_call 96;(with_reducible refine (HPW.out _ HB2.out).mono ?_);rintro x w4 ⟨rfl,hb4⟩;have HB4:=aM (qaC HB2.out hb4);clear hb4)
  | (go_at_call 27;(with_reducible refine (HUS.out _ HB4.out).mono ?_);rintro x w5 ⟨rfl,hb5⟩;have HB5:=aM (qaC HB4.out hb5);clear hb5)
  | (go_at_call 97;(with_reducible refine (HFL.out _).mono ?_);rintro x w6 ⟨v6,rfl,hr6,hb6⟩;have HR6:=aM hr6;have HB6:=aM hb6;clear hb6 hr6))
   go_ret2;exact ⟨_,rfl,Kd.R_lower HR6.out (qaI HB5.out),qaC HB5.out HB6.out⟩
  ·have HE3:=aM (HE2.out.trans (if_neg hu));rw [HE3.out];generalize (qcA m leb).1.f3=u at hu HUS;have d5:decide (u≤page)=false:=decide_eq_false hu;have d5n:(u≤page)=False:=eq_false hu
   obtain ⟨k,rfl⟩:∃ k:Nat,leb=(k:Int):=⟨leb.toNat,by omega⟩
   rw [Int.toNat_natCast];have hk:k < m.lebs.length:=by omega
   obtain ⟨p,hp⟩:∃ p,p=m.lebs.getD k 0:=⟨_,rfl⟩
   rw [← hp];have HYK:=aM (show ∀ q (hq:q < m.lebs.length),q=k→m.lebs[q]=p by rintro q hq rfl;rw [hp,List.getD_eq_getElem?_getD,List.getElem?_eq_getElem hq];rfl);have HKL:=aM hk;have hq:(k < m.lebs.length)=True:=eq_true hk;have hqi:((k:Int) < (m.lebs.length:Int))=True:=eq_true (by omega);have hwj:wrap64 (page+2)=page+2:=by unfold wrap64;omega
   have hwk:IntKind.i64.wrap (page+2)=page+2:=by rw [qbL];exact hwj
   clear h HE1 HE2 HE3 hok hgP hgZ h1 h2 h3 h4 hpw hu hk hp;go_enter Tryz.func31,Tryz.ntmps31
   go_upto_region 10 with (first
  | (go_at_call 26;(with_reducible refine (HMP.out _ (Below.refl _ _)).mono ?_);rintro x w2 ⟨rfl,hb2⟩;have HB2:=aM hb2;clear hb2)
  | (go_at_call 96;(with_reducible refine (HPW.out _ HB2.out).mono ?_);rintro x w4 ⟨rfl,hb4⟩;have HB4:=aM (qaC HB2.out hb4);clear hb4)
  | (go_at_call 27;(with_reducible refine (HUS.out _ HB4.out).mono ?_);rintro x w5 ⟨rfl,hb5⟩;have HB5:=aM (qaC HB4.out hb5);clear hb5)
  | (go_at_call 97;(with_reducible refine (HFL.out _).mono ?_);rintro x w6 ⟨v6,rfl,hr6,hb6⟩;have HR6:=aM hr6;have HB6:=aM hb6;clear hb6 hr6))
   have H5:=aM (H.out.grow HB5.out);have y0:w5.cell? ⟨gm,0,none⟩=some (cp gc):=H5.out.cell 0;have z6:w5.cell? ⟨gm,6,none⟩=some (.slice (some ⟨ge,0,none⟩) m.lebs.length ce):=H5.out.cell 6;have zk:w5.cell? ⟨ge,k,none⟩=some (.int .i64 p):=by rw [← HYK.out k HKL.out rfl];exact H5.out.b.cell k HKL.out
   have HRD:=aM (fun (w:World) (hb:Below w5.heap.size w5 w)=>(H5.out.grow hb).chip.read p (page+2));generalize hrd:qbW a p (page+2)=rd at HRD;obtain ⟨pg,e9⟩:=rd;simp only at HRD;have HRQ:=aM hrd;clear hrd
   go_region_with (first
    | (go_at_call 77;(with_reducible refine (HRD.out _ (by first|exact qaO (Below.refl _ _)|exact Below.refl _ _)).mono ?_);rintro x w6 ⟨v6,rfl,hr6,hb6⟩;have HR6:=aM hr6;have HB6:=aM hb6;clear hb6 hr6))
   all_goals go_wp2
   all_goals go_ret2
   all_goals rw [HRQ.out]
   all_goals exact ⟨_,rfl,Kd.R_lower HR6.out (qaI (qaO HB5.out)),qaC (qaO HB5.out) HB6.out⟩
 ·have HE2:=aM (HE1.out.trans (if_pos hpw));rw [HE2.out];have d6:(qjD a m==0)=false:=by simp only [beq_eq_false_iff_ne];exact hpw
  have d6p:(qjD a m=0)=False:=eq_false hpw;generalize qjD a m=e at HPW d6 d6p;clear h HE1 HE2 hok hgP hgZ h1 h2 h3 h4 hpw;go_enter Tryz.func31,Tryz.ntmps31
  go_wp2_with (first
  | (go_at_call 26;(with_reducible refine (HMP.out _ (Below.refl _ _)).mono ?_);rintro x w2 ⟨rfl,hb2⟩;have HB2:=aM hb2;clear hb2)
  | (go_at_call 96;(with_reducible refine (HPW.out _ HB2.out).mono ?_);rintro x w4 ⟨rfl,hb4⟩;have HB4:=aM (qaC HB2.out hb4);clear hb4)
  | (go_at_call 27;(with_reducible refine (HUS.out _ HB4.out).mono ?_);rintro x w5 ⟨rfl,hb5⟩;have HB5:=aM (qaC HB4.out hb5);clear hb5)
  | (go_at_call 97;(with_reducible refine (HFL.out _).mono ?_);rintro x w6 ⟨v6,rfl,hr6,hb6⟩;have HR6:=aM hr6;have HB6:=aM hb6;clear hb6 hr6))
  go_ret2;exact ⟨_,rfl,Kd.R_nil _ _ _ _ _,HB4.out⟩
end
section
open Go.Shelf Plain
variable {w0 W W':World} {gm gc gl cl ge ce:Nat} {a a':AC} {m m':AM} {n:Nat} {wr:Int} {g:Geo} {D:Nat→List (List Int)}
def GM (w0 W:World) (gm gc gl cl ge ce:Nat) (g:Geo) (wr:Int) (n:Nat) (D:Nat→List (List Int)):Prop:=∃ a m,Man w0 W gm gc gl cl ge ce a m∧qbG n (-1) a m D∧a.g=g∧a.wrong=wr
def qeM (g:Geo):Nat:=(qeJ g.B g.P g.Z g.R).toNat
theorem qcW {g:Geo} (hr:qbQ g.B g.P g.Z g.R=true):(qeM g:Int)=qeJ g.B g.P g.Z g.R∧10≤qeM g∧qeM g+2≤g.B∧g.B≤256:=by
 obtain ⟨h1,h2,h3,h4,h5⟩:=qeI hr;unfold qeM;rw [h1];omega
theorem GM.grow (h:GM w0 W gm gc gl cl ge ce g wr n D) (hb:Below W.heap.size W W'):GM w0 W' gm gc gl cl ge ce g wr n D:=by
 obtain ⟨a,m,h1,h2⟩:=h;exact ⟨a,m,h1.grow hb,h2⟩
theorem GM.less (h:GM w0 W gm gc gl cl ge ce g wr n D) {q:Nat} (hq:q≤n):GM w0 W gm gc gl cl ge ce g wr q D:=by
 obtain ⟨a,m,h1,h2,h3⟩:=h;exact ⟨a,m,h1,h2.less hq,h3⟩
theorem GM.below (h:GM w0 W gm gc gl cl ge ce g wr n D):Below w0.heap.size w0 W:=by
 obtain ⟨a,m,h1,h2,rfl,-⟩:=h;exact h1.chip.below
theorem qkT (h:qdW w0 W gc (qpP g [])) (aE:Addr) (hgE:gNone w0 aE) (hr:qbQ g.B g.P g.Z g.R=true) (hn:(n:Int) < 2147483000) :
  Calls Tryz.prog 23 #[cp gc] W fun x w'=>∃ gm gl cl ge ce:Nat,x=.returned (.tuple #[kp gm,.int .i64 0])∧GM w0 w' gm gc gl cl ge ce g 0 n (fun _=>[])∧MK [] W w'∧W.heap.size≤gm∧W.heap.size≤gl∧W.heap.size≤ge:=by
 have hg:GOK g:=h.gok;obtain ⟨h1,h2,h3,h4⟩:=qcW hr;have hp:=qzG (n:=n) g hg hr hn;obtain ⟨a',m',e,hG,g1,g2,g3,-⟩:=hp.format (by omega) (qeM g) h1;refine (qpO h hp.by_ aE hgE rfl (qeM g) h1 (by show qeM g≤g.B;omega) (hp.spent _ rfl (by simp only [qcD,List.length_map,List.length_range];exact h1)) _ e rfl).mono ?_;rintro x w' ⟨gm,gl,cl,ge,ce,hx,hm,hk,hf⟩;exact ⟨gm,gl,cl,ge,ce,hx,⟨a',m',hm,hG,g1,g2⟩,hk,hf⟩
theorem qqW (h:GM w0 W gm gc gl cl ge ce g wr n D) (aE:Addr) (hgE:gNone w0 aE) :
  Calls Tryz.prog 29 #[cp gc] W fun x w'=>∃ gm gl cl ge ce:Nat,x=.returned (.tuple #[kp gm,.int .i64 0])∧GM w0 w' gm gc gl cl ge ce g wr n D∧MK [] W w'∧W.heap.size≤gm∧W.heap.size≤gl∧W.heap.size≤ge:=by
 obtain ⟨a,m,hM,hG0,rfl,rfl⟩:=h;obtain ⟨h1,h2,h3,h4⟩:=qcW hG0.rg;have hG:=hG0.attach;have hnl:m.lebs.length=qeM a.g:=by have:=hG0.lbs;omega
 rw [hnl] at hG
 have e:qzU a.g.B 0 a (qcD (qcM a) (qeM a.g))=(0,a,qcD (qcM a) (qeM a.g)):=qpJ _ _ _ _ fun j _ hj=>by
  rcases hG.bl j (by omega) (by omega) with ⟨hl,-⟩|⟨q,seq,l2,s,-,-,h4,-,-⟩
  ·rw [hl];exact of_decide_eq_true rfl
  ·rw [h4];exact of_decide_eq_true rfl
 refine (qxQ hM.chip hG.by_ aE hgE hG.off (qeM a.g) h1 (by omega) _ e rfl).mono ?_;rintro x w' ⟨gm,gl,cl,ge,ce,hx,hm,hk,hf⟩;exact ⟨gm,gl,cl,ge,ce,hx,⟨a,_,hm,hG,rfl,rfl⟩,hk,hf⟩
theorem qbG.ready (h:qbG n (-1) a m D) {k:Nat} (hk:k < m.lebs.length) {xss:List (List Int)} (hx:xss.length+2≤a.g.P) (hz:∀ x,x ∈ xss→x.length≤a.g.Z):qbS a m (k:Int) xss=0:=by
 have hb:qnR a.g.Z xss=false:=by
  unfold qnR;rw [List.any_eq_false];intro x hx;simp only [decide_eq_true_eq];have:=hz x hx;omega
 have hpw:qjD a m=0:=by unfold qjD;rw [h.dead,h.off];rfl
 unfold qbS
 rw [if_neg (fun h2=>by
  rcases h2 with h2|h2|h2|h2
  ·omega
  ·omega
  ·omega
  ·rw [hb] at h2;exact absurd h2 (by decide)),if_neg (fun h2=>h2 hpw),if_neg (by rw [h.spent.1];decide)]
theorem qiN (h:GM w0 W gm gc gl cl ge ce g wr (n+1) D) (k:Nat) (hk:k < qeM g) (A:Option Addr) (c:Nat) (x:List Int) (hc:x.length≤c) (hx:∀ w',Below w0.heap.size w0 w'→MK [gm,gl,ge] W w'→Kd.C kB w' A x.length x) (hd:(D k).length+2 < g.P) (hz:x.length≤g.Z) (hxb:qbA x) :
  Calls Tryz.prog 25 #[kp gm,.int .i64 k,.slice A x.length c] W fun z w'=>z=.returned (.int .i64 0)∧GM w0 w' gm gc gl cl ge ce g wr n (qlI D k (D k ++ [x]))∧MK [gm,gl,ge] W w':=by
 obtain ⟨a,m,hM,hG,rfl,rfl⟩:=h;have hnl:m.lebs.length=qeM a.g:=by have:=hG.lbs;have:=(qcW hG.rg).1;omega
 have hkl:k < m.lebs.length:=by omega
 obtain ⟨a1,m1,e1,hG1,g1,g2,g3,i,hi⟩:=hG.claim hkl (qbX m.l);obtain ⟨a2,m2,e2,g4,g5,g6,hG2⟩:=hG1.write (by omega) hi (x:=x) (by rw [g1];exact hd) (by rw [g1];exact hz) hxb (fun b o=>(0,b,o)) 0;have hbk:=hG.blk hkl
 have hwA:qeG (fun b o=>(0,b,o)) 1 a m k x=(0,a2,m2):=by
  unfold qeG;rw [e1,if_pos rfl];exact e2
 have hw:∀ w,Below W.heap.size W w→Calls Tryz.prog 91 #[kp gm,.int .i64 k,.slice A x.length c] w fun z w'=>∃ v:Value,z=.returned v∧EV w' v ((0,a2,m2):Int × AC × AM).1∧Man w0 w' gm gc gl cl ge ce ((0,a2,m2):Int × AC × AM).2.1 ((0,a2,m2):Int × AC × AM).2.2∧MK [gm,gl,ge] w w':=fun w hb=>by
  have key:=qxR (hM.grow hb) hG.sq.1 k hkl A c x (fun w' hb2 hk2=>hx w' hb2 ((MK.of_below hb).trans hk2)) hc (fun b o=>(0,b,o)) 1 (fun q b o=>q ≠ 0∧b=a1∧o=m1) (fun _=>⟨by decide,by rw [e1],by rw [e1]⟩) (fun b o h=>h.1 rfl)
   (fun q b o h=>by
    obtain ⟨-,rfl,rfl⟩:=h;have hb1:=hG1.blk (k:=k) (by omega);have hgP:=hG.gok.2.1
    exact ⟨hG1.ok,by omega,⟨i,hi⟩,by rw [hb1.1];omega,by rw [hb1.1];omega⟩)
   (fun q w b o h h5 _=>by
    exfalso
    obtain ⟨-,rfl,rfl⟩:=h;have hb1:=hG1.blk (k:=k) (by omega);obtain ⟨a3,e3,-⟩:=hG1.prog (by omega) hi (x:=x) (by rw [g1];exact hd) (by rw [g1];exact hz) hxb;rw [hi,hb1.1,e3] at h5
    exact absurd h5 (of_decide_eq_true rfl))
  rw [hwA] at key;exact key
 refine (qzY hM hG.ok (k:Int) A c x hc hx (hG.ready hkl (xss:=[x]) (by show 1+2≤a.g.P;omega) (fun y hy=>by rw [List.mem_singleton.1 hy];exact hz)) hbk.2 (by rw [hbk.1];omega) (0,a2,m2) hw (fun w v _ hv=>qpW _ rfl w v hv)).mono ?_;rintro z w' ⟨rfl,hm,hk⟩;exact ⟨rfl,⟨a2,m2,hm,hG2,g4.trans g1,g5.trans g2⟩,hk⟩
theorem qsJ (h:GM w0 W gm gc gl cl ge ce g wr n D) (k:Nat) (hk:k < qeM g) (A:Option Addr) (c:Nat) (x:List Int) (hc:x.length≤c) (hx:∀ w',Below w0.heap.size w0 w'→MK [gm,gl,ge] W w'→Kd.C kB w' A x.length x) (hd:g.P≤(D k).length+2) (hz:x.length≤g.Z) :
  Calls Tryz.prog 25 #[kp gm,.int .i64 k,.slice A x.length c] W fun z w'=>z=.returned (.int .i64 28)∧Below W.heap.size W w':=by
 obtain ⟨a,m,hM,hG,rfl,rfl⟩:=h;have hnl:m.lebs.length=qeM a.g:=by have:=hG.lbs;have:=(qcW hG.rg).1;omega
 have hkl:k < m.lebs.length:=by omega
 have hbk:=hG.blk hkl;have hgP:=hG.gok.2.1;exact quG hM hG.ok (k:Int) A c x hc hx (hG.ready hkl (xss:=[x]) (by show 1+2≤a.g.P;omega) (fun y hy=>by rw [List.mem_singleton.1 hy];exact hz)) hbk.2 (by rw [hbk.1];omega)
theorem qlC (h:GM w0 W gm gc gl cl ge ce g wr (n+2) D) (k:Nat) (hk:k < qeM g) (A:Option Addr) (c:Nat) (xss:List (List Int)) (hc:xss.length≤c) (hp:qcY [gm,gl,ge] w0 W A xss) (hx:xss.length+2≤g.P) (hz:∀ x,x ∈ xss→x.length≤g.Z) (hxb:∀ x,x ∈ xss→qbA x) :
  Calls Tryz.prog 28 #[kp gm,.int .i64 k,.slice A xss.length c] W fun z w'=>z=.returned (.int .i64 0)∧GM w0 w' gm gc gl cl ge ce g wr n (qlI D k xss)∧MK [gm,gl,ge] W w':=by
 obtain ⟨a,m,hM,hG,rfl,rfl⟩:=h;have hnl:m.lebs.length=qeM a.g:=by have:=hG.lbs;have:=(qcW hG.rg).1;omega
 have hkl:k < m.lebs.length:=by omega
 obtain ⟨i,hi,e1,hf⟩:=hG.pick;obtain ⟨a2,m2,e2,g1,g2,g3,hG2⟩:=hG.moved hkl (pk:=pkL) (pg:=fun _ _=>xss) hi e1 hf (xss.length:Int) ⟨by omega,Int.le_refl _⟩ hx hz hxb (qbX m.l)
 have hss:∀ x,x ∈ [gm,gl]→x ∈ [gm,gl,ge]:=fun z hz=>by
  simp only [List.mem_cons,List.not_mem_nil,or_false] at hz ⊢
  rcases hz with h|h
  ·exact .inl h
  ·exact .inr (.inl h)
 refine (qxN hM (k:Int) A c xss hc hp (hG.ready hkl hx hz) (0,a2,m2) (fun w g9 hb hg=>?_) (fun w v _ hv=>qpW _ rfl w v hv)).mono ?_
 ·have hM2:=hM.grow hb;have hpl:=qvI hM2 hG.sq.1 (k:Int) (xss.length:Int) A c xss hc ((hp.mono hss).later (MK.of_below hb)) g9 hg;have hlb:=qgR pkL (fun _ _=>xss) (k:Int) (xss.length:Int) (qbX m.l+1) true a m;have hpg:=qqB pkL (fun _ _=>xss) (k:Int) (xss.length:Int) (qbX m.l+1) true a m
  have key:=qrK hM2 k hkl [gm,gl,ge] (fun z hz=>hz) (xss.length:Int) _ _ _ (hpl.mono (fun x w' h=>by
   obtain ⟨v,h1,h2,h3,h4⟩:=h
   exact ⟨v,h1,h2,h3,h4.mono hss⟩)) hlb (hG.ok k hkl) hpg
  rw [show qmD (qaV pkL (fun _ _=>xss) (k:Int) (xss.length:Int) (qbX m.l+1) true a m) m k=(0,a2,m2) from e2] at key;exact key
 ·rintro z w' ⟨rfl,hm,hk⟩;exact ⟨rfl,⟨a2,m2,hm,hG2,g1,g2⟩,hk⟩
theorem qlW (h:GM w0 W gm gc gl cl ge ce g wr (n+1) D) (k:Nat) (hk:k < qeM g) :
  Calls Tryz.prog 37 #[kp gm,.int .i64 k] W fun z w'=>z=.returned (.int .i64 0)∧GM w0 w' gm gc gl cl ge ce g wr n (qlI D k [])∧MK [gm,gl,ge] W w':=by
 obtain ⟨a,m,hM,hG,rfl,rfl⟩:=h;have hnl:m.lebs.length=qeM a.g:=by have:=hG.lbs;have:=(qcW hG.rg).1;omega
 have hkl:k < m.lebs.length:=by omega
 have hgP:=hG.gok.2.1;obtain ⟨a2,m2,e2,g1,g2,g3,hG2⟩:=hG.unmap hkl;have key:=qzZ hM hG.ok k hkl (hG.ready hkl (xss:=[]) (by show 0+2≤a.g.P;omega) (fun x hx=>nomatch hx)) (fun w v _ hv=>qpW _ (by rw [e2]) w v hv);rw [e2] at key;refine key.mono ?_;rintro z w' ⟨rfl,hm,hk⟩;exact ⟨rfl,⟨a2,m2,hm,hG2,g1,g2⟩,hk⟩
theorem qjT (h:GM w0 W gm gc gl cl ge ce g wr n D) (k:Nat) (hk:k < qeM g) :
  Calls Tryz.prog 27 #[kp gm,.int .i64 k] W fun z w'=>z=.returned (.int .i64 (D k).length)∧Below W.heap.size W w':=by
 obtain ⟨a,m,hM,hG,rfl,rfl⟩:=h;have hnl:m.lebs.length=qeM a.g:=by have:=hG.lbs;have:=(qcW hG.rg).1;omega
 have key:=qeR hM hG.ok (k:Int);rw [(hG.blk (k:=k) (by omega)).1] at key;exact key
theorem qwA (h:GM w0 W gm gc gl cl ge ce g wr n D):Calls Tryz.prog 24 #[kp gm] W fun z w'=>z=.returned (.int .i64 (qeM g))∧Below W.heap.size W w':=by
 obtain ⟨a,m,hM,hG,rfl,rfl⟩:=h;have hnl:m.lebs.length=qeM a.g:=by have:=hG.lbs;have:=(qcW hG.rg).1;omega
 have key:=qyL hM;rw [hnl] at key;exact key
theorem qkA (h:GM w0 W gm gc gl cl ge ce g wr n D) (k:Nat) (hk:k < qeM g) (p:Nat) (hp:p+2 < g.P) :
  Calls Tryz.prog 31 #[kp gm,.int .i64 k,.int .i64 p] W fun z w'=>∃ v:Value,z=.returned (.tuple #[v,.int .i64 0])∧Kd.R kB 5 w' W.heap.size (fun _=>True) v ((D k).getD p [] ++ List.replicate (g.Z - ((D k).getD p []).length) 255)∧Below W.heap.size W w':=by
 obtain ⟨a,m,hM,hG,rfl,rfl⟩:=h;have hnl:m.lebs.length=qeM a.g:=by have:=hG.lbs;have:=(qcW hG.rg).1;omega
 have hgP:=hG.gok.2.1;have key:=vcZ hM hG.ok (k:Int) (p:Int) (by omega);rw [hG.read (by omega) hp] at key;exact key
end
section
open Go.Shelf Plain
variable {w0 W W':World} {gm gc gl cl ge ce:Nat} {a a':AC} {m m':AM} {n:Nat} {wr:Int} {g:Geo} {D:Nat→List (List Int)}
theorem vfK {k:Nat} {x:Int} {fr:Nat × Nat} (hx:W.heap[k]?=some (.cells #[.int .u8 x] 5 fr)):Kd.C kB W (some ⟨k,0,none⟩) 1 [x]:=by
 refine ⟨rfl,(by show (1:Nat)≤_;decide),fun _=>⟨_,rfl,fun j p hj=>?_⟩⟩
 match j,hj with
 | 0,hj =>
  cases hj
  refine ⟨[.int .u8 x],rfl,rfl,fun i u hi=>?_⟩
  match i,hi with
  | 0,hi=>cases hi;simp [World.cell?,hx,Addr.add]
  | i+1,hi=>simp at hi
 | j+1,hj=>simp at hj
theorem vgA {s:List Nat} {w':World} (h:MK s W w') {base:Nat} {ok:Nat→Prop} {v:Value} {l:List Int} (hr:Kd.R kB 5 W base ok v l):Kd.R kB 5 w' base ok v l :=
 Kd.R_mono (Kd.R_move (Kd.R_bound hr) (fun k hk=>by
  obtain ⟨_,_,_,q,hq,cells,hc⟩:=hk;have hq2:q=5:=by simpa [Kd.int,Kd.scalar] using hq
  subst hq2;rw [hc]
  exact h.far (by decide) hc)) (fun _ hk=>hk.1)
def KM (W:World) (gm nl:Nat):Prop:=∃ (cs:Array Value) (A:Option Addr) (c:Nat),W.heap[gm]?=some (.cells cs 129 (0,0))∧cs[6]?=some (.slice A nl c)
theorem GM.km (h:GM w0 W gm gc gl cl ge ce g wr n D):KM W gm (qeM g):=by
 obtain ⟨a,m,hM,hG,rfl,rfl⟩:=h;have hnl:m.lebs.length=qeM a.g:=by have:=hG.lbs;have:=(qcW hG.rg).1;omega
 refine ⟨_,some ⟨ge,0,none⟩,ce,hM.c,?_⟩;rw [← hnl];rfl
theorem KM.mk {s:List Nat} {nl:Nat} (h:KM W gm nl) (hk:MK s W W') (hn:gm ∉ s):KM W' gm nl:=by
 obtain ⟨cs,A,c,h1,h2⟩:=h;exact ⟨cs,A,c,hk.out (by decide) hn h1,h2⟩
theorem KM.lt {nl:Nat} (h:KM W gm nl):gm < W.heap.size:=by
 obtain ⟨cs,A,c,h1,h2⟩:=h;exact qcG h1
theorem vcA {nl:Nat} (h:KM W gm nl):Calls Tryz.prog 24 #[kp gm] W fun x w'=>x=.returned (.int .i64 nl)∧Below W.heap.size W w':=by
 obtain ⟨cs,A,c,h1,h2⟩:=h;have c6:W.cell? ⟨gm,6,none⟩=some (.slice A nl c):=(Joins.cell_of_block h1 6).trans h2;clear h1 h2;go_enter Tryz.func24,Tryz.ntmps24;go_wp2;go_ret;exact ⟨rfl,Below.refl _ _⟩
theorem qxZ (A0:Option Addr) (c0:Nat) (A1:Option Addr) (c1:Nat) (l:List Int) (w:World) (hr0:Kd.C kB w A0 l.length l) (hc0:l.length≤c0) (hr1:Kd.C kB w A1 l.length l) (hc1:l.length≤c1) :
  Calls Tryz.prog 32 #[.slice A0 l.length c0,.slice A1 l.length c1] w fun e w'=>e=.returned (.bool true)∧Below w.heap.size w w':=by
 refine (pumicelaw01_Same.calls A0 c0 l A1 c1 l true w hr0 hc0 hr1 hc1 (by unfold pumicelaw01_Same.f;simp)).mono ?_;rintro e w' ⟨rfl,hd⟩;exact ⟨rfl,hd.below⟩
abbrev pg1 (x:Int):List Int:=[x] ++ List.replicate 127 255
theorem qvJ (x:Int):(pg1 x).length=128:=by simp [pg1]
theorem qmG {x:Int} {A:Option Addr} {c:Nat} {base:Nat} (hr:Kd.R kB 5 W base (fun _=>True) (.slice A (pg1 x).length c) (pg1 x)):∃ ad,A=some ad∧W.cell? ad=some (.int .u8 x):=by
 obtain ⟨-,-,hC⟩:=Kd.R_reads' hr;obtain ⟨ad,cs,e0,-,hK,hc⟩:=Kd.C_get hC 0 0 (by omega) (by rw [qvJ];decide);refine ⟨ad,e0,?_⟩;have h1:=hc 0;have hcs:cs=[.int .u8 x]:=hK;rw [hcs] at h1;have h2:=h1 _ rfl
 simpa [Addr.add] using h2
theorem qtF:qeM qfT=12:=by
 have h:qeJ (qfT.B:Int) qfT.P qfT.Z qfT.R=12:=qtE;unfold qeM;rw [h];rfl
end
section
open Go.Shelf Plain
variable {w0 W W':World} {gm gc gl cl ge ce:Nat} {a a':AC} {m m':AM} {n:Nat} {wr:Int} {g:Geo} {D:Nat→List (List Int)}
theorem qwW {x:Int} (h:0≤x∧x < 256):qbA [x]:=fun y hy=>by rw [List.mem_singleton.1 hy];exact h
theorem qpM (aE:Addr) (w:World) (hg:gNone w aE):Calls Tryz.prog 22 #[] w fun e w'=>e=.returned (.bool true)∧Below w.heap.size w w':=by
 have HSM:=aM qxV;have HNW:=aM qvT;have HG:=aM hg;have HR:=aM (show qbQ qfT.B qfT.P qfT.Z qfT.R=true by kernel_rfl);have hL:=qtF;have hcv:=fun (w:World) (x:Int)=>Lib.run_convert_bytes_const (P:=Tryz.prog) w 35 5 #[.int .u8 x] 1 1 Tryz.underlying35 Tryz.underlying5
 have HLL:=aM hL;clear hg hL;go_enter Tryz.func22,Tryz.ntmps22
 go_upto_region 2 with (first
  | (go_at_call 55;(with_reducible refine (HSM.out _).mono ?_);rintro e w1 ⟨rfl,hb1⟩;have HB1:=aM hb1;clear hb1)
  | (go_at_call 11;(with_reducible refine (HNW.out _).mono ?_);rintro e w2 ⟨gc,rfl,hc2⟩;have HC2:=aM (hc2.lower HB1.out);clear hc2))
 have HFM:=aM (qkT (n:=20) HC2.out aE HG.out HR.out (by decide))
 go_upto_region 5 with (first
  | (go_at_call 23;(with_reducible refine HFM.out.mono ?_);rintro e w3 ⟨gm,gl,cl,ge,ce,rfl,hm3,hk3,hf3⟩;have HM3:=aM hm3;clear hm3 hk3 hf3))
 have HX3:=aM (World.alloc_heap_new w3 (.cells #[.int .u8 97] 5 (1,2)));have HBA3:=aM (qaA (Below.refl w3.heap.size w3) (.cells #[.int .u8 97] 5 (1,2)));have HGA3:=aM (HM3.out.grow HBA3.out);have HW3:=aM (show Calls Tryz.prog 25 #[kp gm,.int .i64 0,.slice (some ⟨w3.heap.size,0,none⟩) 1 1] (w3.alloc (.cells #[.int .u8 97] 5 (1,2))) _ from qiN (n:=19) HGA3.out 0 (by rw [HLL.out];decide) (some ⟨w3.heap.size,0,none⟩) 1 [97] (by decide) (fun w' _ hk=>vfK (hk.far (by decide) HX3.out)) (by decide) (by decide) (qwW (by decide)))
 go_upto_region 6 with (first
  | (go_at_call 25;(with_reducible refine HW3.out.mono ?_);rintro e w4 ⟨rfl,hm4,hk4⟩;have HM4:=aM hm4;clear hm4 hk4))
 have HX4:=aM (World.alloc_heap_new w4 (.cells #[.int .u8 98] 5 (1,2)));have HBA4:=aM (qaA (Below.refl w4.heap.size w4) (.cells #[.int .u8 98] 5 (1,2)));have HGA4:=aM (HM4.out.grow HBA4.out);have HW4:=aM (show Calls Tryz.prog 25 #[kp gm,.int .i64 0,.slice (some ⟨w4.heap.size,0,none⟩) 1 1] (w4.alloc (.cells #[.int .u8 98] 5 (1,2))) _ from qiN (n:=18) HGA4.out 0 (by rw [HLL.out];decide) (some ⟨w4.heap.size,0,none⟩) 1 [98] (by decide) (fun w' _ hk=>vfK (hk.far (by decide) HX4.out)) (by decide) (by decide) (qwW (by decide)))
 go_upto_region 7 with (first
  | (go_at_call 25;(with_reducible refine HW4.out.mono ?_);rintro e w5 ⟨rfl,hm5,hk5⟩;have HM5:=aM hm5;clear hm5 hk5))
 have HRD5:=aM (show Calls Tryz.prog 31 #[kp gm,.int .i64 0,.int .i64 1] w5 (fun z w'=>∃ v:Value,z=.returned (.tuple #[v,.int .i64 0])∧Kd.R kB 5 w' w5.heap.size (fun _=>True) v (pg1 98)∧Below w5.heap.size w5 w') from qkA HM5.out 0 (by rw [HLL.out];decide) 1 (by decide))
 go_upto_region 8 with (first
  | (go_at_call 31;(with_reducible refine HRD5.out.mono ?_);rintro e w6 ⟨v6,rfl,hr6,hb6⟩;obtain ⟨A6,c6,e6⟩:=Kd.R_slice hr6;subst e6;have HR6:=aM hr6;have HM6:=aM (HM5.out.grow hb6);clear hr6 hb6))
 have HU6:=aM (show Calls Tryz.prog 27 #[kp gm,.int .i64 0] w6 (fun z w'=>z=.returned (.int .i64 2)∧Below w6.heap.size w6 w') from qjT HM6.out 0 (by rw [HLL.out];decide))
 go_upto_region 9 with (first
  | (go_at_call 27;(with_reducible refine HU6.out.mono ?_);rintro e w7 ⟨rfl,hb7⟩;have HM7:=aM (HM6.out.grow hb7);have HR7:=aM (Kd.R_below HR6.out hb7);clear hb7))
 have HX7:=aM (World.alloc_heap_new w7 (.cells #[.int .u8 99] 5 (1,2)));have HBA7:=aM (qaA (Below.refl w7.heap.size w7) (.cells #[.int .u8 99] 5 (1,2)));have HGA7:=aM (HM7.out.grow HBA7.out)
 obtain ⟨W8,hW8⟩:∃ W8,W8=w7.alloc (.cells #[.int .u8 99] 5 (1,2)):=⟨_,rfl⟩
 have HA8:=aM (qaM W8 #[.slice (some ⟨w7.heap.size,0,none⟩) 1 1] 35);have HB8:=aM (qaA (Below.refl W8.heap.size W8) (.cells #[.slice (some ⟨w7.heap.size,0,none⟩) 1 1] 35));have HX8:=aM (show W8.heap[w7.heap.size]?=some (.cells #[.int .u8 99] 5 (1,2)) by rw [hW8];exact HX7.out);have HM8:=aM (show GM w W8 gm gc gl cl ge ce qfT 0 18 _ by rw [hW8];exact HGA7.out);have HR8:=aM (show Kd.R kB 5 (W8.alloc (.cells #[.slice (some ⟨w7.heap.size,0,none⟩) 1 1] 35)) _ (fun _=>True) _ _ from Kd.R_below (show Kd.R kB 5 W8 _ (fun _=>True) _ _ by rw [hW8];exact Kd.R_below HR7.out HBA7.out) HB8.out);have HW8:=aM (show Calls Tryz.prog 28 #[kp gm,.int .i64 0,.slice (some ⟨W8.heap.size,0,none⟩) 1 1] (W8.alloc (.cells #[.slice (some ⟨w7.heap.size,0,none⟩) 1 1] 35)) _ from qlC (n:=16) (HM8.out.grow HB8.out) 0 (by rw [HLL.out];decide) (some ⟨W8.heap.size,0,none⟩) 1 [[99]] (by decide) (qhZ HA8.out (by decide) (fun w' _ hk=>vfK (hk.far (by decide) ((HB8.out.block _ (qcG HX8.out)).trans HX8.out)))) (by decide) (fun x hx=>by rw [List.mem_singleton.1 hx];decide) (fun x hx=>by rw [List.mem_singleton.1 hx];exact qwW (by decide)));rw [show W8.heap.size=w7.heap.size+1 by rw [hW8];exact Array.size_push ..] at HW8;rw [hW8] at HW8 HR8;clear HA8 HB8 HX8 HM8 hW8
 go_upto_region 10 with (first
  | (go_at_call 28;(with_reducible refine HW8.out.mono ?_);rintro e w9 ⟨rfl,hm9,hk9⟩;have HM9:=aM hm9;have HR9:=aM (vgA hk9 HR8.out);clear hm9 hk9))
 have HRD9:=aM (show Calls Tryz.prog 31 #[kp gm,.int .i64 0,.int .i64 0] w9 (fun z w'=>∃ v:Value,z=.returned (.tuple #[v,.int .i64 0])∧Kd.R kB 5 w' w9.heap.size (fun _=>True) v (pg1 99)∧Below w9.heap.size w9 w') from qkA HM9.out 0 (by rw [HLL.out];decide) 0 (by decide))
 go_upto_region 11 with (first
  | (go_at_call 31;(with_reducible refine HRD9.out.mono ?_);rintro e w10 ⟨v10,rfl,hr10,hb10⟩;obtain ⟨A10,c10,e10⟩:=Kd.R_slice hr10;subst e10;have HQ10:=aM hr10;have HM10:=aM (HM9.out.grow hb10);have HR10:=aM (Kd.R_below HR9.out hb10);clear hr10 hb10))
 have HAT:=aM (qqW HM10.out aE HG.out);have HKM:=aM HM10.out.km
 go_upto_region 14 with (first
  | (go_at_call 29;(with_reducible refine HAT.out.mono ?_);rintro e w11 ⟨gm2,gl2,cl2,ge2,ce2,rfl,hm11,hk11,hf1,hf2,hf3⟩;have HM11:=aM hm11;have HR11:=aM (vgA hk11 HR10.out);have HQ11:=aM (vgA hk11 HQ10.out);have HK11:=aM (HKM.out.mk hk11 (by simp));have HNE:=aM (show gm ∉ [gm2,gl2,ge2] from (by have:=HKM.out.lt;simp only [List.mem_cons,List.not_mem_nil,or_false];omega));clear hm11 hk11 hf1 hf2 hf3))
 have HRD11:=aM (show Calls Tryz.prog 31 #[kp gm2,.int .i64 0,.int .i64 0] w11 (fun z w'=>∃ v:Value,z=.returned (.tuple #[v,.int .i64 0])∧Kd.R kB 5 w' w11.heap.size (fun _=>True) v (pg1 99)∧Below w11.heap.size w11 w') from qkA HM11.out 0 (by rw [HLL.out];decide) 0 (by decide))
 go_upto_region 15 with (first
  | (go_at_call 31;(with_reducible refine HRD11.out.mono ?_);rintro e w12 ⟨v12,rfl,hr12,hb12⟩;obtain ⟨A12,c12,e12⟩:=Kd.R_slice hr12;subst e12;have HS12:=aM hr12;have HM12:=aM (HM11.out.grow hb12);have HR12:=aM (Kd.R_below HR11.out hb12);have HQ12:=aM (Kd.R_below HQ11.out hb12);have HK12:=aM (HK11.out.mk (MK.of_below (s:=[]) hb12) (by simp));clear hr12 hb12))
 obtain ⟨ad6,rfl,y6⟩:=qmG HR12.out;obtain ⟨ad10,rfl,y10⟩:=qmG HQ12.out
 have HSA:=aM (show Calls Tryz.prog 32 #[.slice (some ad10) 128 c10,.slice A12 128 c12] w12 (fun e w'=>e=.returned (.bool true)∧Below w12.heap.size w12 w') from (by
  have h:=qxZ (some ad10) c10 A12 c12 (pg1 99) w12 (Kd.R_reads' HQ12.out).2.2 (Kd.R_reads' HQ12.out).2.1 (Kd.R_reads' HS12.out).2.2 (Kd.R_reads' HS12.out).2.1;rw [qvJ] at h
  exact h))
 go_wp2_with (first
  | (go_at_call 32;(with_reducible refine HSA.out.mono ?_);rintro e w13 ⟨rfl,hb13⟩;have HU13:=aM (show Calls Tryz.prog 37 #[kp gm2,.int .i64 0] w13 _ from qlW (n:=15) (HM12.out.grow hb13) 0 (by rw [HLL.out];decide));have HK13:=aM (HK12.out.mk (MK.of_below (s:=[]) hb13) (by simp));clear hb13)
  | (go_at_call 37;(with_reducible refine HU13.out.mono ?_);rintro e w14 ⟨rfl,hm14,hk14⟩;have HM14:=aM hm14;have HUS:=aM (show Calls Tryz.prog 27 #[kp gm2,.int .i64 0] w14 (fun z w'=>z=.returned (.int .i64 0)∧Below w14.heap.size w14 w') from qjT hm14 0 (by rw [HLL.out];decide));have HK14:=aM (HK13.out.mk hk14 HNE.out);clear hm14 hk14)
  | (go_at_call 27;(with_reducible refine HUS.out.mono ?_);rintro e w15 ⟨rfl,hb15⟩;have HM15:=aM (HM14.out.grow hb15);have HLB:=aM (show Calls Tryz.prog 24 #[kp gm] w15 (fun x w'=>x=.returned (.int .i64 12)∧Below w15.heap.size w15 w') from (by have h:=vcA (HK14.out.mk (MK.of_below (s:=[]) hb15) (by simp));rw [HLL.out] at h;exact h));clear hb15)
  | (go_at_call 24;(with_reducible refine HLB.out.mono ?_);rintro e w16 ⟨rfl,hb16⟩;have HB16:=aM hb16;clear hb16))
 go_ret;exact ⟨rfl,qaC HM15.out.below HB16.out⟩
end
end Go.Proofs.YtdlimghdimkadaaGreatDoor.PAll
namespace Go.Proofs.YtdlimghdimkadaaGreatDoor.Opens
open Go Go.Deep YtdlimghdimkadaaGreatDoorW.PrintWords
def Opens {α:Type} (P:Program) (t:TypeId) (d:Kd α) (G:α→Prop):Prop :=
 ∀ {H:Type} (enc:TypeId × Value→H) (W:World) (held:Bool) (fuel:Nat) (cs:List Value) (x:DataW H) (ps:List MemPlace),DataW.trod enc P W 0 (fun _=>true) held fuel t cs=some (x,ps)→(∀ n ∈ x.weights P t,n≤reachBytes)→∃ a:α,d.K W a cs∧G a
theorem Opens.int {P:Program} {t:TypeId} {k:IntKind} (ht:P.underlying t=some (.int k)):Opens P t (Kd.int k) (fun n=>(Lit.int k n).wf=true):=by
 intro H enc W held fuel cs x ps h _;obtain ⟨n,rfl,_,hw⟩:=DataW.trod_int ht h;exact ⟨n,rfl,hw⟩
theorem qzO {W:World} {base n:Nat} {a:Addr} {cs:List Value} (h:W.cells? base a n=some cs):cs.length=n∧∀ j u,cs[j]?=some u→W.cell? (a.add j)=some u:=by
 obtain ⟨_,hl,he⟩:=World.cells?_some h;refine ⟨hl,fun j u hu=>?_⟩
 have hj:j < n:=by
  have:=(List.getElem?_eq_some_iff.1 hu).1;omega
 rw [he j hj];exact hu
theorem Opens.slice {α:Type} {P:Program} {t e:TypeId} {d:Kd α} {G:α→Prop} (ht:P.underlying t=some (.slice e)) (hsz:P.cellsOf e=d.sz) (he:Opens P e d G) :
  Opens P t (Kd.slice e d) (fun l=>l.length*P.bytesOf e≤reachBytes∧∀ a ∈ l,G a):=by
 intro H enc W held fuel cs x ps h hw
 rcases open_slice ht h with ⟨rfl,_⟩|⟨a,len,cap,m,n,D,Pl,rfl,_,hl,hm,hmm,hx,hel⟩
 ·exact ⟨[],⟨none,0,rfl,Nat.le_refl _,Kd.C_nil d W⟩,by simp,by simp⟩
 ·obtain rfl:m=cap:=by simpa using hmm
  obtain ⟨rfl,_⟩:=Prod.mk.inj hx;simp only [DataW.weights,ht,List.mem_cons,List.mem_append,List.length_map,List.length_range] at hw
  have hall:∀ i,i < len→∃ b:α,∃ c:List Value,(d.K W b c∧∀ j u,c[j]?=some u→W.cell? ((a.add (i*d.sz)).add j)=some u)∧G b:=by
   intro i hi;obtain ⟨cs',hc,htr⟩:=hel i (by omega);rw [hsz] at hc
   have hwi:∀ n ∈ (D i).weights P e,n≤reachBytes:=by
    intro n hn;refine hw n (.inr (.inl ?_));clear hw hx hel
    have:∀ (l:List Nat),i ∈ l→n ∈ DataW.weightsAll P e (l.map D):=by
     intro l
     induction l with
     | nil=>simp
     | cons j l ih =>
      intro hm;simp only [List.map_cons,DataW.weightsAll,List.mem_append]
      rcases List.mem_cons.1 hm with rfl|hm
      ·exact .inl hn
      ·exact .inr (ih hm)
    exact this _ (List.mem_range.2 hi)
   obtain ⟨b,hb,hG⟩:=he enc W held n cs' (D i) (Pl i) htr hwi;exact ⟨b,cs',⟨hb,(qzO hc).2⟩,hG⟩
  have hf:∃ l:List α,l.length=len∧∀ i b,l[i]?=some b→(∃ c:List Value,d.K W b c∧∀ j u,c[j]?=some u→W.cell? ((a.add (i*d.sz)).add j)=some u)∧G b:=by
   clear hw hx hel hl hmm h
   induction len with
   | zero=>exact ⟨[],rfl,by simp⟩
   | succ len ih =>
    obtain ⟨l,h1,h2⟩:=ih (fun i hi=>hall i (by omega));obtain ⟨b,c,hb,hG⟩:=hall len (by omega);refine ⟨l ++ [b],by simp [h1],fun i b' hi=>?_⟩
    rcases Nat.lt_or_ge i l.length with hil|hil
    ·rw [List.getElem?_append_left hil] at hi;exact h2 i b' hi
    ·rw [List.getElem?_append_right hil] at hi
     obtain rfl:i=len:=by
      have:=(List.getElem?_eq_some_iff.1 hi).1;simp at this;omega
     rw [h1] at hi;simp at hi;subst hi;exact ⟨⟨c,hb⟩,hG⟩
  obtain ⟨l,hll,hl2⟩:=hf;subst hll;have hb:l.length*P.bytesOf e≤reachBytes:=Nat.le_trans (Nat.mul_le_mul_right _ (by omega)) (hw _ (.inl rfl));clear hw hx hall h hmm;refine ⟨l,⟨some a,m,rfl,hl,rfl,by unfold maxLen at hm;omega,fun _=>⟨a,rfl,fun j p hj=>?_⟩⟩,hb,?_⟩
  ·obtain ⟨⟨c,hK,hc⟩,_⟩:=hl2 j p hj;exact ⟨c,d.K_len hK,hK,fun i u hu=>by rw [← Deep.add_add];exact hc i u hu⟩
  ·intro b hb;obtain ⟨i,hi⟩:=List.getElem?_of_mem hb;exact (hl2 i b hi).2
def qeU {α:Type} (P:Program) (fs:List Field) (off:Nat) (d:Kd α) (G:α→Prop):Prop :=
 ∀ {H:Type} (enc:TypeId × Value→H) (W:World) (held:Bool) (fuel:Nat) (cs:List Value) (xs:List (DataW H × List MemPlace)),
  (∀ (i:Nat) (f:Field),fs[i]?=some f→DataW.trod enc P W 0 (fun _=>true) held fuel f.type ((cs.drop f.offset).take (P.cellsOf f.type))=xs[i]?)→xs.length=fs.length →
  (∀ n ∈ DataW.weightsEach P (fs.map (·.type)) (xs.map (·.1)),n≤reachBytes)→∃ a:α,d.K W a ((cs.drop off).take d.sz)∧G a
theorem qeU.one {α:Type} {P:Program} {f:Field} {d:Kd α} {G:α→Prop} (hsz:P.cellsOf f.type=d.sz) (h:Opens P f.type d G):qeU P [f] f.offset d G:=by
 intro H enc W held fuel cs xs hf hl hw
 match xs,hl with
 | [x],_ =>
  have h0:=hf 0 f rfl;rw [hsz] at h0;exact h enc W held fuel _ x.1 x.2 h0 (fun n hn=>hw n (by simp [DataW.weightsEach,hn]))
theorem qeU.cons {α β:Type} {P:Program} {f:Field} {fs:List Field} {off:Nat} {d:Kd α} {d2:Kd β} {G:α→Prop} {G2:β→Prop} (hsz:P.cellsOf f.type=d.sz) (hoff:off=f.offset+d.sz) (h:Opens P f.type d G) (h2:qeU P fs off d2 G2) :
  qeU P (f :: fs) f.offset (Kd.pair d d2) (fun x=>G x.1∧G2 x.2):=by
 intro H enc W held fuel cs xs hf hl hw
 match xs,hl with
 | x :: xs,hl =>
  have h0:=hf 0 f rfl;rw [hsz] at h0;obtain ⟨a,ha,hG⟩:=h enc W held fuel _ x.1 x.2 h0 (fun n hn=>hw n (by simp [DataW.weightsEach,hn]));obtain ⟨b,hb,hG2⟩:=h2 enc W held fuel cs xs (fun i g hg=>by simpa using hf (i+1) g (by simpa using hg)) (by simpa using hl) (fun n hn=>hw n (by simp [DataW.weightsEach,hn]));refine ⟨(a,b),⟨_,_,?_,ha,hb⟩,hG,hG2⟩;show (cs.drop f.offset).take (d.sz+d2.sz)=_;rw [List.take_add,List.drop_drop,hoff]
theorem Opens.struct {α:Type} {P:Program} {t:TypeId} {fs:Array Field} {d:Kd α} {G:α→Prop} (ht:P.underlying t=some (.struct fs)) (hsz:P.cellsOf t=d.sz) (h:qeU P fs.toList 0 d G):Opens P t d G:=by
 intro H enc W held fuel cs x ps hx hw;obtain ⟨xs,n,_,he,hl,hlen,hf⟩:=DataW.trod_struct ht hx;obtain ⟨rfl,_⟩:=Prod.mk.inj he;obtain ⟨a,ha,hG⟩:=h enc W held n cs xs (fun i f hi=>hf i f (by simpa using hi)) (by simpa using hlen) (fun n hn=>hw n (by simpa [DataW.weights,ht] using hn));refine ⟨a,?_,hG⟩;rw [List.drop_zero,List.take_of_length_le (by omega)] at ha;exact ha
theorem Opens.iso {α β:Type} {P:Program} {t:TypeId} {d:Kd α} {G:α→Prop} (f:β→α) (g:α→β) (hfg:∀ a,f (g a)=a) (h:Opens P t d G):Opens P t (Kd.iso d f) (fun b=>G (f b)):=by
 intro H enc W held fuel cs x ps hx hw;obtain ⟨a,ha,hG⟩:=h enc W held fuel cs x ps hx hw;exact ⟨g a,by show d.K W (f (g a)) cs;rw [hfg];exact ha,by show G (f (g a));rw [hfg];exact hG⟩
theorem Opens.imp {α:Type} {P:Program} {t:TypeId} {d:Kd α} {G G':α→Prop} (h:Opens P t d G) (hg:∀ a,G a→G' a):Opens P t d G':=by
 intro H enc W held fuel cs x ps hx hw;obtain ⟨a,ha,hG⟩:=h enc W held fuel cs x ps hx hw;exact ⟨a,ha,hg a hG⟩
theorem Opens.arg {α:Type} {P:Program} {t:TypeId} {d:Kd α} {G:α→Prop} (h:Opens P t d G) {H:Type} {enc:TypeId × Value→H} {W:World} {held:Bool} {v:Value} {x:DataW H} {ps:List MemPlace} {ts:List TypeId} {ds:List (DataW H)} (j:Nat)
  (hsz:(DataW.weightsEach P ts ds).all (·≤reachBytes)=true) (ht:ts[j]?=some t) (hd:ds[j]?=some x) (hv:DataW.Trod enc P W 0 (fun _=>true) held t v x ps):∃ a:α,d.K W a v.cells.toList∧G a:=by
 obtain ⟨fuel,hf⟩:=hv;refine h enc W held fuel _ x ps hf (fun n hn=>?_)
 simpa using List.all_eq_true.1 hsz n (DataW.weights_mem_each ht hd n hn)
end Go.Proofs.YtdlimghdimkadaaGreatDoor.Opens
namespace Go.Proofs.YtdlimghdimkadaaGreatDoor.PAll
open Go Go.RowKit YtdlimghdimkadaaGreatDoorW.PrintWords YtdlimghdimkadaaGreatDoorW.PrintLast YtdlimghdimkadaaGreatDoorW.PrintMore
attribute [local go_sem] qdG qdE qdY qdX qcJ qcI qdF qdD
section
open Go.Shelf Plain Opens
variable {w0 W W':World} {gm gc gl cl ge ce:Nat} {a a':AC} {m m':AM} {n:Nat} {wr:Int} {g:Geo} {D:Nat→List (List Int)}
theorem vdK {n:Int} (h:(Lit.int .u8 n).wf=true):0≤n∧n < 256:=by
 unfold Lit.wf at h;rw [Bool.and_eq_true,decide_eq_true_eq,decide_eq_true_eq] at h;have h1:(0:Int)≤n:=h.1;have h2:n≤255:=h.2;omega
theorem oI:Opens Tryz.prog 3 (Kd.int .i64) (fun _=>True):=Opens.imp (Opens.int Tryz.underlying3) (fun _ _=>trivial)
theorem oY:Opens Tryz.prog 5 kB (fun n=>(Lit.int .u8 n).wf=true):=Opens.int Tryz.underlying5
theorem oYs:Opens Tryz.prog 35 (Kd.slice 5 kB) qbA :=
 Opens.imp (Opens.slice Tryz.underlying35 (by kernel_rfl) oY) (fun _ h x hx=>vdK (h.2 x hx))
structure GI where
 f0:Int
 f1:Int
 f2:Int
 f3:Int
def kGI:Kd GI:=Kd.iso (Kd.pair (Kd.int .i64) (Kd.pair (Kd.int .i64) (Kd.pair (Kd.int .i64) (Kd.int .i64)))) (fun x:GI=>(x.f0,x.f1,x.f2,x.f3))
theorem oG:Opens Tryz.prog 23 kGI (fun _=>True) :=
 Opens.imp (Opens.iso (fun x:GI=>(x.f0,x.f1,x.f2,x.f3)) (fun p=>⟨p.1,p.2.1,p.2.2.1,p.2.2.2⟩) (fun _=>rfl)
  (Opens.struct Tryz.underlying23 (by kernel_rfl) (qeU.cons (by kernel_rfl) rfl oI (qeU.cons (by kernel_rfl) rfl oI (qeU.cons (by kernel_rfl) rfl oI (qeU.one (by kernel_rfl) oI)))))) (fun _ _=>trivial)
theorem qsN {B P Z R:Int} (h:qbQ B P Z R=true):16≤B∧8≤P∧64≤Z:=by
 unfold qbQ at h;simp only [Bool.and_eq_true,decide_eq_true_eq] at h;omega
end
section
open Go.Shelf Plain Opens
variable {w0 W W':World} {gm gc gl cl ge ce:Nat} {a a':AC} {m m':AM} {n:Nat} {wr:Int} {g:Geo} {D:Nat→List (List Int)}
end
section
open Go.Shelf Plain Opens
variable {w0 W W':World} {gm gc gl cl ge ce:Nat} {a a':AC} {m m':AM} {n:Nat} {wr:Int} {g:Geo} {D:Nat→List (List Int)}
theorem vaW:Tryz.prog.underlying 55=some (.slice 35):=by kernel_rfl
theorem vdX:(Tryz.prog.info? 35).map (fun i=>(i.zero,i.size,i.bytes))=some (some (.slice none 0 0),1,24):=by kernel_rfl
end
section
open Go.Shelf Plain
variable {w0 W W':World} {gm gc gl cl ge ce:Nat} {a a':AC} {m m':AM}
abbrev kPs:Kd (List Int):=Kd.slice 5 kB
theorem vcK (b:Int) (W:World):Calls Tryz.prog 131 #[kp gm,.int .i64 b,.int .i64 0] W fun x w'=>x=.returned .nilIface∧Below W.heap.size W w':=by
 go_enter Tryz.func131,Tryz.ntmps131;go_wp2_with (first|(go_at_call 151;(with_reducible refine (qkV b 0 _).mono ?_);rintro x w2 ⟨v,rfl,hv,hb2⟩;(rcases hv.symm with ⟨h9,-⟩|⟨-,rfl⟩;exact absurd rfl h9);have HB2:=aM hb2;clear hb2));go_ret;exact ⟨rfl,HB2.out⟩
def qiD (a:AC) (b:Int) (u:Nat):List (List Int):=(List.range u).map fun (p:Nat)=>(qbW a b ((p:Int)+2)).1
theorem qoO (a:AC) (b:Int) (u:Nat):(qiD a b u).length=u:=by simp [qiD]
theorem qtI (a:AC) (b:Int) (u:Nat):qiD a b (u+1)=qiD a b u ++ [(qbW a b ((u:Int)+2)).1]:=by simp [qiD,List.range_succ]
theorem qsW {W:World} {base:Nat} {v u:Value} {l:List Int} {L:List (List Int)} (h:Kd.R kB 5 W base (fun _=>True) v l) (hu:Kd.R kPs 35 W base (fun _=>True) u L):Kd.R kB 5 W base (fun k=>some k ≠ u.ownBlock) v l :=
 Kd.R_mono (Kd.R_bound h) (fun k hk=>by
  obtain ⟨_,_,_,q,hq,cells,hc⟩:=hk;have hq2:q=5:=by simpa [Kd.int,Kd.scalar] using hq
  subst hq2;obtain ⟨inner,hown⟩:=Kd.R_own hu
  exact qkG hown hc (by decide))
theorem veQ {s:List Nat} {w':World} (h:MK s W w') {base:Nat} {ok:Nat→Prop} {v:Value} {l:List (List Int)} (hr:Kd.R kPs 35 W base ok v l):Kd.R kPs 35 w' base ok v l :=
 Kd.R_mono (Kd.R_move (Kd.R_bound hr) (fun k hk=>by
  obtain ⟨_,_,_,q,hq,cells,hc⟩:=hk;have hq2:q=35∨q=5:=by simpa [Kd.slice,Kd.int,Kd.scalar] using hq
  rcases hq2 with rfl|rfl
  ·rw [hc];exact h.far (by decide) hc
  ·rw [hc]
   exact h.far (by decide) hc)) (fun _ hk=>hk.1)
theorem qcY.of_R {s:List Nat} {base:Nat} {A:Option Addr} {c:Nat} {l:List (List Int)} (hl:l.length≤1000) (hr:Kd.R kPs 35 W base (fun _=>True) (.slice A l.length c) l):qcY s w0 W A l:=by
 refine ⟨hl,fun j hj=>?_⟩;obtain ⟨g,c1,e1,-,-,cells,hg⟩:=Kd.R_form hr (by omega);simp only [Value.slice.injEq] at e1;obtain ⟨rfl,-,rfl⟩:=e1
 have key:∀ {w':World},MK s W w'→∃ (Aj:Option Addr) (cj:Nat),w'.cell? ⟨g,j,none⟩=some (.slice Aj (l.getD j []).length cj)∧(l.getD j []).length≤cj∧Kd.C kB w' Aj (l.getD j []).length (l.getD j []):=by
  intro w' hk;obtain ⟨-,-,hC⟩:=Kd.R_reads' (veQ hk hr);obtain ⟨ad,cs,e0,-,⟨Aj,cj,rfl,hlj,hj2⟩,hc⟩:=Kd.C_get hC [] (j:Int) (by omega) (by omega);obtain rfl:(⟨g,0,none⟩:Addr)=ad:=by simpa using e0
  rw [Int.toNat_natCast] at hlj hj2 hc;have h4:=hc 0 _ rfl;simp only [Kd.slice,Nat.mul_one,Nat.add_zero] at h4;have hx:(⟨g,0,none⟩:Addr).add j=⟨g,j,none⟩:=by simp [Addr.add,eq_comm]
  rw [hx] at h4;exact ⟨Aj,cj,h4,hlj,hj2⟩
 obtain ⟨Aj,cj,h1,h2,-⟩:=key (MK.refl s W);refine ⟨⟨g,0,none⟩,Aj,cj,rfl,h2,fun w' _ hk=>?_⟩;obtain ⟨Aq,cq,h3,h4,h5⟩:=key hk;have hx:(⟨g,0,none⟩:Addr).add j=⟨g,j,none⟩:=by simp [Addr.add,eq_comm]
 have he:w'.cell? ⟨g,j,none⟩=W.cell? ⟨g,j,none⟩:=by rw [Joins.cell_of_block hg j,Joins.cell_of_block (hk.far (by decide) hg) j]
 rw [he,h1] at h3;simp only [Option.some.injEq,Value.slice.injEq,true_and] at h3;obtain ⟨rfl,rfl⟩:=h3;exact ⟨by rw [hx,he];exact h1,h5⟩
theorem vcG (h:Man w0 W gm gc gl cl ge ce a m) (hok:m.ok) (k:Nat) (hk:k < m.lebs.length) (u:Nat) (hu:(qcA m (k:Int)).1.f3=(u:Int)) (hu1:u≤1000) (hr:∀ p:Nat,p < u→(qbW a (m.lebs.getD k 0) ((p:Int)+2)).2=0) :
  Calls Tryz.prog 101 #[kp gm,.int .i64 k] W fun x w'=>∃ v:Value,x=.returned (.tuple #[v,.nilIface])∧Kd.R kPs 35 w' W.heap.size (fun _=>True) v (qiD a (m.lebs.getD k 0) u)∧Below W.heap.size W w':=by
 have HU:=aM (qeR h hok (k:Int));rw [hu] at HU;have H:=aM h;have HKL:=aM hk;have HR:=aM hr;have HU1:=aM hu1
 obtain ⟨b,hb⟩:∃ b,b=m.lebs.getD k 0:=⟨_,rfl⟩
 have HBB:=aM (show ∀ q (hq:q < m.lebs.length),q=k→m.lebs[q]=b by rintro q hq rfl;rw [hb,List.getD_eq_getElem?_getD,List.getElem?_eq_getElem hq];rfl);rw [← hb] at HR ⊢;clear h hok hk hr hu1 hb hu;go_enter Tryz.func101,Tryz.ntmps101
 go_upto_region 3 with (first
  | (go_at_call 27;(with_reducible refine HU.out.mono ?_);rintro x w1 ⟨rfl,hb1⟩;have HB1:=aM hb1;clear hb1))
 go_loopw [6,14] (fun v6 v14 wr=>∃ i:Nat,i≤u∧v14=.int .i64 i∧qaJ (Kd.R kPs 35 wr W.heap.size (fun _=>True) v6 (qiD a b i))∧qaJ (Below W.heap.size W wr)) (fun _ v14 _=>u - (intOf v14).toNat);case atStart=>exact ⟨0,Nat.zero_le _,rfl,⟨Kd.R_nil _ _ _ _ _⟩,HB1⟩
 case round =>
  clear HB1;obtain ⟨i,hi,rfl,HO,HBr⟩:=hrel
  by_cases hlt:i < u
  ·have d0:decide ((i:Int) < (u:Int))=true:=decide_eq_true (by omega);have hlu:(i < u)=True:=eq_true hlt;have HM:=aM (H.out.grow HBr.out);have y0:wr.cell? ⟨gm,0,none⟩=some (cp gc):=HM.out.cell 0;have y6:wr.cell? ⟨gm,6,none⟩=some (.slice (some ⟨ge,0,none⟩) m.lebs.length ce):=HM.out.cell 6;have yk:wr.cell? ⟨ge,k,none⟩=some (.int .i64 b):=by rw [← HBB.out k HKL.out rfl];exact HM.out.b.cell k HKL.out
   have hq:(k < m.lebs.length)=True:=eq_true HKL.out;have hqi:((k:Int) < (m.lebs.length:Int))=True:=eq_true (by have:=HKL.out;omega);have hwj:wrap64 ((i:Int)+2)=(i:Int)+2:=by have:=HU1.out;unfold wrap64;omega
   have hwk:IntKind.i64.wrap ((i:Int)+2)=(i:Int)+2:=by rw [qbL];exact hwj
   have hwm:wrap64 ((i:Int)+1)=(i:Int)+1:=by have:=HU1.out;unfold wrap64;omega
   have hwn:IntKind.i64.wrap ((i:Int)+1)=(i:Int)+1:=by rw [qbL];exact hwm
   have HRD:=aM (fun (w:World) (hb:Below W.heap.size W w)=>(H.out.grow hb).chip.read b ((i:Int)+2));have h0:=HR.out i hlt;have HS:=aM (qtI a b i);have HLN:=aM (qoO a b i);generalize qbW a b ((i:Int)+2)=rd at HRD h0 HS;obtain ⟨pg,e0⟩:=rd;simp only at HRD h0 HS;subst h0;generalize qiD a b i=L at HO HS HLN;have HI1:=aM hlt;clear hlt hi
   go_upto_region 5 with (fail)
   go_cut [8,9,14] from 14 to 51 (fun v8 v9 v14 wx=>v14=.int .i64 i∧v9=.int .i64 0∧qaJ (Kd.R kB 5 wx W.heap.size (fun _=>True) v8 pg)∧qaJ (Kd.R kPs 35 wx W.heap.size (fun _=>True) u6 L)∧qaJ (Below W.heap.size W wx))
   case first =>
    go_region_with (first
     | (go_at_call 77;(with_reducible refine (HRD.out _ (by first|exact qaO HBr.out|exact HBr.out)).mono ?_);rintro x w3 ⟨v3,rfl,hr3,hb3⟩;have HR3:=aM hr3;have HB3:=aM hb3;clear hr3 hb3))
    all_goals go_wp2
    all_goals go_meet
    all_goals exact ⟨rfl,rfl,⟨Kd.R_lower HR3.out (qaI (qaO HBr.out))⟩,⟨Kd.R_below (Kd.R_below HO.out (qaO (Below.refl _ _))) HB3.out⟩,⟨qaC (qaO HBr.out) HB3.out⟩⟩
   case rest =>
    obtain ⟨rfl,rfl,HP,HOX,HBX⟩:=hcut;obtain ⟨A8,c8,e8⟩:=Kd.R_slice HP.out;subst e8;generalize wc=w4 at HP HOX HBX ⊢;clear y0 y6 yk HO HBr HM;have HM:=aM (H.out.grow HBX.out);have y6:w4.cell? ⟨gm,6,none⟩=some (.slice (some ⟨ge,0,none⟩) m.lebs.length ce):=HM.out.cell 6;have yk:w4.cell? ⟨ge,k,none⟩=some (.int .i64 b):=by rw [← HBB.out k HKL.out rfl];exact HM.out.b.cell k HKL.out
    go_upto_region 9 with (first
     | (go_at_call 131;(with_reducible refine (vcK b _).mono ?_);rintro x w5 ⟨rfl,hb5⟩;have HB5:=aM (qaC HBX.out hb5);have HP5:=aM (Kd.R_below HP.out hb5);have HO5:=aM (Kd.R_below HOX.out hb5);clear hb5))
    have HNX:=aM (qsW HP5.out HO5.out)
    go_wp2_with (first
     | ((with_reducible refine qbH (b:=.append) (xs:=#[.tmp 47,.tmp 49]) rfl ?_);at_builtin;(refine Kd.R_append kPs (w0:=W) W.heap.size rfl (.tmp 47) (.tmp 49) 55 35 (.slice none 0 0) 24 rfl vaW vdX rfl Nat.zero_lt_one (by omega) u6 L pg [.slice A8 pg.length c8] (fun _=>True) (fun k=>some k ≠ u6.ownBlock) rfl (by first|(go_simp;done)|(go_simp;rfl)) ?aP (fun _ hk=>⟨trivial,hk⟩) ?aF ?aO ?aB ?aS ?aL ?_);(case aP=>exact ⟨.slice A8 pg.length c8,rfl,HNX.out⟩);(case aF=>exact (fun _ _=>trivial));(case aO=>exact HO5.out);(case aB=>exact HB5.out);(case aS=>exact qaI HB5.out);(case aL=>have:=HLN.out;have:=HI1.out;have:=HU1.out;omega);intro v7 w7 ho hb hg hat;have HO7:=aM ho;have HB7:=aM hb;clear ho hb hg hat))
    go_roundw;case rel=>exact ⟨i+1,HI1.out,by push_cast;rfl,⟨by rw [HS.out];exact HO7.out⟩,HB7⟩
    case measure=>have:=HI1.out;simp [intOf];omega
  ·have d0:decide ((i:Int) < (u:Int))=false:=decide_eq_false (by omega);have hlu:(i < u)=False:=eq_false hlt;obtain rfl:i=u:=by omega
   go_wp2;go_ret2;exact ⟨_,rfl,HO.out,HBr.out⟩
end
section
open Go.Shelf Plain
variable {w0 W W':World} {gm gc gl cl ge ce:Nat} {a a':AC} {m m':AM} {n:Nat} {wr:Int} {g:Geo} {D:Nat→List (List Int)}
theorem qqF (h:qbV a) (b:Int) (u:Nat):∀ x,x ∈ qiD a b u→qbA x:=fun x hx=>by
 unfold qiD at hx;obtain ⟨p,-,rfl⟩:=List.mem_map.1 hx;exact qhC h _ _
theorem Man.setX {q:Nat} {cs:Array Value} (h:Man w0 W gm gc gl cl ge ce a m) (hg:W.heap[q]?=some (.cells cs 4 (0,0))) (hw:w0.heap.size≤q) (o:Nat) (v:Value):Man w0 (W.setCell ⟨q,o,none⟩ v) gm gc gl cl ge ce a m :=
 ⟨qaT h.c (qaW h.c hg (by decide)) _,h.chip.far hg hw (by decide) (by decide) (by decide) (by decide) (by decide) _ _,h.l.keep (Below.heap_setCell _ _ _ _ (h.l.ne hg (by decide))),h.b.keep (Below.heap_setCell _ _ _ _ (h.b.ne hg (by decide))),h.em,h.el,h.ee,h.hl,h.hb,h.ln,h.lb⟩
structure WX (w0 W:World) (gm qm ql qf qt:Nat) (leb tgt:Int) (fs:Bool):Prop where
 m:W.heap[qm]?=some (.cells #[kp gm] 49 (0,0))
 l:W.heap[ql]?=some (.cells #[.int .i64 leb] 3 (0,0))
 t:W.heap[qt]?=some (.cells #[.int .i64 tgt] 3 (0,0))
 f:W.heap[qf]?=some (.cells #[.bool fs] 4 (0,0))
 ef:w0.heap.size≤qf
theorem WX.mk' {s:List Nat} {qm ql qf qt:Nat} {leb tgt:Int} {fs:Bool} (h:WX w0 W gm qm ql qf qt leb tgt fs) (hk:MK s W W') (h1:ql ∉ s) (h2:qt ∉ s) (h3:qf ∉ s):WX w0 W' gm qm ql qf qt leb tgt fs :=
 ⟨hk.far (by decide) h.m,hk.out (by decide) h1 h.l,hk.out (by decide) h2 h.t,hk.out (by decide) h3 h.f,h.ef⟩
theorem qxU (h:Man w0 W gm gc gl cl ge ce a m) (hok:m.ok) (k:Nat) (hk:k < m.lebs.length) (u:Nat) (hu:(qcA m (k:Int)).1.f3=(u:Int)) (hu1:u≤1000) (hr:∀ p:Nat,p < u→(qbW a (m.lebs.getD k 0) ((p:Int)+2)).2=0) {qm ql qf qt:Nat} {tgt:Int} {fs:Bool} (hx:WX w0 W gm qm ql qf qt (k:Int) tgt fs) :
  Calls Tryz.prog 100 #[.pointer (some ⟨qm,0,none⟩),.pointer (some ⟨ql,0,none⟩)] W fun x w'=>∃ v:Value,x=.returned (.tuple #[v,.nilIface])∧Kd.R kPs 35 w' W.heap.size (fun _=>True) v (qiD a (m.lebs.getD k 0) u)∧Below W.heap.size W w':=by
 have HH:=aM (vcG h hok k hk u hu hu1 hr);have y0:W.cell? ⟨qm,0,none⟩=some (kp gm):=Joins.cell_of_block hx.m 0;have y1:W.cell? ⟨ql,0,none⟩=some (.int .i64 k):=Joins.cell_of_block hx.l 0;clear h hok hk hu hu1 hr hx;go_enter Tryz.func100,Tryz.ntmps100
 go_wp2_with (first
  | (go_at_call 101;(with_reducible refine HH.out.mono ?_);rintro x w1 ⟨v1,rfl,hr1,hb1⟩;have HR1:=aM hr1;have HB1:=aM hb1;clear hr1 hb1))
 go_ret2;exact ⟨_,rfl,HR1.out,HB1.out⟩
theorem qxT (h:Man w0 W gm gc gl cl ge ce a m) {qm ql qf qt:Nat} {leb tgt:Int} {fs:Bool} (hx:WX w0 W gm qm ql qf qt leb tgt fs) (hne:qf ≠ qm∧qf ≠ ql∧qf ≠ qt) (s:List Nat) (hs:qf ∈ s) :
  Calls Tryz.prog 102 #[.pointer (some ⟨qf,0,none⟩),.pointer (some ⟨qt,0,none⟩),.pointer (some ⟨qm,0,none⟩)] W fun x w'=>x=.returned (.int .i64 (if fs=true then tgt else qgH m.l))∧Man w0 w' gm gc gl cl ge ce a m∧WX w0 w' gm qm ql qf qt leb tgt false∧MK s W w':=by
 have y0:W.cell? ⟨qf,0,none⟩=some (.bool fs):=Joins.cell_of_block hx.f 0;have y1:W.cell? ⟨qt,0,none⟩=some (.int .i64 tgt):=Joins.cell_of_block hx.t 0;have y2:W.cell? ⟨qm,0,none⟩=some (kp gm):=Joins.cell_of_block hx.m 0
 cases fs with
 | true =>
  have f0:=qaE hx.f 0;have HM:=aM (h.setX hx.f hx.ef 0 (.bool false));have HX:=aM (show WX w0 (W.setCell ⟨qf,0,none⟩ (.bool false)) gm qm ql qf qt leb tgt false from ⟨qaT hx.m hne.1.symm _,qaT hx.l hne.2.1.symm _,qaT hx.t hne.2.2.symm _,qaR hx.f 0 _ rfl,hx.ef⟩);have HK:=aM ((MK.refl s W).set hx.f (.inr (.inr rfl)) 0 (.bool false) hs);have y1':(W.setCell ⟨qf,0,none⟩ (.bool false)).cell? ⟨qt,0,none⟩=some (.int .i64 tgt):=Joins.cell_of_block HX.out.t 0;clear h hx hne hs;go_enter Tryz.func102,Tryz.ntmps102;go_wp2;go_ret;exact ⟨by first|rfl|simp,HM.out,HX.out,HK.out⟩
 | false =>
  have HL:=aM (qkI h);have H:=aM h;have HX:=aM hx;clear h hx hne hs;go_enter Tryz.func102,Tryz.ntmps102
  go_wp2_with (first
   | (go_at_call 95;(with_reducible refine HL.out.mono ?_);rintro x w1 ⟨rfl,hb1⟩;have HB1:=aM hb1;clear hb1))
  go_ret;exact ⟨by first|rfl|simp,H.out.grow HB1.out,⟨qaB HX.out.m HB1.out,qaB HX.out.l HB1.out,qaB HX.out.t HB1.out,qaB HX.out.f HB1.out,HX.out.ef⟩,MK.of_below HB1.out⟩
end
section
open Go.Shelf Plain
variable {w0 W W':World} {gm gc gl cl ge ce:Nat} {a a':AC} {m m':AM} {n:Nat} {wr:Int} {g:Geo} {D:Nat→List (List Int)}
def qyG (Z:Nat) (xss:List (List Int)):List (List Int):=xss.map fun x=>x ++ List.replicate (Z - x.length) 255
theorem qbG.reads (h:qbG n (-1) a m D) {k:Nat} (hk:k < m.lebs.length):∀ p:Nat,p < (D k).length→qbW a (m.lebs.getD k 0) ((p:Int)+2)=((D k).getD p [] ++ List.replicate (a.g.Z - ((D k).getD p []).length) 255,0):=fun p hp=>by
 rcases h.lv k hk with ⟨e5,e6⟩|⟨i,h2,-,e5,e6,e7⟩
 ·rw [e6] at hp;exact absurd hp (Nat.not_lt_zero _)
 ·obtain ⟨hi,seq,least,s,e1,hm,hs⟩:=h.at hk e5;have hln:=hm.ln;rw [e5,show (p:Int)+2=((p+2:Nat):Int) by push_cast;rfl];exact qhV h.off hi (by omega) (hm.pd p hp)
theorem qbG.held (h:qbG n (-1) a m D) {k:Nat} (hk:k < m.lebs.length):qiD a (m.lebs.getD k 0) (D k).length=qyG a.g.Z (D k):=by
 apply List.ext_getElem?;intro p;unfold qiD qyG;rw [List.getElem?_map,List.getElem?_map]
 by_cases hp:p < (D k).length
 ·rw [List.getElem?_range hp,List.getElem?_eq_getElem hp];simp only [Option.map_some];rw [h.reads hk p hp,List.getD_eq_getElem?_getD,List.getElem?_eq_getElem hp];rfl
 ·rw [List.getElem?_eq_none (by simp;omega),List.getElem?_eq_none (by omega)];rfl
theorem qbG.sizes (h:qbG n (-1) a m D) {k:Nat} (hk:k < m.lebs.length):(D k).length+2≤a.g.P∧∀ x,x ∈ D k→x.length≤a.g.Z:=by
 have hgP:=h.gok.2.1
 rcases h.lv k hk with ⟨e5,e6⟩|⟨i,h2,-,e5,e6,e7⟩
 ·rw [e6];exact ⟨by show 0+2≤a.g.P;omega,fun x hx=>nomatch hx⟩
 ·obtain ⟨hi,seq,least,s,e1,hm,hs⟩:=h.at hk e5;refine ⟨hm.ln,fun x hx=>?_⟩;obtain ⟨p,hp,rfl⟩:=List.mem_iff_getElem.1 hx;have:=hm.pz p hp;rw [List.getD_eq_getElem?_getD,List.getElem?_eq_getElem hp] at this;exact this
theorem qyF (Z:Nat) (xss:List (List Int)):(qyG Z xss).length=xss.length:=by simp [qyG]
theorem qvN {Z:Nat} {xss:List (List Int)} (h:∀ x,x ∈ xss→x.length≤Z):∀ x,x ∈ qyG Z xss→x.length≤Z:=fun x hx=>by
 unfold qyG at hx;obtain ⟨y,hy,rfl⟩:=List.mem_map.1 hx;have:=h y hy;rw [List.length_append,List.length_replicate];omega
abbrev pkV (i:Nat):Bool→AM→Int:=fun st o=>if st=true then (i:Int) else qgH o.l
abbrev pgV (k u:Nat):AC→AM→List (List Int):=fun b o=>qiD b (o.lebs.getD k 0) u
structure WA (W:World) (gm gl ge qm ql qf qt:Nat):Prop where
 f:qf ≠ qm∧qf ≠ ql∧qf ≠ qt
 l:ql ∉ [gm,gl,ge]
 t:qt ∉ [gm,gl,ge]
 b:qf ∉ [gm,gl,ge]
theorem qpT (h:Man w0 W gm gc gl cl ge ce a m) (hG:qbG (n+2) (-1) a m D) (k:Nat) (hk:k < m.lebs.length) (i:Nat) (hi:i < a.g.B) (hf:(m.l.getD i default).f0=2) {qm ql qf qt:Nat} (hx:WX w0 W gm qm ql qf qt (k:Int) (i:Int) true) (ha:WA W gm gl ge qm ql qf qt) :
  Calls Tryz.prog 93 #[kp gm,.int .i64 k,.int .i64 ((D k).length:Int),fnV 100 #[] #[.pointer (some ⟨qm,0,none⟩),.pointer (some ⟨ql,0,none⟩)],fnV 102 #[] #[.pointer (some ⟨qf,0,none⟩),.pointer (some ⟨qt,0,none⟩),.pointer (some ⟨qm,0,none⟩)]] W fun x w'=>x=.returned .nilIface∧(∃ a' m',Man w0 w' gm gc gl cl ge ce a' m'∧qbG n (-1) a' m' (qlI D k (qyG a.g.Z (D k)))∧a'.g=a.g∧a'.wrong=a.wrong)∧MK [gm,gl,ge,qf] W w':=by
 have hgP:=hG.gok.2.1;have hbk:=(hG.blk hk).1;obtain ⟨hs1,hs2⟩:=hG.sizes hk;have hpg:pgV k (D k).length a m=qyG a.g.Z (D k):=hG.held hk;have hpl:(pgV k (D k).length a m).length=(D k).length:=by rw [hpg,qyF]
 have hbt:∀ x,x ∈ pgV k (D k).length a m→qbA x:=qqF hG.by_ _ _;have hsz:∀ x,x ∈ pgV k (D k).length a m→x.length≤a.g.Z:=by rw [hpg];exact qvN hs2
 have hns:∀ {q:Nat},q ∉ [gm,gl,ge]→q ∉ [gm,gl]:=fun hq hm=>hq (by simp only [List.mem_cons,List.not_mem_nil,or_false] at hm ⊢;rcases hm with h|h;exact .inl h;exact .inr (.inl h))
 obtain ⟨af,ef,-⟩:=hG.fill hk hi hf ((D k).length:Int) (pgV k (D k).length a m) ⟨by omega,by rw [hpl];exact Int.le_refl _⟩ (by rw [hpl];exact hs1) hsz hbt;have hfill:(qbM a m i (k:Int) ((D k).length:Int) (pgV k (D k).length a m)).1=0:=by rw [ef]
 have hplace:=vbR ⟨qm,0,none⟩ ⟨ql,0,none⟩ ⟨qf,0,none⟩ ⟨qt,0,none⟩ h [gm,gl,qf] (by simp) (by simp) (k:Int) ((D k).length:Int) hG.sq.1 (qbX m.l+1) (Nat.lt_succ_self _) (pkV i) (pgV k (D k).length) (fun st b o=>st=true∧b=a∧o=m) (fun st w=>WX w0 w gm qm ql qf qt (k:Int) (i:Int) st) ⟨rfl,rfl,rfl⟩ hx
  (fun st w w' hX hK=>hX.mk' hK (hns ha.l) (hns ha.t) (hns ha.b))
  (fun st b o hI=>by
   obtain ⟨rfl,rfl,rfl⟩:=hI
   exact .inr ⟨i,by rw [hG.len];exact hi,rfl,hf⟩)
  (fun st w b o hm hI hX=>(qxT hm hX ha.f [gm,gl,qf] (by simp)).mono (by
   rintro x w' ⟨rfl,h1,h2,h3⟩
   exact ⟨rfl,h1,h2,h3⟩))
  (fun st w b o hm hI hX=>by
   obtain ⟨rfl,rfl,rfl⟩:=hI;refine (qxU hm hG.ok k hk (D k).length hbk (by omega) (fun p hp=>by rw [hG.reads hk p hp]) hX).mono ?_;rintro x w' ⟨v,rfl,hr,hb⟩;obtain ⟨A1,c1,e1⟩:=Kd.R_slice hr;subst e1
   exact ⟨A1,c1,rfl,(Kd.R_reads' hr).2.1,qcY.of_R (by rw [qoO];omega) hr,hm.grow hb,MK.of_below hb⟩)
  (fun st b o j hI hj hpk h2 h5=>by
   exfalso
   obtain ⟨rfl,rfl,rfl⟩:=hI
   have e:i=j:=by
    have:(i:Int)=(j:Int):=hpk;omega
   subst e;rw [hfill] at h5
   exact absurd h5 (by decide))
 obtain ⟨a2,m2,e2,g1,g2,g3,hG2⟩:=hG.moved hk (pk:=pkV i) (pg:=pgV k (D k).length) hi rfl hf ((D k).length:Int) ⟨by omega,by rw [hpl];exact Int.le_refl _⟩ (by rw [hpl];exact hs1) hsz hbt (qbX m.l)
 have key:=qrK h k hk [gm,gl,ge,qf] (fun z hz=>by
   simp only [List.mem_cons,List.not_mem_nil,or_false] at hz ⊢
   rcases hz with h|h|h
   ·exact .inl h
   ·exact .inr (.inl h)
   ·exact .inr (.inr (.inl h))) ((D k).length:Int) _ _ _ (hplace.mono (fun x w' h=>by
   obtain ⟨v,h1,h2,h3,h4⟩:=h
   exact ⟨v,h1,h2,h3,h4.mono (fun z hz=>by
    simp only [List.mem_cons,List.not_mem_nil,or_false] at hz ⊢
    rcases hz with h|h|h
    ·exact .inl h
    ·exact .inr (.inl h)
    ·exact .inr (.inr (.inr h)))⟩)) (qgR _ _ _ _ _ _ _ _) (hG.ok k hk) (qqB _ _ _ _ _ _ _ _)
 rw [show qmD (qaV (pkV i) (pgV k (D k).length) (k:Int) ((D k).length:Int) (qbX m.l+1) true a m) m k=(0,a2,m2) from e2] at key;refine key.mono ?_;rintro x w' ⟨v,rfl,hv,hm,hk2⟩
 rcases hv.symm with ⟨h9,-⟩|⟨-,hv⟩
 ·exact absurd rfl h9
 rw [hpg] at hG2;exact ⟨by rw [hv],⟨a2,m2,hm,hG2,g1,g2⟩,hk2⟩
end
section
open Go.Shelf Plain
variable {w0 W W':World} {gm gc gl cl ge ce:Nat} {a a':AC} {m m':AM} {n:Nat} {wr:Int} {g:Geo} {D:Nat→List (List Int)}
def vdE (xs:List Blk) (b:Int) (i:Nat):Int:=if (xs.getD i default).f0=4∧(b < 0∨(xs.getD i default).f1 < (xs.getD b.toNat default).f1) then (i:Int) else b
def qtH (xs:List Blk) (b:Int) (i:Nat):Int:=if (xs.getD i default).f0=2∧(b < 0∨(xs.getD b.toNat default).f1 < (xs.getD i default).f1) then (i:Int) else b
def qnQ (xs:List Blk):Nat→Int
 | 0=>-1
 | k+1=>vdE xs (qnQ xs k) k
def qfV (xs:List Blk):Nat→Int
 | 0=>-1
 | k+1=>qtH xs (qfV xs k) k
theorem qiC (xs:List Blk):∀ k,qnQ xs k=-1∨∃ i:Nat,i < k∧qnQ xs k=(i:Int)∧(xs.getD i default).f0=4
 | 0=>.inl rfl
 | k+1=>by
  show vdE xs (qnQ xs k) k=-1∨∃ i:Nat,i < k+1∧vdE xs (qnQ xs k) k=(i:Int)∧_;unfold vdE
  split
  ·rename_i h
   exact .inr ⟨k,by omega,rfl,h.1⟩
  ·rcases qiC xs k with e|⟨i,h1,h2,h3⟩
   ·exact .inl e
   ·exact .inr ⟨i,by omega,h2,h3⟩
theorem qgV (xs:List Blk):∀ k,qfV xs k=-1∨∃ i:Nat,i < k∧qfV xs k=(i:Int)∧(xs.getD i default).f0=2
 | 0=>.inl rfl
 | k+1=>by
  show qtH xs (qfV xs k) k=-1∨∃ i:Nat,i < k+1∧qtH xs (qfV xs k) k=(i:Int)∧_;unfold qtH
  split
  ·rename_i h
   exact .inr ⟨k,by omega,rfl,h.1⟩
  ·rcases qgV xs k with e|⟨i,h1,h2,h3⟩
   ·exact .inl e
   ·exact .inr ⟨i,by omega,h2,h3⟩
def qpS (xs:List Blk):Int × Int × Bool :=
 if qnQ xs xs.length < 0∨qfV xs xs.length < 0∨(xs.getD (qfV xs xs.length).toNat default).f1 - (xs.getD (qnQ xs xs.length).toNat default).f1≤8 then (0,0,false)
 else ((xs.getD (qnQ xs xs.length).toNat default).f2,qfV xs xs.length,true)
theorem vaU (h:Man w0 W gm gc gl cl ge ce a m) (hct:∀ i,i < m.l.length→0≤(m.l.getD i default).f1∧(m.l.getD i default).f1 < 2147483648):Calls Tryz.prog 99 #[kp gm] W fun x w'=>x=.returned (.tuple #[.int .i64 (qpS m.l).1,.int .i64 (qpS m.l).2.1,.bool (qpS m.l).2.2])∧Below W.heap.size W w':=by
 have H:=aM h;have HCT:=aM hct;have hgB:=h.chip.gok.1;have HLB:=aM (show m.l.length≤256 by rw [h.ln];exact hgB.2);have y5:W.cell? ⟨gm,5,none⟩=some (.slice (some ⟨gl,0,none⟩) m.l.length cl):=h.cell 5;have hu68:=Tryz.underlying68
 have HLR:=aM (fun (w:World) (hb:Below W.heap.size W w) (j:Nat) (hj:j < m.l.length)=>(show w.cell? ⟨gl,j*6+1,none⟩=some (.int .i64 (m.l.getD j default).f1)∧w.cell? ⟨gl,j*6+2,none⟩=some (.int .i64 (m.l.getD j default).f2) from by
  obtain ⟨-,k1,k2,-,-,-⟩:=(h.grow hb).l.cell j hj;rw [qbO hj]
  exact ⟨k1,k2⟩))
 clear h hct hgB;go_enter Tryz.func99,Tryz.ntmps99
 go_upto_region 3 with (fail)
 clear y5;go_loopw [5,6,14] (fun v5 v6 v14 wr=>∃ j:Nat,j≤m.l.length∧v5=.int .i64 (qnQ m.l j)∧v6=.int .i64 (qfV m.l j)∧v14=.int .i64 j∧qaJ (Below W.heap.size W wr)) (fun _ _ v14 _=>m.l.length - (intOf v14).toNat);case atStart=>exact ⟨0,Nat.zero_le _,rfl,rfl,rfl,⟨Below.refl _ _⟩⟩
 case round =>
  obtain ⟨j,hj,rfl,rfl,rfl,HB⟩:=hrel
  by_cases hlt:j < m.l.length
  ·have d0:decide ((j:Int) < (m.l.length:Int))=true:=decide_eq_true (by omega);have hq:(j < m.l.length)=True:=eq_true hlt;have hqi:((j:Int) < (m.l.length:Int))=True:=eq_true (by omega);have hwj:wrap64 ((j:Int)+1)=(j:Int)+1:=by have:=HLB.out;unfold wrap64;omega
   have hwk:IntKind.i64.wrap ((j:Int)+1)=(j:Int)+1:=by rw [qbL];exact hwj
   have HLT:=aM hlt;have HLO:=aM (qiC m.l j);have HHI:=aM (qgV m.l j);have HLS:=aM (show qnQ m.l (j+1)=vdE m.l (qnQ m.l j) j from rfl);have HHS:=aM (show qfV m.l (j+1)=qtH m.l (qfV m.l j) j from rfl);obtain ⟨z0,z1,z2,z3,z4,z5⟩:=(H.out.grow HB.out).l.cell j hlt;have hxj:=qbO hlt
   obtain ⟨x,hx⟩:∃ x,x=m.l.getD j default:=⟨_,rfl⟩
   rw [← hxj,← hx] at z0 z1 z2 z3 z4 z5;unfold vdE at HLS;unfold qtH at HHS;rw [← hx] at HLS HHS;generalize qnQ m.l j=lo at HLO HLS ⊢;generalize qfV m.l j=hi at HHI HHS ⊢;clear hx hxj hj hlt
   go_upto_region 5 with (fail)
   generalize hW:wr.alloc (.cells (bC x) 68)=W5
   obtain ⟨g8,hg8⟩:∃ g8,g8=wr.heap.size:=⟨_,rfl⟩
   rw [← hg8];have HB5:=aM (show Below W.heap.size W W5 by rw [← hW];exact qaA HB.out _);have hx5:W5.heap[g8]?=some (.cells (bC x) 68 (0,0)):=by rw [← hW,hg8];exact qaM _ _ _
   have HX5:=aM hx5;clear hW hx5 z0 z1 z2 z3 z4 z5 hg8;go_cut [38,14] from 14 to 61 (fun v38 v14 wx=>v38=.bool (decide (x.f0=4∧(lo < 0∨x.f1 < (m.l.getD lo.toNat default).f1)))∧v14=.int .i64 j∧qaJ (Below W5.heap.size W5 wx))
   case first =>
    have x0:=Joins.cell_of_block HX5.out 0;have x1:=Joins.cell_of_block HX5.out 1
    by_cases c0:x.f0=4
    ·have e0:(x.f0==4)=true:=by simp only [beq_iff_eq];exact c0
     by_cases c1:lo < 0
     ·have e1:decide (lo < 0)=true:=decide_eq_true c1;have HC:=aM (show decide (x.f0=4∧(lo < 0∨x.f1 < (m.l.getD lo.toNat default).f1))=true from decide_eq_true ⟨c0,.inl c1⟩);clear c0 c1;go_quiet (fail);go_wp2;go_meet;exact ⟨by rw [HC.out],rfl,⟨qaD (Below.refl _ _) _⟩⟩
     ·have e1:decide (lo < 0)=false:=decide_eq_false c1
      rcases HLO.out with c2|⟨i,hi1,rfl,-⟩
      ·exact absurd (by rw [c2];decide) c1
      have hil:i < m.l.length:=by have:=HLT.out;omega
      have q1:(i < m.l.length)=True:=eq_true hil;have q2:((i:Int) < (m.l.length:Int))=True:=eq_true (by omega);have y5:W5.cell? ⟨gm,5,none⟩=some (.slice (some ⟨gl,0,none⟩) m.l.length cl):=(H.out.grow HB5.out).cell 5;obtain ⟨k1,-⟩:=HLR.out W5 HB5.out i hil
      have HC:=aM (show decide (x.f0=4∧((i:Int) < 0∨x.f1 < (m.l.getD (i:Int).toNat default).f1))=decide (x.f1 < (m.l.getD (i:Int).toNat default).f1) by
       by_cases c3:x.f1 < (m.l.getD (i:Int).toNat default).f1
       ·rw [decide_eq_true c3];exact decide_eq_true ⟨c0,.inr c3⟩
       ·rw [decide_eq_false c3];exact decide_eq_false (fun h=>by rcases h.2 with h|h;exact c1 h;exact c3 h))
      obtain ⟨cc,hcc⟩:∃ cc,cc=(m.l.getD i default).f1:=⟨_,rfl⟩
      rw [← hcc] at k1;have HCC:=aM hcc;clear c0 c1 hil hi1 hcc;go_quiet (fail);go_wp2;go_meet;exact ⟨by rw [HC.out,Int.toNat_natCast,← HCC.out],rfl,⟨qaD (Below.refl _ _) _⟩⟩
    ·have e0:(x.f0==4)=false:=by simp only [beq_eq_false_iff_ne];exact c0
     have HC:=aM (show decide (x.f0=4∧(lo < 0∨x.f1 < (m.l.getD lo.toNat default).f1))=false from decide_eq_false (fun h=>c0 h.1));clear c0;go_quiet (fail);go_wp2;go_meet;exact ⟨by rw [HC.out],rfl,⟨qaD (Below.refl _ _) _⟩⟩
   case rest =>
   obtain ⟨rfl,rfl,HD6⟩:=hcut;generalize wc=W6 at HD6 ⊢;have HB6:=aM (qaC HB5.out HD6.out);have HX6:=aM (qaB HX5.out HD6.out)
   by_cases cca:(x.f0=4∧(lo < 0∨x.f1 < (m.l.getD lo.toNat default).f1))
   ·have eca:decide (x.f0=4∧(lo < 0∨x.f1 < (m.l.getD lo.toNat default).f1))=true:=decide_eq_true cca;have HVa:=aM (HLS.out.trans (if_pos cca));rw [eca];clear cca eca
    go_upto_region 7 with (fail)
    go_cut [59,14] from 14 to 61 (fun v59 v14 wx=>v59=.bool (decide (x.f0=2∧(hi < 0∨(m.l.getD hi.toNat default).f1 < x.f1)))∧v14=.int .i64 j∧qaJ (Below W6.heap.size W6 wx))
    case first =>
     have x0:=Joins.cell_of_block HX6.out 0;have x1:=Joins.cell_of_block HX6.out 1
     by_cases c0:x.f0=2
     ·have e0:(x.f0==2)=true:=by simp only [beq_iff_eq];exact c0
      by_cases c1:hi < 0
      ·have e1:decide (hi < 0)=true:=decide_eq_true c1;have HC:=aM (show decide (x.f0=2∧(hi < 0∨(m.l.getD hi.toNat default).f1 < x.f1))=true from decide_eq_true ⟨c0,.inl c1⟩);clear c0 c1;go_quiet (fail);go_wp2;go_meet;exact ⟨by rw [HC.out],rfl,⟨qaD (Below.refl _ _) _⟩⟩
      ·have e1:decide (hi < 0)=false:=decide_eq_false c1
       rcases HHI.out with c2|⟨i,hi1,rfl,-⟩
       ·exact absurd (by rw [c2];decide) c1
       have hil:i < m.l.length:=by have:=HLT.out;omega
       have q1:(i < m.l.length)=True:=eq_true hil;have q2:((i:Int) < (m.l.length:Int))=True:=eq_true (by omega);have y5:W6.cell? ⟨gm,5,none⟩=some (.slice (some ⟨gl,0,none⟩) m.l.length cl):=(H.out.grow HB6.out).cell 5;obtain ⟨k1,-⟩:=HLR.out W6 HB6.out i hil
       have HC:=aM (show decide (x.f0=2∧((i:Int) < 0∨(m.l.getD (i:Int).toNat default).f1 < x.f1))=decide ((m.l.getD (i:Int).toNat default).f1 < x.f1) by
        by_cases c3:(m.l.getD (i:Int).toNat default).f1 < x.f1
        ·rw [decide_eq_true c3];exact decide_eq_true ⟨c0,.inr c3⟩
        ·rw [decide_eq_false c3];exact decide_eq_false (fun h=>by rcases h.2 with h|h;exact c1 h;exact c3 h))
       obtain ⟨cc,hcc⟩:∃ cc,cc=(m.l.getD i default).f1:=⟨_,rfl⟩
       rw [← hcc] at k1;have HCC:=aM hcc;clear c0 c1 hil hi1 hcc;go_quiet (fail);go_wp2;go_meet;exact ⟨by rw [HC.out,Int.toNat_natCast,← HCC.out],rfl,⟨qaD (Below.refl _ _) _⟩⟩
     ·have e0:(x.f0==2)=false:=by simp only [beq_eq_false_iff_ne];exact c0
      have HC:=aM (show decide (x.f0=2∧(hi < 0∨(m.l.getD hi.toNat default).f1 < x.f1))=false from decide_eq_false (fun h=>c0 h.1));clear c0;go_quiet (fail);go_wp2;go_meet;exact ⟨by rw [HC.out],rfl,⟨qaD (Below.refl _ _) _⟩⟩
    case rest =>
    obtain ⟨rfl,rfl,HD9⟩:=hcut;generalize wc=w9 at HD9 ⊢;have HB9:=aM (qaC HB6.out HD9.out);have HX9:=aM (qaB HX6.out HD9.out)
    by_cases ccb:(x.f0=2∧(hi < 0∨(m.l.getD hi.toNat default).f1 < x.f1))
    ·have ecb:decide (x.f0=2∧(hi < 0∨(m.l.getD hi.toNat default).f1 < x.f1))=true:=decide_eq_true ccb;have HVb:=aM (HHS.out.trans (if_pos ccb));rw [ecb];clear ccb ecb;go_wp2;go_roundw;case rel=>exact ⟨j+1,HLT.out,by rw [HVa.out],by rw [HVb.out],by push_cast;rfl,HB9⟩
     case measure=>have:=HLT.out;simp [intOf];omega
    ·have ecb:decide (x.f0=2∧(hi < 0∨(m.l.getD hi.toNat default).f1 < x.f1))=false:=decide_eq_false ccb;have HVb:=aM (HHS.out.trans (if_neg ccb));rw [ecb];clear ccb ecb;go_wp2;go_roundw;case rel=>exact ⟨j+1,HLT.out,by rw [HVa.out],by rw [HVb.out],by push_cast;rfl,HB9⟩
     case measure=>have:=HLT.out;simp [intOf];omega
   ·have eca:decide (x.f0=4∧(lo < 0∨x.f1 < (m.l.getD lo.toNat default).f1))=false:=decide_eq_false cca;have HVa:=aM (HLS.out.trans (if_neg cca));rw [eca];clear cca eca
    go_upto_region 7 with (fail)
    go_cut [59,14] from 14 to 61 (fun v59 v14 wx=>v59=.bool (decide (x.f0=2∧(hi < 0∨(m.l.getD hi.toNat default).f1 < x.f1)))∧v14=.int .i64 j∧qaJ (Below W6.heap.size W6 wx))
    case first =>
     have x0:=Joins.cell_of_block HX6.out 0;have x1:=Joins.cell_of_block HX6.out 1
     by_cases c0:x.f0=2
     ·have e0:(x.f0==2)=true:=by simp only [beq_iff_eq];exact c0
      by_cases c1:hi < 0
      ·have e1:decide (hi < 0)=true:=decide_eq_true c1;have HC:=aM (show decide (x.f0=2∧(hi < 0∨(m.l.getD hi.toNat default).f1 < x.f1))=true from decide_eq_true ⟨c0,.inl c1⟩);clear c0 c1;go_quiet (fail);go_wp2;go_meet;exact ⟨by rw [HC.out],rfl,⟨qaD (Below.refl _ _) _⟩⟩
      ·have e1:decide (hi < 0)=false:=decide_eq_false c1
       rcases HHI.out with c2|⟨i,hi1,rfl,-⟩
       ·exact absurd (by rw [c2];decide) c1
       have hil:i < m.l.length:=by have:=HLT.out;omega
       have q1:(i < m.l.length)=True:=eq_true hil;have q2:((i:Int) < (m.l.length:Int))=True:=eq_true (by omega);have y5:W6.cell? ⟨gm,5,none⟩=some (.slice (some ⟨gl,0,none⟩) m.l.length cl):=(H.out.grow HB6.out).cell 5;obtain ⟨k1,-⟩:=HLR.out W6 HB6.out i hil
       have HC:=aM (show decide (x.f0=2∧((i:Int) < 0∨(m.l.getD (i:Int).toNat default).f1 < x.f1))=decide ((m.l.getD (i:Int).toNat default).f1 < x.f1) by
        by_cases c3:(m.l.getD (i:Int).toNat default).f1 < x.f1
        ·rw [decide_eq_true c3];exact decide_eq_true ⟨c0,.inr c3⟩
        ·rw [decide_eq_false c3];exact decide_eq_false (fun h=>by rcases h.2 with h|h;exact c1 h;exact c3 h))
       obtain ⟨cc,hcc⟩:∃ cc,cc=(m.l.getD i default).f1:=⟨_,rfl⟩
       rw [← hcc] at k1;have HCC:=aM hcc;clear c0 c1 hil hi1 hcc;go_quiet (fail);go_wp2;go_meet;exact ⟨by rw [HC.out,Int.toNat_natCast,← HCC.out],rfl,⟨qaD (Below.refl _ _) _⟩⟩
     ·have e0:(x.f0==2)=false:=by simp only [beq_eq_false_iff_ne];exact c0
      have HC:=aM (show decide (x.f0=2∧(hi < 0∨(m.l.getD hi.toNat default).f1 < x.f1))=false from decide_eq_false (fun h=>c0 h.1));clear c0;go_quiet (fail);go_wp2;go_meet;exact ⟨by rw [HC.out],rfl,⟨qaD (Below.refl _ _) _⟩⟩
    case rest =>
    obtain ⟨rfl,rfl,HD9⟩:=hcut;generalize wc=w9 at HD9 ⊢;have HB9:=aM (qaC HB6.out HD9.out);have HX9:=aM (qaB HX6.out HD9.out)
    by_cases ccb:(x.f0=2∧(hi < 0∨(m.l.getD hi.toNat default).f1 < x.f1))
    ·have ecb:decide (x.f0=2∧(hi < 0∨(m.l.getD hi.toNat default).f1 < x.f1))=true:=decide_eq_true ccb;have HVb:=aM (HHS.out.trans (if_pos ccb));rw [ecb];clear ccb ecb;go_wp2;go_roundw;case rel=>exact ⟨j+1,HLT.out,by rw [HVa.out],by rw [HVb.out],by push_cast;rfl,HB9⟩
     case measure=>have:=HLT.out;simp [intOf];omega
    ·have ecb:decide (x.f0=2∧(hi < 0∨(m.l.getD hi.toNat default).f1 < x.f1))=false:=decide_eq_false ccb;have HVb:=aM (HHS.out.trans (if_neg ccb));rw [ecb];clear ccb ecb;go_wp2;go_roundw;case rel=>exact ⟨j+1,HLT.out,by rw [HVa.out],by rw [HVb.out],by push_cast;rfl,HB9⟩
     case measure=>have:=HLT.out;simp [intOf];omega
  ·obtain rfl:j=m.l.length:=by omega
   have d0:decide ((m.l.length:Int) < (m.l.length:Int))=false:=decide_eq_false (by omega);clear hlt hj;have HLO:=aM (qiC m.l m.l.length);have HHI:=aM (qgV m.l m.l.length);have HWN:=aM (show qpS m.l=if qnQ m.l m.l.length < 0∨qfV m.l m.l.length < 0∨(m.l.getD (qfV m.l m.l.length).toNat default).f1 - (m.l.getD (qnQ m.l m.l.length).toNat default).f1≤8 then (0,0,false) else ((m.l.getD (qnQ m.l m.l.length).toNat default).f2,qfV m.l m.l.length,true) from rfl);generalize qnQ m.l m.l.length=lo at HLO HWN ⊢;generalize qfV m.l m.l.length=hi at HHI HWN ⊢
   go_upto_region 10 with (fail)
   by_cases c1:lo < 0
   ·have e1:decide (lo < 0)=true:=decide_eq_true c1;have HE:=aM (HWN.out.trans (if_pos (.inl c1)));clear c1;go_quiet (fail);go_wp2;go_ret3;rw [HE.out];exact ⟨rfl,qaD HB.out _⟩
   have e1:decide (lo < 0)=false:=decide_eq_false c1
   by_cases c2:hi < 0
   ·have e2:decide (hi < 0)=true:=decide_eq_true c2;have HE:=aM (HWN.out.trans (if_pos (.inr (.inl c2))));clear c1 c2;go_quiet (fail);go_wp2;go_ret3;rw [HE.out];exact ⟨rfl,qaD HB.out _⟩
   have e2:decide (hi < 0)=false:=decide_eq_false c2
   rcases HLO.out with c3|⟨p,hp,rfl,-⟩
   ·exact absurd (by rw [c3];decide) c1
   rcases HHI.out with c3|⟨r,hr,rfl,-⟩
   ·exact absurd (by rw [c3];decide) c2
   have p1:(p < m.l.length)=True:=eq_true hp;have p2:((p:Int) < (m.l.length:Int))=True:=eq_true (by omega);have r1:(r < m.l.length)=True:=eq_true hr;have r2:((r:Int) < (m.l.length:Int))=True:=eq_true (by omega);have y5:wr.cell? ⟨gm,5,none⟩=some (.slice (some ⟨gl,0,none⟩) m.l.length cl):=(H.out.grow HB.out).cell 5;obtain ⟨k1,k2⟩:=HLR.out wr HB.out p hp;obtain ⟨k3,k4⟩:=HLR.out wr HB.out r hr;have b1:=HCT.out p hp;have b2:=HCT.out r hr;rw [Int.toNat_natCast,Int.toNat_natCast] at HWN
   obtain ⟨cp_,hcp⟩:∃ c,c=(m.l.getD p default).f1:=⟨_,rfl⟩
   obtain ⟨cr,hcr⟩:∃ c,c=(m.l.getD r default).f1:=⟨_,rfl⟩
   obtain ⟨lb,hlb⟩:∃ c,c=(m.l.getD p default).f2:=⟨_,rfl⟩
   rw [← hcp,← hcr,← hlb] at HWN;rw [← hcp] at k1 b1;rw [← hlb] at k2;rw [← hcr] at k3 b2;have hwd:wrap64 (cr - cp_)=cr - cp_:=by unfold wrap64;omega
   have hwe:IntKind.i64.wrap (cr - cp_)=cr - cp_:=by rw [qbL];exact hwd
   have HKK:=aM (show ∀ w,Below wr.heap.size wr w→w.cell? ⟨gm,5,none⟩=some (.slice (some ⟨gl,0,none⟩) m.l.length cl)∧w.cell? ⟨gl,p*6+2,none⟩=some (.int .i64 lb) from fun w hb=>⟨qaH y5 hb,qaH k2 hb⟩)
   by_cases c5:cr - cp_≤8
   ·have e5:decide (cr - cp_≤8)=true:=decide_eq_true c5;have e5n:(cr - cp_≤8)=True:=eq_true c5;have HE:=aM (HWN.out.trans (if_pos (.inr (.inr c5))));clear c1 c2 c5 hcp hcr hlb hp hr b1 b2 k2 k4;go_quiet (fail);go_wp2;go_ret3;rw [HE.out];exact ⟨rfl,qaD HB.out _⟩
   ·have e5:decide (cr - cp_≤8)=false:=decide_eq_false c5;have e5n:(cr - cp_≤8)=False:=eq_false c5;have HE:=aM (HWN.out.trans (if_neg (fun h=>by rcases h with h|h|h;exact c1 h;exact c2 h;exact c5 h)));clear c1 c2 c5 hcp hcr hlb hp hr b1 b2 k2 k4;go_quiet (fail);obtain ⟨s5,s2⟩:=HKK.out (wr.drewN _) (qaD (Below.refl _ _) nq);go_wp2;go_ret3;rw [HE.out];exact ⟨rfl,qaD HB.out _⟩
end
end Go.Proofs.YtdlimghdimkadaaGreatDoor.PAll

/- Part 12 of what the law EbmFull rests on. -/
import Derived.Test.YtdlimghdimkadaaGreatDoorQ11
import Derived.Deep.Slices
import Derived.SizedLaws
import Derived.ChangeArms
import Derived.Test.YtdlimghdimkadaaGreatDoorQ0
set_option maxRecDepth 100000
set_option maxHeartbeats 32000000
set_option linter.unusedSimpArgs false
set_option linter.unusedVariables false
namespace Go.Proofs.YtdlimghdimkadaaGreatDoor.PAll
open Go Go.RowKit YtdlimghdimkadaaGreatDoorW.PrintWords YtdlimghdimkadaaGreatDoorW.PrintLast YtdlimghdimkadaaGreatDoorW.PrintMore
attribute [local go_sem] qcZ qcX qdV qdU qcH qcG qcY qcW
section
open Go.Shelf Plain
variable {w0 W W':World} {gm gc gl cl ge ce:Nat} {a a':AC} {m m':AM}
def qyL:Nat→Nat→AC→AM→Int × AC × AM
 | 0,_,a,m=>(0,a,m)
 | k+1,i,a,m=>if ¬ (m.l.getD i default).f0=3∨qeI m=true then qyL k (i+1) a m
  else if (qcC a m i).1=0 then qyL k (i+1) (qcC a m i).2.1 (qcC a m i).2.2
  else qcC a m i
theorem qpB:∀ (k i:Nat) (a:AC) (m:AM),(∀ j,i≤j→j < i+k→¬ (m.l.getD j default).f0=3)→qyL k i a m=(0,a,m)
 | 0,_,_,_,_=>rfl
 | k+1,i,a,m,h=>by
  unfold qyL;rw [if_pos (.inl (h i (Nat.le_refl _) (by omega)))];exact qpB k (i+1) a m (fun j hj hj2=>h j (by omega) (by omega))
theorem qrV (m:AM):qeI m=true∨qeI m=false:=by cases qeI m <;> simp
theorem qwK (h:qdX w0 W gc a) (hby:qbW a) (aE:Addr) (hgE:gNone w0 aE) (hon:a.off=false) (nl:Nat) (hnl:(nl:Int)=qeK a.g.B a.g.P a.g.Z a.g.R) (hnb:nl≤a.g.B)
  (r:Int × AC × AM) (hr:qyL a.g.B 0 a (qcD (qdD a) nl)=r) (hr0:r.1=0) :
  Calls Tryz.prog 29 #[cp gc] W fun x w'=>∃ gm gl cl ge ce:Nat,x=.returned (.tuple #[kp gm,.int .i64 0])∧Man w0 w' gm gc gl cl ge ce r.2.1 r.2.2∧MK [] W w'∧W.heap.size≤gm∧W.heap.size≤gl∧W.heap.size≤ge:=by
 have HAT:=aM (qkY h hby aE (qaK hgE h.below) hon nl hnl hnb);have hgok:=h.gok.1;have HML:=aM (show (qcD (qdD a) nl).l.length=a.g.B from qfY a);have HR:=aM hr;have HR0:=aM hr0;clear h hby hgE hon hnl hnb hr hr0;generalize qcD (qdD a) nl=m0 at HAT HML HR;have hu68:=Tryz.underlying68;go_enter Tryz.func29,Tryz.ntmps29
 go_upto_region 4 with (first
  | (go_at_call 86;(with_reducible refine HAT.out.mono ?_);rintro z w1 ⟨gm,gl,cl,ge,ce,rfl,hm,hb,g1,g2,g3⟩;have H5:=aM hm;have HK5:=aM (MK.of_below (s:=[gm,gl,ge]) hb);have HF:=aM (show W.heap.size≤gm∧W.heap.size≤gl∧W.heap.size≤ge from ⟨g1,g2,g3⟩);clear hm hb g1 g2 g3))
 have c5:w1.cell? ⟨gm,5,none⟩=some (.slice (some ⟨gl,0,none⟩) m0.l.length cl):=H5.out.cell 5;rw [HML.out] at c5
 go_upto_region 5 with (fail)
 clear c5;go_loopw [22] (fun v22 wr=>∃ (j:Nat) (b:AC) (o:AM),j≤a.g.B∧v22=.int .i64 j∧qaJ (qyL (a.g.B - j) j b o=r)∧qaJ (Man w0 wr gm gc gl cl ge ce b o)∧qaJ (b.g=a.g)∧qaJ (MK [gm,gl,ge] W wr)) (fun v22 _=>a.g.B - (intOf v22).toNat);case atStart=>exact ⟨0,a,_,Nat.zero_le _,rfl,⟨by rw [Nat.sub_zero];exact HR.out⟩,H5,⟨rfl⟩,HK5⟩
 case round =>
  clear H5 HK5 HR HAT HML;obtain ⟨j,b,o,hj,rfl,HR,HM,HGG,HK⟩:=hrel
  by_cases hlt:j < a.g.B
  ·have d0:decide ((j:Int) < (a.g.B:Int))=true:=decide_eq_true (by omega);have hq:(j < a.g.B)=True:=eq_true hlt;have hqi:((j:Int) < (a.g.B:Int))=True:=eq_true (by omega);have hwj:wrap64 ((j:Int)+1)=(j:Int)+1:=by unfold wrap64;omega
   have hwk:IntKind.i64.wrap ((j:Int)+1)=(j:Int)+1:=by rw [qbL];exact hwj
   have hlo:o.l.length=a.g.B:=by rw [HM.out.ln,HGG.out]
   have hjo:j < o.l.length:=by omega
   have HJB:=aM (show j < b.g.B by rw [HGG.out];exact hlt)
   have HR1:=aM (show (if ¬ (o.l.getD j default).f0=3∨qeI o=true then qyL (a.g.B - (j+1)) (j+1) b o
     else if (qcC b o j).1=0 then qyL (a.g.B - (j+1)) (j+1) (qcC b o j).2.1 (qcC b o j).2.2
     else qcC b o j)=r by
    have h1:=HR.out;rw [show a.g.B - j=(a.g.B - (j+1))+1 by omega] at h1
    exact h1)
   obtain ⟨z0,z1,z2,z3,z4,z5⟩:=HM.out.l.cell j hjo;have HBD:=aM (qbO hjo)
   obtain ⟨x,hx⟩:∃ x,x=o.l.getD j default:=⟨_,rfl⟩
   rw [← hx] at HR1;have hxj:o.l[j]=x:=by rw [hx];exact HBD.out.symm
   rw [hxj] at z0 z1 z2 z3 z4 z5;have HLT:=aM hlt;clear hxj HBD hx hjo hlo hj hlt HR
   go_upto_region 7 with (fail)
   generalize hW:wr.alloc (.cells (bC x) 68)=W5
   obtain ⟨g8,hg8⟩:∃ g8,g8=wr.heap.size:=⟨_,rfl⟩
   rw [← hg8];have H5:=aM (show Man w0 W5 gm gc gl cl ge ce b o by rw [← hW];exact HM.out.grow (qaA (Below.refl _ _) _));have HK5:=aM (show MK [gm,gl,ge] W W5 by rw [← hW];exact HK.out.trans (MK.of_below (qaA (Below.refl _ _) _)));have hx5:W5.heap[g8]?=some (.cells (bC x) 68 (0,0)):=by rw [← hW,hg8];exact qaN _ _ _
   have x0:=Joins.cell_of_block hx5 0;clear hW hx5 z0 z1 z2 z3 z4 z5 HM HK hg8
   by_cases h3:x.f0=3
   ·have e0:(x.f0==3)=true:=by simp only [beq_iff_eq];exact h3
    have e0n:(x.f0 != 3)=false:=by rw [bne,e0];rfl
    have HSPT:=aM (qdM H5.out)
    rcases qrV o with hsp|hsp
    ·have HR2:=aM ((if_pos (.inr hsp)).symm.trans HR1.out);rw [hsp] at HSPT;clear h3 HR1 hsp
     go_wp2_with (first
      | (go_at_call 40;(with_reducible refine HSPT.out.mono ?_);rintro z w2 ⟨rfl,hb⟩;have H6:=aM (H5.out.grow hb);have HK6:=aM (HK5.out.trans (MK.of_below hb));clear hb))
     go_roundw;case rel=>exact ⟨j+1,b,o,HLT.out,by push_cast;rfl,HR2,H6,HGG,HK6⟩
     case measure=>have:=HLT.out;simp [intOf];omega
    ·have HR2:=aM ((if_neg (fun h=>by rcases h with h|h;exact h h3;rw [hsp] at h;exact absurd h (by decide))).symm.trans HR1.out);rw [hsp] at HSPT;clear h3 HR1 hsp
     go_upto_region 8 with (first
      | (go_at_call 40;(with_reducible refine HSPT.out.mono ?_);rintro z w2 ⟨rfl,hb⟩;have H6:=aM (H5.out.grow hb);have HK6:=aM (HK5.out.trans (MK.of_below hb));clear hb))
     have HFR:=aM (qnA H6.out j HJB.out);have HGN:=aM ((qzA b o j).trans HGG.out);generalize qcC b o j=t at HFR HGN HR2;obtain ⟨e10,b10,o10⟩:=t;simp only at HFR HGN HR2
     have h10:e10=0:=by
      have h1:=HR2.out
      by_cases h2:e10=0
      ·exact h2
      ·rw [if_neg h2] at h1;have h3:=HR0.out;rw [← h1] at h3;exact h3
     subst h10;have HR3:=aM ((if_pos rfl).symm.trans HR2.out);clear x0 H5 HK5 HR2 HSPT
     go_wp2_with (first
      | (go_at_call 88;(with_reducible refine HFR.out.mono ?_);rintro z w9 ⟨v9,rfl,hv9,h9,hk9⟩;(rcases hv9.symm with ⟨h99,-⟩|⟨-,rfl⟩;exact absurd rfl h99);have H9:=aM h9;have HK9:=aM (HK6.out.trans (hk9.mono (fun z hz=>by simp only [List.mem_cons,List.not_mem_nil,or_false] at hz ⊢;rcases hz with h|h;exact .inl h;exact .inr (.inl h))));clear h9 hk9))
     go_roundw;case rel=>exact ⟨j+1,b10,o10,HLT.out,by push_cast;rfl,HR3,H9,HGN,HK9⟩
     case measure=>have:=HLT.out;simp [intOf];omega
   ·have e0:(x.f0==3)=false:=by simp only [beq_eq_false_iff_ne];exact h3
    have e0n:(x.f0 != 3)=true:=by rw [bne,e0];rfl
    have HR2:=aM ((if_pos (.inl h3)).symm.trans HR1.out);clear h3 HR1;go_wp2;go_roundw;case rel=>exact ⟨j+1,b,o,HLT.out,by push_cast;rfl,HR2,H5,HGG,HK5⟩
    case measure=>have:=HLT.out;simp [intOf];omega
  ·obtain rfl:j=a.g.B:=by omega
   have d0:decide ((a.g.B:Int) < (a.g.B:Int))=false:=decide_eq_false (by omega);have HR1:=aM (show (0,b,o)=r by have h1:=HR.out;rw [Nat.sub_self] at h1;exact h1);clear hlt hj HR;go_wp2;go_ret2;rw [← HR1.out]
   exact ⟨gm,gl,cl,ge,ce,rfl,HM.out,HK.out.fresh (fun z hz=>by
    have hf:=HF.out;simp only [List.mem_cons,List.not_mem_nil,or_false] at hz
    rcases hz with rfl|rfl|rfl
    ·exact hf.1
    ·exact hf.2.1
    ·exact hf.2.2),HF.out⟩
end
section
open Go.Shelf Plain
variable {w0 W W':World} {gm gc gl cl ge ce:Nat} {a a':AC} {m m':AM}
theorem qyB (n:Nat) (hn:n≤1048576) (w:World):Calls Tryz.prog 97 #[.slice none 0 0,.int .i64 n] w fun e w'=>∃ v:Value,e=.returned v∧Kd.R kB 5 w' w.heap.size (fun _=>True) v (List.replicate n 255)∧Below w.heap.size w w':=by
 obtain ⟨K,h⟩:=qrK [] n hn;have h1:=bits_Fill.calls K none 0 [] (n:Int) (qfA [] n) w (Kd.R_reads' (Kd.R_nil kB 5 w 0 (fun _=>True))).2.2 (Nat.le_refl _) (h K (Nat.le_refl _));have e:qfA [] n=List.replicate n 255:=by simp [qfA]
 rw [e] at h1;exact h1
theorem vbO (h:Man w0 W gm gc gl cl ge ce a m) (hok:m.ok) (leb page:Int) (hpg:page < 4611686018427387904):Calls Tryz.prog 31 #[kp gm,.int .i64 leb,.int .i64 page] W fun x w'=>∃ v:Value,x=.returned (.tuple #[v,.int .i64 (qmJ a m leb page).2])∧Kd.R kB 5 w' W.heap.size (fun _=>True) v (qmJ a m leb page).1∧Below W.heap.size W w':=by
 have H:=aM h;have hgP:=h.chip.gok.2.1;have hgZ:=h.chip.gok.2.2;have y6:W.cell? ⟨gm,6,none⟩=some (.slice (some ⟨ge,0,none⟩) m.lebs.length ce):=h.cell 6;have HMP:=aM (fun (w:World) (hb:Below W.heap.size W w)=>qcL (h.grow hb));have HPW:=aM (fun (w:World) (hb:Below W.heap.size W w)=>qdR (h.grow hb));have HUS:=aM (fun (w:World) (hb:Below W.heap.size W w)=>qgR (h.grow hb) hok leb);have HFL:=aM (fun (w:World)=>qyB a.g.Z (by omega) w)
 by_cases h1:leb < 0
 ·have d0:decide (leb < 0)=true:=decide_eq_true h1;have d0n:(leb < 0)=True:=eq_true h1;have HE:=aM (show qmJ a m leb page=([],22) from if_pos (.inl h1));rw [HE.out];clear h HE hok hgP hgZ h1;go_enter Tryz.func31,Tryz.ntmps31;go_wp2;go_ret2;exact ⟨_,rfl,Kd.R_nil _ _ _ _ _,Below.refl _ _⟩
 have d0:decide (leb < 0)=false:=decide_eq_false h1;have d0n:(leb < 0)=False:=eq_false h1
 by_cases h2:(m.lebs.length:Int)≤leb
 ·have d1:decide ((m.lebs.length:Int)≤leb)=true:=decide_eq_true h2;have d1n:((m.lebs.length:Int)≤leb)=True:=eq_true h2;have HE:=aM (show qmJ a m leb page=([],22) from if_pos (.inr (.inl h2)));rw [HE.out];clear h HE hok hgP hgZ h1 h2;go_enter Tryz.func31,Tryz.ntmps31;go_wp2;go_ret2;exact ⟨_,rfl,Kd.R_nil _ _ _ _ _,Below.refl _ _⟩
 have d1:decide ((m.lebs.length:Int)≤leb)=false:=decide_eq_false h2;have d1n:((m.lebs.length:Int)≤leb)=False:=eq_false h2
 by_cases h3:page < 0
 ·have d2:decide (page < 0)=true:=decide_eq_true h3;have d2n:(page < 0)=True:=eq_true h3;have HE:=aM (show qmJ a m leb page=([],22) from if_pos (.inr (.inr (.inl h3))));rw [HE.out];clear h HE hok hgP hgZ h1 h2 h3;go_enter Tryz.func31,Tryz.ntmps31;go_wp2;go_ret2;exact ⟨_,rfl,Kd.R_nil _ _ _ _ _,Below.refl _ _⟩
 have d2:decide (page < 0)=false:=decide_eq_false h3;have d2n:(page < 0)=False:=eq_false h3
 by_cases h4:(a.g.P:Int) - 2≤page
 ·have d3:decide ((a.g.P:Int) - 2≤page)=true:=decide_eq_true h4;have d3n:((a.g.P:Int) - 2≤page)=True:=eq_true h4;have HE:=aM (show qmJ a m leb page=([],22) from if_pos (.inr (.inr (.inr h4))));rw [HE.out];clear h HE hok hgP hgZ h1 h2 h3 h4;go_enter Tryz.func31,Tryz.ntmps31
  go_wp2_with (first
  | (go_at_call 26;(with_reducible refine (HMP.out _ (Below.refl _ _)).mono ?_);rintro x w2 ⟨rfl,hb2⟩;have HB2:=aM hb2;clear hb2)
  | (go_at_call 96;(with_reducible refine (HPW.out _ HB2.out).mono ?_);rintro x w4 ⟨rfl,hb4⟩;have HB4:=aM (qaD HB2.out hb4);clear hb4)
  | (go_at_call 27;(with_reducible refine (HUS.out _ HB4.out).mono ?_);rintro x w5 ⟨rfl,hb5⟩;have HB5:=aM (qaD HB4.out hb5);clear hb5)
  | (go_at_call 97;(with_reducible refine (HFL.out _).mono ?_);rintro x w6 ⟨v6,rfl,hr6,hb6⟩;have HR6:=aM hr6;have HB6:=aM hb6;clear hb6 hr6))
  go_ret2;exact ⟨_,rfl,Kd.R_nil _ _ _ _ _,HB2.out⟩
 have d3:decide ((a.g.P:Int) - 2≤page)=false:=decide_eq_false h4;have d3n:((a.g.P:Int) - 2≤page)=False:=eq_false h4
 have HE1:=aM (show qmJ a m leb page=if ¬ qjX a m=0 then ([],qjX a m) else if (qbY m leb).1.f3≤page then (List.replicate a.g.Z 255,0) else qcE a (m.lebs.getD leb.toNat 0) (page+2) from if_neg (fun h=>by
  rcases h with h|h|h|h
  ·exact h1 h
  ·exact h2 h
  ·exact h3 h
  ·exact h4 h))
 by_cases hpw:qjX a m=0
 ·have HE2:=aM (HE1.out.trans (if_neg (fun h=>h hpw)));rw [hpw] at HPW
  by_cases hu:(qbY m leb).1.f3≤page
  ·have HE3:=aM (HE2.out.trans (if_pos hu));rw [HE3.out];generalize (qbY m leb).1.f3=u at hu HUS;have d5:decide (u≤page)=true:=decide_eq_true hu;have d5n:(u≤page)=True:=eq_true hu;clear h HE1 HE2 HE3 hok hgP hgZ h1 h2 h3 h4 hpw hu;go_enter Tryz.func31,Tryz.ntmps31
   go_upto_region 9 with (first
  | (go_at_call 26;(with_reducible refine (HMP.out _ (Below.refl _ _)).mono ?_);rintro x w2 ⟨rfl,hb2⟩;have HB2:=aM hb2;clear hb2)
  | (go_at_call 96;(with_reducible refine (HPW.out _ HB2.out).mono ?_);rintro x w4 ⟨rfl,hb4⟩;have HB4:=aM (qaD HB2.out hb4);clear hb4)
  | (go_at_call 27;(with_reducible refine (HUS.out _ HB4.out).mono ?_);rintro x w5 ⟨rfl,hb5⟩;have HB5:=aM (qaD HB4.out hb5);clear hb5)
  | (go_at_call 97;(with_reducible refine (HFL.out _).mono ?_);rintro x w6 ⟨v6,rfl,hr6,hb6⟩;have HR6:=aM hr6;have HB6:=aM hb6;clear hb6 hr6))
   have y3:w5.cell? ⟨gm,3,none⟩=some (.int .i64 a.g.Z):=(H.out.grow HB5.out).cell 3
   go_wp2_with (first
  | (go_at_call 26;(with_reducible refine (HMP.out _ (Below.refl _ _)).mono ?_);rintro x w2 ⟨rfl,hb2⟩;have HB2:=aM hb2;clear hb2)
  | (go_at_call 96;(with_reducible refine (HPW.out _ HB2.out).mono ?_);rintro x w4 ⟨rfl,hb4⟩;have HB4:=aM (qaD HB2.out hb4);clear hb4)
  | (go_at_call 27;(with_reducible refine (HUS.out _ HB4.out).mono ?_);rintro x w5 ⟨rfl,hb5⟩;have HB5:=aM (qaD HB4.out hb5);clear hb5)
  | (go_at_call 97;(with_reducible refine (HFL.out _).mono ?_);rintro x w6 ⟨v6,rfl,hr6,hb6⟩;have HR6:=aM hr6;have HB6:=aM hb6;clear hb6 hr6))
   go_ret2;exact ⟨_,rfl,Kd.R_lower HR6.out (qaI HB5.out),qaD HB5.out HB6.out⟩
  ·have HE3:=aM (HE2.out.trans (if_neg hu));rw [HE3.out];generalize (qbY m leb).1.f3=u at hu HUS;have d5:decide (u≤page)=false:=decide_eq_false hu;have d5n:(u≤page)=False:=eq_false hu
   obtain ⟨k,rfl⟩:∃ k:Nat,leb=(k:Int):=⟨leb.toNat,by omega⟩
   rw [Int.toNat_natCast];have hk:k < m.lebs.length:=by omega
   obtain ⟨p,hp⟩:∃ p,p=m.lebs.getD k 0:=⟨_,rfl⟩
   rw [← hp];have HYK:=aM (show ∀ q (hq:q < m.lebs.length),q=k→m.lebs[q]=p by rintro q hq rfl;rw [hp,List.getD_eq_getElem?_getD,List.getElem?_eq_getElem hq];rfl);have HKL:=aM hk;have hq:(k < m.lebs.length)=True:=eq_true hk;have hqi:((k:Int) < (m.lebs.length:Int))=True:=eq_true (by omega);have hwj:wrap64 (page+2)=page+2:=by unfold wrap64;omega
   have hwk:IntKind.i64.wrap (page+2)=page+2:=by rw [qbL];exact hwj
   clear h HE1 HE2 HE3 hok hgP hgZ h1 h2 h3 h4 hpw hu hk hp;go_enter Tryz.func31,Tryz.ntmps31
   go_upto_region 10 with (first
  | (go_at_call 26;(with_reducible refine (HMP.out _ (Below.refl _ _)).mono ?_);rintro x w2 ⟨rfl,hb2⟩;have HB2:=aM hb2;clear hb2)
  | (go_at_call 96;(with_reducible refine (HPW.out _ HB2.out).mono ?_);rintro x w4 ⟨rfl,hb4⟩;have HB4:=aM (qaD HB2.out hb4);clear hb4)
  | (go_at_call 27;(with_reducible refine (HUS.out _ HB4.out).mono ?_);rintro x w5 ⟨rfl,hb5⟩;have HB5:=aM (qaD HB4.out hb5);clear hb5)
  | (go_at_call 97;(with_reducible refine (HFL.out _).mono ?_);rintro x w6 ⟨v6,rfl,hr6,hb6⟩;have HR6:=aM hr6;have HB6:=aM hb6;clear hb6 hr6))
   have H5:=aM (H.out.grow HB5.out);have y0:w5.cell? ⟨gm,0,none⟩=some (cp gc):=H5.out.cell 0;have z6:w5.cell? ⟨gm,6,none⟩=some (.slice (some ⟨ge,0,none⟩) m.lebs.length ce):=H5.out.cell 6;have zk:w5.cell? ⟨ge,k,none⟩=some (.int .i64 p):=by rw [← HYK.out k HKL.out rfl];exact H5.out.b.cell k HKL.out
   have HRD:=aM (fun (w:World) (hb:Below w5.heap.size w5 w)=>(H5.out.grow hb).chip.read p (page+2));generalize hrd:qcE a p (page+2)=rd at HRD;obtain ⟨pg,e9⟩:=rd;simp only at HRD;have HRQ:=aM hrd;clear hrd
   go_region_with (first
    | (go_at_call 77;(with_reducible refine (HRD.out _ (by first|exact qaP (Below.refl _ _)|exact Below.refl _ _)).mono ?_);rintro x w6 ⟨v6,rfl,hr6,hb6⟩;have HR6:=aM hr6;have HB6:=aM hb6;clear hb6 hr6))
   all_goals go_wp2
   all_goals go_ret2
   all_goals rw [HRQ.out]
   all_goals exact ⟨_,rfl,Kd.R_lower HR6.out (qaI (qaP HB5.out)),qaD (qaP HB5.out) HB6.out⟩
 ·have HE2:=aM (HE1.out.trans (if_pos hpw));rw [HE2.out];have d6:(qjX a m==0)=false:=by simp only [beq_eq_false_iff_ne];exact hpw
  have d6p:(qjX a m=0)=False:=eq_false hpw;generalize qjX a m=e at HPW d6 d6p;clear h HE1 HE2 hok hgP hgZ h1 h2 h3 h4 hpw;go_enter Tryz.func31,Tryz.ntmps31
  go_wp2_with (first
  | (go_at_call 26;(with_reducible refine (HMP.out _ (Below.refl _ _)).mono ?_);rintro x w2 ⟨rfl,hb2⟩;have HB2:=aM hb2;clear hb2)
  | (go_at_call 96;(with_reducible refine (HPW.out _ HB2.out).mono ?_);rintro x w4 ⟨rfl,hb4⟩;have HB4:=aM (qaD HB2.out hb4);clear hb4)
  | (go_at_call 27;(with_reducible refine (HUS.out _ HB4.out).mono ?_);rintro x w5 ⟨rfl,hb5⟩;have HB5:=aM (qaD HB4.out hb5);clear hb5)
  | (go_at_call 97;(with_reducible refine (HFL.out _).mono ?_);rintro x w6 ⟨v6,rfl,hr6,hb6⟩;have HR6:=aM hr6;have HB6:=aM hb6;clear hb6 hr6))
  go_ret2;exact ⟨_,rfl,Kd.R_nil _ _ _ _ _,HB4.out⟩
end
section
open Go.Shelf Plain
variable {w0 W W':World} {gm gc gl cl ge ce:Nat} {a a':AC} {m m':AM} {n:Nat} {wr:Int} {g:Geo} {D:Nat→List (List Int)}
def GM (w0 W:World) (gm gc gl cl ge ce:Nat) (g:Geo) (wr:Int) (n:Nat) (D:Nat→List (List Int)):Prop:=∃ a m,Man w0 W gm gc gl cl ge ce a m∧qbP n (-1) a m D∧a.g=g∧a.wrong=wr
def qdZ (g:Geo):Nat:=(qeK g.B g.P g.Z g.R).toNat
theorem qdW {g:Geo} (hr:qbM g.B g.P g.Z g.R=true):(qdZ g:Int)=qeK g.B g.P g.Z g.R∧10≤qdZ g∧qdZ g+2≤g.B∧g.B≤256:=by
 obtain ⟨h1,h2,h3,h4,h5⟩:=qeJ hr;unfold qdZ;rw [h1];omega
theorem GM.grow (h:GM w0 W gm gc gl cl ge ce g wr n D) (hb:Below W.heap.size W W'):GM w0 W' gm gc gl cl ge ce g wr n D:=by
 obtain ⟨a,m,h1,h2⟩:=h;exact ⟨a,m,h1.grow hb,h2⟩
theorem GM.below (h:GM w0 W gm gc gl cl ge ce g wr n D):Below w0.heap.size w0 W:=by
 obtain ⟨a,m,h1,h2,rfl,-⟩:=h;exact h1.chip.below
theorem qfM (h:qdX w0 W gc (qnG g [])) (aE:Addr) (hgE:gNone w0 aE) (hr:qbM g.B g.P g.Z g.R=true) (hn:(n:Int) < 2147483000) :
  Calls Tryz.prog 23 #[cp gc] W fun x w'=>∃ gm gl cl ge ce:Nat,x=.returned (.tuple #[kp gm,.int .i64 0])∧GM w0 w' gm gc gl cl ge ce g 0 n (fun _=>[])∧MK [] W w'∧W.heap.size≤gm∧W.heap.size≤gl∧W.heap.size≤ge:=by
 have hg:GOK g:=h.gok;obtain ⟨h1,h2,h3,h4⟩:=qdW hr;have hp:=qxZ (n:=n) g hg hr hn;obtain ⟨a',m',e,hG,g1,g2,g3,-⟩:=hp.format (by omega) (qdZ g) h1;refine (qwG h hp.by_ aE hgE rfl (qdZ g) h1 (by show qdZ g≤g.B;omega) (hp.spent _ rfl (by simp only [qcD,List.length_map,List.length_range];exact h1)) _ e rfl).mono ?_;rintro x w' ⟨gm,gl,cl,ge,ce,hx,hm,hk,hf⟩;exact ⟨gm,gl,cl,ge,ce,hx,⟨a',m',hm,hG,g1,g2⟩,hk,hf⟩
theorem qqE (h:GM w0 W gm gc gl cl ge ce g wr n D) (aE:Addr) (hgE:gNone w0 aE) :
  Calls Tryz.prog 29 #[cp gc] W fun x w'=>∃ gm gl cl ge ce:Nat,x=.returned (.tuple #[kp gm,.int .i64 0])∧GM w0 w' gm gc gl cl ge ce g wr n D∧MK [] W w'∧W.heap.size≤gm∧W.heap.size≤gl∧W.heap.size≤ge:=by
 obtain ⟨a,m,hM,hG0,rfl,rfl⟩:=h;obtain ⟨h1,h2,h3,h4⟩:=qdW hG0.rg;have hG:=hG0.attach;have hnl:m.lebs.length=qdZ a.g:=by have:=hG0.lbs;omega
 rw [hnl] at hG
 have e:qyL a.g.B 0 a (qcD (qdD a) (qdZ a.g))=(0,a,qcD (qdD a) (qdZ a.g)):=qpB _ _ _ _ fun j _ hj=>by
  rcases hG.bl j (by omega) (by omega) with ⟨hl,-⟩|⟨q,seq,l2,s,-,-,h4,-,-⟩
  ·rw [hl];exact of_decide_eq_true rfl
  ·rw [h4];exact of_decide_eq_true rfl
 refine (qwK hM.chip hG.by_ aE hgE hG.off (qdZ a.g) h1 (by omega) _ e rfl).mono ?_;rintro x w' ⟨gm,gl,cl,ge,ce,hx,hm,hk,hf⟩;exact ⟨gm,gl,cl,ge,ce,hx,⟨a,_,hm,hG,rfl,rfl⟩,hk,hf⟩
theorem qbP.ready (h:qbP n (-1) a m D) {k:Nat} (hk:k < m.lebs.length) {xss:List (List Int)} (hx:xss.length+2≤a.g.P) (hz:∀ x,x ∈ xss→x.length≤a.g.Z):qdL a m (k:Int) xss=0:=by
 have hb:qvT a.g.Z xss=false:=by
  unfold qvT;rw [List.any_eq_false];intro x hx;simp only [decide_eq_true_eq];have:=hz x hx;omega
 have hpw:qjX a m=0:=by unfold qjX;rw [h.dead,h.off];rfl
 unfold qdL
 rw [if_neg (fun h2=>by
  rcases h2 with h2|h2|h2|h2
  ·omega
  ·omega
  ·omega
  ·rw [hb] at h2;exact absurd h2 (by decide)),if_neg (fun h2=>h2 hpw),if_neg (by rw [h.spent.1];decide)]
theorem qgN (h:GM w0 W gm gc gl cl ge ce g wr (n+1) D) (k:Nat) (hk:k < qdZ g) (A:Option Addr) (c:Nat) (x:List Int) (hc:x.length≤c) (hx:∀ w',Below w0.heap.size w0 w'→MK [gm,gl,ge] W w'→Kd.C kB w' A x.length x) (hd:(D k).length+2 < g.P) (hz:x.length≤g.Z) (hxb:qbA x) :
  Calls Tryz.prog 25 #[kp gm,.int .i64 k,.slice A x.length c] W fun z w'=>z=.returned (.int .i64 0)∧GM w0 w' gm gc gl cl ge ce g wr n (qlA D k (D k ++ [x]))∧MK [gm,gl,ge] W w':=by
 obtain ⟨a,m,hM,hG,rfl,rfl⟩:=h;have hnl:m.lebs.length=qdZ a.g:=by have:=hG.lbs;have:=(qdW hG.rg).1;omega
 have hkl:k < m.lebs.length:=by omega
 obtain ⟨a1,m1,e1,hG1,g1,g2,g3,i,hi⟩:=hG.claim hkl (qcB m.l);obtain ⟨a2,m2,e2,g4,g5,g6,hG2⟩:=hG1.write (by omega) hi (x:=x) (by rw [g1];exact hd) (by rw [g1];exact hz) hxb (fun b o=>(0,b,o)) 0;have hbk:=hG.blk hkl
 have hwA:qeG (fun b o=>(0,b,o)) 1 a m k x=(0,a2,m2):=by
  unfold qeG;rw [e1,if_pos rfl];exact e2
 have hw:∀ w,Below W.heap.size W w→Calls Tryz.prog 91 #[kp gm,.int .i64 k,.slice A x.length c] w fun z w'=>∃ v:Value,z=.returned v∧EV w' v ((0,a2,m2):Int × AC × AM).1∧Man w0 w' gm gc gl cl ge ce ((0,a2,m2):Int × AC × AM).2.1 ((0,a2,m2):Int × AC × AM).2.2∧MK [gm,gl,ge] w w':=fun w hb=>by
  have key:=qwL (hM.grow hb) hG.sq.1 k hkl A c x (fun w' hb2 hk2=>hx w' hb2 ((MK.of_below hb).trans hk2)) hc (fun b o=>(0,b,o)) 1 (fun q b o=>q ≠ 0∧b=a1∧o=m1) (fun _=>⟨by decide,by rw [e1],by rw [e1]⟩) (fun b o h=>h.1 rfl)
   (fun q b o h=>by
    obtain ⟨-,rfl,rfl⟩:=h;have hb1:=hG1.blk (k:=k) (by omega);have hgP:=hG.gok.2.1
    exact ⟨hG1.ok,by omega,⟨i,hi⟩,by rw [hb1.1];omega,by rw [hb1.1];omega⟩)
   (fun q w b o h h5 _=>by
    exfalso
    obtain ⟨-,rfl,rfl⟩:=h;have hb1:=hG1.blk (k:=k) (by omega);obtain ⟨a3,e3,-⟩:=hG1.prog (by omega) hi (x:=x) (by rw [g1];exact hd) (by rw [g1];exact hz) hxb;rw [hi,hb1.1,e3] at h5
    exact absurd h5 (of_decide_eq_true rfl))
  rw [hwA] at key;exact key
 refine (qyQ hM hG.ok (k:Int) A c x hc hx (hG.ready hkl (xss:=[x]) (by show 1+2≤a.g.P;omega) (fun y hy=>by rw [List.mem_singleton.1 hy];exact hz)) hbk.2 (by rw [hbk.1];omega) (0,a2,m2) hw (fun w v _ hv=>qpK _ rfl w v hv)).mono ?_;rintro z w' ⟨rfl,hm,hk⟩;exact ⟨rfl,⟨a2,m2,hm,hG2,g4.trans g1,g5.trans g2⟩,hk⟩
theorem qrR (h:GM w0 W gm gc gl cl ge ce g wr n D) (k:Nat) (hk:k < qdZ g) (A:Option Addr) (c:Nat) (x:List Int) (hc:x.length≤c) (hx:∀ w',Below w0.heap.size w0 w'→MK [gm,gl,ge] W w'→Kd.C kB w' A x.length x) (hd:g.P≤(D k).length+2) (hz:x.length≤g.Z) :
  Calls Tryz.prog 25 #[kp gm,.int .i64 k,.slice A x.length c] W fun z w'=>z=.returned (.int .i64 28)∧Below W.heap.size W w':=by
 obtain ⟨a,m,hM,hG,rfl,rfl⟩:=h;have hnl:m.lebs.length=qdZ a.g:=by have:=hG.lbs;have:=(qdW hG.rg).1;omega
 have hkl:k < m.lebs.length:=by omega
 have hbk:=hG.blk hkl;have hgP:=hG.gok.2.1;exact qtI hM hG.ok (k:Int) A c x hc hx (hG.ready hkl (xss:=[x]) (by show 1+2≤a.g.P;omega) (fun y hy=>by rw [List.mem_singleton.1 hy];exact hz)) hbk.2 (by rw [hbk.1];omega)
theorem qqF (h:GM w0 W gm gc gl cl ge ce g wr n D) (leb:Int) (hl:leb < 0∨(qdZ g:Int)≤leb) (A:Option Addr) (c:Nat) (x:List Int) (hc:x.length≤c) (hx:∀ w',Below w0.heap.size w0 w'→MK [gm,gl,ge] W w'→Kd.C kB w' A x.length x) :
  Calls Tryz.prog 25 #[kp gm,.int .i64 leb,.slice A x.length c] W fun z w'=>z=.returned (.int .i64 22)∧Below W.heap.size W w':=by
 obtain ⟨a,m,hM,hG,rfl,rfl⟩:=h;have hnl:m.lebs.length=qdZ a.g:=by have:=hG.lbs;have:=(qdW hG.rg).1;omega
 have e:qdL a m leb [x]=22:=if_pos (by omega);have key:=qwD hM leb A c x hc hx (by rw [e];decide);rw [e] at key;exact key
theorem qqA (h:GM w0 W gm gc gl cl ge ce g wr (n+2) D) (k:Nat) (hk:k < qdZ g) (A:Option Addr) (c:Nat) (xss:List (List Int)) (hc:xss.length≤c) (hp:qeP [gm,gl,ge] w0 W A xss) (hx:xss.length+2≤g.P) (hz:∀ x,x ∈ xss→x.length≤g.Z) (hxb:∀ x,x ∈ xss→qbA x) :
  Calls Tryz.prog 28 #[kp gm,.int .i64 k,.slice A xss.length c] W fun z w'=>z=.returned (.int .i64 0)∧GM w0 w' gm gc gl cl ge ce g wr n (qlA D k xss)∧MK [gm,gl,ge] W w':=by
 obtain ⟨a,m,hM,hG,rfl,rfl⟩:=h;have hnl:m.lebs.length=qdZ a.g:=by have:=hG.lbs;have:=(qdW hG.rg).1;omega
 have hkl:k < m.lebs.length:=by omega
 obtain ⟨i,hi,e1,hf⟩:=hG.pick;obtain ⟨a2,m2,e2,g1,g2,g3,hG2⟩:=hG.moved hkl (pk:=pkL) (pg:=fun _ _=>xss) hi e1 hf (xss.length:Int) ⟨by omega,Int.le_refl _⟩ hx hz hxb (qcB m.l)
 have hss:∀ x,x ∈ [gm,gl]→x ∈ [gm,gl,ge]:=fun z hz=>by
  simp only [List.mem_cons,List.not_mem_nil,or_false] at hz ⊢
  rcases hz with h|h
  ·exact .inl h
  ·exact .inr (.inl h)
 refine (qwH hM (k:Int) A c xss hc hp (hG.ready hkl hx hz) (0,a2,m2) (fun w g9 hb hg=>?_) (fun w v _ hv=>qpK _ rfl w v hv)).mono ?_
 ·have hM2:=hM.grow hb;have hpl:=quE hM2 hG.sq.1 (k:Int) (xss.length:Int) A c xss hc ((hp.mono hss).later (MK.of_below hb)) g9 hg;have hlb:=qiK pkL (fun _ _=>xss) (k:Int) (xss.length:Int) (qcB m.l+1) true a m;have hpg:=quF pkL (fun _ _=>xss) (k:Int) (xss.length:Int) (qcB m.l+1) true a m
  have key:=qxC hM2 k hkl [gm,gl,ge] (fun z hz=>hz) (xss.length:Int) _ _ _ (hpl.mono (fun x w' h=>by
   obtain ⟨v,h1,h2,h3,h4⟩:=h
   exact ⟨v,h1,h2,h3,h4.mono hss⟩)) hlb (hG.ok k hkl) hpg
  rw [show qoA (qaZ pkL (fun _ _=>xss) (k:Int) (xss.length:Int) (qcB m.l+1) true a m) m k=(0,a2,m2) from e2] at key;exact key
 ·rintro z w' ⟨rfl,hm,hk⟩;exact ⟨rfl,⟨a2,m2,hm,hG2,g1,g2⟩,hk⟩
theorem qrS (h:GM w0 W gm gc gl cl ge ce g wr (n+1) D) (k:Nat) (hk:k < qdZ g) :
  Calls Tryz.prog 37 #[kp gm,.int .i64 k] W fun z w'=>z=.returned (.int .i64 0)∧GM w0 w' gm gc gl cl ge ce g wr n (qlA D k [])∧MK [gm,gl,ge] W w':=by
 obtain ⟨a,m,hM,hG,rfl,rfl⟩:=h;have hnl:m.lebs.length=qdZ a.g:=by have:=hG.lbs;have:=(qdW hG.rg).1;omega
 have hkl:k < m.lebs.length:=by omega
 have hgP:=hG.gok.2.1;obtain ⟨a2,m2,e2,g1,g2,g3,hG2⟩:=hG.unmap hkl;have key:=qyR hM hG.ok k hkl (hG.ready hkl (xss:=[]) (by show 0+2≤a.g.P;omega) (fun x hx=>nomatch hx)) (fun w v _ hv=>qpK _ (by rw [e2]) w v hv);rw [e2] at key;refine key.mono ?_;rintro z w' ⟨rfl,hm,hk⟩;exact ⟨rfl,⟨a2,m2,hm,hG2,g1,g2⟩,hk⟩
theorem qfW (h:GM w0 W gm gc gl cl ge ce g wr n D) (k:Nat) (hk:k < qdZ g) :
  Calls Tryz.prog 27 #[kp gm,.int .i64 k] W fun z w'=>z=.returned (.int .i64 (D k).length)∧Below W.heap.size W w':=by
 obtain ⟨a,m,hM,hG,rfl,rfl⟩:=h;have hnl:m.lebs.length=qdZ a.g:=by have:=hG.lbs;have:=(qdW hG.rg).1;omega
 have key:=qgR hM hG.ok (k:Int);rw [(hG.blk (k:=k) (by omega)).1] at key;exact key
theorem qkF (h:GM w0 W gm gc gl cl ge ce g wr n D):Calls Tryz.prog 24 #[kp gm] W fun z w'=>z=.returned (.int .i64 (qdZ g))∧Below W.heap.size W w':=by
 obtain ⟨a,m,hM,hG,rfl,rfl⟩:=h;have hnl:m.lebs.length=qdZ a.g:=by have:=hG.lbs;have:=(qdW hG.rg).1;omega
 have key:=qxD hM;rw [hnl] at key;exact key
theorem qlS (h:GM w0 W gm gc gl cl ge ce g wr n D):Calls Tryz.prog 26 #[kp gm] W fun z w'=>z=.returned (.int .i64 ((g.P:Int) - 2))∧Below W.heap.size W w':=by
 obtain ⟨a,m,hM,hG,rfl,rfl⟩:=h;exact qcL hM
theorem qjT (h:GM w0 W gm gc gl cl ge ce g wr n D) (k:Nat) (hk:k < qdZ g) (p:Nat) (hp:p+2 < g.P) :
  Calls Tryz.prog 31 #[kp gm,.int .i64 k,.int .i64 p] W fun z w'=>∃ v:Value,z=.returned (.tuple #[v,.int .i64 0])∧Kd.R kB 5 w' W.heap.size (fun _=>True) v ((D k).getD p [] ++ List.replicate (g.Z - ((D k).getD p []).length) 255)∧Below W.heap.size W w':=by
 obtain ⟨a,m,hM,hG,rfl,rfl⟩:=h;have hnl:m.lebs.length=qdZ a.g:=by have:=hG.lbs;have:=(qdW hG.rg).1;omega
 have hgP:=hG.gok.2.1;have key:=vbO hM hG.ok (k:Int) (p:Int) (by omega);rw [hG.read (by omega) hp] at key;exact key
end
section
open Go.Shelf Plain
variable {w0 W W':World} {gm gc gl cl ge ce:Nat} {a a':AC} {m m':AM} {n:Nat} {wr:Int} {g:Geo} {D:Nat→List (List Int)}
theorem vdY {k:Nat} {x:Int} {fr:Nat × Nat} (hx:W.heap[k]?=some (.cells #[.int .u8 x] 5 fr)):Kd.C kB W (some ⟨k,0,none⟩) 1 [x]:=by
 refine ⟨rfl,(by show (1:Nat)≤_;decide),fun _=>⟨_,rfl,fun j p hj=>?_⟩⟩
 match j,hj with
 | 0,hj =>
  cases hj
  refine ⟨[.int .u8 x],rfl,rfl,fun i u hi=>?_⟩
  match i,hi with
  | 0,hi=>cases hi;simp [World.cell?,hx,Addr.add]
  | i+1,hi=>simp at hi
 | j+1,hj=>simp at hj
theorem veN {s:List Nat} {w':World} (h:MK s W w') {base:Nat} {ok:Nat→Prop} {v:Value} {l:List Int} (hr:Kd.R kB 5 W base ok v l):Kd.R kB 5 w' base ok v l :=
 Kd.R_mono (Kd.R_move (Kd.R_bound hr) (fun k hk=>by
  obtain ⟨_,_,_,q,hq,cells,hc⟩:=hk;have hq2:q=5:=by simpa [Kd.int,Kd.scalar] using hq
  subst hq2;rw [hc]
  exact h.far (by decide) hc)) (fun _ hk=>hk.1)
def KM (W:World) (gm nl:Nat):Prop:=∃ (cs:Array Value) (A:Option Addr) (c:Nat),W.heap[gm]?=some (.cells cs 129 (0,0))∧cs[6]?=some (.slice A nl c)
theorem GM.km (h:GM w0 W gm gc gl cl ge ce g wr n D):KM W gm (qdZ g):=by
 obtain ⟨a,m,hM,hG,rfl,rfl⟩:=h;have hnl:m.lebs.length=qdZ a.g:=by have:=hG.lbs;have:=(qdW hG.rg).1;omega
 refine ⟨_,some ⟨ge,0,none⟩,ce,hM.c,?_⟩;rw [← hnl];rfl
theorem KM.mk {s:List Nat} {nl:Nat} (h:KM W gm nl) (hk:MK s W W') (hn:gm ∉ s):KM W' gm nl:=by
 obtain ⟨cs,A,c,h1,h2⟩:=h;exact ⟨cs,A,c,hk.out (by decide) hn h1,h2⟩
theorem KM.lt {nl:Nat} (h:KM W gm nl):gm < W.heap.size:=by
 obtain ⟨cs,A,c,h1,h2⟩:=h;exact qcU h1
theorem vaQ {nl:Nat} (h:KM W gm nl):Calls Tryz.prog 24 #[kp gm] W fun x w'=>x=.returned (.int .i64 nl)∧Below W.heap.size W w':=by
 obtain ⟨cs,A,c,h1,h2⟩:=h;have c6:W.cell? ⟨gm,6,none⟩=some (.slice A nl c):=(Joins.cell_of_block h1 6).trans h2;clear h1 h2;go_enter Tryz.func24,Tryz.ntmps24;go_wp2;go_ret;exact ⟨rfl,Below.refl _ _⟩
theorem qwS (A0:Option Addr) (c0:Nat) (A1:Option Addr) (c1:Nat) (l:List Int) (w:World) (hr0:Kd.C kB w A0 l.length l) (hc0:l.length≤c0) (hr1:Kd.C kB w A1 l.length l) (hc1:l.length≤c1) :
  Calls Tryz.prog 32 #[.slice A0 l.length c0,.slice A1 l.length c1] w fun e w'=>e=.returned (.bool true)∧Below w.heap.size w w':=by
 refine (pumicelaw01_Same.calls A0 c0 l A1 c1 l true w hr0 hc0 hr1 hc1 (by unfold pumicelaw01_Same.f;simp)).mono ?_;rintro e w' ⟨rfl,hd⟩;exact ⟨rfl,hd.below⟩
abbrev pg1 (x:Int):List Int:=[x] ++ List.replicate 127 255
theorem quG (x:Int):(pg1 x).length=128:=by simp [pg1]
theorem qlY {x:Int} {A:Option Addr} {c:Nat} {base:Nat} (hr:Kd.R kB 5 W base (fun _=>True) (.slice A (pg1 x).length c) (pg1 x)):∃ ad,A=some ad∧W.cell? ad=some (.int .u8 x):=by
 obtain ⟨-,-,hC⟩:=Kd.R_reads' hr;obtain ⟨ad,cs,e0,-,hK,hc⟩:=Kd.C_get hC 0 0 (by omega) (by rw [quG];decide);refine ⟨ad,e0,?_⟩;have h1:=hc 0;have hcs:cs=[.int .u8 x]:=hK;rw [hcs] at h1;have h2:=h1 _ rfl
 simpa [Addr.add] using h2
theorem qsM:qdZ qfS=12:=by
 have h:qeK (qfS.B:Int) qfS.P qfS.Z qfS.R=12:=qsL;unfold qdZ;rw [h];rfl
end
section
open Go.Shelf Plain
variable {w0 W W':World} {gm gc gl cl ge ce:Nat} {a a':AC} {m m':AM} {n:Nat} {wr:Int} {g:Geo} {D:Nat→List (List Int)}
theorem qvR {x:Int} (h:0≤x∧x < 256):qbA [x]:=fun y hy=>by rw [List.mem_singleton.1 hy];exact h
theorem qiE (aE:Addr) (w:World) (hg:gNone w aE):Calls Tryz.prog 22 #[] w fun e w'=>e=.returned (.bool true)∧Below w.heap.size w w':=by
 have HSM:=aM qwO;have HNW:=aM quP;have HG:=aM hg;have HR:=aM (show qbM qfS.B qfS.P qfS.Z qfS.R=true by kernel_rfl);have hL:=qsM;have hcv:=fun (w:World) (x:Int)=>Lib.run_convert_bytes_const (P:=Tryz.prog) w 35 5 #[.int .u8 x] 1 1 Tryz.underlying35 Tryz.underlying5
 have HLL:=aM hL;clear hg hL;go_enter Tryz.func22,Tryz.ntmps22
 go_upto_region 2 with (first
  | (go_at_call 55;(with_reducible refine (HSM.out _).mono ?_);rintro e w1 ⟨rfl,hb1⟩;have HB1:=aM hb1;clear hb1)
  | (go_at_call 11;(with_reducible refine (HNW.out _).mono ?_);rintro e w2 ⟨gc,rfl,hc2⟩;have HC2:=aM (hc2.lower HB1.out);clear hc2))
 have HFM:=aM (qfM (n:=20) HC2.out aE HG.out HR.out (by decide))
 go_upto_region 5 with (first
  | (go_at_call 23;(with_reducible refine HFM.out.mono ?_);rintro e w3 ⟨gm,gl,cl,ge,ce,rfl,hm3,hk3,hf3⟩;have HM3:=aM hm3;clear hm3 hk3 hf3))
 have HX3:=aM (World.alloc_heap_new w3 (.cells #[.int .u8 97] 5 (1,2)));have HBA3:=aM (qaA (Below.refl w3.heap.size w3) (.cells #[.int .u8 97] 5 (1,2)));have HGA3:=aM (HM3.out.grow HBA3.out);have HW3:=aM (show Calls Tryz.prog 25 #[kp gm,.int .i64 0,.slice (some ⟨w3.heap.size,0,none⟩) 1 1] (w3.alloc (.cells #[.int .u8 97] 5 (1,2))) _ from qgN (n:=19) HGA3.out 0 (by rw [HLL.out];decide) (some ⟨w3.heap.size,0,none⟩) 1 [97] (by decide) (fun w' _ hk=>vdY (hk.far (by decide) HX3.out)) (by decide) (by decide) (qvR (by decide)))
 go_upto_region 6 with (first
  | (go_at_call 25;(with_reducible refine HW3.out.mono ?_);rintro e w4 ⟨rfl,hm4,hk4⟩;have HM4:=aM hm4;clear hm4 hk4))
 have HX4:=aM (World.alloc_heap_new w4 (.cells #[.int .u8 98] 5 (1,2)));have HBA4:=aM (qaA (Below.refl w4.heap.size w4) (.cells #[.int .u8 98] 5 (1,2)));have HGA4:=aM (HM4.out.grow HBA4.out);have HW4:=aM (show Calls Tryz.prog 25 #[kp gm,.int .i64 0,.slice (some ⟨w4.heap.size,0,none⟩) 1 1] (w4.alloc (.cells #[.int .u8 98] 5 (1,2))) _ from qgN (n:=18) HGA4.out 0 (by rw [HLL.out];decide) (some ⟨w4.heap.size,0,none⟩) 1 [98] (by decide) (fun w' _ hk=>vdY (hk.far (by decide) HX4.out)) (by decide) (by decide) (qvR (by decide)))
 go_upto_region 7 with (first
  | (go_at_call 25;(with_reducible refine HW4.out.mono ?_);rintro e w5 ⟨rfl,hm5,hk5⟩;have HM5:=aM hm5;clear hm5 hk5))
 have HRD5:=aM (show Calls Tryz.prog 31 #[kp gm,.int .i64 0,.int .i64 1] w5 (fun z w'=>∃ v:Value,z=.returned (.tuple #[v,.int .i64 0])∧Kd.R kB 5 w' w5.heap.size (fun _=>True) v (pg1 98)∧Below w5.heap.size w5 w') from qjT HM5.out 0 (by rw [HLL.out];decide) 1 (by decide))
 go_upto_region 8 with (first
  | (go_at_call 31;(with_reducible refine HRD5.out.mono ?_);rintro e w6 ⟨v6,rfl,hr6,hb6⟩;obtain ⟨A6,c6,e6⟩:=Kd.R_slice hr6;subst e6;have HR6:=aM hr6;have HM6:=aM (HM5.out.grow hb6);clear hr6 hb6))
 have HU6:=aM (show Calls Tryz.prog 27 #[kp gm,.int .i64 0] w6 (fun z w'=>z=.returned (.int .i64 2)∧Below w6.heap.size w6 w') from qfW HM6.out 0 (by rw [HLL.out];decide))
 go_upto_region 9 with (first
  | (go_at_call 27;(with_reducible refine HU6.out.mono ?_);rintro e w7 ⟨rfl,hb7⟩;have HM7:=aM (HM6.out.grow hb7);have HR7:=aM (Kd.R_below HR6.out hb7);clear hb7))
 have HX7:=aM (World.alloc_heap_new w7 (.cells #[.int .u8 99] 5 (1,2)));have HBA7:=aM (qaA (Below.refl w7.heap.size w7) (.cells #[.int .u8 99] 5 (1,2)));have HGA7:=aM (HM7.out.grow HBA7.out)
 obtain ⟨W8,hW8⟩:∃ W8,W8=w7.alloc (.cells #[.int .u8 99] 5 (1,2)):=⟨_,rfl⟩
 have HA8:=aM (qaN W8 #[.slice (some ⟨w7.heap.size,0,none⟩) 1 1] 35);have HB8:=aM (qaA (Below.refl W8.heap.size W8) (.cells #[.slice (some ⟨w7.heap.size,0,none⟩) 1 1] 35));have HX8:=aM (show W8.heap[w7.heap.size]?=some (.cells #[.int .u8 99] 5 (1,2)) by rw [hW8];exact HX7.out);have HM8:=aM (show GM w W8 gm gc gl cl ge ce qfS 0 18 _ by rw [hW8];exact HGA7.out);have HR8:=aM (show Kd.R kB 5 (W8.alloc (.cells #[.slice (some ⟨w7.heap.size,0,none⟩) 1 1] 35)) _ (fun _=>True) _ _ from Kd.R_below (show Kd.R kB 5 W8 _ (fun _=>True) _ _ by rw [hW8];exact Kd.R_below HR7.out HBA7.out) HB8.out);have HW8:=aM (show Calls Tryz.prog 28 #[kp gm,.int .i64 0,.slice (some ⟨W8.heap.size,0,none⟩) 1 1] (W8.alloc (.cells #[.slice (some ⟨w7.heap.size,0,none⟩) 1 1] 35)) _ from qqA (n:=16) (HM8.out.grow HB8.out) 0 (by rw [HLL.out];decide) (some ⟨W8.heap.size,0,none⟩) 1 [[99]] (by decide) (qhV HA8.out (by decide) (fun w' _ hk=>vdY (hk.far (by decide) ((HB8.out.block _ (qcU HX8.out)).trans HX8.out)))) (by decide) (fun x hx=>by rw [List.mem_singleton.1 hx];decide) (fun x hx=>by rw [List.mem_singleton.1 hx];exact qvR (by decide)));rw [show W8.heap.size=w7.heap.size+1 by rw [hW8];exact Array.size_push ..] at HW8;rw [hW8] at HW8 HR8;clear HA8 HB8 HX8 HM8 hW8
 go_upto_region 10 with (first
  | (go_at_call 28;(with_reducible refine HW8.out.mono ?_);rintro e w9 ⟨rfl,hm9,hk9⟩;have HM9:=aM hm9;have HR9:=aM (veN hk9 HR8.out);clear hm9 hk9))
 have HRD9:=aM (show Calls Tryz.prog 31 #[kp gm,.int .i64 0,.int .i64 0] w9 (fun z w'=>∃ v:Value,z=.returned (.tuple #[v,.int .i64 0])∧Kd.R kB 5 w' w9.heap.size (fun _=>True) v (pg1 99)∧Below w9.heap.size w9 w') from qjT HM9.out 0 (by rw [HLL.out];decide) 0 (by decide))
 go_upto_region 11 with (first
  | (go_at_call 31;(with_reducible refine HRD9.out.mono ?_);rintro e w10 ⟨v10,rfl,hr10,hb10⟩;obtain ⟨A10,c10,e10⟩:=Kd.R_slice hr10;subst e10;have HQ10:=aM hr10;have HM10:=aM (HM9.out.grow hb10);have HR10:=aM (Kd.R_below HR9.out hb10);clear hr10 hb10))
 have HAT:=aM (qqE HM10.out aE HG.out);have HKM:=aM HM10.out.km
 go_upto_region 14 with (first
  | (go_at_call 29;(with_reducible refine HAT.out.mono ?_);rintro e w11 ⟨gm2,gl2,cl2,ge2,ce2,rfl,hm11,hk11,hf1,hf2,hf3⟩;have HM11:=aM hm11;have HR11:=aM (veN hk11 HR10.out);have HQ11:=aM (veN hk11 HQ10.out);have HK11:=aM (HKM.out.mk hk11 (by simp));have HNE:=aM (show gm ∉ [gm2,gl2,ge2] from (by have:=HKM.out.lt;simp only [List.mem_cons,List.not_mem_nil,or_false];omega));clear hm11 hk11 hf1 hf2 hf3))
 have HRD11:=aM (show Calls Tryz.prog 31 #[kp gm2,.int .i64 0,.int .i64 0] w11 (fun z w'=>∃ v:Value,z=.returned (.tuple #[v,.int .i64 0])∧Kd.R kB 5 w' w11.heap.size (fun _=>True) v (pg1 99)∧Below w11.heap.size w11 w') from qjT HM11.out 0 (by rw [HLL.out];decide) 0 (by decide))
 go_upto_region 15 with (first
  | (go_at_call 31;(with_reducible refine HRD11.out.mono ?_);rintro e w12 ⟨v12,rfl,hr12,hb12⟩;obtain ⟨A12,c12,e12⟩:=Kd.R_slice hr12;subst e12;have HS12:=aM hr12;have HM12:=aM (HM11.out.grow hb12);have HR12:=aM (Kd.R_below HR11.out hb12);have HQ12:=aM (Kd.R_below HQ11.out hb12);have HK12:=aM (HK11.out.mk (MK.of_below (s:=[]) hb12) (by simp));clear hr12 hb12))
 obtain ⟨ad6,rfl,y6⟩:=qlY HR12.out;obtain ⟨ad10,rfl,y10⟩:=qlY HQ12.out
 have HSA:=aM (show Calls Tryz.prog 32 #[.slice (some ad10) 128 c10,.slice A12 128 c12] w12 (fun e w'=>e=.returned (.bool true)∧Below w12.heap.size w12 w') from (by
  have h:=qwS (some ad10) c10 A12 c12 (pg1 99) w12 (Kd.R_reads' HQ12.out).2.2 (Kd.R_reads' HQ12.out).2.1 (Kd.R_reads' HS12.out).2.2 (Kd.R_reads' HS12.out).2.1;rw [quG] at h
  exact h))
 go_wp2_with (first
  | (go_at_call 32;(with_reducible refine HSA.out.mono ?_);rintro e w13 ⟨rfl,hb13⟩;have HU13:=aM (show Calls Tryz.prog 37 #[kp gm2,.int .i64 0] w13 _ from qrS (n:=15) (HM12.out.grow hb13) 0 (by rw [HLL.out];decide));have HK13:=aM (HK12.out.mk (MK.of_below (s:=[]) hb13) (by simp));clear hb13)
  | (go_at_call 37;(with_reducible refine HU13.out.mono ?_);rintro e w14 ⟨rfl,hm14,hk14⟩;have HM14:=aM hm14;have HUS:=aM (show Calls Tryz.prog 27 #[kp gm2,.int .i64 0] w14 (fun z w'=>z=.returned (.int .i64 0)∧Below w14.heap.size w14 w') from qfW hm14 0 (by rw [HLL.out];decide));have HK14:=aM (HK13.out.mk hk14 HNE.out);clear hm14 hk14)
  | (go_at_call 27;(with_reducible refine HUS.out.mono ?_);rintro e w15 ⟨rfl,hb15⟩;have HM15:=aM (HM14.out.grow hb15);have HLB:=aM (show Calls Tryz.prog 24 #[kp gm] w15 (fun x w'=>x=.returned (.int .i64 12)∧Below w15.heap.size w15 w') from (by have h:=vaQ (HK14.out.mk (MK.of_below (s:=[]) hb15) (by simp));rw [HLL.out] at h;exact h));clear hb15)
  | (go_at_call 24;(with_reducible refine HLB.out.mono ?_);rintro e w16 ⟨rfl,hb16⟩;have HB16:=aM hb16;clear hb16))
 go_ret;exact ⟨rfl,qaD HM15.out.below HB16.out⟩
end
end Go.Proofs.YtdlimghdimkadaaGreatDoor.PAll
namespace Go.Proofs.YtdlimghdimkadaaGreatDoor.Opens
open Go Go.Deep YtdlimghdimkadaaGreatDoorW.PrintWords
def Opens {α:Type} (P:Program) (t:TypeId) (d:Kd α) (G:α→Prop):Prop :=
 ∀ {H:Type} (enc:TypeId × Value→H) (W:World) (held:Bool) (fuel:Nat) (cs:List Value) (x:DataW H) (ps:List MemPlace),DataW.trod enc P W 0 (fun _=>true) held fuel t cs=some (x,ps)→(∀ n ∈ x.weights P t,n≤reachBytes)→∃ a:α,d.K W a cs∧G a
theorem Opens.int {P:Program} {t:TypeId} {k:IntKind} (ht:P.underlying t=some (.int k)):Opens P t (Kd.int k) (fun n=>(Lit.int k n).wf=true):=by
 intro H enc W held fuel cs x ps h _;obtain ⟨n,rfl,_,hw⟩:=DataW.trod_int ht h;exact ⟨n,rfl,hw⟩
theorem qyG {W:World} {base n:Nat} {a:Addr} {cs:List Value} (h:W.cells? base a n=some cs):cs.length=n∧∀ j u,cs[j]?=some u→W.cell? (a.add j)=some u:=by
 obtain ⟨_,hl,he⟩:=World.cells?_some h;refine ⟨hl,fun j u hu=>?_⟩
 have hj:j < n:=by
  have:=(List.getElem?_eq_some_iff.1 hu).1;omega
 rw [he j hj];exact hu
theorem Opens.slice {α:Type} {P:Program} {t e:TypeId} {d:Kd α} {G:α→Prop} (ht:P.underlying t=some (.slice e)) (hsz:P.cellsOf e=d.sz) (he:Opens P e d G) :
  Opens P t (Kd.slice e d) (fun l=>l.length*P.bytesOf e≤reachBytes∧∀ a ∈ l,G a):=by
 intro H enc W held fuel cs x ps h hw
 rcases open_slice ht h with ⟨rfl,_⟩|⟨a,len,cap,m,n,D,Pl,rfl,_,hl,hm,hmm,hx,hel⟩
 ·exact ⟨[],⟨none,0,rfl,Nat.le_refl _,Kd.C_nil d W⟩,by simp,by simp⟩
 ·obtain rfl:m=cap:=by simpa using hmm
  obtain ⟨rfl,_⟩:=Prod.mk.inj hx;simp only [DataW.weights,ht,List.mem_cons,List.mem_append,List.length_map,List.length_range] at hw
  have hall:∀ i,i < len→∃ b:α,∃ c:List Value,(d.K W b c∧∀ j u,c[j]?=some u→W.cell? ((a.add (i*d.sz)).add j)=some u)∧G b:=by
   intro i hi;obtain ⟨cs',hc,htr⟩:=hel i (by omega);rw [hsz] at hc
   have hwi:∀ n ∈ (D i).weights P e,n≤reachBytes:=by
    intro n hn;refine hw n (.inr (.inl ?_));clear hw hx hel
    have:∀ (l:List Nat),i ∈ l→n ∈ DataW.weightsAll P e (l.map D):=by
     intro l
     induction l with
     | nil=>simp
     | cons j l ih =>
      intro hm;simp only [List.map_cons,DataW.weightsAll,List.mem_append]
      rcases List.mem_cons.1 hm with rfl|hm
      ·exact .inl hn
      ·exact .inr (ih hm)
    exact this _ (List.mem_range.2 hi)
   obtain ⟨b,hb,hG⟩:=he enc W held n cs' (D i) (Pl i) htr hwi;exact ⟨b,cs',⟨hb,(qyG hc).2⟩,hG⟩
  have hf:∃ l:List α,l.length=len∧∀ i b,l[i]?=some b→(∃ c:List Value,d.K W b c∧∀ j u,c[j]?=some u→W.cell? ((a.add (i*d.sz)).add j)=some u)∧G b:=by
   clear hw hx hel hl hmm h
   induction len with
   | zero=>exact ⟨[],rfl,by simp⟩
   | succ len ih =>
    obtain ⟨l,h1,h2⟩:=ih (fun i hi=>hall i (by omega));obtain ⟨b,c,hb,hG⟩:=hall len (by omega);refine ⟨l ++ [b],by simp [h1],fun i b' hi=>?_⟩
    rcases Nat.lt_or_ge i l.length with hil|hil
    ·rw [List.getElem?_append_left hil] at hi;exact h2 i b' hi
    ·rw [List.getElem?_append_right hil] at hi
     obtain rfl:i=len:=by
      have:=(List.getElem?_eq_some_iff.1 hi).1;simp at this;omega
     rw [h1] at hi;simp at hi;subst hi;exact ⟨⟨c,hb⟩,hG⟩
  obtain ⟨l,hll,hl2⟩:=hf;subst hll;have hb:l.length*P.bytesOf e≤reachBytes:=Nat.le_trans (Nat.mul_le_mul_right _ (by omega)) (hw _ (.inl rfl));clear hw hx hall h hmm;refine ⟨l,⟨some a,m,rfl,hl,rfl,by unfold maxLen at hm;omega,fun _=>⟨a,rfl,fun j p hj=>?_⟩⟩,hb,?_⟩
  ·obtain ⟨⟨c,hK,hc⟩,_⟩:=hl2 j p hj;exact ⟨c,d.K_len hK,hK,fun i u hu=>by rw [← Deep.add_add];exact hc i u hu⟩
  ·intro b hb;obtain ⟨i,hi⟩:=List.getElem?_of_mem hb;exact (hl2 i b hi).2
def qgX {α:Type} (P:Program) (fs:List Field) (off:Nat) (d:Kd α) (G:α→Prop):Prop :=
 ∀ {H:Type} (enc:TypeId × Value→H) (W:World) (held:Bool) (fuel:Nat) (cs:List Value) (xs:List (DataW H × List MemPlace)),
  (∀ (i:Nat) (f:Field),fs[i]?=some f→DataW.trod enc P W 0 (fun _=>true) held fuel f.type ((cs.drop f.offset).take (P.cellsOf f.type))=xs[i]?)→xs.length=fs.length →
  (∀ n ∈ DataW.weightsEach P (fs.map (·.type)) (xs.map (·.1)),n≤reachBytes)→∃ a:α,d.K W a ((cs.drop off).take d.sz)∧G a
theorem qgX.one {α:Type} {P:Program} {f:Field} {d:Kd α} {G:α→Prop} (hsz:P.cellsOf f.type=d.sz) (h:Opens P f.type d G):qgX P [f] f.offset d G:=by
 intro H enc W held fuel cs xs hf hl hw
 match xs,hl with
 | [x],_ =>
  have h0:=hf 0 f rfl;rw [hsz] at h0;exact h enc W held fuel _ x.1 x.2 h0 (fun n hn=>hw n (by simp [DataW.weightsEach,hn]))
theorem qgX.cons {α β:Type} {P:Program} {f:Field} {fs:List Field} {off:Nat} {d:Kd α} {d2:Kd β} {G:α→Prop} {G2:β→Prop} (hsz:P.cellsOf f.type=d.sz) (hoff:off=f.offset+d.sz) (h:Opens P f.type d G) (h2:qgX P fs off d2 G2) :
  qgX P (f :: fs) f.offset (Kd.pair d d2) (fun x=>G x.1∧G2 x.2):=by
 intro H enc W held fuel cs xs hf hl hw
 match xs,hl with
 | x :: xs,hl =>
  have h0:=hf 0 f rfl;rw [hsz] at h0;obtain ⟨a,ha,hG⟩:=h enc W held fuel _ x.1 x.2 h0 (fun n hn=>hw n (by simp [DataW.weightsEach,hn]));obtain ⟨b,hb,hG2⟩:=h2 enc W held fuel cs xs (fun i g hg=>by simpa using hf (i+1) g (by simpa using hg)) (by simpa using hl) (fun n hn=>hw n (by simp [DataW.weightsEach,hn]));refine ⟨(a,b),⟨_,_,?_,ha,hb⟩,hG,hG2⟩;show (cs.drop f.offset).take (d.sz+d2.sz)=_;rw [List.take_add,List.drop_drop,hoff]
theorem Opens.struct {α:Type} {P:Program} {t:TypeId} {fs:Array Field} {d:Kd α} {G:α→Prop} (ht:P.underlying t=some (.struct fs)) (hsz:P.cellsOf t=d.sz) (h:qgX P fs.toList 0 d G):Opens P t d G:=by
 intro H enc W held fuel cs x ps hx hw;obtain ⟨xs,n,_,he,hl,hlen,hf⟩:=DataW.trod_struct ht hx;obtain ⟨rfl,_⟩:=Prod.mk.inj he;obtain ⟨a,ha,hG⟩:=h enc W held n cs xs (fun i f hi=>hf i f (by simpa using hi)) (by simpa using hlen) (fun n hn=>hw n (by simpa [DataW.weights,ht] using hn));refine ⟨a,?_,hG⟩;rw [List.drop_zero,List.take_of_length_le (by omega)] at ha;exact ha
theorem Opens.iso {α β:Type} {P:Program} {t:TypeId} {d:Kd α} {G:α→Prop} (f:β→α) (g:α→β) (hfg:∀ a,f (g a)=a) (h:Opens P t d G):Opens P t (Kd.iso d f) (fun b=>G (f b)):=by
 intro H enc W held fuel cs x ps hx hw;obtain ⟨a,ha,hG⟩:=h enc W held fuel cs x ps hx hw;exact ⟨g a,by show d.K W (f (g a)) cs;rw [hfg];exact ha,by show G (f (g a));rw [hfg];exact hG⟩
theorem Opens.imp {α:Type} {P:Program} {t:TypeId} {d:Kd α} {G G':α→Prop} (h:Opens P t d G) (hg:∀ a,G a→G' a):Opens P t d G':=by
 intro H enc W held fuel cs x ps hx hw;obtain ⟨a,ha,hG⟩:=h enc W held fuel cs x ps hx hw;exact ⟨a,ha,hg a hG⟩
theorem Opens.arg {α:Type} {P:Program} {t:TypeId} {d:Kd α} {G:α→Prop} (h:Opens P t d G) {H:Type} {enc:TypeId × Value→H} {W:World} {held:Bool} {v:Value} {x:DataW H} {ps:List MemPlace} {ts:List TypeId} {ds:List (DataW H)} (j:Nat)
  (hsz:(DataW.weightsEach P ts ds).all (·≤reachBytes)=true) (ht:ts[j]?=some t) (hd:ds[j]?=some x) (hv:DataW.Trod enc P W 0 (fun _=>true) held t v x ps):∃ a:α,d.K W a v.cells.toList∧G a:=by
 obtain ⟨fuel,hf⟩:=hv;refine h enc W held fuel _ x ps hf (fun n hn=>?_)
 simpa using List.all_eq_true.1 hsz n (DataW.weights_mem_each ht hd n hn)
theorem int_of {W:World} {k:IntKind} {x n:Int} (h:(Kd.int k).K W x (Value.cells (.int k n)).toList):n=x:=by
 have h2:[Value.int k n]=[Value.int k x]:=h
 simpa using h2
end Go.Proofs.YtdlimghdimkadaaGreatDoor.Opens
namespace Go.Proofs.YtdlimghdimkadaaGreatDoor.PAll
open Go Go.RowKit YtdlimghdimkadaaGreatDoorW.PrintWords YtdlimghdimkadaaGreatDoorW.PrintLast YtdlimghdimkadaaGreatDoorW.PrintMore
attribute [local go_sem] qcZ qcX qdV qdU qcH qcG qcY qcW
section
open Go.Shelf Plain Opens
variable {w0 W W':World} {gm gc gl cl ge ce:Nat} {a a':AC} {m m':AM} {n:Nat} {wr:Int} {g:Geo} {D:Nat→List (List Int)}
theorem vbZ {n:Int} (h:(Lit.int .u8 n).wf=true):0≤n∧n < 256:=by
 unfold Lit.wf at h;rw [Bool.and_eq_true,decide_eq_true_eq,decide_eq_true_eq] at h;have h1:(0:Int)≤n:=h.1;have h2:n≤255:=h.2;omega
theorem oI:Opens Tryz.prog 3 (Kd.int .i64) (fun _=>True):=Opens.imp (Opens.int Tryz.underlying3) (fun _ _=>trivial)
theorem oY:Opens Tryz.prog 5 kB (fun n=>(Lit.int .u8 n).wf=true):=Opens.int Tryz.underlying5
theorem oYs:Opens Tryz.prog 35 (Kd.slice 5 kB) qbA :=
 Opens.imp (Opens.slice Tryz.underlying35 (by kernel_rfl) oY) (fun _ h x hx=>vbZ (h.2 x hx))
structure GI where
 f0:Int
 f1:Int
 f2:Int
 f3:Int
def kGI:Kd GI:=Kd.iso (Kd.pair (Kd.int .i64) (Kd.pair (Kd.int .i64) (Kd.pair (Kd.int .i64) (Kd.int .i64)))) (fun x:GI=>(x.f0,x.f1,x.f2,x.f3))
theorem oG:Opens Tryz.prog 23 kGI (fun _=>True) :=
 Opens.imp (Opens.iso (fun x:GI=>(x.f0,x.f1,x.f2,x.f3)) (fun p=>⟨p.1,p.2.1,p.2.2.1,p.2.2.2⟩) (fun _=>rfl)
  (Opens.struct Tryz.underlying23 (by kernel_rfl) (qgX.cons (by kernel_rfl) rfl oI (qgX.cons (by kernel_rfl) rfl oI (qgX.cons (by kernel_rfl) rfl oI (qgX.one (by kernel_rfl) oI)))))) (fun _ _=>trivial)
theorem qrW {B P Z R:Int} (h:qbM B P Z R=true):16≤B∧8≤P∧64≤Z:=by
 unfold qbM at h;simp only [Bool.and_eq_true,decide_eq_true_eq] at h;omega
theorem qxY (B P Z R leb:Int) (A:Option Addr) (n c:Nat) (W:World) (hg:qbM B P Z R=false) (aE:Addr) (hgE:gNone W aE) :
  Calls Tryz.prog 4 #[gV B P Z R,.int .i64 leb,.slice A n c] W fun e w'=>e=.returned (.bool true)∧Below W.heap.size W w':=by
 have HAL:=aM (fun (w:World) (hb:Below W.heap.size W w)=>qiE aE w (qaK hgE hb));have HNW:=aM (fun (w:World)=>(show Calls Tryz.prog 11 #[gV B P Z R,.slice none 0 0] w (fun e w'=>e=.returned (.tuple #[.pointer none,.int .i64 22])∧Below w.heap.size w w') from vaL B P Z R none 0 [] w (Kd.R_reads' (Kd.R_nil kF 83 w 0 (fun _=>True))).2.2 (Nat.le_refl _) (by rw [hg];rfl)));have hu23:=Tryz.underlying23;clear hg hgE;go_enter Tryz.func4,Tryz.ntmps4
 go_upto_region 1 with (fail)
 generalize hW:W.alloc (.cells #[.int .i64 B,.int .i64 P,.int .i64 Z,.int .i64 R] 23)=W1
 obtain ⟨g0,hg0⟩:∃ g0,g0=W.heap.size:=⟨_,rfl⟩
 rw [← hg0];have HB1:=aM (show Below W.heap.size W W1 by rw [← hW];exact qaA (Below.refl _ _) _);have hx1:W1.heap[g0]?=some (.cells #[.int .i64 B,.int .i64 P,.int .i64 Z,.int .i64 R] 23 (0,0)):=by rw [← hW,hg0];exact qaN _ _ _
 have y0:=Joins.cell_of_block hx1 0;have y1:=Joins.cell_of_block hx1 1;have y2:=Joins.cell_of_block hx1 2;have y3:=Joins.cell_of_block hx1 3;clear hW hx1 hg0
 go_wp2_with (first
  | (go_at_call 11;(with_reducible refine (HNW.out _).mono ?_);rintro e w2 ⟨rfl,hb2⟩;have HB2:=aM (qaD HB1.out hb2);clear hb2)
  | (go_at_call 22;(with_reducible refine (HAL.out _ HB2.out).mono ?_);rintro e w9 ⟨rfl,hb9⟩;have HB9:=aM (qaD HB2.out hb9);clear hb9))
 go_ret;exact ⟨rfl,HB9.out⟩
theorem qvD (g:Geo) (hg:qbM g.B g.P g.Z g.R=true) (leb:Int) (A:Option Addr) (c:Nat) (l:List Int) (W:World) (hr:Kd.C kB W A l.length l) (hc:l.length≤c) (hby:qbA l) (aE:Addr) (hgE:gNone W aE) (hl:g.Z < l.length) :
  Calls Tryz.prog 4 #[gV g.B g.P g.Z g.R,.int .i64 leb,.slice A l.length c] W fun e w'=>e=.returned (.bool true)∧Below W.heap.size W w':=by
 have HAL:=aM (fun (w:World) (hb:Below W.heap.size W w)=>qiE aE w (qaK hgE hb));have HNW:=aM (fun (w:World)=>(show Calls Tryz.prog 11 #[gV g.B g.P g.Z g.R,.slice none 0 0] w (fun e w'=>∃ gc:Nat,e=.returned (.tuple #[cp gc,.int .i64 0])∧qdX w w' gc (qnG g [])) from qjJ g none 0 [] w (Kd.R_reads' (Kd.R_nil kF 83 w 0 (fun _=>True))).2.2 (Nat.le_refl _) hg (by rfl)));have hu23:=Tryz.underlying23;have d0:decide ((g.Z:Int) < (l.length:Int))=true:=decide_eq_true (by omega);have d0n:((g.Z:Int) < (l.length:Int))=True:=eq_true (by omega);have d0k:(g.Z < l.length)=True:=eq_true hl;clear hg hgE hr hc hby hl;go_enter Tryz.func4,Tryz.ntmps4
 go_upto_region 1 with (fail)
 generalize hW:W.alloc (.cells #[.int .i64 g.B,.int .i64 g.P,.int .i64 g.Z,.int .i64 g.R] 23)=W1
 obtain ⟨g0,hg0⟩:∃ g0,g0=W.heap.size:=⟨_,rfl⟩
 rw [← hg0];have HB1:=aM (show Below W.heap.size W W1 by rw [← hW];exact qaA (Below.refl _ _) _);have hx1:W1.heap[g0]?=some (.cells #[.int .i64 g.B,.int .i64 g.P,.int .i64 g.Z,.int .i64 g.R] 23 (0,0)):=by rw [← hW,hg0];exact qaN _ _ _
 have y0:=Joins.cell_of_block hx1 0;have y1:=Joins.cell_of_block hx1 1;have y2:=Joins.cell_of_block hx1 2;have y3:=Joins.cell_of_block hx1 3;clear hW hx1 hg0
 go_wp2_with (first
  | (go_at_call 11;(with_reducible refine (HNW.out _).mono ?_);rintro e w2 ⟨gc,rfl,hc2⟩;have HC2:=aM (hc2.lower HB1.out);have HB2:=aM hc2.below;have k2:=qaK y2 hc2.below;clear hc2)
  | (go_at_call 22;(with_reducible refine (HAL.out _ HC2.out.below).mono ?_);rintro e w9 ⟨rfl,hb9⟩;have HB9:=aM (qaD HC2.out.below hb9);clear hb9))
 go_ret;exact ⟨rfl,HB9.out⟩
theorem qxX (g:Geo) (hg:qbM g.B g.P g.Z g.R=true) (leb:Int) (A:Option Addr) (c:Nat) (l:List Int) (W:World) (hr:Kd.C kB W A l.length l) (hc:l.length≤c) (hby:qbA l) (aE:Addr) (hgE:gNone W aE) (hl:¬ g.Z < l.length) (ho:leb < 0∨(qdZ g:Int)≤leb) :
  Calls Tryz.prog 4 #[gV g.B g.P g.Z g.R,.int .i64 leb,.slice A l.length c] W fun e w'=>e=.returned (.bool true)∧Below W.heap.size W w':=by
 have HAL:=aM (fun (w:World) (hb:Below W.heap.size W w)=>qiE aE w (qaK hgE hb));have HNW:=aM (fun (w:World)=>(show Calls Tryz.prog 11 #[gV g.B g.P g.Z g.R,.slice none 0 0] w (fun e w'=>∃ gc:Nat,e=.returned (.tuple #[cp gc,.int .i64 0])∧qdX w w' gc (qnG g [])) from qjJ g none 0 [] w (Kd.R_reads' (Kd.R_nil kF 83 w 0 (fun _=>True))).2.2 (Nat.le_refl _) hg (by rfl)));have hu23:=Tryz.underlying23;have d0:decide ((g.Z:Int) < (l.length:Int))=false:=decide_eq_false (by omega);have d0n:((g.Z:Int) < (l.length:Int))=False:=eq_false (by omega);have d0k:(g.Z < l.length)=False:=eq_false hl;have HG:=aM hgE;have HR:=aM hg;have HX:=aM (fun (w':World) (hb:Below W.heap.size W w')=>Kd.C_below hr hb);have HXC:=aM hc
 by_cases h1:leb < 0
 ·have d1:decide (leb < 0)=true:=decide_eq_true h1;have d1n:(leb < 0)=True:=eq_true h1;have HO:=aM ho;clear hg hgE hr hc hby hl h1 ho;go_enter Tryz.func4,Tryz.ntmps4
  go_upto_region 1 with (fail)
  generalize hW:W.alloc (.cells #[.int .i64 g.B,.int .i64 g.P,.int .i64 g.Z,.int .i64 g.R] 23)=W1
  obtain ⟨g0,hg0⟩:∃ g0,g0=W.heap.size:=⟨_,rfl⟩
  rw [← hg0];have HB1:=aM (show Below W.heap.size W W1 by rw [← hW];exact qaA (Below.refl _ _) _);have hx1:W1.heap[g0]?=some (.cells #[.int .i64 g.B,.int .i64 g.P,.int .i64 g.Z,.int .i64 g.R] 23 (0,0)):=by rw [← hW,hg0];exact qaN _ _ _
  have y0:=Joins.cell_of_block hx1 0;have y1:=Joins.cell_of_block hx1 1;have y2:=Joins.cell_of_block hx1 2;have y3:=Joins.cell_of_block hx1 3;clear hW hx1 hg0
  go_upto_region 4 with (first|(go_at_call 11;(with_reducible refine (HNW.out _).mono ?_);rintro e w2 ⟨gc,rfl,hc2⟩;have HC2:=aM (hc2.lower HB1.out);have HB2:=aM hc2.below;have k2:=qaK y2 hc2.below;clear hc2))
  have HFM:=aM (qfM (n:=5) HC2.out aE HG.out HR.out (by decide))
  go_upto_region 8 with (first|(go_at_call 23;(with_reducible refine HFM.out.mono ?_);rintro e w3 ⟨gm,gl,cl,ge,ce,rfl,hm3,hk3,hf3⟩;have HM3:=aM hm3;clear hm3 hk3 hf3))
  have HWN:=aM (qqF HM3.out leb HO.out A c l HXC.out (fun w' hb _=>HX.out w' hb))
  go_wp2_with (first
   | (go_at_call 25;(with_reducible refine HWN.out.mono ?_);rintro e w4 ⟨rfl,hb4⟩;have HB4:=aM (qaD HM3.out.below hb4);clear hb4)
   | (go_at_call 22;(with_reducible refine (HAL.out _ HB4.out).mono ?_);rintro e w9 ⟨rfl,hb9⟩;have HB9:=aM (qaD HB4.out hb9);clear hb9))
  go_ret;exact ⟨rfl,HB9.out⟩
 ·have d1:decide (leb < 0)=false:=decide_eq_false h1;have d1n:(leb < 0)=False:=eq_false h1;have d2:decide ((qdZ g:Int)≤leb)=true:=decide_eq_true (by omega);have d2n:((qdZ g:Int)≤leb)=True:=eq_true (by omega);have HO:=aM ho;clear hg hgE hr hc hby hl h1 ho;go_enter Tryz.func4,Tryz.ntmps4
  go_upto_region 1 with (fail)
  generalize hW:W.alloc (.cells #[.int .i64 g.B,.int .i64 g.P,.int .i64 g.Z,.int .i64 g.R] 23)=W1
  obtain ⟨g0,hg0⟩:∃ g0,g0=W.heap.size:=⟨_,rfl⟩
  rw [← hg0];have HB1:=aM (show Below W.heap.size W W1 by rw [← hW];exact qaA (Below.refl _ _) _);have hx1:W1.heap[g0]?=some (.cells #[.int .i64 g.B,.int .i64 g.P,.int .i64 g.Z,.int .i64 g.R] 23 (0,0)):=by rw [← hW,hg0];exact qaN _ _ _
  have y0:=Joins.cell_of_block hx1 0;have y1:=Joins.cell_of_block hx1 1;have y2:=Joins.cell_of_block hx1 2;have y3:=Joins.cell_of_block hx1 3;clear hW hx1 hg0
  go_upto_region 4 with (first|(go_at_call 11;(with_reducible refine (HNW.out _).mono ?_);rintro e w2 ⟨gc,rfl,hc2⟩;have HC2:=aM (hc2.lower HB1.out);have HB2:=aM hc2.below;have k2:=qaK y2 hc2.below;clear hc2))
  have HFM:=aM (qfM (n:=5) HC2.out aE HG.out HR.out (by decide))
  go_upto_region 7 with (first|(go_at_call 23;(with_reducible refine HFM.out.mono ?_);rintro e w3 ⟨gm,gl,cl,ge,ce,rfl,hm3,hk3,hf3⟩;have HM3:=aM hm3;clear hm3 hk3 hf3))
  have HLB:=aM (qkF HM3.out)
  go_upto_region 8 with (first
   | (go_at_call 24;(with_reducible refine HLB.out.mono ?_);rintro e w4 ⟨rfl,hb4⟩;have HM4:=aM (HM3.out.grow hb4);clear hb4))
  have HWN:=aM (qqF HM4.out leb HO.out A c l HXC.out (fun w' hb _=>HX.out w' hb))
  go_wp2_with (first
   | (go_at_call 25;(with_reducible refine HWN.out.mono ?_);rintro e w5 ⟨rfl,hb5⟩;have HB5:=aM (qaD HM4.out.below hb5);clear hb5)
   | (go_at_call 22;(with_reducible refine (HAL.out _ HB5.out).mono ?_);rintro e w9 ⟨rfl,hb9⟩;have HB9:=aM (qaD HB5.out hb9);clear hb9))
  go_ret;exact ⟨rfl,HB9.out⟩
end
section
open Go.Shelf Plain Opens
variable {w0 W W':World} {gm gc gl cl ge ce:Nat} {a a':AC} {m m':AM} {n:Nat} {wr:Int} {g:Geo} {D:Nat→List (List Int)}
def DF (l:List Int) (k i:Nat):Nat→List (List Int):=qlA (fun _=>[]) k (List.replicate i l)
theorem vbS (l:List Int) (k:Nat):DF l k 0=fun _=>[]:=qpH (fun _=>([]:List (List Int))) k
theorem qiN (l:List Int) (k i:Nat):DF l k i k=List.replicate i l:=qdQ _ _ _
theorem qjM (l:List Int) {k j:Nat} (i:Nat) (h:j ≠ k):DF l k i j=[]:=qeH _ _ h
theorem vbT (l:List Int) (k i:Nat):qlA (DF l k i) k (DF l k i k ++ [l])=DF l k (i+1):=by
 rw [qiN]
 funext j
 by_cases h:j=k
 ·subst h;rw [qdQ,qiN,List.replicate_succ']
 ·rw [qeH _ _ h,qjM l i h,qjM l (i+1) h]
theorem vaX (g:Geo) (hg:qbM g.B g.P g.Z g.R=true) (k:Nat) (A:Option Addr) (c:Nat) (l:List Int) (W:World) (hr:Kd.C kB W A l.length l) (hc:l.length≤c) (hby:qbA l) (aE:Addr) (hgE:gNone W aE) (hl:¬ g.Z < l.length) (hk:k < qdZ g) :
  Calls Tryz.prog 4 #[gV g.B g.P g.Z g.R,.int .i64 k,.slice A l.length c] W fun e w'=>e=.returned (.bool true)∧Below W.heap.size W w':=by
 have HAL:=aM (fun (w:World) (hb:Below W.heap.size W w)=>qiE aE w (qaK hgE hb));have HNW:=aM (fun (w:World)=>(show Calls Tryz.prog 11 #[gV g.B g.P g.Z g.R,.slice none 0 0] w (fun e w'=>∃ gc:Nat,e=.returned (.tuple #[cp gc,.int .i64 0])∧qdX w w' gc (qnG g [])) from qjJ g none 0 [] w (Kd.R_reads' (Kd.R_nil kF 83 w 0 (fun _=>True))).2.2 (Nat.le_refl _) hg (by rfl)));have hu23:=Tryz.underlying23;have d0:decide ((g.Z:Int) < (l.length:Int))=false:=decide_eq_false (by omega);have d0n:((g.Z:Int) < (l.length:Int))=False:=eq_false (by omega);have d0k:(g.Z < l.length)=False:=eq_false hl;have HG:=aM hgE;have HR:=aM hg;have HX:=aM (fun (w':World) (hb:Below W.heap.size W w')=>Kd.C_below hr hb);have HXC:=aM hc;have HZ:=aM (show l.length≤g.Z by omega);have HBY:=aM hby;have HK:=aM hk;obtain ⟨q1,q2,q3,q4⟩:=qdW hg;have HLN:=aM (show 10≤qdZ g∧qdZ g≤256 by omega);have d1:decide ((k:Int) < 0)=false:=decide_eq_false (by omega);have d1n:((k:Int) < 0)=False:=eq_false (by omega);have d2:decide ((qdZ g:Int)≤(k:Int))=false:=decide_eq_false (by omega);have d2n:((qdZ g:Int)≤(k:Int))=False:=eq_false (by omega);have d2k:(qdZ g≤k)=False:=eq_false (by omega);clear hg hgE hr hc hby hl hk q1 q2 q3 q4;go_enter Tryz.func4,Tryz.ntmps4
 go_upto_region 1 with (fail)
 generalize hW:W.alloc (.cells #[.int .i64 g.B,.int .i64 g.P,.int .i64 g.Z,.int .i64 g.R] 23)=W1
 obtain ⟨g0,hg0⟩:∃ g0,g0=W.heap.size:=⟨_,rfl⟩
 rw [← hg0];have HB1:=aM (show Below W.heap.size W W1 by rw [← hW];exact qaA (Below.refl _ _) _);have hx1:W1.heap[g0]?=some (.cells #[.int .i64 g.B,.int .i64 g.P,.int .i64 g.Z,.int .i64 g.R] 23 (0,0)):=by rw [← hW,hg0];exact qaN _ _ _
 have y0:=Joins.cell_of_block hx1 0;have y1:=Joins.cell_of_block hx1 1;have y2:=Joins.cell_of_block hx1 2;have y3:=Joins.cell_of_block hx1 3;clear hW hx1 hg0
 go_upto_region 4 with (first|(go_at_call 11;(with_reducible refine (HNW.out _).mono ?_);rintro e w2 ⟨gc,rfl,hc2⟩;have HC2:=aM (hc2.lower HB1.out);have HB2:=aM hc2.below;have k2:=qaK y2 hc2.below;clear hc2))
 have HGK:=aM (show 8≤g.P∧g.P≤64 from HC2.out.gok.2.1);have HFM:=aM (qfM (n:=100) HC2.out aE HG.out HR.out (by decide))
 go_upto_region 7 with (first|(go_at_call 23;(with_reducible refine HFM.out.mono ?_);rintro e w3 ⟨gm,gl,cl,ge,ce,rfl,hm3,hk3,hf3⟩;have HM3:=aM hm3;clear hm3 hk3 hf3))
 have HLB:=aM (qkF HM3.out)
 go_upto_region 10 with (first
  | (go_at_call 24;(with_reducible refine HLB.out.mono ?_);rintro e w4 ⟨rfl,hb4⟩;have HM4:=aM (HM3.out.grow hb4);clear hb4))
 clear y0 y1 y2 y3 k2 d2 d2n d2k d0 d0n d0k d1 d1n;go_loopw [10] (fun v10 wr=>∃ i:Nat,i+2≤g.P∧v10=.int .i64 i∧qaJ (GM W wr gm gc gl cl ge ce g 0 (100 - i) (DF l k i))) (fun v10 _=>g.P - (intOf v10).toNat);case atStart=>exact ⟨0,by have:=HGK.out;omega,rfl,⟨by rw [vbS];exact HM4.out⟩⟩
 case round =>
  clear HM4 HM3 HLB HFM HNW;obtain ⟨i,hi,rfl,HM⟩:=hrel;have HPG:=aM (qlS HM.out)
  by_cases hlt:i+2 < g.P
  ·have d1:decide ((i:Int) < (g.P:Int) - 2)=true:=decide_eq_true (by omega);have d1n:((i:Int) < (g.P:Int) - 2)=True:=eq_true (by omega);have hwj:wrap64 ((i:Int)+1)=(i:Int)+1:=by have:=HGK.out;unfold wrap64;omega
   have hwk:IntKind.i64.wrap ((i:Int)+1)=(i:Int)+1:=by rw [qbL];exact hwj
   have HLT:=aM hlt;clear hlt hi
   go_upto_region 12 with (first
    | (go_at_call 26;(with_reducible refine HPG.out.mono ?_);rintro e w5 ⟨rfl,hb5⟩;have HM5:=aM (HM.out.grow hb5);clear hb5))
   have HWR:=aM (qgN (n:=99 - i) (by rw [show 99 - i+1=100 - i by have:=HLT.out;have:=HGK.out;omega];exact HM5.out) k HK.out A c l HXC.out (fun w' hb _=>HX.out w' hb) (by rw [qiN,List.length_replicate];exact HLT.out) HZ.out HBY.out);rw [vbT] at HWR
   go_wp2_with (first
    | (go_at_call 25;(with_reducible refine HWR.out.mono ?_);rintro e w6 ⟨rfl,hm6,-⟩;have HM6:=aM hm6;have HUS:=aM (show Calls Tryz.prog 27 #[kp gm,.int .i64 k] w6 (fun z w'=>z=.returned (.int .i64 ((i:Int)+1))∧Below w6.heap.size w6 w') from (by have h:=qfW hm6 k HK.out;rw [qiN,List.length_replicate] at h;exact h));clear hm6)
    | (go_at_call 27;(with_reducible refine HUS.out.mono ?_);rintro e w7 ⟨rfl,hb7⟩;have HM7:=aM (HM6.out.grow hb7);clear hb7))
   go_roundw;case rel=>exact ⟨i+1,HLT.out,by push_cast;rfl,⟨by rw [show 100 - (i+1)=99 - i by omega];exact HM7.out⟩⟩
   case measure=>have:=HLT.out;simp [intOf];omega
  ·have hip:i+2=g.P:=by omega
   have d1:decide ((i:Int) < (g.P:Int) - 2)=false:=decide_eq_false (by omega);have d1n:((i:Int) < (g.P:Int) - 2)=False:=eq_false (by omega);have HIP:=aM hip;clear hlt hi hip
   go_upto_region 14 with (first
    | (go_at_call 26;(with_reducible refine HPG.out.mono ?_);rintro e w5 ⟨rfl,hb5⟩;have HM5:=aM (HM.out.grow hb5);clear hb5))
   have HWO:=aM (qrR HM5.out k HK.out A c l HXC.out (fun w' hb _=>HX.out w' hb) (by rw [qiN,List.length_replicate,HIP.out];exact Nat.le_refl _) HZ.out)
   go_upto_region 15 with (first
    | (go_at_call 25;(with_reducible refine HWO.out.mono ?_);rintro e w6 ⟨rfl,hb6⟩;have HM6:=aM (HM5.out.grow hb6);clear hb6))
   have HLB:=aM (qkF HM6.out);have hwj:wrap64 ((k:Int)+1)=(k:Int)+1:=by have:=HK.out;have:=HLN.out;unfold wrap64;omega
   have hwk:IntKind.i64.wrap ((k:Int)+1)=(k:Int)+1:=by rw [qbL];exact hwj
   have hne:((qdZ g:Int)==0)=false:=by simp only [beq_eq_false_iff_ne];have:=HLN.out;omega
   have hne2:¬ (qdZ g:Int)=0:=by have:=HLN.out;omega
   have hne3:¬ qdZ g=0:=by have:=HLN.out;omega
   obtain ⟨o,ho⟩:∃ o,o=(k+1) % qdZ g:=⟨_,rfl⟩
   have hmod:((k:Int)+1).tmod (qdZ g:Int)=(o:Int):=by
    rw [ho,Int.tmod_eq_emod_of_nonneg (by omega)]
    push_cast
    rfl
   have HOL:=aM (show o < qdZ g by rw [ho];exact Nat.mod_lt _ (by omega));have hwm:wrap64 (o:Int)=(o:Int):=by have:=HOL.out;have:=HLN.out;unfold wrap64;omega
   have hwn:IntKind.i64.wrap (o:Int)=(o:Int):=by rw [qbL];exact hwm
   have HOK:=aM (show o ≠ k by
    rw [ho]
    by_cases hkl:k+1 < qdZ g
    ·rw [Nat.mod_eq_of_lt hkl];omega
    ·have e:k+1=qdZ g:=by have:=HK.out;omega
     rw [e,Nat.mod_self];have:=HLN.out
     omega)
   clear ho
   go_upto_region 16 with (first
    | (go_at_call 24;(with_reducible refine HLB.out.mono ?_);rintro e w7 ⟨rfl,hb7⟩;have HM7:=aM (HM6.out.grow hb7);clear hb7))
   have HUS:=aM (show Calls Tryz.prog 27 #[kp gm,.int .i64 k] w7 (fun z w'=>z=.returned (.int .i64 ((g.P:Int) - 2))∧Below w7.heap.size w7 w') from (by
    have h:=qfW HM7.out k HK.out;rw [qiN,List.length_replicate,show (i:Int)=(g.P:Int) - 2 by have:=HIP.out;omega] at h
    exact h))
   go_wp2_with (first
    | (go_at_call 27;(with_reducible refine HUS.out.mono ?_);rintro e w8 ⟨rfl,hb8⟩;have HM8:=aM (HM7.out.grow hb8);have HPG8:=aM (qlS (HM7.out.grow hb8));clear hb8)
    | (go_at_call 26;(with_reducible refine HPG8.out.mono ?_);rintro e w10 ⟨rfl,hb10⟩;have HM10:=aM (HM8.out.grow hb10);have HWR:=aM (qgN (n:=99 - i) (by rw [show 99 - i+1=100 - i by have:=HIP.out;have:=HGK.out;omega];exact HM8.out.grow hb10) o HOL.out A c l HXC.out (fun w' hb _=>HX.out w' hb) (by rw [qjM l i HOK.out];have:=HGK.out;show 0+2 < g.P;omega) HZ.out HBY.out);clear hb10)
    | (go_at_call 25;(with_reducible refine HWR.out.mono ?_);rintro e w11 ⟨rfl,hm11,-⟩;have HM11:=aM hm11;have HUS2:=aM (show Calls Tryz.prog 27 #[kp gm,.int .i64 o] w11 (fun z w'=>z=.returned (.int .i64 1)∧Below w11.heap.size w11 w') from (by have h:=qfW hm11 o HOL.out;rw [qdQ,qjM l i HOK.out] at h;exact h));clear hm11)
    | (go_at_call 27;(with_reducible refine HUS2.out.mono ?_);rintro e w12 ⟨rfl,hb12⟩;have HM12:=aM (HM11.out.grow hb12);clear hb12)
    | (go_at_call 22;(with_reducible refine (HAL.out _ HM12.out.below).mono ?_);rintro e w9 ⟨rfl,hb9⟩;have HB9:=aM (qaD HM12.out.below hb9);clear hb9))
   go_ret;exact ⟨rfl,HB9.out⟩
theorem full_law (B P Z R leb:Int) (A:Option Addr) (c:Nat) (l:List Int) (W:World) (hr:Kd.C kB W A l.length l) (hc:l.length≤c) (hby:qbA l) (aE:Addr) (hgE:gNone W aE) :
  Calls Tryz.prog 4 #[gV B P Z R,.int .i64 leb,.slice A l.length c] W fun e w'=>e=.returned (.bool true)∧Below W.heap.size W w':=by
 cases hg:qbM B P Z R with
 | false=>exact qxY B P Z R leb A l.length c W hg aE hgE
 | true =>
  obtain ⟨h1,h2,h3⟩:=qrW hg
  obtain ⟨b,rfl⟩:∃ b:Nat,B=(b:Int):=⟨B.toNat,by omega⟩
  obtain ⟨p,rfl⟩:∃ p:Nat,P=(p:Int):=⟨P.toNat,by omega⟩
  obtain ⟨z,rfl⟩:∃ z:Nat,Z=(z:Int):=⟨Z.toNat,by omega⟩
  by_cases hl:z < l.length
  ·exact qvD ⟨b,p,z,R⟩ hg leb A c l W hr hc hby aE hgE hl
  ·by_cases ho:leb < 0∨(qdZ ⟨b,p,z,R⟩:Int)≤leb
   ·exact qxX ⟨b,p,z,R⟩ hg leb A c l W hr hc hby aE hgE hl ho
   ·obtain ⟨k,rfl⟩:∃ k:Nat,leb=(k:Int):=⟨leb.toNat,by omega⟩
    exact vaX ⟨b,p,z,R⟩ hg k A c l W hr hc hby aE hgE hl (by omega)
end
end Go.Proofs.YtdlimghdimkadaaGreatDoor.PAll

/- Part 12 of what the law EbmLooks rests on. -/
import Derived.Test.YtdlimghdimkadaaGreatDoorT11
import Derived.Deep.Slices
import Derived.SizedLaws
import Derived.ChangeArms
import Derived.Test.YtdlimghdimkadaaGreatDoorT0
set_option maxRecDepth 100000
set_option maxHeartbeats 32000000
set_option linter.unusedSimpArgs false
set_option linter.unusedVariables false
namespace Go.Proofs.YtdlimghdimkadaaGreatDoor.PAll
open Go Go.RowKit YtdlimghdimkadaaGreatDoorW.PrintWords YtdlimghdimkadaaGreatDoorW.PrintLast YtdlimghdimkadaaGreatDoorW.PrintMore
attribute [local go_sem] qdA qcY qdU qdT qcH qcG qcZ qcX
section
open Go.Shelf Plain
variable {w0 W W':World} {gm gc gl cl ge ce:Nat} {a a':AC} {m m':AM}
theorem qyW (n:Nat) (hn:n≤1048576) (w:World):Calls Tryz.prog 97 #[.slice none 0 0,.int .i64 n] w fun e w'=>∃ v:Value,e=.returned v∧Kd.R kB 5 w' w.heap.size (fun _=>True) v (List.replicate n 255)∧Below w.heap.size w w':=by
 obtain ⟨K,h⟩:=qrW [] n hn;have h1:=bits_Fill.calls K none 0 [] (n:Int) (qeW [] n) w (Kd.R_reads' (Kd.R_nil kB 5 w 0 (fun _=>True))).2.2 (Nat.le_refl _) (h K (Nat.le_refl _));have e:qeW [] n=List.replicate n 255:=by simp [qeW]
 rw [e] at h1;exact h1
theorem vcH (h:Man w0 W gm gc gl cl ge ce a m) (hok:m.ok) (leb page:Int) (hpg:page < 4611686018427387904):Calls Tryz.prog 31 #[kp gm,.int .i64 leb,.int .i64 page] W fun x w'=>∃ v:Value,x=.returned (.tuple #[v,.int .i64 (qmH a m leb page).2])∧Kd.R kB 5 w' W.heap.size (fun _=>True) v (qmH a m leb page).1∧Below W.heap.size W w':=by
 have H:=aM h;have hgP:=h.chip.gok.2.1;have hgZ:=h.chip.gok.2.2;have y6:W.cell? ⟨gm,6,none⟩=some (.slice (some ⟨ge,0,none⟩) m.lebs.length ce):=h.cell 6;have HMP:=aM (fun (w:World) (hb:Below W.heap.size W w)=>qcT (h.grow hb));have HPW:=aM (fun (w:World) (hb:Below W.heap.size W w)=>qdQ (h.grow hb));have HUS:=aM (fun (w:World) (hb:Below W.heap.size W w)=>qhR (h.grow hb) hok leb);have HFL:=aM (fun (w:World)=>qyW a.g.Z (by omega) w)
 by_cases h1:leb < 0
 ·have d0:decide (leb < 0)=true:=decide_eq_true h1;have d0n:(leb < 0)=True:=eq_true h1;have HE:=aM (show qmH a m leb page=([],22) from if_pos (.inl h1));rw [HE.out];clear h HE hok hgP hgZ h1;go_enter Tryz.func31,Tryz.ntmps31;go_wp2;go_ret2;exact ⟨_,rfl,Kd.R_nil _ _ _ _ _,Below.refl _ _⟩
 have d0:decide (leb < 0)=false:=decide_eq_false h1;have d0n:(leb < 0)=False:=eq_false h1
 by_cases h2:(m.lebs.length:Int)≤leb
 ·have d1:decide ((m.lebs.length:Int)≤leb)=true:=decide_eq_true h2;have d1n:((m.lebs.length:Int)≤leb)=True:=eq_true h2;have HE:=aM (show qmH a m leb page=([],22) from if_pos (.inr (.inl h2)));rw [HE.out];clear h HE hok hgP hgZ h1 h2;go_enter Tryz.func31,Tryz.ntmps31;go_wp2;go_ret2;exact ⟨_,rfl,Kd.R_nil _ _ _ _ _,Below.refl _ _⟩
 have d1:decide ((m.lebs.length:Int)≤leb)=false:=decide_eq_false h2;have d1n:((m.lebs.length:Int)≤leb)=False:=eq_false h2
 by_cases h3:page < 0
 ·have d2:decide (page < 0)=true:=decide_eq_true h3;have d2n:(page < 0)=True:=eq_true h3;have HE:=aM (show qmH a m leb page=([],22) from if_pos (.inr (.inr (.inl h3))));rw [HE.out];clear h HE hok hgP hgZ h1 h2 h3;go_enter Tryz.func31,Tryz.ntmps31;go_wp2;go_ret2;exact ⟨_,rfl,Kd.R_nil _ _ _ _ _,Below.refl _ _⟩
 have d2:decide (page < 0)=false:=decide_eq_false h3;have d2n:(page < 0)=False:=eq_false h3
 by_cases h4:(a.g.P:Int) - 2≤page
 ·have d3:decide ((a.g.P:Int) - 2≤page)=true:=decide_eq_true h4;have d3n:((a.g.P:Int) - 2≤page)=True:=eq_true h4;have HE:=aM (show qmH a m leb page=([],22) from if_pos (.inr (.inr (.inr h4))));rw [HE.out];clear h HE hok hgP hgZ h1 h2 h3 h4;go_enter Tryz.func31,Tryz.ntmps31
  go_wp2_with (first
  | (go_at_call 26;(with_reducible refine (HMP.out _ (Below.refl _ _)).mono ?_);rintro x w2 ⟨rfl,hb2⟩;have HB2:=aM hb2;clear hb2)
  | (go_at_call 96;(with_reducible refine (HPW.out _ HB2.out).mono ?_);rintro x w4 ⟨rfl,hb4⟩;have HB4:=aM (qaC HB2.out hb4);clear hb4)
  | (go_at_call 27;(with_reducible refine (HUS.out _ HB4.out).mono ?_);rintro x w5 ⟨rfl,hb5⟩;have HB5:=aM (qaC HB4.out hb5);clear hb5)
  | (go_at_call 97;(with_reducible refine (HFL.out _).mono ?_);rintro x w6 ⟨v6,rfl,hr6,hb6⟩;have HR6:=aM hr6;have HB6:=aM hb6;clear hb6 hr6))
  go_ret2;exact ⟨_,rfl,Kd.R_nil _ _ _ _ _,HB2.out⟩
 have d3:decide ((a.g.P:Int) - 2≤page)=false:=decide_eq_false h4;have d3n:((a.g.P:Int) - 2≤page)=False:=eq_false h4
 have HE1:=aM (show qmH a m leb page=if ¬ qjR a m=0 then ([],qjR a m) else if (qcB m leb).1.f3≤page then (List.replicate a.g.Z 255,0) else qcE a (m.lebs.getD leb.toNat 0) (page+2) from if_neg (fun h=>by
  rcases h with h|h|h|h
  ·exact h1 h
  ·exact h2 h
  ·exact h3 h
  ·exact h4 h))
 by_cases hpw:qjR a m=0
 ·have HE2:=aM (HE1.out.trans (if_neg (fun h=>h hpw)));rw [hpw] at HPW
  by_cases hu:(qcB m leb).1.f3≤page
  ·have HE3:=aM (HE2.out.trans (if_pos hu));rw [HE3.out];generalize (qcB m leb).1.f3=u at hu HUS;have d5:decide (u≤page)=true:=decide_eq_true hu;have d5n:(u≤page)=True:=eq_true hu;clear h HE1 HE2 HE3 hok hgP hgZ h1 h2 h3 h4 hpw hu;go_enter Tryz.func31,Tryz.ntmps31
   go_upto_region 9 with (first
  | (go_at_call 26;(with_reducible refine (HMP.out _ (Below.refl _ _)).mono ?_);rintro x w2 ⟨rfl,hb2⟩;have HB2:=aM hb2;clear hb2)
  | (go_at_call 96;(with_reducible refine (HPW.out _ HB2.out).mono ?_);rintro x w4 ⟨rfl,hb4⟩;have HB4:=aM (qaC HB2.out hb4);clear hb4)
  | (go_at_call 27;(with_reducible refine (HUS.out _ HB4.out).mono ?_);rintro x w5 ⟨rfl,hb5⟩;have HB5:=aM (qaC HB4.out hb5);clear hb5)
  | (go_at_call 97;(with_reducible refine (HFL.out _).mono ?_);rintro x w6 ⟨v6,rfl,hr6,hb6⟩;have HR6:=aM hr6;have HB6:=aM hb6;clear hb6 hr6))
   have y3:w5.cell? ⟨gm,3,none⟩=some (.int .i64 a.g.Z):=(H.out.grow HB5.out).cell 3
   go_wp2_with (first
  | (go_at_call 26;(with_reducible refine (HMP.out _ (Below.refl _ _)).mono ?_);rintro x w2 ⟨rfl,hb2⟩;have HB2:=aM hb2;clear hb2)
  | (go_at_call 96;(with_reducible refine (HPW.out _ HB2.out).mono ?_);rintro x w4 ⟨rfl,hb4⟩;have HB4:=aM (qaC HB2.out hb4);clear hb4)
  | (go_at_call 27;(with_reducible refine (HUS.out _ HB4.out).mono ?_);rintro x w5 ⟨rfl,hb5⟩;have HB5:=aM (qaC HB4.out hb5);clear hb5)
  | (go_at_call 97;(with_reducible refine (HFL.out _).mono ?_);rintro x w6 ⟨v6,rfl,hr6,hb6⟩;have HR6:=aM hr6;have HB6:=aM hb6;clear hb6 hr6))
   go_ret2;exact ⟨_,rfl,Kd.R_lower HR6.out (qaJ HB5.out),qaC HB5.out HB6.out⟩
  ·have HE3:=aM (HE2.out.trans (if_neg hu));rw [HE3.out];generalize (qcB m leb).1.f3=u at hu HUS;have d5:decide (u≤page)=false:=decide_eq_false hu;have d5n:(u≤page)=False:=eq_false hu
   obtain ⟨k,rfl⟩:∃ k:Nat,leb=(k:Int):=⟨leb.toNat,by omega⟩
   rw [Int.toNat_natCast];have hk:k < m.lebs.length:=by omega
   obtain ⟨p,hp⟩:∃ p,p=m.lebs.getD k 0:=⟨_,rfl⟩
   rw [← hp];have HYK:=aM (show ∀ q (hq:q < m.lebs.length),q=k→m.lebs[q]=p by rintro q hq rfl;rw [hp,List.getD_eq_getElem?_getD,List.getElem?_eq_getElem hq];rfl);have HKL:=aM hk;have hq:(k < m.lebs.length)=True:=eq_true hk;have hqi:((k:Int) < (m.lebs.length:Int))=True:=eq_true (by omega);have hwj:wrap64 (page+2)=page+2:=by unfold wrap64;omega
   have hwk:IntKind.i64.wrap (page+2)=page+2:=by rw [qbL];exact hwj
   clear h HE1 HE2 HE3 hok hgP hgZ h1 h2 h3 h4 hpw hu hk hp;go_enter Tryz.func31,Tryz.ntmps31
   go_upto_region 10 with (first
  | (go_at_call 26;(with_reducible refine (HMP.out _ (Below.refl _ _)).mono ?_);rintro x w2 ⟨rfl,hb2⟩;have HB2:=aM hb2;clear hb2)
  | (go_at_call 96;(with_reducible refine (HPW.out _ HB2.out).mono ?_);rintro x w4 ⟨rfl,hb4⟩;have HB4:=aM (qaC HB2.out hb4);clear hb4)
  | (go_at_call 27;(with_reducible refine (HUS.out _ HB4.out).mono ?_);rintro x w5 ⟨rfl,hb5⟩;have HB5:=aM (qaC HB4.out hb5);clear hb5)
  | (go_at_call 97;(with_reducible refine (HFL.out _).mono ?_);rintro x w6 ⟨v6,rfl,hr6,hb6⟩;have HR6:=aM hr6;have HB6:=aM hb6;clear hb6 hr6))
   have H5:=aM (H.out.grow HB5.out);have y0:w5.cell? ⟨gm,0,none⟩=some (cp gc):=H5.out.cell 0;have z6:w5.cell? ⟨gm,6,none⟩=some (.slice (some ⟨ge,0,none⟩) m.lebs.length ce):=H5.out.cell 6;have zk:w5.cell? ⟨ge,k,none⟩=some (.int .i64 p):=by rw [← HYK.out k HKL.out rfl];exact H5.out.b.cell k HKL.out
   have HRD:=aM (fun (w:World) (hb:Below w5.heap.size w5 w)=>(H5.out.grow hb).chip.read p (page+2));generalize hrd:qcE a p (page+2)=rd at HRD;obtain ⟨pg,e9⟩:=rd;simp only at HRD;have HRQ:=aM hrd;clear hrd
   go_region_with (first
    | (go_at_call 77;(with_reducible refine (HRD.out _ (by first|exact qaP (Below.refl _ _)|exact Below.refl _ _)).mono ?_);rintro x w6 ⟨v6,rfl,hr6,hb6⟩;have HR6:=aM hr6;have HB6:=aM hb6;clear hb6 hr6))
   all_goals go_wp2
   all_goals go_ret2
   all_goals rw [HRQ.out]
   all_goals exact ⟨_,rfl,Kd.R_lower HR6.out (qaJ (qaP HB5.out)),qaC (qaP HB5.out) HB6.out⟩
 ·have HE2:=aM (HE1.out.trans (if_pos hpw));rw [HE2.out];have d6:(qjR a m==0)=false:=by simp only [beq_eq_false_iff_ne];exact hpw
  have d6p:(qjR a m=0)=False:=eq_false hpw;generalize qjR a m=e at HPW d6 d6p;clear h HE1 HE2 hok hgP hgZ h1 h2 h3 h4 hpw;go_enter Tryz.func31,Tryz.ntmps31
  go_wp2_with (first
  | (go_at_call 26;(with_reducible refine (HMP.out _ (Below.refl _ _)).mono ?_);rintro x w2 ⟨rfl,hb2⟩;have HB2:=aM hb2;clear hb2)
  | (go_at_call 96;(with_reducible refine (HPW.out _ HB2.out).mono ?_);rintro x w4 ⟨rfl,hb4⟩;have HB4:=aM (qaC HB2.out hb4);clear hb4)
  | (go_at_call 27;(with_reducible refine (HUS.out _ HB4.out).mono ?_);rintro x w5 ⟨rfl,hb5⟩;have HB5:=aM (qaC HB4.out hb5);clear hb5)
  | (go_at_call 97;(with_reducible refine (HFL.out _).mono ?_);rintro x w6 ⟨v6,rfl,hr6,hb6⟩;have HR6:=aM hr6;have HB6:=aM hb6;clear hb6 hr6))
  go_ret2;exact ⟨_,rfl,Kd.R_nil _ _ _ _ _,HB4.out⟩
end
section
open Go.Shelf Plain
variable {w0 W W':World} {gm gc gl cl ge ce:Nat} {a a':AC} {m m':AM} {n:Nat} {wr:Int} {g:Geo} {D:Nat→List (List Int)}
def GM (w0 W:World) (gm gc gl cl ge ce:Nat) (g:Geo) (wr:Int) (n:Nat) (D:Nat→List (List Int)):Prop:=∃ a m,Man w0 W gm gc gl cl ge ce a m∧qbP n (-1) a m D∧a.g=g∧a.wrong=wr
def qiB (g:Geo):Nat:=(qeF g.B g.P g.Z g.R).toNat
theorem qeQ {g:Geo} (hr:qbQ g.B g.P g.Z g.R=true):(qiB g:Int)=qeF g.B g.P g.Z g.R∧10≤qiB g∧qiB g+2≤g.B∧g.B≤256:=by
 obtain ⟨h1,h2,h3,h4,h5⟩:=qdP hr;unfold qiB;rw [h1];omega
theorem GM.grow (h:GM w0 W gm gc gl cl ge ce g wr n D) (hb:Below W.heap.size W W'):GM w0 W' gm gc gl cl ge ce g wr n D:=by
 obtain ⟨a,m,h1,h2⟩:=h;exact ⟨a,m,h1.grow hb,h2⟩
theorem GM.below (h:GM w0 W gm gc gl cl ge ce g wr n D):Below w0.heap.size w0 W:=by
 obtain ⟨a,m,h1,h2,rfl,-⟩:=h;exact h1.chip.below
theorem qkJ (h:qdV w0 W gc (qpJ g [])) (aE:Addr) (hgE:gNone w0 aE) (hr:qbQ g.B g.P g.Z g.R=true) (hn:(n:Int) < 2147483000) :
  Calls Tryz.prog 23 #[cp gc] W fun x w'=>∃ gm gl cl ge ce:Nat,x=.returned (.tuple #[kp gm,.int .i64 0])∧GM w0 w' gm gc gl cl ge ce g 0 n (fun _=>[])∧MK [] W w'∧W.heap.size≤gm∧W.heap.size≤gl∧W.heap.size≤ge:=by
 have hg:GOK g:=h.gok;obtain ⟨h1,h2,h3,h4⟩:=qeQ hr;have hp:=qyU (n:=n) g hg hr hn;obtain ⟨a',m',e,hG,g1,g2,g3,-⟩:=hp.format (by omega) (qiB g) h1;refine (qwY h hp.by_ aE hgE rfl (qiB g) h1 (by show qiB g≤g.B;omega) (hp.spent _ rfl (by simp only [qcD,List.length_map,List.length_range];exact h1)) _ e rfl).mono ?_;rintro x w' ⟨gm,gl,cl,ge,ce,hx,hm,hk,hf⟩;exact ⟨gm,gl,cl,ge,ce,hx,⟨a',m',hm,hG,g1,g2⟩,hk,hf⟩
theorem qqL (h:GM w0 W gm gc gl cl ge ce g wr n D) (aE:Addr) (hgE:gNone w0 aE) :
  Calls Tryz.prog 29 #[cp gc] W fun x w'=>∃ gm gl cl ge ce:Nat,x=.returned (.tuple #[kp gm,.int .i64 0])∧GM w0 w' gm gc gl cl ge ce g wr n D∧MK [] W w'∧W.heap.size≤gm∧W.heap.size≤gl∧W.heap.size≤ge:=by
 obtain ⟨a,m,hM,hG0,rfl,rfl⟩:=h;obtain ⟨h1,h2,h3,h4⟩:=qeQ hG0.rg;have hG:=hG0.attach;have hnl:m.lebs.length=qiB a.g:=by have:=hG0.lbs;omega
 rw [hnl] at hG
 have e:qzG a.g.B 0 a (qcD (qdE a) (qiB a.g))=(0,a,qcD (qdE a) (qiB a.g)):=qpF _ _ _ _ fun j _ hj=>by
  rcases hG.bl j (by omega) (by omega) with ⟨hl,-⟩|⟨q,seq,l2,s,-,-,h4,-,-⟩
  ·rw [hl];exact of_decide_eq_true rfl
  ·rw [h4];exact of_decide_eq_true rfl
 refine (qxC hM.chip hG.by_ aE hgE hG.off (qiB a.g) h1 (by omega) _ e rfl).mono ?_;rintro x w' ⟨gm,gl,cl,ge,ce,hx,hm,hk,hf⟩;exact ⟨gm,gl,cl,ge,ce,hx,⟨a,_,hm,hG,rfl,rfl⟩,hk,hf⟩
theorem qbP.ready (h:qbP n (-1) a m D) {k:Nat} (hk:k < m.lebs.length) {xss:List (List Int)} (hx:xss.length+2≤a.g.P) (hz:∀ x,x ∈ xss→x.length≤a.g.Z):qfV a m (k:Int) xss=0:=by
 have hb:qwM a.g.Z xss=false:=by
  unfold qwM;rw [List.any_eq_false];intro x hx;simp only [decide_eq_true_eq];have:=hz x hx;omega
 have hpw:qjR a m=0:=by unfold qjR;rw [h.dead,h.off];rfl
 unfold qfV
 rw [if_neg (fun h2=>by
  rcases h2 with h2|h2|h2|h2
  ·omega
  ·omega
  ·omega
  ·rw [hb] at h2;exact absurd h2 (by decide)),if_neg (fun h2=>h2 hpw),if_neg (by rw [h.spent.1];decide)]
theorem qlF (h:GM w0 W gm gc gl cl ge ce g wr (n+1) D) (k:Nat) (hk:k < qiB g) (A:Option Addr) (c:Nat) (x:List Int) (hc:x.length≤c) (hx:∀ w',Below w0.heap.size w0 w'→MK [gm,gl,ge] W w'→Kd.C kB w' A x.length x) (hd:(D k).length+2 < g.P) (hz:x.length≤g.Z) (hxb:qbA x) :
  Calls Tryz.prog 25 #[kp gm,.int .i64 k,.slice A x.length c] W fun z w'=>z=.returned (.int .i64 0)∧GM w0 w' gm gc gl cl ge ce g wr n (qlH D k (D k ++ [x]))∧MK [gm,gl,ge] W w':=by
 obtain ⟨a,m,hM,hG,rfl,rfl⟩:=h;have hnl:m.lebs.length=qiB a.g:=by have:=hG.lbs;have:=(qeQ hG.rg).1;omega
 have hkl:k < m.lebs.length:=by omega
 obtain ⟨a1,m1,e1,hG1,g1,g2,g3,i,hi⟩:=hG.claim hkl (qcA m.l);obtain ⟨a2,m2,e2,g4,g5,g6,hG2⟩:=hG1.write (by omega) hi (x:=x) (by rw [g1];exact hd) (by rw [g1];exact hz) hxb (fun b o=>(0,b,o)) 0;have hbk:=hG.blk hkl
 have hwA:qeD (fun b o=>(0,b,o)) 1 a m k x=(0,a2,m2):=by
  unfold qeD;rw [e1,if_pos rfl];exact e2
 have hw:∀ w,Below W.heap.size W w→Calls Tryz.prog 91 #[kp gm,.int .i64 k,.slice A x.length c] w fun z w'=>∃ v:Value,z=.returned v∧EV w' v ((0,a2,m2):Int × AC × AM).1∧Man w0 w' gm gc gl cl ge ce ((0,a2,m2):Int × AC × AM).2.1 ((0,a2,m2):Int × AC × AM).2.2∧MK [gm,gl,ge] w w':=fun w hb=>by
  have key:=qxD (hM.grow hb) hG.sq.1 k hkl A c x (fun w' hb2 hk2=>hx w' hb2 ((MK.of_below hb).trans hk2)) hc (fun b o=>(0,b,o)) 1 (fun q b o=>q ≠ 0∧b=a1∧o=m1) (fun _=>⟨by decide,by rw [e1],by rw [e1]⟩) (fun b o h=>h.1 rfl)
   (fun q b o h=>by
    obtain ⟨-,rfl,rfl⟩:=h;have hb1:=hG1.blk (k:=k) (by omega);have hgP:=hG.gok.2.1
    exact ⟨hG1.ok,by omega,⟨i,hi⟩,by rw [hb1.1];omega,by rw [hb1.1];omega⟩)
   (fun q w b o h h5 _=>by
    exfalso
    obtain ⟨-,rfl,rfl⟩:=h;have hb1:=hG1.blk (k:=k) (by omega);obtain ⟨a3,e3,-⟩:=hG1.prog (by omega) hi (x:=x) (by rw [g1];exact hd) (by rw [g1];exact hz) hxb;rw [hi,hb1.1,e3] at h5
    exact absurd h5 (of_decide_eq_true rfl))
  rw [hwA] at key;exact key
 refine (qzL hM hG.ok (k:Int) A c x hc hx (hG.ready hkl (xss:=[x]) (by show 1+2≤a.g.P;omega) (fun y hy=>by rw [List.mem_singleton.1 hy];exact hz)) hbk.2 (by rw [hbk.1];omega) (0,a2,m2) hw (fun w v _ hv=>qpP _ rfl w v hv)).mono ?_;rintro z w' ⟨rfl,hm,hk⟩;exact ⟨rfl,⟨a2,m2,hm,hG2,g4.trans g1,g5.trans g2⟩,hk⟩
theorem qqH (h:GM w0 W gm gc gl cl ge ce g wr (n+2) D) (k:Nat) (hk:k < qiB g) (A:Option Addr) (c:Nat) (xss:List (List Int)) (hc:xss.length≤c) (hp:qeK [gm,gl,ge] w0 W A xss) (hx:xss.length+2≤g.P) (hz:∀ x,x ∈ xss→x.length≤g.Z) (hxb:∀ x,x ∈ xss→qbA x) :
  Calls Tryz.prog 28 #[kp gm,.int .i64 k,.slice A xss.length c] W fun z w'=>z=.returned (.int .i64 0)∧GM w0 w' gm gc gl cl ge ce g wr n (qlH D k xss)∧MK [gm,gl,ge] W w':=by
 obtain ⟨a,m,hM,hG,rfl,rfl⟩:=h;have hnl:m.lebs.length=qiB a.g:=by have:=hG.lbs;have:=(qeQ hG.rg).1;omega
 have hkl:k < m.lebs.length:=by omega
 obtain ⟨i,hi,e1,hf⟩:=hG.pick;obtain ⟨a2,m2,e2,g1,g2,g3,hG2⟩:=hG.moved hkl (pk:=pkL) (pg:=fun _ _=>xss) hi e1 hf (xss.length:Int) ⟨by omega,Int.le_refl _⟩ hx hz hxb (qcA m.l)
 have hss:∀ x,x ∈ [gm,gl]→x ∈ [gm,gl,ge]:=fun z hz=>by
  simp only [List.mem_cons,List.not_mem_nil,or_false] at hz ⊢
  rcases hz with h|h
  ·exact .inl h
  ·exact .inr (.inl h)
 refine (qwZ hM (k:Int) A c xss hc hp (hG.ready hkl hx hz) (0,a2,m2) (fun w g9 hb hg=>?_) (fun w v _ hv=>qpP _ rfl w v hv)).mono ?_
 ·have hM2:=hM.grow hb;have hpl:=quT hM2 hG.sq.1 (k:Int) (xss.length:Int) A c xss hc ((hp.mono hss).later (MK.of_below hb)) g9 hg;have hlb:=qiG pkL (fun _ _=>xss) (k:Int) (xss.length:Int) (qcA m.l+1) true a m;have hpg:=quU pkL (fun _ _=>xss) (k:Int) (xss.length:Int) (qcA m.l+1) true a m
  have key:=qxX hM2 k hkl [gm,gl,ge] (fun z hz=>hz) (xss.length:Int) _ _ _ (hpl.mono (fun x w' h=>by
   obtain ⟨v,h1,h2,h3,h4⟩:=h
   exact ⟨v,h1,h2,h3,h4.mono hss⟩)) hlb (hG.ok k hkl) hpg
  rw [show qoE (qaZ pkL (fun _ _=>xss) (k:Int) (xss.length:Int) (qcA m.l+1) true a m) m k=(0,a2,m2) from e2] at key;exact key
 ·rintro z w' ⟨rfl,hm,hk⟩;exact ⟨rfl,⟨a2,m2,hm,hG2,g1,g2⟩,hk⟩
theorem qsD (h:GM w0 W gm gc gl cl ge ce g wr (n+1) D) (k:Nat) (hk:k < qiB g) :
  Calls Tryz.prog 37 #[kp gm,.int .i64 k] W fun z w'=>z=.returned (.int .i64 0)∧GM w0 w' gm gc gl cl ge ce g wr n (qlH D k [])∧MK [gm,gl,ge] W w':=by
 obtain ⟨a,m,hM,hG,rfl,rfl⟩:=h;have hnl:m.lebs.length=qiB a.g:=by have:=hG.lbs;have:=(qeQ hG.rg).1;omega
 have hkl:k < m.lebs.length:=by omega
 have hgP:=hG.gok.2.1;obtain ⟨a2,m2,e2,g1,g2,g3,hG2⟩:=hG.unmap hkl;have key:=qzM hM hG.ok k hkl (hG.ready hkl (xss:=[]) (by show 0+2≤a.g.P;omega) (fun x hx=>nomatch hx)) (fun w v _ hv=>qpP _ (by rw [e2]) w v hv);rw [e2] at key;refine key.mono ?_;rintro z w' ⟨rfl,hm,hk⟩;exact ⟨rfl,⟨a2,m2,hm,hG2,g1,g2⟩,hk⟩
theorem qnF (h:GM w0 W gm gc gl cl ge ce g wr n D) (k:Nat) (hk:k < qiB g) :
  Calls Tryz.prog 27 #[kp gm,.int .i64 k] W fun z w'=>z=.returned (.int .i64 (D k).length)∧Below W.heap.size W w':=by
 obtain ⟨a,m,hM,hG,rfl,rfl⟩:=h;have hnl:m.lebs.length=qiB a.g:=by have:=hG.lbs;have:=(qeQ hG.rg).1;omega
 have key:=qhR hM hG.ok (k:Int);rw [(hG.blk (k:=k) (by omega)).1] at key;exact key
theorem qvN (h:GM w0 W gm gc gl cl ge ce g wr n D):Calls Tryz.prog 24 #[kp gm] W fun z w'=>z=.returned (.int .i64 (qiB g))∧Below W.heap.size W w':=by
 obtain ⟨a,m,hM,hG,rfl,rfl⟩:=h;have hnl:m.lebs.length=qiB a.g:=by have:=hG.lbs;have:=(qeQ hG.rg).1;omega
 have key:=qxY hM;rw [hnl] at key;exact key
theorem qsR (h:GM w0 W gm gc gl cl ge ce g wr n D):Calls Tryz.prog 26 #[kp gm] W fun z w'=>z=.returned (.int .i64 ((g.P:Int) - 2))∧Below W.heap.size W w':=by
 obtain ⟨a,m,hM,hG,rfl,rfl⟩:=h;exact qcT hM
theorem qjN (h:GM w0 W gm gc gl cl ge ce g wr n D) (k:Nat) (hk:k < qiB g) (p:Nat) (hp:p+2 < g.P) :
  Calls Tryz.prog 31 #[kp gm,.int .i64 k,.int .i64 p] W fun z w'=>∃ v:Value,z=.returned (.tuple #[v,.int .i64 0])∧Kd.R kB 5 w' W.heap.size (fun _=>True) v ((D k).getD p [] ++ List.replicate (g.Z - ((D k).getD p []).length) 255)∧Below W.heap.size W w':=by
 obtain ⟨a,m,hM,hG,rfl,rfl⟩:=h;have hnl:m.lebs.length=qiB a.g:=by have:=hG.lbs;have:=(qeQ hG.rg).1;omega
 have hgP:=hG.gok.2.1;have key:=vcH hM hG.ok (k:Int) (p:Int) (by omega);rw [hG.read (by omega) hp] at key;exact key
end
section
open Go.Shelf Plain
variable {w0 W W':World} {gm gc gl cl ge ce:Nat} {a a':AC} {m m':AM} {n:Nat} {wr:Int} {g:Geo} {D:Nat→List (List Int)}
theorem veQ {k:Nat} {x:Int} {fr:Nat × Nat} (hx:W.heap[k]?=some (.cells #[.int .u8 x] 5 fr)):Kd.C kB W (some ⟨k,0,none⟩) 1 [x]:=by
 refine ⟨rfl,(by show (1:Nat)≤_;decide),fun _=>⟨_,rfl,fun j p hj=>?_⟩⟩
 match j,hj with
 | 0,hj =>
  cases hj
  refine ⟨[.int .u8 x],rfl,rfl,fun i u hi=>?_⟩
  match i,hi with
  | 0,hi=>cases hi;simp [World.cell?,hx,Addr.add]
  | i+1,hi=>simp at hi
 | j+1,hj=>simp at hj
theorem vfF {s:List Nat} {w':World} (h:MK s W w') {base:Nat} {ok:Nat→Prop} {v:Value} {l:List Int} (hr:Kd.R kB 5 W base ok v l):Kd.R kB 5 w' base ok v l :=
 Kd.R_mono (Kd.R_move (Kd.R_bound hr) (fun k hk=>by
  obtain ⟨_,_,_,q,hq,cells,hc⟩:=hk;have hq2:q=5:=by simpa [Kd.int,Kd.scalar] using hq
  subst hq2;rw [hc]
  exact h.far (by decide) hc)) (fun _ hk=>hk.1)
def KM (W:World) (gm nl:Nat):Prop:=∃ (cs:Array Value) (A:Option Addr) (c:Nat),W.heap[gm]?=some (.cells cs 129 (0,0))∧cs[6]?=some (.slice A nl c)
theorem GM.km (h:GM w0 W gm gc gl cl ge ce g wr n D):KM W gm (qiB g):=by
 obtain ⟨a,m,hM,hG,rfl,rfl⟩:=h;have hnl:m.lebs.length=qiB a.g:=by have:=hG.lbs;have:=(qeQ hG.rg).1;omega
 refine ⟨_,some ⟨ge,0,none⟩,ce,hM.c,?_⟩;rw [← hnl];rfl
theorem KM.mk {s:List Nat} {nl:Nat} (h:KM W gm nl) (hk:MK s W W') (hn:gm ∉ s):KM W' gm nl:=by
 obtain ⟨cs,A,c,h1,h2⟩:=h;exact ⟨cs,A,c,hk.out (by decide) hn h1,h2⟩
theorem KM.lt {nl:Nat} (h:KM W gm nl):gm < W.heap.size:=by
 obtain ⟨cs,A,c,h1,h2⟩:=h;exact qcV h1
theorem vbL {nl:Nat} (h:KM W gm nl):Calls Tryz.prog 24 #[kp gm] W fun x w'=>x=.returned (.int .i64 nl)∧Below W.heap.size W w':=by
 obtain ⟨cs,A,c,h1,h2⟩:=h;have c6:W.cell? ⟨gm,6,none⟩=some (.slice A nl c):=(Joins.cell_of_block h1 6).trans h2;clear h1 h2;go_enter Tryz.func24,Tryz.ntmps24;go_wp2;go_ret;exact ⟨rfl,Below.refl _ _⟩
theorem qxK (A0:Option Addr) (c0:Nat) (A1:Option Addr) (c1:Nat) (l:List Int) (w:World) (hr0:Kd.C kB w A0 l.length l) (hc0:l.length≤c0) (hr1:Kd.C kB w A1 l.length l) (hc1:l.length≤c1) :
  Calls Tryz.prog 32 #[.slice A0 l.length c0,.slice A1 l.length c1] w fun e w'=>e=.returned (.bool true)∧Below w.heap.size w w':=by
 refine (pumicelaw01_Same.calls A0 c0 l A1 c1 l true w hr0 hc0 hr1 hc1 (by unfold pumicelaw01_Same.f;simp)).mono ?_;rintro e w' ⟨rfl,hd⟩;exact ⟨rfl,hd.below⟩
abbrev pg1 (x:Int):List Int:=[x] ++ List.replicate 127 255
theorem quV (x:Int):(pg1 x).length=128:=by simp [pg1]
theorem qlV {x:Int} {A:Option Addr} {c:Nat} {base:Nat} (hr:Kd.R kB 5 W base (fun _=>True) (.slice A (pg1 x).length c) (pg1 x)):∃ ad,A=some ad∧W.cell? ad=some (.int .u8 x):=by
 obtain ⟨-,-,hC⟩:=Kd.R_reads' hr;obtain ⟨ad,cs,e0,-,hK,hc⟩:=Kd.C_get hC 0 0 (by omega) (by rw [quV];decide);refine ⟨ad,e0,?_⟩;have h1:=hc 0;have hcs:cs=[.int .u8 x]:=hK;rw [hcs] at h1;have h2:=h1 _ rfl
 simpa [Addr.add] using h2
theorem qtB:qiB qfO=12:=by
 have h:qeF (qfO.B:Int) qfO.P qfO.Z qfO.R=12:=qtA;unfold qiB;rw [h];rfl
end
section
open Go.Shelf Plain
variable {w0 W W':World} {gm gc gl cl ge ce:Nat} {a a':AC} {m m':AM} {n:Nat} {wr:Int} {g:Geo} {D:Nat→List (List Int)}
theorem qwK {x:Int} (h:0≤x∧x < 256):qbA [x]:=fun y hy=>by rw [List.mem_singleton.1 hy];exact h
theorem qpH (aE:Addr) (w:World) (hg:gNone w aE):Calls Tryz.prog 22 #[] w fun e w'=>e=.returned (.bool true)∧Below w.heap.size w w':=by
 have HSM:=aM qxG;have HNW:=aM qvF;have HG:=aM hg;have HR:=aM (show qbQ qfO.B qfO.P qfO.Z qfO.R=true by kernel_rfl);have hL:=qtB;have hcv:=fun (w:World) (x:Int)=>Lib.run_convert_bytes_const (P:=Tryz.prog) w 35 5 #[.int .u8 x] 1 1 Tryz.underlying35 Tryz.underlying5
 have HLL:=aM hL;clear hg hL;go_enter Tryz.func22,Tryz.ntmps22
 go_upto_region 2 with (first
  | (go_at_call 55;(with_reducible refine (HSM.out _).mono ?_);rintro e w1 ⟨rfl,hb1⟩;have HB1:=aM hb1;clear hb1)
  | (go_at_call 11;(with_reducible refine (HNW.out _).mono ?_);rintro e w2 ⟨gc,rfl,hc2⟩;have HC2:=aM (hc2.lower HB1.out);clear hc2))
 have HFM:=aM (qkJ (n:=20) HC2.out aE HG.out HR.out (by decide))
 go_upto_region 5 with (first
  | (go_at_call 23;(with_reducible refine HFM.out.mono ?_);rintro e w3 ⟨gm,gl,cl,ge,ce,rfl,hm3,hk3,hf3⟩;have HM3:=aM hm3;clear hm3 hk3 hf3))
 have HX3:=aM (World.alloc_heap_new w3 (.cells #[.int .u8 97] 5 (1,2)));have HBA3:=aM (qaA (Below.refl w3.heap.size w3) (.cells #[.int .u8 97] 5 (1,2)));have HGA3:=aM (HM3.out.grow HBA3.out);have HW3:=aM (show Calls Tryz.prog 25 #[kp gm,.int .i64 0,.slice (some ⟨w3.heap.size,0,none⟩) 1 1] (w3.alloc (.cells #[.int .u8 97] 5 (1,2))) _ from qlF (n:=19) HGA3.out 0 (by rw [HLL.out];decide) (some ⟨w3.heap.size,0,none⟩) 1 [97] (by decide) (fun w' _ hk=>veQ (hk.far (by decide) HX3.out)) (by decide) (by decide) (qwK (by decide)))
 go_upto_region 6 with (first
  | (go_at_call 25;(with_reducible refine HW3.out.mono ?_);rintro e w4 ⟨rfl,hm4,hk4⟩;have HM4:=aM hm4;clear hm4 hk4))
 have HX4:=aM (World.alloc_heap_new w4 (.cells #[.int .u8 98] 5 (1,2)));have HBA4:=aM (qaA (Below.refl w4.heap.size w4) (.cells #[.int .u8 98] 5 (1,2)));have HGA4:=aM (HM4.out.grow HBA4.out);have HW4:=aM (show Calls Tryz.prog 25 #[kp gm,.int .i64 0,.slice (some ⟨w4.heap.size,0,none⟩) 1 1] (w4.alloc (.cells #[.int .u8 98] 5 (1,2))) _ from qlF (n:=18) HGA4.out 0 (by rw [HLL.out];decide) (some ⟨w4.heap.size,0,none⟩) 1 [98] (by decide) (fun w' _ hk=>veQ (hk.far (by decide) HX4.out)) (by decide) (by decide) (qwK (by decide)))
 go_upto_region 7 with (first
  | (go_at_call 25;(with_reducible refine HW4.out.mono ?_);rintro e w5 ⟨rfl,hm5,hk5⟩;have HM5:=aM hm5;clear hm5 hk5))
 have HRD5:=aM (show Calls Tryz.prog 31 #[kp gm,.int .i64 0,.int .i64 1] w5 (fun z w'=>∃ v:Value,z=.returned (.tuple #[v,.int .i64 0])∧Kd.R kB 5 w' w5.heap.size (fun _=>True) v (pg1 98)∧Below w5.heap.size w5 w') from qjN HM5.out 0 (by rw [HLL.out];decide) 1 (by decide))
 go_upto_region 8 with (first
  | (go_at_call 31;(with_reducible refine HRD5.out.mono ?_);rintro e w6 ⟨v6,rfl,hr6,hb6⟩;obtain ⟨A6,c6,e6⟩:=Kd.R_slice hr6;subst e6;have HR6:=aM hr6;have HM6:=aM (HM5.out.grow hb6);clear hr6 hb6))
 have HU6:=aM (show Calls Tryz.prog 27 #[kp gm,.int .i64 0] w6 (fun z w'=>z=.returned (.int .i64 2)∧Below w6.heap.size w6 w') from qnF HM6.out 0 (by rw [HLL.out];decide))
 go_upto_region 9 with (first
  | (go_at_call 27;(with_reducible refine HU6.out.mono ?_);rintro e w7 ⟨rfl,hb7⟩;have HM7:=aM (HM6.out.grow hb7);have HR7:=aM (Kd.R_below HR6.out hb7);clear hb7))
 have HX7:=aM (World.alloc_heap_new w7 (.cells #[.int .u8 99] 5 (1,2)));have HBA7:=aM (qaA (Below.refl w7.heap.size w7) (.cells #[.int .u8 99] 5 (1,2)));have HGA7:=aM (HM7.out.grow HBA7.out)
 obtain ⟨W8,hW8⟩:∃ W8,W8=w7.alloc (.cells #[.int .u8 99] 5 (1,2)):=⟨_,rfl⟩
 have HA8:=aM (qaN W8 #[.slice (some ⟨w7.heap.size,0,none⟩) 1 1] 35);have HB8:=aM (qaA (Below.refl W8.heap.size W8) (.cells #[.slice (some ⟨w7.heap.size,0,none⟩) 1 1] 35));have HX8:=aM (show W8.heap[w7.heap.size]?=some (.cells #[.int .u8 99] 5 (1,2)) by rw [hW8];exact HX7.out);have HM8:=aM (show GM w W8 gm gc gl cl ge ce qfO 0 18 _ by rw [hW8];exact HGA7.out);have HR8:=aM (show Kd.R kB 5 (W8.alloc (.cells #[.slice (some ⟨w7.heap.size,0,none⟩) 1 1] 35)) _ (fun _=>True) _ _ from Kd.R_below (show Kd.R kB 5 W8 _ (fun _=>True) _ _ by rw [hW8];exact Kd.R_below HR7.out HBA7.out) HB8.out);have HW8:=aM (show Calls Tryz.prog 28 #[kp gm,.int .i64 0,.slice (some ⟨W8.heap.size,0,none⟩) 1 1] (W8.alloc (.cells #[.slice (some ⟨w7.heap.size,0,none⟩) 1 1] 35)) _ from qqH (n:=16) (HM8.out.grow HB8.out) 0 (by rw [HLL.out];decide) (some ⟨W8.heap.size,0,none⟩) 1 [[99]] (by decide) (qnT HA8.out (by decide) (fun w' _ hk=>veQ (hk.far (by decide) ((HB8.out.block _ (qcV HX8.out)).trans HX8.out)))) (by decide) (fun x hx=>by rw [List.mem_singleton.1 hx];decide) (fun x hx=>by rw [List.mem_singleton.1 hx];exact qwK (by decide)));rw [show W8.heap.size=w7.heap.size+1 by rw [hW8];exact Array.size_push ..] at HW8;rw [hW8] at HW8 HR8;clear HA8 HB8 HX8 HM8 hW8
 go_upto_region 10 with (first
  | (go_at_call 28;(with_reducible refine HW8.out.mono ?_);rintro e w9 ⟨rfl,hm9,hk9⟩;have HM9:=aM hm9;have HR9:=aM (vfF hk9 HR8.out);clear hm9 hk9))
 have HRD9:=aM (show Calls Tryz.prog 31 #[kp gm,.int .i64 0,.int .i64 0] w9 (fun z w'=>∃ v:Value,z=.returned (.tuple #[v,.int .i64 0])∧Kd.R kB 5 w' w9.heap.size (fun _=>True) v (pg1 99)∧Below w9.heap.size w9 w') from qjN HM9.out 0 (by rw [HLL.out];decide) 0 (by decide))
 go_upto_region 11 with (first
  | (go_at_call 31;(with_reducible refine HRD9.out.mono ?_);rintro e w10 ⟨v10,rfl,hr10,hb10⟩;obtain ⟨A10,c10,e10⟩:=Kd.R_slice hr10;subst e10;have HQ10:=aM hr10;have HM10:=aM (HM9.out.grow hb10);have HR10:=aM (Kd.R_below HR9.out hb10);clear hr10 hb10))
 have HAT:=aM (qqL HM10.out aE HG.out);have HKM:=aM HM10.out.km
 go_upto_region 14 with (first
  | (go_at_call 29;(with_reducible refine HAT.out.mono ?_);rintro e w11 ⟨gm2,gl2,cl2,ge2,ce2,rfl,hm11,hk11,hf1,hf2,hf3⟩;have HM11:=aM hm11;have HR11:=aM (vfF hk11 HR10.out);have HQ11:=aM (vfF hk11 HQ10.out);have HK11:=aM (HKM.out.mk hk11 (by simp));have HNE:=aM (show gm ∉ [gm2,gl2,ge2] from (by have:=HKM.out.lt;simp only [List.mem_cons,List.not_mem_nil,or_false];omega));clear hm11 hk11 hf1 hf2 hf3))
 have HRD11:=aM (show Calls Tryz.prog 31 #[kp gm2,.int .i64 0,.int .i64 0] w11 (fun z w'=>∃ v:Value,z=.returned (.tuple #[v,.int .i64 0])∧Kd.R kB 5 w' w11.heap.size (fun _=>True) v (pg1 99)∧Below w11.heap.size w11 w') from qjN HM11.out 0 (by rw [HLL.out];decide) 0 (by decide))
 go_upto_region 15 with (first
  | (go_at_call 31;(with_reducible refine HRD11.out.mono ?_);rintro e w12 ⟨v12,rfl,hr12,hb12⟩;obtain ⟨A12,c12,e12⟩:=Kd.R_slice hr12;subst e12;have HS12:=aM hr12;have HM12:=aM (HM11.out.grow hb12);have HR12:=aM (Kd.R_below HR11.out hb12);have HQ12:=aM (Kd.R_below HQ11.out hb12);have HK12:=aM (HK11.out.mk (MK.of_below (s:=[]) hb12) (by simp));clear hr12 hb12))
 obtain ⟨ad6,rfl,y6⟩:=qlV HR12.out;obtain ⟨ad10,rfl,y10⟩:=qlV HQ12.out
 have HSA:=aM (show Calls Tryz.prog 32 #[.slice (some ad10) 128 c10,.slice A12 128 c12] w12 (fun e w'=>e=.returned (.bool true)∧Below w12.heap.size w12 w') from (by
  have h:=qxK (some ad10) c10 A12 c12 (pg1 99) w12 (Kd.R_reads' HQ12.out).2.2 (Kd.R_reads' HQ12.out).2.1 (Kd.R_reads' HS12.out).2.2 (Kd.R_reads' HS12.out).2.1;rw [quV] at h
  exact h))
 go_wp2_with (first
  | (go_at_call 32;(with_reducible refine HSA.out.mono ?_);rintro e w13 ⟨rfl,hb13⟩;have HU13:=aM (show Calls Tryz.prog 37 #[kp gm2,.int .i64 0] w13 _ from qsD (n:=15) (HM12.out.grow hb13) 0 (by rw [HLL.out];decide));have HK13:=aM (HK12.out.mk (MK.of_below (s:=[]) hb13) (by simp));clear hb13)
  | (go_at_call 37;(with_reducible refine HU13.out.mono ?_);rintro e w14 ⟨rfl,hm14,hk14⟩;have HM14:=aM hm14;have HUS:=aM (show Calls Tryz.prog 27 #[kp gm2,.int .i64 0] w14 (fun z w'=>z=.returned (.int .i64 0)∧Below w14.heap.size w14 w') from qnF hm14 0 (by rw [HLL.out];decide));have HK14:=aM (HK13.out.mk hk14 HNE.out);clear hm14 hk14)
  | (go_at_call 27;(with_reducible refine HUS.out.mono ?_);rintro e w15 ⟨rfl,hb15⟩;have HM15:=aM (HM14.out.grow hb15);have HLB:=aM (show Calls Tryz.prog 24 #[kp gm] w15 (fun x w'=>x=.returned (.int .i64 12)∧Below w15.heap.size w15 w') from (by have h:=vbL (HK14.out.mk (MK.of_below (s:=[]) hb15) (by simp));rw [HLL.out] at h;exact h));clear hb15)
  | (go_at_call 24;(with_reducible refine HLB.out.mono ?_);rintro e w16 ⟨rfl,hb16⟩;have HB16:=aM hb16;clear hb16))
 go_ret;exact ⟨rfl,qaC HM15.out.below HB16.out⟩
end
end Go.Proofs.YtdlimghdimkadaaGreatDoor.PAll
namespace Go.Proofs.YtdlimghdimkadaaGreatDoor.Opens
open Go Go.Deep YtdlimghdimkadaaGreatDoorW.PrintWords
def Opens {α:Type} (P:Program) (t:TypeId) (d:Kd α) (G:α→Prop):Prop :=
 ∀ {H:Type} (enc:TypeId × Value→H) (W:World) (held:Bool) (fuel:Nat) (cs:List Value) (x:DataW H) (ps:List MemPlace),DataW.trod enc P W 0 (fun _=>true) held fuel t cs=some (x,ps)→(∀ n ∈ x.weights P t,n≤reachBytes)→∃ a:α,d.K W a cs∧G a
theorem Opens.int {P:Program} {t:TypeId} {k:IntKind} (ht:P.underlying t=some (.int k)):Opens P t (Kd.int k) (fun n=>(Lit.int k n).wf=true):=by
 intro H enc W held fuel cs x ps h _;obtain ⟨n,rfl,_,hw⟩:=DataW.trod_int ht h;exact ⟨n,rfl,hw⟩
theorem qzB {W:World} {base n:Nat} {a:Addr} {cs:List Value} (h:W.cells? base a n=some cs):cs.length=n∧∀ j u,cs[j]?=some u→W.cell? (a.add j)=some u:=by
 obtain ⟨_,hl,he⟩:=World.cells?_some h;refine ⟨hl,fun j u hu=>?_⟩
 have hj:j < n:=by
  have:=(List.getElem?_eq_some_iff.1 hu).1;omega
 rw [he j hj];exact hu
theorem Opens.slice {α:Type} {P:Program} {t e:TypeId} {d:Kd α} {G:α→Prop} (ht:P.underlying t=some (.slice e)) (hsz:P.cellsOf e=d.sz) (he:Opens P e d G) :
  Opens P t (Kd.slice e d) (fun l=>l.length*P.bytesOf e≤reachBytes∧∀ a ∈ l,G a):=by
 intro H enc W held fuel cs x ps h hw
 rcases open_slice ht h with ⟨rfl,_⟩|⟨a,len,cap,m,n,D,Pl,rfl,_,hl,hm,hmm,hx,hel⟩
 ·exact ⟨[],⟨none,0,rfl,Nat.le_refl _,Kd.C_nil d W⟩,by simp,by simp⟩
 ·obtain rfl:m=cap:=by simpa using hmm
  obtain ⟨rfl,_⟩:=Prod.mk.inj hx;simp only [DataW.weights,ht,List.mem_cons,List.mem_append,List.length_map,List.length_range] at hw
  have hall:∀ i,i < len→∃ b:α,∃ c:List Value,(d.K W b c∧∀ j u,c[j]?=some u→W.cell? ((a.add (i*d.sz)).add j)=some u)∧G b:=by
   intro i hi;obtain ⟨cs',hc,htr⟩:=hel i (by omega);rw [hsz] at hc
   have hwi:∀ n ∈ (D i).weights P e,n≤reachBytes:=by
    intro n hn;refine hw n (.inr (.inl ?_));clear hw hx hel
    have:∀ (l:List Nat),i ∈ l→n ∈ DataW.weightsAll P e (l.map D):=by
     intro l
     induction l with
     | nil=>simp
     | cons j l ih =>
      intro hm;simp only [List.map_cons,DataW.weightsAll,List.mem_append]
      rcases List.mem_cons.1 hm with rfl|hm
      ·exact .inl hn
      ·exact .inr (ih hm)
    exact this _ (List.mem_range.2 hi)
   obtain ⟨b,hb,hG⟩:=he enc W held n cs' (D i) (Pl i) htr hwi;exact ⟨b,cs',⟨hb,(qzB hc).2⟩,hG⟩
  have hf:∃ l:List α,l.length=len∧∀ i b,l[i]?=some b→(∃ c:List Value,d.K W b c∧∀ j u,c[j]?=some u→W.cell? ((a.add (i*d.sz)).add j)=some u)∧G b:=by
   clear hw hx hel hl hmm h
   induction len with
   | zero=>exact ⟨[],rfl,by simp⟩
   | succ len ih =>
    obtain ⟨l,h1,h2⟩:=ih (fun i hi=>hall i (by omega));obtain ⟨b,c,hb,hG⟩:=hall len (by omega);refine ⟨l ++ [b],by simp [h1],fun i b' hi=>?_⟩
    rcases Nat.lt_or_ge i l.length with hil|hil
    ·rw [List.getElem?_append_left hil] at hi;exact h2 i b' hi
    ·rw [List.getElem?_append_right hil] at hi
     obtain rfl:i=len:=by
      have:=(List.getElem?_eq_some_iff.1 hi).1;simp at this;omega
     rw [h1] at hi;simp at hi;subst hi;exact ⟨⟨c,hb⟩,hG⟩
  obtain ⟨l,hll,hl2⟩:=hf;subst hll;have hb:l.length*P.bytesOf e≤reachBytes:=Nat.le_trans (Nat.mul_le_mul_right _ (by omega)) (hw _ (.inl rfl));clear hw hx hall h hmm;refine ⟨l,⟨some a,m,rfl,hl,rfl,by unfold maxLen at hm;omega,fun _=>⟨a,rfl,fun j p hj=>?_⟩⟩,hb,?_⟩
  ·obtain ⟨⟨c,hK,hc⟩,_⟩:=hl2 j p hj;exact ⟨c,d.K_len hK,hK,fun i u hu=>by rw [← Deep.add_add];exact hc i u hu⟩
  ·intro b hb;obtain ⟨i,hi⟩:=List.getElem?_of_mem hb;exact (hl2 i b hi).2
def qgT {α:Type} (P:Program) (fs:List Field) (off:Nat) (d:Kd α) (G:α→Prop):Prop :=
 ∀ {H:Type} (enc:TypeId × Value→H) (W:World) (held:Bool) (fuel:Nat) (cs:List Value) (xs:List (DataW H × List MemPlace)),
  (∀ (i:Nat) (f:Field),fs[i]?=some f→DataW.trod enc P W 0 (fun _=>true) held fuel f.type ((cs.drop f.offset).take (P.cellsOf f.type))=xs[i]?)→xs.length=fs.length →
  (∀ n ∈ DataW.weightsEach P (fs.map (·.type)) (xs.map (·.1)),n≤reachBytes)→∃ a:α,d.K W a ((cs.drop off).take d.sz)∧G a
theorem qgT.one {α:Type} {P:Program} {f:Field} {d:Kd α} {G:α→Prop} (hsz:P.cellsOf f.type=d.sz) (h:Opens P f.type d G):qgT P [f] f.offset d G:=by
 intro H enc W held fuel cs xs hf hl hw
 match xs,hl with
 | [x],_ =>
  have h0:=hf 0 f rfl;rw [hsz] at h0;exact h enc W held fuel _ x.1 x.2 h0 (fun n hn=>hw n (by simp [DataW.weightsEach,hn]))
theorem qgT.cons {α β:Type} {P:Program} {f:Field} {fs:List Field} {off:Nat} {d:Kd α} {d2:Kd β} {G:α→Prop} {G2:β→Prop} (hsz:P.cellsOf f.type=d.sz) (hoff:off=f.offset+d.sz) (h:Opens P f.type d G) (h2:qgT P fs off d2 G2) :
  qgT P (f :: fs) f.offset (Kd.pair d d2) (fun x=>G x.1∧G2 x.2):=by
 intro H enc W held fuel cs xs hf hl hw
 match xs,hl with
 | x :: xs,hl =>
  have h0:=hf 0 f rfl;rw [hsz] at h0;obtain ⟨a,ha,hG⟩:=h enc W held fuel _ x.1 x.2 h0 (fun n hn=>hw n (by simp [DataW.weightsEach,hn]));obtain ⟨b,hb,hG2⟩:=h2 enc W held fuel cs xs (fun i g hg=>by simpa using hf (i+1) g (by simpa using hg)) (by simpa using hl) (fun n hn=>hw n (by simp [DataW.weightsEach,hn]));refine ⟨(a,b),⟨_,_,?_,ha,hb⟩,hG,hG2⟩;show (cs.drop f.offset).take (d.sz+d2.sz)=_;rw [List.take_add,List.drop_drop,hoff]
theorem Opens.struct {α:Type} {P:Program} {t:TypeId} {fs:Array Field} {d:Kd α} {G:α→Prop} (ht:P.underlying t=some (.struct fs)) (hsz:P.cellsOf t=d.sz) (h:qgT P fs.toList 0 d G):Opens P t d G:=by
 intro H enc W held fuel cs x ps hx hw;obtain ⟨xs,n,_,he,hl,hlen,hf⟩:=DataW.trod_struct ht hx;obtain ⟨rfl,_⟩:=Prod.mk.inj he;obtain ⟨a,ha,hG⟩:=h enc W held n cs xs (fun i f hi=>hf i f (by simpa using hi)) (by simpa using hlen) (fun n hn=>hw n (by simpa [DataW.weights,ht] using hn));refine ⟨a,?_,hG⟩;rw [List.drop_zero,List.take_of_length_le (by omega)] at ha;exact ha
theorem Opens.iso {α β:Type} {P:Program} {t:TypeId} {d:Kd α} {G:α→Prop} (f:β→α) (g:α→β) (hfg:∀ a,f (g a)=a) (h:Opens P t d G):Opens P t (Kd.iso d f) (fun b=>G (f b)):=by
 intro H enc W held fuel cs x ps hx hw;obtain ⟨a,ha,hG⟩:=h enc W held fuel cs x ps hx hw;exact ⟨g a,by show d.K W (f (g a)) cs;rw [hfg];exact ha,by show G (f (g a));rw [hfg];exact hG⟩
theorem Opens.imp {α:Type} {P:Program} {t:TypeId} {d:Kd α} {G G':α→Prop} (h:Opens P t d G) (hg:∀ a,G a→G' a):Opens P t d G':=by
 intro H enc W held fuel cs x ps hx hw;obtain ⟨a,ha,hG⟩:=h enc W held fuel cs x ps hx hw;exact ⟨a,ha,hg a hG⟩
theorem Opens.arg {α:Type} {P:Program} {t:TypeId} {d:Kd α} {G:α→Prop} (h:Opens P t d G) {H:Type} {enc:TypeId × Value→H} {W:World} {held:Bool} {v:Value} {x:DataW H} {ps:List MemPlace} {ts:List TypeId} {ds:List (DataW H)} (j:Nat)
  (hsz:(DataW.weightsEach P ts ds).all (·≤reachBytes)=true) (ht:ts[j]?=some t) (hd:ds[j]?=some x) (hv:DataW.Trod enc P W 0 (fun _=>true) held t v x ps):∃ a:α,d.K W a v.cells.toList∧G a:=by
 obtain ⟨fuel,hf⟩:=hv;refine h enc W held fuel _ x ps hf (fun n hn=>?_)
 simpa using List.all_eq_true.1 hsz n (DataW.weights_mem_each ht hd n hn)
theorem int_of {W:World} {k:IntKind} {x n:Int} (h:(Kd.int k).K W x (Value.cells (.int k n)).toList):n=x:=by
 have h2:[Value.int k n]=[Value.int k x]:=h
 simpa using h2
end Go.Proofs.YtdlimghdimkadaaGreatDoor.Opens
namespace Go.Proofs.YtdlimghdimkadaaGreatDoor.PAll
open Go Go.RowKit YtdlimghdimkadaaGreatDoorW.PrintWords YtdlimghdimkadaaGreatDoorW.PrintLast YtdlimghdimkadaaGreatDoorW.PrintMore
attribute [local go_sem] qdA qcY qdU qdT qcH qcG qcZ qcX
section
open Go.Shelf Plain Opens
variable {w0 W W':World} {gm gc gl cl ge ce:Nat} {a a':AC} {m m':AM} {n:Nat} {wr:Int} {g:Geo} {D:Nat→List (List Int)}
theorem vcQ {n:Int} (h:(Lit.int .u8 n).wf=true):0≤n∧n < 256:=by
 unfold Lit.wf at h;rw [Bool.and_eq_true,decide_eq_true_eq,decide_eq_true_eq] at h;have h1:(0:Int)≤n:=h.1;have h2:n≤255:=h.2;omega
theorem oI:Opens Tryz.prog 3 (Kd.int .i64) (fun _=>True):=Opens.imp (Opens.int Tryz.underlying3) (fun _ _=>trivial)
theorem oY:Opens Tryz.prog 5 kB (fun n=>(Lit.int .u8 n).wf=true):=Opens.int Tryz.underlying5
theorem oYs:Opens Tryz.prog 35 (Kd.slice 5 kB) qbA :=
 Opens.imp (Opens.slice Tryz.underlying35 (by kernel_rfl) oY) (fun _ h x hx=>vcQ (h.2 x hx))
structure GI where
 f0:Int
 f1:Int
 f2:Int
 f3:Int
def kGI:Kd GI:=Kd.iso (Kd.pair (Kd.int .i64) (Kd.pair (Kd.int .i64) (Kd.pair (Kd.int .i64) (Kd.int .i64)))) (fun x:GI=>(x.f0,x.f1,x.f2,x.f3))
theorem oG:Opens Tryz.prog 23 kGI (fun _=>True) :=
 Opens.imp (Opens.iso (fun x:GI=>(x.f0,x.f1,x.f2,x.f3)) (fun p=>⟨p.1,p.2.1,p.2.2.1,p.2.2.2⟩) (fun _=>rfl)
  (Opens.struct Tryz.underlying23 (by kernel_rfl) (qgT.cons (by kernel_rfl) rfl oI (qgT.cons (by kernel_rfl) rfl oI (qgT.cons (by kernel_rfl) rfl oI (qgT.one (by kernel_rfl) oI)))))) (fun _ _=>trivial)
theorem qsJ {B P Z R:Int} (h:qbQ B P Z R=true):16≤B∧8≤P∧64≤Z:=by
 unfold qbQ at h;simp only [Bool.and_eq_true,decide_eq_true_eq] at h;omega
end
section
open Go.Shelf Plain Opens
variable {w0 W W':World} {gm gc gl cl ge ce:Nat} {a a':AC} {m m':AM} {n:Nat} {wr:Int} {g:Geo} {D:Nat→List (List Int)}
end
section
open Go.Shelf Plain
variable {w0 W W':World} {gm gc gl cl ge ce:Nat} {a a':AC} {m m':AM} {n:Nat} {wr:Int} {g:Geo} {D:Nat→List (List Int)}
theorem qqY (l p:Int):Calls Tryz.prog 31 #[.pointer none,.int .i64 l,.int .i64 p] W fun x w'=>x=.returned (.tuple #[.slice none 0 0,.int .i64 14])∧Below W.heap.size W w':=by
 go_enter Tryz.func31,Tryz.ntmps31;go_wp2;go_ret2;exact ⟨rfl,Below.refl _ _⟩
theorem qrA:Calls Tryz.prog 24 #[.pointer none] W fun x w'=>x=.returned (.int .i64 0)∧Below W.heap.size W w':=by
 go_enter Tryz.func24,Tryz.ntmps24;go_wp2;go_ret;exact ⟨rfl,Below.refl _ _⟩
theorem qoA:Calls Tryz.prog 26 #[.pointer none] W fun x w'=>x=.returned (.int .i64 0)∧Below W.heap.size W w':=by
 go_enter Tryz.func26,Tryz.ntmps26;go_wp2;go_ret;exact ⟨rfl,Below.refl _ _⟩
theorem qqZ:Calls Tryz.prog 38 #[.pointer none] W fun x w'=>x=.returned (.int .i64 0)∧Below W.heap.size W w':=by
 go_enter Tryz.func38,Tryz.ntmps38;go_wp2;go_ret;exact ⟨rfl,Below.refl _ _⟩
theorem qnZ:Calls Tryz.prog 39 #[.pointer none] W fun x w'=>x=.returned (.int .i64 0)∧Below W.heap.size W w':=by
 go_enter Tryz.func39,Tryz.ntmps39;go_wp2;go_ret;exact ⟨rfl,Below.refl _ _⟩
theorem qrC:Calls Tryz.prog 41 #[.pointer none] W fun x w'=>x=.returned (.pointer none)∧Below W.heap.size W w':=by
 go_enter Tryz.func41,Tryz.ntmps41;go_wp2;go_ret;exact ⟨rfl,Below.refl _ _⟩
theorem qnY:Calls Tryz.prog 40 #[.pointer none] W fun x w'=>x=.returned (.bool false)∧Below W.heap.size W w':=by
 go_enter Tryz.func40,Tryz.ntmps40
 go_upto_region 1 with (fail)
 first|go_quiet (fail)|go_region
 all_goals go_wp2
 go_ret;exact ⟨rfl,qaE (Below.refl _ _) _⟩
theorem qoD (l:Int):Calls Tryz.prog 92 #[.pointer none,.int .i64 l] W fun x w'=>x=.returned (.tuple #[.agg (bC qiC),.bool false])∧Below W.heap.size W w':=by
 have hu:=Tryz.underlying68;go_enter Tryz.func92,Tryz.ntmps92
 go_upto_region 1 with (fail)
 generalize hW:W.alloc (.cells #[.int .i64 0,.int .i64 0,.int .i64 0,.int .i64 0,.int .u64 0,.bool false] 68)=W1;have HB1:=aM (show Below W.heap.size W W1 by rw [← hW];exact qaA (Below.refl _ _) _);have HR1:=aM (show W1.heap[W.heap.size]?=some (.cells #[.int .i64 0,.int .i64 0,.int .i64 0,.int .i64 0,.int .u64 0,.bool false] 68 (0,0)) by rw [← hW];exact qaN _ _ _);clear hW;have fr0:=qaD HR1.out 0;have fr1:=qaD HR1.out 1;have fr2:=qaD HR1.out 2;have fr3:=qaD HR1.out 3;have fr4:=qaD HR1.out 4;have fr5:=qaD HR1.out 5;have yr0:=Joins.cell_of_block HR1.out 0;have yr1:=Joins.cell_of_block HR1.out 1;have yr2:=Joins.cell_of_block HR1.out 2;have yr3:=Joins.cell_of_block HR1.out 3;have yr4:=Joins.cell_of_block HR1.out 4;have yr5:=Joins.cell_of_block HR1.out 5;go_wp2;refine bodyPost_ret (qbC rfl _ _ W.heap.size 68 #[.int .i64 0,.int .i64 0,.int .i64 0,.int .i64 0,.int .u64 0,.bool false] (0,0) _ rfl (qpS HR1.out _ _ _ _ _ _) Tryz.underlying68 rfl (by kernel_rfl)) rfl ?_;exact ⟨rfl,qbO HB1.out (Nat.le_refl _) _ _ _ _ _ _⟩
theorem qqX (l:Int):Calls Tryz.prog 27 #[.pointer none,.int .i64 l] W fun x w'=>x=.returned (.int .i64 0)∧Below W.heap.size W w':=by
 go_enter Tryz.func27,Tryz.ntmps27
 go_upto_region 2 with (first|(go_at_call 92;(with_reducible refine (qoD l).mono ?_);rintro x w1 ⟨rfl,hb1⟩;have HB1:=aM hb1;clear hb1))
 generalize hW:w1.alloc (.cells (bC qiC) 68)=W2;have HB2:=aM (show Below W.heap.size W W2 by rw [← hW];exact qaA HB1.out _);have x3:W2.cell? ⟨w1.heap.size,3,none⟩=some (.int .i64 0):=Joins.cell_of_block (show W2.heap[w1.heap.size]?=some (.cells (bC qiC) 68 (0,0)) by rw [← hW];exact qaN _ _ _) 3;clear hW;go_wp2;go_ret;exact ⟨rfl,HB2.out⟩
theorem qlQ (l:Int):Calls Tryz.prog 34 #[.pointer none,.int .i64 l] W fun x w'=>x=.returned (.bool false)∧Below W.heap.size W w':=by
 go_enter Tryz.func34,Tryz.ntmps34
 go_upto_region 2 with (first|(go_at_call 92;(with_reducible refine (qoD l).mono ?_);rintro x w1 ⟨rfl,hb1⟩;have HB1:=aM hb1;clear hb1))
 generalize hW:w1.alloc (.cells (bC qiC) 68)=W2;have HB2:=aM (show Below W.heap.size W W2 by rw [← hW];exact qaA HB1.out _);have x5:W2.cell? ⟨w1.heap.size,5,none⟩=some (.bool false):=Joins.cell_of_block (show W2.heap[w1.heap.size]?=some (.cells (bC qiC) 68 (0,0)) by rw [← hW];exact qaN _ _ _) 5;clear hW;go_wp2;go_ret;exact ⟨rfl,HB2.out⟩
theorem qjW (l:Int) (v:Value):Calls Tryz.prog 90 #[.pointer none,.int .i64 l,v] W fun x w'=>x=.returned (.int .i64 14)∧Below W.heap.size W w':=by
 go_enter Tryz.func90,Tryz.ntmps90
 go_upto_region 1 with (fail)
 generalize hW:W.alloc (.cells #[.pointer none] 49)=W1;have HB1:=aM (show Below W.heap.size W W1 by rw [← hW];exact qaA (Below.refl _ _) _);have y0:W1.cell? ⟨W.heap.size,0,none⟩=some (.pointer none):=by rw [← hW];exact Joins.cell_of_block (qaN _ _ _) 0
 clear hW;go_wp2;go_ret;exact ⟨rfl,HB1.out⟩
theorem qqW :Calls Tryz.prog 36 #[.pointer none] W fun x w'=>x=.returned (.tuple #[.bool false,.int .i64 14])∧Below W.heap.size W w':=by
 go_enter Tryz.func36,Tryz.ntmps36
 go_upto_region 1 with (fail)
 generalize hW:W.alloc (.cells #[.pointer none] 49)=W1;have HB1:=aM (show Below W.heap.size W W1 by rw [← hW];exact qaA (Below.refl _ _) _);have y0:W1.cell? ⟨W.heap.size,0,none⟩=some (.pointer none):=by rw [← hW];exact Joins.cell_of_block (qaN _ _ _) 0
 clear hW;go_wp2;go_ret2;exact ⟨rfl,HB1.out⟩
theorem qnW (l:Int) (A:Option Addr) (n c:Nat):Calls Tryz.prog 25 #[.pointer none,.int .i64 l,.slice A n c] W fun x w'=>x=.returned (.int .i64 14)∧Below W.heap.size W w':=by
 go_enter Tryz.func25,Tryz.ntmps25;go_wp2_with (first|(fail));refine (qjW l _).mono ?_;rintro x w1 ⟨rfl,hb1⟩;have HB1:=aM (qaC (qaA (Below.refl _ _) _) hb1);clear hb1;go_wp2;go_ret;exact ⟨rfl,HB1.out⟩
theorem qnX (l:Int):Calls Tryz.prog 37 #[.pointer none,.int .i64 l] W fun x w'=>x=.returned (.int .i64 14)∧Below W.heap.size W w':=by
 go_enter Tryz.func37,Tryz.ntmps37;go_wp2_with (first|(fail));refine (qjW l _).mono ?_;rintro x w1 ⟨rfl,hb1⟩;have HB1:=aM hb1;clear hb1;go_wp2;go_ret;exact ⟨rfl,HB1.out⟩
theorem qlR (l:Int):Calls Tryz.prog 28 #[.pointer none,.int .i64 l,.slice none 0 0] W fun x w'=>x=.returned (.int .i64 14)∧Below W.heap.size W w':=by
 go_enter Tryz.func28,Tryz.ntmps28
 go_upto_region 1 with (fail)
 generalize hW:W.alloc (.cells #[.slice none 0 0] 55)=W1;have HB1:=aM (show Below W.heap.size W W1 by rw [← hW];exact qaA (Below.refl _ _) _);have y0:W1.cell? ⟨W.heap.size,0,none⟩=some (.slice none 0 0):=by rw [← hW];exact Joins.cell_of_block (qaN _ _ _) 0
 clear hW;go_wp2_with (first|(fail));refine (qjW l _).mono ?_;rintro x w1 ⟨rfl,hb1⟩;have HB2:=aM (qaC HB1.out hb1);clear hb1;go_wp2;go_ret;exact ⟨rfl,HB2.out⟩
theorem qxU:Calls Tryz.prog 18 #[.pointer none] W fun x w'=>x=.returned (.tuple #[.slice none 0 0,.int .i64 14])∧Below W.heap.size W w':=by
 go_enter Tryz.func18,Tryz.ntmps18;go_wp2;go_ret2;exact ⟨rfl,Below.refl _ _⟩
theorem qiO:Calls Tryz.prog 86 #[.pointer none] W fun x w'=>x=.returned (.tuple #[.pointer none,.int .i64 14])∧Below W.heap.size W w':=by
 go_enter Tryz.func86,Tryz.ntmps86
 go_wp2_with (first
  | (go_at_call 18;(with_reducible refine qxU.mono ?_);rintro x w1 ⟨rfl,hb1⟩;have HB1:=aM hb1;clear hb1))
 go_ret2;exact ⟨rfl,HB1.out⟩
theorem qlP:Calls Tryz.prog 23 #[.pointer none] W fun x w'=>x=.returned (.tuple #[.pointer none,.int .i64 14])∧Below W.heap.size W w':=by
 go_enter Tryz.func23,Tryz.ntmps23
 go_wp2_with (first
  | (go_at_call 86;(with_reducible refine qiO.mono ?_);rintro x w1 ⟨rfl,hb1⟩;have HB1:=aM hb1;clear hb1))
 go_ret2;exact ⟨rfl,HB1.out⟩
theorem qlS:Calls Tryz.prog 29 #[.pointer none] W fun x w'=>x=.returned (.tuple #[.pointer none,.int .i64 14])∧Below W.heap.size W w':=by
 go_enter Tryz.func29,Tryz.ntmps29
 go_wp2_with (first
  | (go_at_call 86;(with_reducible refine qiO.mono ?_);rintro x w1 ⟨rfl,hb1⟩;have HB1:=aM hb1;clear hb1))
 go_ret2;exact ⟨rfl,HB1.out⟩
end
section
open Go.Shelf Plain Opens
variable {w0 W W':World} {gm gc gl cl ge ce:Nat} {a a':AC} {m m':AM} {n:Nat} {wr:Int} {g:Geo} {D:Nat→List (List Int)}
theorem qvI (h:Man w0 W gm gc gl cl ge ce a m) (y:Int) (hy:y=(qgC m.l:Int) - m.lebs.length - 2) (h0:0≤y):Calls Tryz.prog 39 #[kp gm] W fun x w'=>x=.returned (.int .i64 y)∧Below W.heap.size W w':=by
 have hB:=h.chip.gok.1;have H:=aM h;have HGD:=aM (fun (w:World) (hb:Below W.heap.size W w)=>qvV (some ⟨gl,0,none⟩) cl m.l w (Kd.C_below (h.l.reads (by rw [h.ln];omega)) hb) h.hl (by rw [h.ln];omega));have y5:W.cell? ⟨gm,5,none⟩=some (.slice (some ⟨gl,0,none⟩) m.l.length cl):=h.cell 5;have y6:W.cell? ⟨gm,6,none⟩=some (.slice (some ⟨ge,0,none⟩) m.lebs.length ce):=h.cell 6
 have hgl:qgC m.l≤256:=by
  have key:∀ xs:List Blk,qgC xs≤xs.length:=by
   intro xs
   induction xs with
   | nil=>exact Nat.le_refl _
   | cons b r ih =>
    unfold qgC;rw [List.length_cons]
    split <;> omega
  have:=key m.l;have:=h.ln;omega
 have hlb:=h.lb
 obtain ⟨x,hx⟩:∃ x:Int,x=(qgC m.l:Int) - m.lebs.length:=⟨_,rfl⟩
 have e1:wrap64 ((qgC m.l:Int) - (m.lebs.length:Int))=x:=by rw [hx];unfold wrap64;omega
 have e1k:IntKind.i64.wrap ((qgC m.l:Int) - (m.lebs.length:Int))=x:=by rw [qbL];exact e1
 have e2:wrap64 (x - 2)=y:=by rw [hx,hy];unfold wrap64;omega
 have e2k:IntKind.i64.wrap (x - 2)=y:=by rw [qbL];exact e2
 have e3:(y < 0)=False:=eq_false (by omega);have e3d:decide (y < 0)=false:=decide_eq_false (by omega);clear h hB hgl hlb hx hy h0;go_enter Tryz.func39,Tryz.ntmps39
 go_upto_region 3 with (fail)
 go_region_with (first
  | (go_at_call 61;(with_reducible refine (HGD.out _ (by first|exact qaP (Below.refl _ _)|exact Below.refl _ _)).mono ?_);rintro e w1 ⟨rfl,hb⟩;have HB1:=aM (qaC (qaP (Below.refl _ _)) hb);have z6:=qaF y6 HB1.out;clear hb))
 all_goals go_wp2
 all_goals go_ret
 all_goals exact ⟨by first|rfl|(simp only [if_false];rfl)|simp,HB1.out⟩
theorem qsI (h:GM w0 W gm gc gl cl ge ce g wr n D):Calls Tryz.prog 39 #[kp gm] W fun x w'=>x=.returned (.int .i64 g.R)∧Below W.heap.size W w':=by
 obtain ⟨a,m,hM,hG,rfl,rfl⟩:=h;obtain ⟨q1,q2,q3,q4,q5⟩:=qdP hG.rg;have h1:=hG.spent.2;have h2:=hG.lbs;exact qvI hM a.g.R (by rw [h1,h2,q1];omega) q2
theorem qsG (h:GM w0 W gm gc gl cl ge ce g wr n D):Calls Tryz.prog 40 #[kp gm] W fun x w'=>x=.returned (.bool false)∧Below W.heap.size W w':=by
 obtain ⟨a,m,hM,hG,rfl,rfl⟩:=h;have h:=qcS hM;rw [hG.spent.1] at h;exact h
theorem quY (h:GM w0 W gm gc gl cl ge ce g wr n D):Calls Tryz.prog 38 #[kp gm] W fun x w'=>x=.returned (.int .i64 g.Z)∧Below W.heap.size W w':=by
 obtain ⟨a,m,hM,hG,rfl,rfl⟩:=h;exact qxW hM
theorem qwI (h:GM w0 W gm gc gl cl ge ce g wr n D):Calls Tryz.prog 41 #[kp gm] W fun x w'=>x=.returned (cp gc)∧Below W.heap.size W w':=by
 obtain ⟨a,m,hM,hG,rfl,rfl⟩:=h;exact qyC hM
theorem qxR (h:GM w0 W gm gc gl cl ge ce g wr n D):∃ q:Int,∀ w,Below W.heap.size W w→Calls Tryz.prog 17 #[cp gc] w fun x w'=>x=.returned (.int .i64 q)∧Below w.heap.size w w':=by
 obtain ⟨a,m,hM,hG,rfl,rfl⟩:=h;exact ⟨a.ops,fun w hb=>(hM.grow hb).chip.ops⟩
theorem qvL (B P Z R leb page:Int) (A:Option Addr) (n c:Nat) (W:World) (hg:qbQ B P Z R=false) (aE:Addr) (hgE:gNone W aE) :
  Calls Tryz.prog 7 #[gV B P Z R,.int .i64 leb,.int .i64 page,.slice A n c] W fun e w'=>e=.returned (.bool true)∧Below W.heap.size W w':=by
 have HAL:=aM (fun (w:World) (hb:Below W.heap.size W w)=>qpH aE w (qaF hgE hb));have HNW:=aM (fun (w:World)=>(show Calls Tryz.prog 11 #[gV B P Z R,.slice none 0 0] w (fun e w'=>e=.returned (.tuple #[.pointer none,.int .i64 22])∧Below w.heap.size w w') from vbG B P Z R none 0 [] w (Kd.R_reads' (Kd.R_nil kF 83 w 0 (fun _=>True))).2.2 (Nat.le_refl _) (by rw [hg];rfl)));have hu23:=Tryz.underlying23;clear hg hgE;go_enter Tryz.func7,Tryz.ntmps7
 go_upto_region 1 with (fail)
 generalize hW:W.alloc (.cells #[.int .i64 B,.int .i64 P,.int .i64 Z,.int .i64 R] 23)=W1
 obtain ⟨g0,hg0⟩:∃ g0,g0=W.heap.size:=⟨_,rfl⟩
 rw [← hg0];have HB1:=aM (show Below W.heap.size W W1 by rw [← hW];exact qaA (Below.refl _ _) _);have hx1:W1.heap[g0]?=some (.cells #[.int .i64 B,.int .i64 P,.int .i64 Z,.int .i64 R] 23 (0,0)):=by rw [← hW,hg0];exact qaN _ _ _
 have y0:=Joins.cell_of_block hx1 0;have y1:=Joins.cell_of_block hx1 1;have y2:=Joins.cell_of_block hx1 2;have y3:=Joins.cell_of_block hx1 3;have HG1:=aM hx1;clear hW hx1 hg0
 go_upto_region 3 with (first
  | (go_at_call 31;(with_reducible refine (qqY leb page).mono ?_);rintro e w20 ⟨rfl,hb⟩;have HB20:=aM hb;have y201:=qaF y1 HB20.out;have y202:=qaF y2 HB20.out;have y203:=qaF y3 HB20.out;have y200:=qaF y0 HB20.out;clear hb)
)
 go_upto_region 6 with (first
  | (go_at_call 36;(with_reducible refine (qqW).mono ?_);rintro e w21 ⟨rfl,hb⟩;have HB21:=aM (qaC HB20.out hb);have y211:=qaF y1 HB21.out;have y212:=qaF y2 HB21.out;have y213:=qaF y3 HB21.out;have y210:=qaF y0 HB21.out;clear hb)
  | (go_at_call 25;(with_reducible refine (qnW leb A n c).mono ?_);rintro e w22 ⟨rfl,hb⟩;have HB22:=aM (qaC HB21.out hb);have y221:=qaF y1 HB22.out;have y222:=qaF y2 HB22.out;have y223:=qaF y3 HB22.out;have y220:=qaF y0 HB22.out;clear hb)
  | (go_at_call 37;(with_reducible refine (qnX leb).mono ?_);rintro e w23 ⟨rfl,hb⟩;have HB23:=aM (qaC HB22.out hb);have y231:=qaF y1 HB23.out;have y232:=qaF y2 HB23.out;have y233:=qaF y3 HB23.out;have y230:=qaF y0 HB23.out;clear hb)
  | (go_at_call 28;(with_reducible refine (qlR leb).mono ?_);rintro e w24 ⟨rfl,hb⟩;have HB24:=aM (qaC HB23.out hb);have y241:=qaF y1 HB24.out;have y242:=qaF y2 HB24.out;have y243:=qaF y3 HB24.out;have y240:=qaF y0 HB24.out;clear hb)
  | (go_at_call 24;(with_reducible refine (qrA).mono ?_);rintro e w25 ⟨rfl,hb⟩;have HB25:=aM (qaC HB24.out hb);have y251:=qaF y1 HB25.out;have y252:=qaF y2 HB25.out;have y253:=qaF y3 HB25.out;have y250:=qaF y0 HB25.out;clear hb)
  | (go_at_call 26;(with_reducible refine (qoA).mono ?_);rintro e w26 ⟨rfl,hb⟩;have HB26:=aM (qaC HB25.out hb);have y261:=qaF y1 HB26.out;have y262:=qaF y2 HB26.out;have y263:=qaF y3 HB26.out;have y260:=qaF y0 HB26.out;clear hb)
  | (go_at_call 38;(with_reducible refine (qqZ).mono ?_);rintro e w27 ⟨rfl,hb⟩;have HB27:=aM (qaC HB26.out hb);have y271:=qaF y1 HB27.out;have y272:=qaF y2 HB27.out;have y273:=qaF y3 HB27.out;have y270:=qaF y0 HB27.out;clear hb)
  | (go_at_call 27;(with_reducible refine (qqX leb).mono ?_);rintro e w28 ⟨rfl,hb⟩;have HB28:=aM (qaC HB27.out hb);have y281:=qaF y1 HB28.out;have y282:=qaF y2 HB28.out;have y283:=qaF y3 HB28.out;have y280:=qaF y0 HB28.out;clear hb)
  | (go_at_call 39;(with_reducible refine (qnZ).mono ?_);rintro e w29 ⟨rfl,hb⟩;have HB29:=aM (qaC HB28.out hb);have y291:=qaF y1 HB29.out;have y292:=qaF y2 HB29.out;have y293:=qaF y3 HB29.out;have y290:=qaF y0 HB29.out;clear hb)
  | (go_at_call 34;(with_reducible refine (qlQ leb).mono ?_);rintro e w30 ⟨rfl,hb⟩;have HB30:=aM (qaC HB29.out hb);have y301:=qaF y1 HB30.out;have y302:=qaF y2 HB30.out;have y303:=qaF y3 HB30.out;have y300:=qaF y0 HB30.out;clear hb)
  | (go_at_call 40;(with_reducible refine (qnY).mono ?_);rintro e w31 ⟨rfl,hb⟩;have HB31:=aM (qaC HB30.out hb);have y311:=qaF y1 HB31.out;have y312:=qaF y2 HB31.out;have y313:=qaF y3 HB31.out;have y310:=qaF y0 HB31.out;clear hb)
  | (go_at_call 41;(with_reducible refine (qrC).mono ?_);rintro e w32 ⟨rfl,hb⟩;have HB32:=aM (qaC HB31.out hb);have y321:=qaF y1 HB32.out;have y322:=qaF y2 HB32.out;have y323:=qaF y3 HB32.out;have y320:=qaF y0 HB32.out;clear hb)
  | (go_at_call 22;(with_reducible refine (HAL.out _ (qaC HB1.out HB32.out)).mono ?_);rintro e w40 ⟨rfl,hb9⟩;have HB40:=aM (qaC HB32.out hb9);clear hb9))
 go_upto_region 7 with (first
  | (go_at_call 23;(with_reducible refine qlP.mono ?_);rintro e w41 ⟨rfl,hb⟩;have HB41:=aM (qaC HB40.out hb);clear hb))
 go_upto_region 10 with (first
  | (go_at_call 29;(with_reducible refine qlS.mono ?_);rintro e w42 ⟨rfl,hb⟩;have HB42:=aM (qaC HB41.out hb);clear hb))
 have HGA:=aM (qaB HG1.out HB42.out);clear y0 y1 y2 y3;have y0:=Joins.cell_of_block HGA.out 0;have y1:=Joins.cell_of_block HGA.out 1;have y2:=Joins.cell_of_block HGA.out 2;have y3:=Joins.cell_of_block HGA.out 3
 go_wp2_with (first
  | (go_at_call 11;(with_reducible refine (HNW.out _).mono ?_);rintro e w43 ⟨rfl,hb⟩;have HB43:=aM (qaC HB42.out hb);clear hb))
 go_ret;exact ⟨rfl,qaC HB1.out HB43.out⟩
theorem qyE (g:Geo) (hg:qbQ g.B g.P g.Z g.R=true) (leb page:Int) (A:Option Addr) (n c:Nat) (W:World) (aE:Addr) (hgE:gNone W aE) :
  Calls Tryz.prog 7 #[gV g.B g.P g.Z g.R,.int .i64 leb,.int .i64 page,.slice A n c] W fun e w'=>e=.returned (.bool true)∧Below W.heap.size W w':=by
 have HAL:=aM (fun (w:World) (hb:Below W.heap.size W w)=>qpH aE w (qaF hgE hb));have HNW:=aM (fun (w:World)=>(show Calls Tryz.prog 11 #[gV g.B g.P g.Z g.R,.slice none 0 0] w (fun e w'=>∃ gc:Nat,e=.returned (.tuple #[cp gc,.int .i64 0])∧qdV w w' gc (qpJ g [])) from qrS g none 0 [] w (Kd.R_reads' (Kd.R_nil kF 83 w 0 (fun _=>True))).2.2 (Nat.le_refl _) hg (by rfl)));have hu23:=Tryz.underlying23;have HG:=aM hgE;have HR:=aM hg;obtain ⟨q1,q2,q3,q4⟩:=qeQ hg;have HLS:=aM (show ∀ w,Calls Tryz.prog 13 #[gV g.B g.P g.Z g.R] w (fun e w'=>e=.returned (.int .i64 (qiB g))∧Below w.heap.size w w') from fun w=>q1 ▸ qpY g.B g.P g.Z g.R w);clear hg hgE q1 q2 q3 q4;go_enter Tryz.func7,Tryz.ntmps7
 go_upto_region 1 with (fail)
 generalize hW:W.alloc (.cells #[.int .i64 g.B,.int .i64 g.P,.int .i64 g.Z,.int .i64 g.R] 23)=W1
 obtain ⟨g0,hg0⟩:∃ g0,g0=W.heap.size:=⟨_,rfl⟩
 rw [← hg0];have HB1:=aM (show Below W.heap.size W W1 by rw [← hW];exact qaA (Below.refl _ _) _);have hx1:W1.heap[g0]?=some (.cells #[.int .i64 g.B,.int .i64 g.P,.int .i64 g.Z,.int .i64 g.R] 23 (0,0)):=by rw [← hW,hg0];exact qaN _ _ _
 have y0:=Joins.cell_of_block hx1 0;have y1:=Joins.cell_of_block hx1 1;have y2:=Joins.cell_of_block hx1 2;have y3:=Joins.cell_of_block hx1 3;have HG1:=aM hx1;clear hW hx1 hg0
 go_upto_region 3 with (first
  | (go_at_call 31;(with_reducible refine (qqY leb page).mono ?_);rintro e w20 ⟨rfl,hb⟩;have HB20:=aM hb;have y201:=qaF y1 HB20.out;have y202:=qaF y2 HB20.out;have y203:=qaF y3 HB20.out;have y200:=qaF y0 HB20.out;clear hb)
)
 go_upto_region 6 with (first
  | (go_at_call 36;(with_reducible refine (qqW).mono ?_);rintro e w21 ⟨rfl,hb⟩;have HB21:=aM (qaC HB20.out hb);have y211:=qaF y1 HB21.out;have y212:=qaF y2 HB21.out;have y213:=qaF y3 HB21.out;have y210:=qaF y0 HB21.out;clear hb)
  | (go_at_call 25;(with_reducible refine (qnW leb A n c).mono ?_);rintro e w22 ⟨rfl,hb⟩;have HB22:=aM (qaC HB21.out hb);have y221:=qaF y1 HB22.out;have y222:=qaF y2 HB22.out;have y223:=qaF y3 HB22.out;have y220:=qaF y0 HB22.out;clear hb)
  | (go_at_call 37;(with_reducible refine (qnX leb).mono ?_);rintro e w23 ⟨rfl,hb⟩;have HB23:=aM (qaC HB22.out hb);have y231:=qaF y1 HB23.out;have y232:=qaF y2 HB23.out;have y233:=qaF y3 HB23.out;have y230:=qaF y0 HB23.out;clear hb)
  | (go_at_call 28;(with_reducible refine (qlR leb).mono ?_);rintro e w24 ⟨rfl,hb⟩;have HB24:=aM (qaC HB23.out hb);have y241:=qaF y1 HB24.out;have y242:=qaF y2 HB24.out;have y243:=qaF y3 HB24.out;have y240:=qaF y0 HB24.out;clear hb)
  | (go_at_call 24;(with_reducible refine (qrA).mono ?_);rintro e w25 ⟨rfl,hb⟩;have HB25:=aM (qaC HB24.out hb);have y251:=qaF y1 HB25.out;have y252:=qaF y2 HB25.out;have y253:=qaF y3 HB25.out;have y250:=qaF y0 HB25.out;clear hb)
  | (go_at_call 26;(with_reducible refine (qoA).mono ?_);rintro e w26 ⟨rfl,hb⟩;have HB26:=aM (qaC HB25.out hb);have y261:=qaF y1 HB26.out;have y262:=qaF y2 HB26.out;have y263:=qaF y3 HB26.out;have y260:=qaF y0 HB26.out;clear hb)
  | (go_at_call 38;(with_reducible refine (qqZ).mono ?_);rintro e w27 ⟨rfl,hb⟩;have HB27:=aM (qaC HB26.out hb);have y271:=qaF y1 HB27.out;have y272:=qaF y2 HB27.out;have y273:=qaF y3 HB27.out;have y270:=qaF y0 HB27.out;clear hb)
  | (go_at_call 27;(with_reducible refine (qqX leb).mono ?_);rintro e w28 ⟨rfl,hb⟩;have HB28:=aM (qaC HB27.out hb);have y281:=qaF y1 HB28.out;have y282:=qaF y2 HB28.out;have y283:=qaF y3 HB28.out;have y280:=qaF y0 HB28.out;clear hb)
  | (go_at_call 39;(with_reducible refine (qnZ).mono ?_);rintro e w29 ⟨rfl,hb⟩;have HB29:=aM (qaC HB28.out hb);have y291:=qaF y1 HB29.out;have y292:=qaF y2 HB29.out;have y293:=qaF y3 HB29.out;have y290:=qaF y0 HB29.out;clear hb)
  | (go_at_call 34;(with_reducible refine (qlQ leb).mono ?_);rintro e w30 ⟨rfl,hb⟩;have HB30:=aM (qaC HB29.out hb);have y301:=qaF y1 HB30.out;have y302:=qaF y2 HB30.out;have y303:=qaF y3 HB30.out;have y300:=qaF y0 HB30.out;clear hb)
  | (go_at_call 40;(with_reducible refine (qnY).mono ?_);rintro e w31 ⟨rfl,hb⟩;have HB31:=aM (qaC HB30.out hb);have y311:=qaF y1 HB31.out;have y312:=qaF y2 HB31.out;have y313:=qaF y3 HB31.out;have y310:=qaF y0 HB31.out;clear hb)
  | (go_at_call 41;(with_reducible refine (qrC).mono ?_);rintro e w32 ⟨rfl,hb⟩;have HB32:=aM (qaC HB31.out hb);have y321:=qaF y1 HB32.out;have y322:=qaF y2 HB32.out;have y323:=qaF y3 HB32.out;have y320:=qaF y0 HB32.out;clear hb)
  | (go_at_call 22;(with_reducible refine (HAL.out _ (qaC HB1.out HB32.out)).mono ?_);rintro e w40 ⟨rfl,hb9⟩;have HB40:=aM (qaC HB32.out hb9);clear hb9))
 go_upto_region 7 with (first
  | (go_at_call 23;(with_reducible refine qlP.mono ?_);rintro e w41 ⟨rfl,hb⟩;have HB41:=aM (qaC HB40.out hb);clear hb))
 go_upto_region 10 with (first
  | (go_at_call 29;(with_reducible refine qlS.mono ?_);rintro e w42 ⟨rfl,hb⟩;have HB42:=aM (qaC HB41.out hb);clear hb))
 have HGA:=aM (qaB HG1.out HB42.out);clear y0 y1 y2 y3;have y0:=Joins.cell_of_block HGA.out 0;have y1:=Joins.cell_of_block HGA.out 1;have y2:=Joins.cell_of_block HGA.out 2;have y3:=Joins.cell_of_block HGA.out 3
 go_upto_region 13 with (first
  | (go_at_call 11;(with_reducible refine (HNW.out _).mono ?_);rintro e w43 ⟨gc,rfl,hc2⟩;have HC2:=aM (hc2.lower (qaC HB1.out HB42.out));have HG2:=aM (qaB HGA.out hc2.below);clear hc2))
 have HGK:=aM (show 8≤g.P∧g.P≤64 from HC2.out.gok.2.1);have HFM:=aM (qkJ (n:=5) HC2.out aE HG.out HR.out (by decide))
 go_upto_region 16 with (first|(go_at_call 23;(with_reducible refine HFM.out.mono ?_);rintro e w3 ⟨gm,gl,cl,ge,ce,rfl,hm3,hk3,hf3⟩;have HM3:=aM hm3;have HG3:=aM (hk3.far (by decide) HG2.out);clear hm3 hk3 hf3))
 clear y0 y1 y2 y3;have y0:=Joins.cell_of_block HG3.out 0;have y1:=Joins.cell_of_block HG3.out 1;have y2:=Joins.cell_of_block HG3.out 2;have y3:=Joins.cell_of_block HG3.out 3;have hwp:wrap64 ((g.P:Int) - 2)=(g.P:Int) - 2:=by have:=HGK.out;unfold wrap64;omega
 have hwq:IntKind.i64.wrap ((g.P:Int) - 2)=(g.P:Int) - 2:=by rw [qbL];exact hwp
 have HCA:=aM (fun (w:World) (hb:Below w3.heap.size w3 w)=>qvN (HM3.out.grow hb));have HCB:=aM (fun (w:World) (hb:Below w3.heap.size w3 w)=>HLS.out w);have HCC:=aM (fun (w:World) (hb:Below w3.heap.size w3 w)=>qsR (HM3.out.grow hb));have HCD:=aM (fun (w:World) (hb:Below w3.heap.size w3 w)=>quY (HM3.out.grow hb));have HCE:=aM (fun (w:World) (hb:Below w3.heap.size w3 w)=>qsI (HM3.out.grow hb));have HCF:=aM (fun (w:World) (hb:Below w3.heap.size w3 w)=>qsG (HM3.out.grow hb));have HCG:=aM (fun (w:World) (hb:Below w3.heap.size w3 w)=>qwI (HM3.out.grow hb));obtain ⟨oq,hoq⟩:=qxR HM3.out;have HCH:=aM hoq;clear hoq HNW HFM HG2 HGA;refine Reg.det [(0,130,?r1v0),(1,131,?r1v1),(2,132,?r1v2),(3,133,?r1v3),(4,134,?r1v4),(5,135,?r1v5),(6,136,?r1v6),(7,137,?r1v7),(8,138,?r1v8),(9,139,?r1v9),(10,140,?r1v10),(11,141,?r1v11),(12,142,?r1v12),(13,143,?r1v13),(14,144,?r1v14),(15,145,?r1v15),(16,146,?r1v16),(17,147,?r1v17),(18,148,?r1v18),(19,149,?r1v19),(20,150,?r1v20),(21,151,?r1v21),(22,152,?r1v22),(23,153,?r1v23),(24,154,?r1v24),(25,155,?r1v25),(26,156,?r1v26),(27,157,?r1v27),(28,158,?r1v28),(29,159,?r1v29),(30,160,?r1v30),(31,161,?r1v31),(32,162,?r1v32),(33,163,?r1v33),(34,164,?r1v34),(35,165,?r1v35),(36,166,?r1v36),(37,167,?r1v37),(38,168,?r1v38),(39,169,?r1v39),(40,170,?r1v40),(41,171,?r1v41),(42,172,?r1v42),(43,173,?r1v43),(44,174,?r1v44),(45,8,?r1v45)] (fun w'=>Below w3.heap.size w3 w') (by rfl) rfl (by kernel_rfl) ?r1S ?r1steps ?r1okv ?r1hlt ?r1fin
 case r1S=>exact qaP (Below.refl _ _)
 case r1steps =>
  refine Reg.fS 0 rfl rfl (fun a w hS hK K hC=>?_) ?_
  ·refine Reg.sO ?_;have e19:=hK.off 19 _ rfl rfl;clear hK;go_simp;exact hC _ hS
  refine Reg.fS 1 rfl rfl (fun a w hS hK K hC=>?_) ?_
  ·refine Reg.sO ?_;have e130:=hK.sl 0 rfl;clear hK;go_simp;go_at_call 24;(with_reducible refine (HCA.out w hS).mono ?_);rintro e w' ⟨rfl,hb⟩;exact hC w' (qaC hS hb)
  refine Reg.fS 2 rfl rfl (fun a w hS hK K hC=>?_) ?_
  ·refine Reg.sO ?_;have e4:=hK.off 4 _ rfl rfl;have z0:=qaF y0 hS;have z1:=qaF y1 hS;have z2:=qaF y2 hS;have z3:=qaF y3 hS;clear hK;go_simp;exact hC _ hS
  refine Reg.fS 3 rfl rfl (fun a w hS hK K hC=>?_) ?_
  ·refine Reg.sO ?_;have e132:=hK.sl 2 rfl;clear hK;go_simp;go_at_call 13;(with_reducible refine (HCB.out w hS).mono ?_);rintro e w' ⟨rfl,hb⟩;exact hC w' (qaC hS hb)
  refine Reg.fS 4 rfl rfl (fun a w hS hK K hC=>?_) ?_
  ·refine Reg.sO ?_;have e131:=hK.sl 1 rfl;have e133:=hK.sl 3 rfl;clear hK;go_simp;exact hC _ hS
  refine Reg.fS 5 rfl rfl (fun a w hS hK K hC=>?_) ?_
  ·refine Reg.sO ?_;have e134:=hK.sl 4 rfl;clear hK;go_simp;exact hC _ hS
  refine Reg.fS 6 rfl rfl (fun a w hS hK K hC=>?_) ?_
  ·refine Reg.step_on (qaH (g:=5) rfl rfl rfl (hK.sl 5 rfl)) ?_;have e19:=hK.off 19 _ rfl rfl;clear hK;go_simp;exact hC _ hS
  refine Reg.fS 7 rfl rfl (fun a w hS hK K hC=>?_) ?_
  ·refine Reg.step_on (qaH (g:=5) rfl rfl rfl (hK.sl 5 rfl)) ?_;have e136:=hK.sl 6 rfl;clear hK;go_simp;go_at_call 26;(with_reducible refine (HCC.out w hS).mono ?_);rintro e w' ⟨rfl,hb⟩;exact hC w' (qaC hS hb)
  refine Reg.fS 8 rfl rfl (fun a w hS hK K hC=>?_) ?_
  ·refine Reg.step_on (qaH (g:=5) rfl rfl rfl (hK.sl 5 rfl)) ?_;have e4:=hK.off 4 _ rfl rfl;clear hK;go_simp;exact hC _ hS
  refine Reg.fS 9 rfl rfl (fun a w hS hK K hC=>?_) ?_
  ·refine Reg.step_on (qaH (g:=5) rfl rfl rfl (hK.sl 5 rfl)) ?_;have e138:=hK.sl 8 rfl;have z0:=qaF y0 hS;have z1:=qaF y1 hS;have z2:=qaF y2 hS;have z3:=qaF y3 hS;clear hK;go_simp;exact hC _ hS
  refine Reg.fS 10 rfl rfl (fun a w hS hK K hC=>?_) ?_
  ·refine Reg.step_on (qaH (g:=5) rfl rfl rfl (hK.sl 5 rfl)) ?_;have e139:=hK.sl 9 rfl;clear hK;go_simp;exact hC _ hS
  refine Reg.fS 11 rfl rfl (fun a w hS hK K hC=>?_) ?_
  ·refine Reg.step_on (qaH (g:=5) rfl rfl rfl (hK.sl 5 rfl)) ?_;have e137:=hK.sl 7 rfl;have e140:=hK.sl 10 rfl;clear hK;go_simp;exact hC _ hS
  refine Reg.fS 12 rfl rfl (fun a w hS hK K hC=>?_) ?_
  ·refine Reg.sO ?_;have e135:=hK.sl 5 rfl;have e141:=hK.sl 11 rfl;clear hK;go_simp;exact hC _ hS
  refine Reg.fS 13 rfl rfl (fun a w hS hK K hC=>?_) ?_
  ·refine Reg.sO ?_;have e142:=hK.sl 12 rfl;clear hK;go_simp;exact hC _ hS
  refine Reg.fS 14 rfl rfl (fun a w hS hK K hC=>?_) ?_
  ·refine Reg.step_on (qaH (g:=13) rfl rfl rfl (hK.sl 13 rfl)) ?_;have e19:=hK.off 19 _ rfl rfl;clear hK;go_simp;exact hC _ hS
  refine Reg.fS 15 rfl rfl (fun a w hS hK K hC=>?_) ?_
  ·refine Reg.step_on (qaH (g:=13) rfl rfl rfl (hK.sl 13 rfl)) ?_;have e144:=hK.sl 14 rfl;clear hK;go_simp;go_at_call 38;(with_reducible refine (HCD.out w hS).mono ?_);rintro e w' ⟨rfl,hb⟩;exact hC w' (qaC hS hb)
  refine Reg.fS 16 rfl rfl (fun a w hS hK K hC=>?_) ?_
  ·refine Reg.step_on (qaH (g:=13) rfl rfl rfl (hK.sl 13 rfl)) ?_;have e4:=hK.off 4 _ rfl rfl;clear hK;go_simp;exact hC _ hS
  refine Reg.fS 17 rfl rfl (fun a w hS hK K hC=>?_) ?_
  ·refine Reg.step_on (qaH (g:=13) rfl rfl rfl (hK.sl 13 rfl)) ?_;have e146:=hK.sl 16 rfl;have z0:=qaF y0 hS;have z1:=qaF y1 hS;have z2:=qaF y2 hS;have z3:=qaF y3 hS;clear hK;go_simp;exact hC _ hS
  refine Reg.fS 18 rfl rfl (fun a w hS hK K hC=>?_) ?_
  ·refine Reg.step_on (qaH (g:=13) rfl rfl rfl (hK.sl 13 rfl)) ?_;have e145:=hK.sl 15 rfl;have e147:=hK.sl 17 rfl;clear hK;go_simp;exact hC _ hS
  refine Reg.fS 19 rfl rfl (fun a w hS hK K hC=>?_) ?_
  ·refine Reg.sO ?_;have e143:=hK.sl 13 rfl;have e148:=hK.sl 18 rfl;clear hK;go_simp;exact hC _ hS
  refine Reg.fS 20 rfl rfl (fun a w hS hK K hC=>?_) ?_
  ·refine Reg.sO ?_;have e149:=hK.sl 19 rfl;clear hK;go_simp;exact hC _ hS
  refine Reg.fS 21 rfl rfl (fun a w hS hK K hC=>?_) ?_
  ·refine Reg.step_on (qaH (g:=20) rfl rfl rfl (hK.sl 20 rfl)) ?_;have e19:=hK.off 19 _ rfl rfl;clear hK;go_simp;exact hC _ hS
  refine Reg.fS 22 rfl rfl (fun a w hS hK K hC=>?_) ?_
  ·refine Reg.step_on (qaH (g:=20) rfl rfl rfl (hK.sl 20 rfl)) ?_;have e151:=hK.sl 21 rfl;clear hK;go_simp;go_at_call 39;(with_reducible refine (HCE.out w hS).mono ?_);rintro e w' ⟨rfl,hb⟩;exact hC w' (qaC hS hb)
  refine Reg.fS 23 rfl rfl (fun a w hS hK K hC=>?_) ?_
  ·refine Reg.step_on (qaH (g:=20) rfl rfl rfl (hK.sl 20 rfl)) ?_;have e4:=hK.off 4 _ rfl rfl;clear hK;go_simp;exact hC _ hS
  refine Reg.fS 24 rfl rfl (fun a w hS hK K hC=>?_) ?_
  ·refine Reg.step_on (qaH (g:=20) rfl rfl rfl (hK.sl 20 rfl)) ?_;have e153:=hK.sl 23 rfl;have z0:=qaF y0 hS;have z1:=qaF y1 hS;have z2:=qaF y2 hS;have z3:=qaF y3 hS;clear hK;go_simp;exact hC _ hS
  refine Reg.fS 25 rfl rfl (fun a w hS hK K hC=>?_) ?_
  ·refine Reg.step_on (qaH (g:=20) rfl rfl rfl (hK.sl 20 rfl)) ?_;have e152:=hK.sl 22 rfl;have e154:=hK.sl 24 rfl;clear hK;go_simp;exact hC _ hS
  refine Reg.fS 26 rfl rfl (fun a w hS hK K hC=>?_) ?_
  ·refine Reg.sO ?_;have e150:=hK.sl 20 rfl;have e155:=hK.sl 25 rfl;clear hK;go_simp;exact hC _ hS
  refine Reg.fS 27 rfl rfl (fun a w hS hK K hC=>?_) ?_
  ·refine Reg.sO ?_;have e156:=hK.sl 26 rfl;clear hK;go_simp;exact hC _ hS
  refine Reg.fS 28 rfl rfl (fun a w hS hK K hC=>?_) ?_
  ·refine Reg.step_on (qaH (g:=27) rfl rfl rfl (hK.sl 27 rfl)) ?_;have e19:=hK.off 19 _ rfl rfl;clear hK;go_simp;exact hC _ hS
  refine Reg.fS 29 rfl rfl (fun a w hS hK K hC=>?_) ?_
  ·refine Reg.step_on (qaH (g:=27) rfl rfl rfl (hK.sl 27 rfl)) ?_;have e158:=hK.sl 28 rfl;clear hK;go_simp;go_at_call 40;(with_reducible refine (HCF.out w hS).mono ?_);rintro e w' ⟨rfl,hb⟩;exact hC w' (qaC hS hb)
  refine Reg.fS 30 rfl rfl (fun a w hS hK K hC=>?_) ?_
  ·refine Reg.step_on (qaH (g:=27) rfl rfl rfl (hK.sl 27 rfl)) ?_;have e159:=hK.sl 29 rfl;clear hK;go_simp;exact hC _ hS
  refine Reg.fS 31 rfl rfl (fun a w hS hK K hC=>?_) ?_
  ·refine Reg.sO ?_;have e157:=hK.sl 27 rfl;have e160:=hK.sl 30 rfl;clear hK;go_simp;exact hC _ hS
  refine Reg.fS 32 rfl rfl (fun a w hS hK K hC=>?_) ?_
  ·refine Reg.sO ?_;have e161:=hK.sl 31 rfl;clear hK;go_simp;exact hC _ hS
  refine Reg.fS 33 rfl rfl (fun a w hS hK K hC=>?_) ?_
  ·refine Reg.step_on (qaH (g:=32) rfl rfl rfl (hK.sl 32 rfl)) ?_;have e19:=hK.off 19 _ rfl rfl;clear hK;go_simp;exact hC _ hS
  refine Reg.fS 34 rfl rfl (fun a w hS hK K hC=>?_) ?_
  ·refine Reg.step_on (qaH (g:=32) rfl rfl rfl (hK.sl 32 rfl)) ?_;have e163:=hK.sl 33 rfl;clear hK;go_simp;go_at_call 41;(with_reducible refine (HCG.out w hS).mono ?_);rintro e w' ⟨rfl,hb⟩;exact hC w' (qaC hS hb)
  refine Reg.fS 35 rfl rfl (fun a w hS hK K hC=>?_) ?_
  ·refine Reg.step_on (qaH (g:=32) rfl rfl rfl (hK.sl 32 rfl)) ?_;have e164:=hK.sl 34 rfl;clear hK;go_simp;exact hC _ hS
  refine Reg.fS 36 rfl rfl (fun a w hS hK K hC=>?_) ?_
  ·refine Reg.sO ?_;have e162:=hK.sl 32 rfl;have e165:=hK.sl 35 rfl;clear hK;go_simp;exact hC _ hS
  refine Reg.fS 37 rfl rfl (fun a w hS hK K hC=>?_) ?_
  ·refine Reg.sO ?_;have e166:=hK.sl 36 rfl;clear hK;go_simp;exact hC _ hS
  refine Reg.fS 38 rfl rfl (fun a w hS hK K hC=>?_) ?_
  ·refine Reg.step_on (qaH (g:=37) rfl rfl rfl (hK.sl 37 rfl)) ?_;have e19:=hK.off 19 _ rfl rfl;clear hK;go_simp;exact hC _ hS
  refine Reg.fS 39 rfl rfl (fun a w hS hK K hC=>?_) ?_
  ·refine Reg.step_on (qaH (g:=37) rfl rfl rfl (hK.sl 37 rfl)) ?_;have e168:=hK.sl 38 rfl;clear hK;go_simp;go_at_call 41;(with_reducible refine (HCG.out w hS).mono ?_);rintro e w' ⟨rfl,hb⟩;exact hC w' (qaC hS hb)
  refine Reg.fS 40 rfl rfl (fun a w hS hK K hC=>?_) ?_
  ·refine Reg.step_on (qaH (g:=37) rfl rfl rfl (hK.sl 37 rfl)) ?_;have e169:=hK.sl 39 rfl;clear hK;go_simp;go_at_call 17;(with_reducible refine (HCH.out w hS).mono ?_);rintro e w' ⟨rfl,hb⟩;exact hC w' (qaC hS hb)
  refine Reg.fS 41 rfl rfl (fun a w hS hK K hC=>?_) ?_
  ·refine Reg.step_on (qaH (g:=37) rfl rfl rfl (hK.sl 37 rfl)) ?_;have e18:=hK.off 18 _ rfl rfl;clear hK;go_simp;exact hC _ hS
  refine Reg.fS 42 rfl rfl (fun a w hS hK K hC=>?_) ?_
  ·refine Reg.step_on (qaH (g:=37) rfl rfl rfl (hK.sl 37 rfl)) ?_;have e171:=hK.sl 41 rfl;clear hK;go_simp;go_at_call 17;(with_reducible refine (HCH.out w hS).mono ?_);rintro e w' ⟨rfl,hb⟩;exact hC w' (qaC hS hb)
  refine Reg.fS 43 rfl rfl (fun a w hS hK K hC=>?_) ?_
  ·refine Reg.step_on (qaH (g:=37) rfl rfl rfl (hK.sl 37 rfl)) ?_;have e170:=hK.sl 40 rfl;have e172:=hK.sl 42 rfl;clear hK;go_simp;exact hC _ hS
  refine Reg.fS 44 rfl rfl (fun a w hS hK K hC=>?_) ?_
  ·refine Reg.sO ?_;have e167:=hK.sl 37 rfl;have e173:=hK.sl 43 rfl;clear hK;go_simp;exact hC _ hS
  refine Reg.fS 45 rfl rfl (fun a w hS hK K hC=>?_) ?_
  ·refine Reg.sO ?_;have e174:=hK.sl 44 rfl;clear hK;go_simp;exact hC _ hS
  exact Reg.from_nil
 case r1okv=>rfl
 case r1hlt=>rfl
 case r1fin =>
  intro wz hS;simp only [Reg.putV,List.foldl_cons,List.foldl_nil,Act.put,List.setIfInBounds_toArray,List.set_cons_zero,List.set_cons_succ];have HBZ:=aM hS;clear hS;go_wp2;go_ret;exact ⟨by first|rfl|simp,qaC HM3.out.below HBZ.out⟩
theorem looks_law (B P Z R leb page:Int) (A:Option Addr) (n c:Nat) (W:World) (aE:Addr) (hgE:gNone W aE) :
  Calls Tryz.prog 7 #[gV B P Z R,.int .i64 leb,.int .i64 page,.slice A n c] W fun e w'=>e=.returned (.bool true)∧Below W.heap.size W w':=by
 cases hg:qbQ B P Z R with
 | false=>exact qvL B P Z R leb page A n c W hg aE hgE
 | true =>
  obtain ⟨h1,h2,h3⟩:=qsJ hg
  obtain ⟨b,rfl⟩:∃ b:Nat,B=(b:Int):=⟨B.toNat,by omega⟩
  obtain ⟨p,rfl⟩:∃ p:Nat,P=(p:Int):=⟨P.toNat,by omega⟩
  obtain ⟨z,rfl⟩:∃ z:Nat,Z=(z:Int):=⟨Z.toNat,by omega⟩
  exact qyE ⟨b,p,z,R⟩ hg leb page A n c W aE hgE
end
end Go.Proofs.YtdlimghdimkadaaGreatDoor.PAll

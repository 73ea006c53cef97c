/- Part 12 of what the law EbmAll rests on. -/
import Derived.Test.YtdlimghdimkadaaGreatDoorR11
import Derived.Deep.Slices
import Derived.SizedLaws
import Derived.ChangeArms
import Derived.Test.YtdlimghdimkadaaGreatDoorR0
set_option maxRecDepth 100000
set_option maxHeartbeats 32000000
set_option linter.unusedSimpArgs false
set_option linter.unusedVariables false
namespace Go.Proofs.YtdlimghdimkadaaGreatDoor.PAll
open Go Go.RowKit YtdlimghdimkadaaGreatDoorW.PrintWords YtdlimghdimkadaaGreatDoorW.PrintLast YtdlimghdimkadaaGreatDoorW.PrintMore
attribute [local go_sem] qdA qcY qdV qdU qcH qcG qcZ qcX
section
open Go.Shelf Plain
variable {w0 W W':World} {gm gc gl cl ge ce:Nat} {a a':AC} {m m':AM}
theorem qxV (n:Nat) (hn:n≤1048576) (w:World):Calls Tryz.prog 97 #[.slice none 0 0,.int .i64 n] w fun e w'=>∃ v:Value,e=.returned v∧Kd.R kB 5 w' w.heap.size (fun _=>True) v (List.replicate n 255)∧Below w.heap.size w w':=by
 obtain ⟨K,h⟩:=qrH [] n hn;have h1:=bits_Fill.calls K none 0 [] (n:Int) (qeZ [] n) w (Kd.R_reads' (Kd.R_nil kB 5 w 0 (fun _=>True))).2.2 (Nat.le_refl _) (h K (Nat.le_refl _));have e:qeZ [] n=List.replicate n 255:=by simp [qeZ]
 rw [e] at h1;exact h1
theorem vbL (h:Man w0 W gm gc gl cl ge ce a m) (hok:m.ok) (leb page:Int) (hpg:page < 4611686018427387904):Calls Tryz.prog 31 #[kp gm,.int .i64 leb,.int .i64 page] W fun x w'=>∃ v:Value,x=.returned (.tuple #[v,.int .i64 (qmI a m leb page).2])∧Kd.R kB 5 w' W.heap.size (fun _=>True) v (qmI a m leb page).1∧Below W.heap.size W w':=by
 have H:=aM h;have hgP:=h.chip.gok.2.1;have hgZ:=h.chip.gok.2.2;have y6:W.cell? ⟨gm,6,none⟩=some (.slice (some ⟨ge,0,none⟩) m.lebs.length ce):=h.cell 6;have HMP:=aM (fun (w:World) (hb:Below W.heap.size W w)=>qcU (h.grow hb));have HPW:=aM (fun (w:World) (hb:Below W.heap.size W w)=>qdR (h.grow hb));have HUS:=aM (fun (w:World) (hb:Below W.heap.size W w)=>qhU (h.grow hb) hok leb);have HFL:=aM (fun (w:World)=>qxV a.g.Z (by omega) w)
 by_cases h1:leb < 0
 ·have d0:decide (leb < 0)=true:=decide_eq_true h1;have d0n:(leb < 0)=True:=eq_true h1;have HE:=aM (show qmI a m leb page=([],22) from if_pos (.inl h1));rw [HE.out];clear h HE hok hgP hgZ h1;go_enter Tryz.func31,Tryz.ntmps31;go_wp2;go_ret2;exact ⟨_,rfl,Kd.R_nil _ _ _ _ _,Below.refl _ _⟩
 have d0:decide (leb < 0)=false:=decide_eq_false h1;have d0n:(leb < 0)=False:=eq_false h1
 by_cases h2:(m.lebs.length:Int)≤leb
 ·have d1:decide ((m.lebs.length:Int)≤leb)=true:=decide_eq_true h2;have d1n:((m.lebs.length:Int)≤leb)=True:=eq_true h2;have HE:=aM (show qmI a m leb page=([],22) from if_pos (.inr (.inl h2)));rw [HE.out];clear h HE hok hgP hgZ h1 h2;go_enter Tryz.func31,Tryz.ntmps31;go_wp2;go_ret2;exact ⟨_,rfl,Kd.R_nil _ _ _ _ _,Below.refl _ _⟩
 have d1:decide ((m.lebs.length:Int)≤leb)=false:=decide_eq_false h2;have d1n:((m.lebs.length:Int)≤leb)=False:=eq_false h2
 by_cases h3:page < 0
 ·have d2:decide (page < 0)=true:=decide_eq_true h3;have d2n:(page < 0)=True:=eq_true h3;have HE:=aM (show qmI a m leb page=([],22) from if_pos (.inr (.inr (.inl h3))));rw [HE.out];clear h HE hok hgP hgZ h1 h2 h3;go_enter Tryz.func31,Tryz.ntmps31;go_wp2;go_ret2;exact ⟨_,rfl,Kd.R_nil _ _ _ _ _,Below.refl _ _⟩
 have d2:decide (page < 0)=false:=decide_eq_false h3;have d2n:(page < 0)=False:=eq_false h3
 by_cases h4:(a.g.P:Int) - 2≤page
 ·have d3:decide ((a.g.P:Int) - 2≤page)=true:=decide_eq_true h4;have d3n:((a.g.P:Int) - 2≤page)=True:=eq_true h4;have HE:=aM (show qmI a m leb page=([],22) from if_pos (.inr (.inr (.inr h4))));rw [HE.out];clear h HE hok hgP hgZ h1 h2 h3 h4;go_enter Tryz.func31,Tryz.ntmps31
  go_wp2_with (first
  | (go_at_call 26;(with_reducible refine (HMP.out _ (Below.refl _ _)).mono ?_);rintro x w2 ⟨rfl,hb2⟩;have HB2:=aM hb2;clear hb2)
  | (go_at_call 96;(with_reducible refine (HPW.out _ HB2.out).mono ?_);rintro x w4 ⟨rfl,hb4⟩;have HB4:=aM (qaD HB2.out hb4);clear hb4)
  | (go_at_call 27;(with_reducible refine (HUS.out _ HB4.out).mono ?_);rintro x w5 ⟨rfl,hb5⟩;have HB5:=aM (qaD HB4.out hb5);clear hb5)
  | (go_at_call 97;(with_reducible refine (HFL.out _).mono ?_);rintro x w6 ⟨v6,rfl,hr6,hb6⟩;have HR6:=aM hr6;have HB6:=aM hb6;clear hb6 hr6))
  go_ret2;exact ⟨_,rfl,Kd.R_nil _ _ _ _ _,HB2.out⟩
 have d3:decide ((a.g.P:Int) - 2≤page)=false:=decide_eq_false h4;have d3n:((a.g.P:Int) - 2≤page)=False:=eq_false h4
 have HE1:=aM (show qmI a m leb page=if ¬ qjR a m=0 then ([],qjR a m) else if (qcB m leb).1.f3≤page then (List.replicate a.g.Z 255,0) else qcE a (m.lebs.getD leb.toNat 0) (page+2) from if_neg (fun h=>by
  rcases h with h|h|h|h
  ·exact h1 h
  ·exact h2 h
  ·exact h3 h
  ·exact h4 h))
 by_cases hpw:qjR a m=0
 ·have HE2:=aM (HE1.out.trans (if_neg (fun h=>h hpw)));rw [hpw] at HPW
  by_cases hu:(qcB m leb).1.f3≤page
  ·have HE3:=aM (HE2.out.trans (if_pos hu));rw [HE3.out];generalize (qcB m leb).1.f3=u at hu HUS;have d5:decide (u≤page)=true:=decide_eq_true hu;have d5n:(u≤page)=True:=eq_true hu;clear h HE1 HE2 HE3 hok hgP hgZ h1 h2 h3 h4 hpw hu;go_enter Tryz.func31,Tryz.ntmps31
   go_upto_region 9 with (first
  | (go_at_call 26;(with_reducible refine (HMP.out _ (Below.refl _ _)).mono ?_);rintro x w2 ⟨rfl,hb2⟩;have HB2:=aM hb2;clear hb2)
  | (go_at_call 96;(with_reducible refine (HPW.out _ HB2.out).mono ?_);rintro x w4 ⟨rfl,hb4⟩;have HB4:=aM (qaD HB2.out hb4);clear hb4)
  | (go_at_call 27;(with_reducible refine (HUS.out _ HB4.out).mono ?_);rintro x w5 ⟨rfl,hb5⟩;have HB5:=aM (qaD HB4.out hb5);clear hb5)
  | (go_at_call 97;(with_reducible refine (HFL.out _).mono ?_);rintro x w6 ⟨v6,rfl,hr6,hb6⟩;have HR6:=aM hr6;have HB6:=aM hb6;clear hb6 hr6))
   have y3:w5.cell? ⟨gm,3,none⟩=some (.int .i64 a.g.Z):=(H.out.grow HB5.out).cell 3
   go_wp2_with (first
  | (go_at_call 26;(with_reducible refine (HMP.out _ (Below.refl _ _)).mono ?_);rintro x w2 ⟨rfl,hb2⟩;have HB2:=aM hb2;clear hb2)
  | (go_at_call 96;(with_reducible refine (HPW.out _ HB2.out).mono ?_);rintro x w4 ⟨rfl,hb4⟩;have HB4:=aM (qaD HB2.out hb4);clear hb4)
  | (go_at_call 27;(with_reducible refine (HUS.out _ HB4.out).mono ?_);rintro x w5 ⟨rfl,hb5⟩;have HB5:=aM (qaD HB4.out hb5);clear hb5)
  | (go_at_call 97;(with_reducible refine (HFL.out _).mono ?_);rintro x w6 ⟨v6,rfl,hr6,hb6⟩;have HR6:=aM hr6;have HB6:=aM hb6;clear hb6 hr6))
   go_ret2;exact ⟨_,rfl,Kd.R_lower HR6.out (qaI HB5.out),qaD HB5.out HB6.out⟩
  ·have HE3:=aM (HE2.out.trans (if_neg hu));rw [HE3.out];generalize (qcB m leb).1.f3=u at hu HUS;have d5:decide (u≤page)=false:=decide_eq_false hu;have d5n:(u≤page)=False:=eq_false hu
   obtain ⟨k,rfl⟩:∃ k:Nat,leb=(k:Int):=⟨leb.toNat,by omega⟩
   rw [Int.toNat_natCast];have hk:k < m.lebs.length:=by omega
   obtain ⟨p,hp⟩:∃ p,p=m.lebs.getD k 0:=⟨_,rfl⟩
   rw [← hp];have HYK:=aM (show ∀ q (hq:q < m.lebs.length),q=k→m.lebs[q]=p by rintro q hq rfl;rw [hp,List.getD_eq_getElem?_getD,List.getElem?_eq_getElem hq];rfl);have HKL:=aM hk;have hq:(k < m.lebs.length)=True:=eq_true hk;have hqi:((k:Int) < (m.lebs.length:Int))=True:=eq_true (by omega);have hwj:wrap64 (page+2)=page+2:=by unfold wrap64;omega
   have hwk:IntKind.i64.wrap (page+2)=page+2:=by rw [qbL];exact hwj
   clear h HE1 HE2 HE3 hok hgP hgZ h1 h2 h3 h4 hpw hu hk hp;go_enter Tryz.func31,Tryz.ntmps31
   go_upto_region 10 with (first
  | (go_at_call 26;(with_reducible refine (HMP.out _ (Below.refl _ _)).mono ?_);rintro x w2 ⟨rfl,hb2⟩;have HB2:=aM hb2;clear hb2)
  | (go_at_call 96;(with_reducible refine (HPW.out _ HB2.out).mono ?_);rintro x w4 ⟨rfl,hb4⟩;have HB4:=aM (qaD HB2.out hb4);clear hb4)
  | (go_at_call 27;(with_reducible refine (HUS.out _ HB4.out).mono ?_);rintro x w5 ⟨rfl,hb5⟩;have HB5:=aM (qaD HB4.out hb5);clear hb5)
  | (go_at_call 97;(with_reducible refine (HFL.out _).mono ?_);rintro x w6 ⟨v6,rfl,hr6,hb6⟩;have HR6:=aM hr6;have HB6:=aM hb6;clear hb6 hr6))
   have H5:=aM (H.out.grow HB5.out);have y0:w5.cell? ⟨gm,0,none⟩=some (cp gc):=H5.out.cell 0;have z6:w5.cell? ⟨gm,6,none⟩=some (.slice (some ⟨ge,0,none⟩) m.lebs.length ce):=H5.out.cell 6;have zk:w5.cell? ⟨ge,k,none⟩=some (.int .i64 p):=by rw [← HYK.out k HKL.out rfl];exact H5.out.b.cell k HKL.out
   have HRD:=aM (fun (w:World) (hb:Below w5.heap.size w5 w)=>(H5.out.grow hb).chip.read p (page+2));generalize hrd:qcE a p (page+2)=rd at HRD;obtain ⟨pg,e9⟩:=rd;simp only at HRD;have HRQ:=aM hrd;clear hrd
   go_region_with (first
    | (go_at_call 77;(with_reducible refine (HRD.out _ (by first|exact qaP (Below.refl _ _)|exact Below.refl _ _)).mono ?_);rintro x w6 ⟨v6,rfl,hr6,hb6⟩;have HR6:=aM hr6;have HB6:=aM hb6;clear hb6 hr6))
   all_goals go_wp2
   all_goals go_ret2
   all_goals rw [HRQ.out]
   all_goals exact ⟨_,rfl,Kd.R_lower HR6.out (qaI (qaP HB5.out)),qaD (qaP HB5.out) HB6.out⟩
 ·have HE2:=aM (HE1.out.trans (if_pos hpw));rw [HE2.out];have d6:(qjR a m==0)=false:=by simp only [beq_eq_false_iff_ne];exact hpw
  have d6p:(qjR a m=0)=False:=eq_false hpw;generalize qjR a m=e at HPW d6 d6p;clear h HE1 HE2 hok hgP hgZ h1 h2 h3 h4 hpw;go_enter Tryz.func31,Tryz.ntmps31
  go_wp2_with (first
  | (go_at_call 26;(with_reducible refine (HMP.out _ (Below.refl _ _)).mono ?_);rintro x w2 ⟨rfl,hb2⟩;have HB2:=aM hb2;clear hb2)
  | (go_at_call 96;(with_reducible refine (HPW.out _ HB2.out).mono ?_);rintro x w4 ⟨rfl,hb4⟩;have HB4:=aM (qaD HB2.out hb4);clear hb4)
  | (go_at_call 27;(with_reducible refine (HUS.out _ HB4.out).mono ?_);rintro x w5 ⟨rfl,hb5⟩;have HB5:=aM (qaD HB4.out hb5);clear hb5)
  | (go_at_call 97;(with_reducible refine (HFL.out _).mono ?_);rintro x w6 ⟨v6,rfl,hr6,hb6⟩;have HR6:=aM hr6;have HB6:=aM hb6;clear hb6 hr6))
  go_ret2;exact ⟨_,rfl,Kd.R_nil _ _ _ _ _,HB4.out⟩
end
section
open Go.Shelf Plain
variable {w0 W W':World} {gm gc gl cl ge ce:Nat} {a a':AC} {m m':AM} {n:Nat} {wr:Int} {g:Geo} {D:Nat→List (List Int)}
def GM (w0 W:World) (gm gc gl cl ge ce:Nat) (g:Geo) (wr:Int) (n:Nat) (D:Nat→List (List Int)):Prop:=∃ a m,Man w0 W gm gc gl cl ge ce a m∧qbP n (-1) a m D∧a.g=g∧a.wrong=wr
def qcK (g:Geo):Nat:=(qeH g.B g.P g.Z g.R).toNat
theorem qeS {g:Geo} (hr:qbM g.B g.P g.Z g.R=true):(qcK g:Int)=qeH g.B g.P g.Z g.R∧10≤qcK g∧qcK g+2≤g.B∧g.B≤256:=by
 obtain ⟨h1,h2,h3,h4,h5⟩:=qeG hr;unfold qcK;rw [h1];omega
theorem GM.grow (h:GM w0 W gm gc gl cl ge ce g wr n D) (hb:Below W.heap.size W W'):GM w0 W' gm gc gl cl ge ce g wr n D:=by
 obtain ⟨a,m,h1,h2⟩:=h;exact ⟨a,m,h1.grow hb,h2⟩
theorem GM.less (h:GM w0 W gm gc gl cl ge ce g wr n D) {q:Nat} (hq:q≤n):GM w0 W gm gc gl cl ge ce g wr q D:=by
 obtain ⟨a,m,h1,h2,h3⟩:=h;exact ⟨a,m,h1,h2.less hq,h3⟩
theorem GM.below (h:GM w0 W gm gc gl cl ge ce g wr n D):Below w0.heap.size w0 W:=by
 obtain ⟨a,m,h1,h2,rfl,-⟩:=h;exact h1.chip.below
theorem qkL (h:qdQ w0 W gc (qnY g [])) (aE:Addr) (hgE:gNone w0 aE) (hr:qbM g.B g.P g.Z g.R=true) (hn:(n:Int) < 2147483000) :
  Calls Tryz.prog 23 #[cp gc] W fun x w'=>∃ gm gl cl ge ce:Nat,x=.returned (.tuple #[kp gm,.int .i64 0])∧GM w0 w' gm gc gl cl ge ce g 0 n (fun _=>[])∧MK [] W w'∧W.heap.size≤gm∧W.heap.size≤gl∧W.heap.size≤ge:=by
 have hg:GOK g:=h.gok;obtain ⟨h1,h2,h3,h4⟩:=qeS hr;have hp:=qxT (n:=n) g hg hr hn;obtain ⟨a',m',e,hG,g1,g2,g3,-⟩:=hp.format (by omega) (qcK g) h1;refine (qwC h hp.by_ aE hgE rfl (qcK g) h1 (by show qcK g≤g.B;omega) (hp.spent _ rfl (by simp only [qcD,List.length_map,List.length_range];exact h1)) _ e rfl).mono ?_;rintro x w' ⟨gm,gl,cl,ge,ce,hx,hm,hk,hf⟩;exact ⟨gm,gl,cl,ge,ce,hx,⟨a',m',hm,hG,g1,g2⟩,hk,hf⟩
theorem qkW (h:GM w0 W gm gc gl cl ge ce g wr n D) (aE:Addr) (hgE:gNone w0 aE) :
  Calls Tryz.prog 29 #[cp gc] W fun x w'=>∃ gm gl cl ge ce:Nat,x=.returned (.tuple #[kp gm,.int .i64 0])∧GM w0 w' gm gc gl cl ge ce g wr n D∧MK [] W w'∧W.heap.size≤gm∧W.heap.size≤gl∧W.heap.size≤ge:=by
 obtain ⟨a,m,hM,hG0,rfl,rfl⟩:=h;obtain ⟨h1,h2,h3,h4⟩:=qeS hG0.rg;have hG:=hG0.attach;have hnl:m.lebs.length=qcK a.g:=by have:=hG0.lbs;omega
 rw [hnl] at hG
 have e:qyF a.g.B 0 a (qcD (qdE a) (qcK a.g))=(0,a,qcD (qdE a) (qcK a.g)):=qpB _ _ _ _ fun j _ hj=>by
  rcases hG.bl j (by omega) (by omega) with ⟨hl,-⟩|⟨q,seq,l2,s,-,-,h4,-,-⟩
  ·rw [hl];exact of_decide_eq_true rfl
  ·rw [h4];exact of_decide_eq_true rfl
 refine (qwG hM.chip hG.by_ aE hgE hG.off (qcK a.g) h1 (by omega) _ e rfl).mono ?_;rintro x w' ⟨gm,gl,cl,ge,ce,hx,hm,hk,hf⟩;exact ⟨gm,gl,cl,ge,ce,hx,⟨a,_,hm,hG,rfl,rfl⟩,hk,hf⟩
theorem qbP.ready (h:qbP n (-1) a m D) {k:Nat} (hk:k < m.lebs.length) {xss:List (List Int)} (hx:xss.length+2≤a.g.P) (hz:∀ x,x ∈ xss→x.length≤a.g.Z):qfX a m (k:Int) xss=0:=by
 have hb:qvQ a.g.Z xss=false:=by
  unfold qvQ;rw [List.any_eq_false];intro x hx;simp only [decide_eq_true_eq];have:=hz x hx;omega
 have hpw:qjR a m=0:=by unfold qjR;rw [h.dead,h.off];rfl
 unfold qfX
 rw [if_neg (fun h2=>by
  rcases h2 with h2|h2|h2|h2
  ·omega
  ·omega
  ·omega
  ·rw [hb] at h2;exact absurd h2 (by decide)),if_neg (fun h2=>h2 hpw),if_neg (by rw [h.spent.1];decide)]
theorem qlK (h:GM w0 W gm gc gl cl ge ce g wr (n+1) D) (k:Nat) (hk:k < qcK g) (A:Option Addr) (c:Nat) (x:List Int) (hc:x.length≤c) (hx:∀ w',Below w0.heap.size w0 w'→MK [gm,gl,ge] W w'→Kd.C kB w' A x.length x) (hd:(D k).length+2 < g.P) (hz:x.length≤g.Z) (hxb:qbA x) :
  Calls Tryz.prog 25 #[kp gm,.int .i64 k,.slice A x.length c] W fun z w'=>z=.returned (.int .i64 0)∧GM w0 w' gm gc gl cl ge ce g wr n (qiV D k (D k ++ [x]))∧MK [gm,gl,ge] W w':=by
 obtain ⟨a,m,hM,hG,rfl,rfl⟩:=h;have hnl:m.lebs.length=qcK a.g:=by have:=hG.lbs;have:=(qeS hG.rg).1;omega
 have hkl:k < m.lebs.length:=by omega
 obtain ⟨a1,m1,e1,hG1,g1,g2,g3,i,hi⟩:=hG.claim hkl (qcA m.l);obtain ⟨a2,m2,e2,g4,g5,g6,hG2⟩:=hG1.write (by omega) hi (x:=x) (by rw [g1];exact hd) (by rw [g1];exact hz) hxb (fun b o=>(0,b,o)) 0;have hbk:=hG.blk hkl
 have hwA:qeE (fun b o=>(0,b,o)) 1 a m k x=(0,a2,m2):=by
  unfold qeE;rw [e1,if_pos rfl];exact e2
 have hw:∀ w,Below W.heap.size W w→Calls Tryz.prog 91 #[kp gm,.int .i64 k,.slice A x.length c] w fun z w'=>∃ v:Value,z=.returned v∧EV w' v ((0,a2,m2):Int × AC × AM).1∧Man w0 w' gm gc gl cl ge ce ((0,a2,m2):Int × AC × AM).2.1 ((0,a2,m2):Int × AC × AM).2.2∧MK [gm,gl,ge] w w':=fun w hb=>by
  have key:=qwI (hM.grow hb) hG.sq.1 k hkl A c x (fun w' hb2 hk2=>hx w' hb2 ((MK.of_below hb).trans hk2)) hc (fun b o=>(0,b,o)) 1 (fun q b o=>q ≠ 0∧b=a1∧o=m1) (fun _=>⟨by decide,by rw [e1],by rw [e1]⟩) (fun b o h=>h.1 rfl)
   (fun q b o h=>by
    obtain ⟨-,rfl,rfl⟩:=h;have hb1:=hG1.blk (k:=k) (by omega);have hgP:=hG.gok.2.1
    exact ⟨hG1.ok,by omega,⟨i,hi⟩,by rw [hb1.1];omega,by rw [hb1.1];omega⟩)
   (fun q w b o h h5 _=>by
    exfalso
    obtain ⟨-,rfl,rfl⟩:=h;have hb1:=hG1.blk (k:=k) (by omega);obtain ⟨a3,e3,-⟩:=hG1.prog (by omega) hi (x:=x) (by rw [g1];exact hd) (by rw [g1];exact hz) hxb;rw [hi,hb1.1,e3] at h5
    exact absurd h5 (of_decide_eq_true rfl))
  rw [hwA] at key;exact key
 refine (qyL hM hG.ok (k:Int) A c x hc hx (hG.ready hkl (xss:=[x]) (by show 1+2≤a.g.P;omega) (fun y hy=>by rw [List.mem_singleton.1 hy];exact hz)) hbk.2 (by rw [hbk.1];omega) (0,a2,m2) hw (fun w v _ hv=>qpJ _ rfl w v hv)).mono ?_;rintro z w' ⟨rfl,hm,hk⟩;exact ⟨rfl,⟨a2,m2,hm,hG2,g4.trans g1,g5.trans g2⟩,hk⟩
theorem qhG (h:GM w0 W gm gc gl cl ge ce g wr (n+2) D) (k:Nat) (hk:k < qcK g) (A:Option Addr) (c:Nat) (xss:List (List Int)) (hc:xss.length≤c) (hp:qdW [gm,gl,ge] w0 W A xss) (hx:xss.length+2≤g.P) (hz:∀ x,x ∈ xss→x.length≤g.Z) (hxb:∀ x,x ∈ xss→qbA x) :
  Calls Tryz.prog 28 #[kp gm,.int .i64 k,.slice A xss.length c] W fun z w'=>z=.returned (.int .i64 0)∧GM w0 w' gm gc gl cl ge ce g wr n (qiV D k xss)∧MK [gm,gl,ge] W w':=by
 obtain ⟨a,m,hM,hG,rfl,rfl⟩:=h;have hnl:m.lebs.length=qcK a.g:=by have:=hG.lbs;have:=(qeS hG.rg).1;omega
 have hkl:k < m.lebs.length:=by omega
 obtain ⟨i,hi,e1,hf⟩:=hG.pick;obtain ⟨a2,m2,e2,g1,g2,g3,hG2⟩:=hG.moved hkl (pk:=pkL) (pg:=fun _ _=>xss) hi e1 hf (xss.length:Int) ⟨by omega,Int.le_refl _⟩ hx hz hxb (qcA m.l)
 have hss:∀ x,x ∈ [gm,gl]→x ∈ [gm,gl,ge]:=fun z hz=>by
  simp only [List.mem_cons,List.not_mem_nil,or_false] at hz ⊢
  rcases hz with h|h
  ·exact .inl h
  ·exact .inr (.inl h)
 refine (qwD hM (k:Int) A c xss hc hp (hG.ready hkl hx hz) (0,a2,m2) (fun w g9 hb hg=>?_) (fun w v _ hv=>qpJ _ rfl w v hv)).mono ?_
 ·have hM2:=hM.grow hb;have hpl:=quC hM2 hG.sq.1 (k:Int) (xss.length:Int) A c xss hc ((hp.mono hss).later (MK.of_below hb)) g9 hg;have hlb:=qiH pkL (fun _ _=>xss) (k:Int) (xss.length:Int) (qcA m.l+1) true a m;have hpg:=quD pkL (fun _ _=>xss) (k:Int) (xss.length:Int) (qcA m.l+1) true a m
  have key:=qwY hM2 k hkl [gm,gl,ge] (fun z hz=>hz) (xss.length:Int) _ _ _ (hpl.mono (fun x w' h=>by
   obtain ⟨v,h1,h2,h3,h4⟩:=h
   exact ⟨v,h1,h2,h3,h4.mono hss⟩)) hlb (hG.ok k hkl) hpg
  rw [show qoA (qaZ pkL (fun _ _=>xss) (k:Int) (xss.length:Int) (qcA m.l+1) true a m) m k=(0,a2,m2) from e2] at key;exact key
 ·rintro z w' ⟨rfl,hm,hk⟩;exact ⟨rfl,⟨a2,m2,hm,hG2,g1,g2⟩,hk⟩
theorem qrP (h:GM w0 W gm gc gl cl ge ce g wr (n+1) D) (k:Nat) (hk:k < qcK g) :
  Calls Tryz.prog 37 #[kp gm,.int .i64 k] W fun z w'=>z=.returned (.int .i64 0)∧GM w0 w' gm gc gl cl ge ce g wr n (qiV D k [])∧MK [gm,gl,ge] W w':=by
 obtain ⟨a,m,hM,hG,rfl,rfl⟩:=h;have hnl:m.lebs.length=qcK a.g:=by have:=hG.lbs;have:=(qeS hG.rg).1;omega
 have hkl:k < m.lebs.length:=by omega
 have hgP:=hG.gok.2.1;obtain ⟨a2,m2,e2,g1,g2,g3,hG2⟩:=hG.unmap hkl;have key:=qyM hM hG.ok k hkl (hG.ready hkl (xss:=[]) (by show 0+2≤a.g.P;omega) (fun x hx=>nomatch hx)) (fun w v _ hv=>qpJ _ (by rw [e2]) w v hv);rw [e2] at key;refine key.mono ?_;rintro z w' ⟨rfl,hm,hk⟩;exact ⟨rfl,⟨a2,m2,hm,hG2,g1,g2⟩,hk⟩
theorem qfU (h:GM w0 W gm gc gl cl ge ce g wr n D) (k:Nat) (hk:k < qcK g) :
  Calls Tryz.prog 27 #[kp gm,.int .i64 k] W fun z w'=>z=.returned (.int .i64 (D k).length)∧Below W.heap.size W w':=by
 obtain ⟨a,m,hM,hG,rfl,rfl⟩:=h;have hnl:m.lebs.length=qcK a.g:=by have:=hG.lbs;have:=(qeS hG.rg).1;omega
 have key:=qhU hM hG.ok (k:Int);rw [(hG.blk (k:=k) (by omega)).1] at key;exact key
theorem qkB (h:GM w0 W gm gc gl cl ge ce g wr n D):Calls Tryz.prog 24 #[kp gm] W fun z w'=>z=.returned (.int .i64 (qcK g))∧Below W.heap.size W w':=by
 obtain ⟨a,m,hM,hG,rfl,rfl⟩:=h;have hnl:m.lebs.length=qcK a.g:=by have:=hG.lbs;have:=(qeS hG.rg).1;omega
 have key:=qwZ hM;rw [hnl] at key;exact key
theorem qlR (h:GM w0 W gm gc gl cl ge ce g wr n D):Calls Tryz.prog 26 #[kp gm] W fun z w'=>z=.returned (.int .i64 ((g.P:Int) - 2))∧Below W.heap.size W w':=by
 obtain ⟨a,m,hM,hG,rfl,rfl⟩:=h;exact qcU hM
theorem qfY (h:GM w0 W gm gc gl cl ge ce g wr n D) (k:Nat) (hk:k < qcK g) (p:Nat) (hp:p+2 < g.P) :
  Calls Tryz.prog 31 #[kp gm,.int .i64 k,.int .i64 p] W fun z w'=>∃ v:Value,z=.returned (.tuple #[v,.int .i64 0])∧Kd.R kB 5 w' W.heap.size (fun _=>True) v ((D k).getD p [] ++ List.replicate (g.Z - ((D k).getD p []).length) 255)∧Below W.heap.size W w':=by
 obtain ⟨a,m,hM,hG,rfl,rfl⟩:=h;have hnl:m.lebs.length=qcK a.g:=by have:=hG.lbs;have:=(qeS hG.rg).1;omega
 have hgP:=hG.gok.2.1;have key:=vbL hM hG.ok (k:Int) (p:Int) (by omega);rw [hG.read (by omega) hp] at key;exact key
end
section
open Go.Shelf Plain
variable {w0 W W':World} {gm gc gl cl ge ce:Nat} {a a':AC} {m m':AM} {n:Nat} {wr:Int} {g:Geo} {D:Nat→List (List Int)}
theorem vdY {k:Nat} {x:Int} {fr:Nat × Nat} (hx:W.heap[k]?=some (.cells #[.int .u8 x] 5 fr)):Kd.C kB W (some ⟨k,0,none⟩) 1 [x]:=by
 refine ⟨rfl,(by show (1:Nat)≤_;decide),fun _=>⟨_,rfl,fun j p hj=>?_⟩⟩
 match j,hj with
 | 0,hj =>
  cases hj
  refine ⟨[.int .u8 x],rfl,rfl,fun i u hi=>?_⟩
  match i,hi with
  | 0,hi=>cases hi;simp [World.cell?,hx,Addr.add]
  | i+1,hi=>simp at hi
 | j+1,hj=>simp at hj
theorem veN {s:List Nat} {w':World} (h:MK s W w') {base:Nat} {ok:Nat→Prop} {v:Value} {l:List Int} (hr:Kd.R kB 5 W base ok v l):Kd.R kB 5 w' base ok v l :=
 Kd.R_mono (Kd.R_move (Kd.R_bound hr) (fun k hk=>by
  obtain ⟨_,_,_,q,hq,cells,hc⟩:=hk;have hq2:q=5:=by simpa [Kd.int,Kd.scalar] using hq
  subst hq2;rw [hc]
  exact h.far (by decide) hc)) (fun _ hk=>hk.1)
def KM (W:World) (gm nl:Nat):Prop:=∃ (cs:Array Value) (A:Option Addr) (c:Nat),W.heap[gm]?=some (.cells cs 129 (0,0))∧cs[6]?=some (.slice A nl c)
theorem GM.km (h:GM w0 W gm gc gl cl ge ce g wr n D):KM W gm (qcK g):=by
 obtain ⟨a,m,hM,hG,rfl,rfl⟩:=h;have hnl:m.lebs.length=qcK a.g:=by have:=hG.lbs;have:=(qeS hG.rg).1;omega
 refine ⟨_,some ⟨ge,0,none⟩,ce,hM.c,?_⟩;rw [← hnl];rfl
theorem KM.mk {s:List Nat} {nl:Nat} (h:KM W gm nl) (hk:MK s W W') (hn:gm ∉ s):KM W' gm nl:=by
 obtain ⟨cs,A,c,h1,h2⟩:=h;exact ⟨cs,A,c,hk.out (by decide) hn h1,h2⟩
theorem KM.lt {nl:Nat} (h:KM W gm nl):gm < W.heap.size:=by
 obtain ⟨cs,A,c,h1,h2⟩:=h;exact qcS h1
theorem vaN {nl:Nat} (h:KM W gm nl):Calls Tryz.prog 24 #[kp gm] W fun x w'=>x=.returned (.int .i64 nl)∧Below W.heap.size W w':=by
 obtain ⟨cs,A,c,h1,h2⟩:=h;have c6:W.cell? ⟨gm,6,none⟩=some (.slice A nl c):=(Joins.cell_of_block h1 6).trans h2;clear h1 h2;go_enter Tryz.func24,Tryz.ntmps24;go_wp2;go_ret;exact ⟨rfl,Below.refl _ _⟩
theorem qmG (A0:Option Addr) (c0:Nat) (A1:Option Addr) (c1:Nat) (l:List Int) (w:World) (hr0:Kd.C kB w A0 l.length l) (hc0:l.length≤c0) (hr1:Kd.C kB w A1 l.length l) (hc1:l.length≤c1) :
  Calls Tryz.prog 32 #[.slice A0 l.length c0,.slice A1 l.length c1] w fun e w'=>e=.returned (.bool true)∧Below w.heap.size w w':=by
 refine (pumicelaw01_Same.calls A0 c0 l A1 c1 l true w hr0 hc0 hr1 hc1 (by unfold pumicelaw01_Same.f;simp)).mono ?_;rintro e w' ⟨rfl,hd⟩;exact ⟨rfl,hd.below⟩
abbrev pg1 (x:Int):List Int:=[x] ++ List.replicate 127 255
theorem quE (x:Int):(pg1 x).length=128:=by simp [pg1]
theorem qlV {x:Int} {A:Option Addr} {c:Nat} {base:Nat} (hr:Kd.R kB 5 W base (fun _=>True) (.slice A (pg1 x).length c) (pg1 x)):∃ ad,A=some ad∧W.cell? ad=some (.int .u8 x):=by
 obtain ⟨-,-,hC⟩:=Kd.R_reads' hr;obtain ⟨ad,cs,e0,-,hK,hc⟩:=Kd.C_get hC 0 0 (by omega) (by rw [quE];decide);refine ⟨ad,e0,?_⟩;have h1:=hc 0;have hcs:cs=[.int .u8 x]:=hK;rw [hcs] at h1;have h2:=h1 _ rfl
 simpa [Addr.add] using h2
theorem qsK:qcK qfQ=12:=by
 have h:qeH (qfQ.B:Int) qfQ.P qfQ.Z qfQ.R=12:=qsJ;unfold qcK;rw [h];rfl
end
section
open Go.Shelf Plain
variable {w0 W W':World} {gm gc gl cl ge ce:Nat} {a a':AC} {m m':AM} {n:Nat} {wr:Int} {g:Geo} {D:Nat→List (List Int)}
theorem qvO {x:Int} (h:0≤x∧x < 256):qbA [x]:=fun y hy=>by rw [List.mem_singleton.1 hy];exact h
theorem qkX (aE:Addr) (w:World) (hg:gNone w aE):Calls Tryz.prog 22 #[] w fun e w'=>e=.returned (.bool true)∧Below w.heap.size w w':=by
 have HSM:=aM qwL;have HNW:=aM quN;have HG:=aM hg;have HR:=aM (show qbM qfQ.B qfQ.P qfQ.Z qfQ.R=true by kernel_rfl);have hL:=qsK;have hcv:=fun (w:World) (x:Int)=>Lib.run_convert_bytes_const (P:=Tryz.prog) w 35 5 #[.int .u8 x] 1 1 Tryz.underlying35 Tryz.underlying5
 have HLL:=aM hL;clear hg hL;go_enter Tryz.func22,Tryz.ntmps22
 go_upto_region 2 with (first
  | (go_at_call 55;(with_reducible refine (HSM.out _).mono ?_);rintro e w1 ⟨rfl,hb1⟩;have HB1:=aM hb1;clear hb1)
  | (go_at_call 11;(with_reducible refine (HNW.out _).mono ?_);rintro e w2 ⟨gc,rfl,hc2⟩;have HC2:=aM (hc2.lower HB1.out);clear hc2))
 have HFM:=aM (qkL (n:=20) HC2.out aE HG.out HR.out (by decide))
 go_upto_region 5 with (first
  | (go_at_call 23;(with_reducible refine HFM.out.mono ?_);rintro e w3 ⟨gm,gl,cl,ge,ce,rfl,hm3,hk3,hf3⟩;have HM3:=aM hm3;clear hm3 hk3 hf3))
 have HX3:=aM (World.alloc_heap_new w3 (.cells #[.int .u8 97] 5 (1,2)));have HBA3:=aM (qaB (Below.refl w3.heap.size w3) (.cells #[.int .u8 97] 5 (1,2)));have HGA3:=aM (HM3.out.grow HBA3.out);have HW3:=aM (show Calls Tryz.prog 25 #[kp gm,.int .i64 0,.slice (some ⟨w3.heap.size,0,none⟩) 1 1] (w3.alloc (.cells #[.int .u8 97] 5 (1,2))) _ from qlK (n:=19) HGA3.out 0 (by rw [HLL.out];decide) (some ⟨w3.heap.size,0,none⟩) 1 [97] (by decide) (fun w' _ hk=>vdY (hk.far (by decide) HX3.out)) (by decide) (by decide) (qvO (by decide)))
 go_upto_region 6 with (first
  | (go_at_call 25;(with_reducible refine HW3.out.mono ?_);rintro e w4 ⟨rfl,hm4,hk4⟩;have HM4:=aM hm4;clear hm4 hk4))
 have HX4:=aM (World.alloc_heap_new w4 (.cells #[.int .u8 98] 5 (1,2)));have HBA4:=aM (qaB (Below.refl w4.heap.size w4) (.cells #[.int .u8 98] 5 (1,2)));have HGA4:=aM (HM4.out.grow HBA4.out);have HW4:=aM (show Calls Tryz.prog 25 #[kp gm,.int .i64 0,.slice (some ⟨w4.heap.size,0,none⟩) 1 1] (w4.alloc (.cells #[.int .u8 98] 5 (1,2))) _ from qlK (n:=18) HGA4.out 0 (by rw [HLL.out];decide) (some ⟨w4.heap.size,0,none⟩) 1 [98] (by decide) (fun w' _ hk=>vdY (hk.far (by decide) HX4.out)) (by decide) (by decide) (qvO (by decide)))
 go_upto_region 7 with (first
  | (go_at_call 25;(with_reducible refine HW4.out.mono ?_);rintro e w5 ⟨rfl,hm5,hk5⟩;have HM5:=aM hm5;clear hm5 hk5))
 have HRD5:=aM (show Calls Tryz.prog 31 #[kp gm,.int .i64 0,.int .i64 1] w5 (fun z w'=>∃ v:Value,z=.returned (.tuple #[v,.int .i64 0])∧Kd.R kB 5 w' w5.heap.size (fun _=>True) v (pg1 98)∧Below w5.heap.size w5 w') from qfY HM5.out 0 (by rw [HLL.out];decide) 1 (by decide))
 go_upto_region 8 with (first
  | (go_at_call 31;(with_reducible refine HRD5.out.mono ?_);rintro e w6 ⟨v6,rfl,hr6,hb6⟩;obtain ⟨A6,c6,e6⟩:=Kd.R_slice hr6;subst e6;have HR6:=aM hr6;have HM6:=aM (HM5.out.grow hb6);clear hr6 hb6))
 have HU6:=aM (show Calls Tryz.prog 27 #[kp gm,.int .i64 0] w6 (fun z w'=>z=.returned (.int .i64 2)∧Below w6.heap.size w6 w') from qfU HM6.out 0 (by rw [HLL.out];decide))
 go_upto_region 9 with (first
  | (go_at_call 27;(with_reducible refine HU6.out.mono ?_);rintro e w7 ⟨rfl,hb7⟩;have HM7:=aM (HM6.out.grow hb7);have HR7:=aM (Kd.R_below HR6.out hb7);clear hb7))
 have HX7:=aM (World.alloc_heap_new w7 (.cells #[.int .u8 99] 5 (1,2)));have HBA7:=aM (qaB (Below.refl w7.heap.size w7) (.cells #[.int .u8 99] 5 (1,2)));have HGA7:=aM (HM7.out.grow HBA7.out)
 obtain ⟨W8,hW8⟩:∃ W8,W8=w7.alloc (.cells #[.int .u8 99] 5 (1,2)):=⟨_,rfl⟩
 have HA8:=aM (qaO W8 #[.slice (some ⟨w7.heap.size,0,none⟩) 1 1] 35);have HB8:=aM (qaB (Below.refl W8.heap.size W8) (.cells #[.slice (some ⟨w7.heap.size,0,none⟩) 1 1] 35));have HX8:=aM (show W8.heap[w7.heap.size]?=some (.cells #[.int .u8 99] 5 (1,2)) by rw [hW8];exact HX7.out);have HM8:=aM (show GM w W8 gm gc gl cl ge ce qfQ 0 18 _ by rw [hW8];exact HGA7.out);have HR8:=aM (show Kd.R kB 5 (W8.alloc (.cells #[.slice (some ⟨w7.heap.size,0,none⟩) 1 1] 35)) _ (fun _=>True) _ _ from Kd.R_below (show Kd.R kB 5 W8 _ (fun _=>True) _ _ by rw [hW8];exact Kd.R_below HR7.out HBA7.out) HB8.out);have HW8:=aM (show Calls Tryz.prog 28 #[kp gm,.int .i64 0,.slice (some ⟨W8.heap.size,0,none⟩) 1 1] (W8.alloc (.cells #[.slice (some ⟨w7.heap.size,0,none⟩) 1 1] 35)) _ from qhG (n:=16) (HM8.out.grow HB8.out) 0 (by rw [HLL.out];decide) (some ⟨W8.heap.size,0,none⟩) 1 [[99]] (by decide) (qjU HA8.out (by decide) (fun w' _ hk=>vdY (hk.far (by decide) ((HB8.out.block _ (qcS HX8.out)).trans HX8.out)))) (by decide) (fun x hx=>by rw [List.mem_singleton.1 hx];decide) (fun x hx=>by rw [List.mem_singleton.1 hx];exact qvO (by decide)));rw [show W8.heap.size=w7.heap.size+1 by rw [hW8];exact Array.size_push ..] at HW8;rw [hW8] at HW8 HR8;clear HA8 HB8 HX8 HM8 hW8
 go_upto_region 10 with (first
  | (go_at_call 28;(with_reducible refine HW8.out.mono ?_);rintro e w9 ⟨rfl,hm9,hk9⟩;have HM9:=aM hm9;have HR9:=aM (veN hk9 HR8.out);clear hm9 hk9))
 have HRD9:=aM (show Calls Tryz.prog 31 #[kp gm,.int .i64 0,.int .i64 0] w9 (fun z w'=>∃ v:Value,z=.returned (.tuple #[v,.int .i64 0])∧Kd.R kB 5 w' w9.heap.size (fun _=>True) v (pg1 99)∧Below w9.heap.size w9 w') from qfY HM9.out 0 (by rw [HLL.out];decide) 0 (by decide))
 go_upto_region 11 with (first
  | (go_at_call 31;(with_reducible refine HRD9.out.mono ?_);rintro e w10 ⟨v10,rfl,hr10,hb10⟩;obtain ⟨A10,c10,e10⟩:=Kd.R_slice hr10;subst e10;have HQ10:=aM hr10;have HM10:=aM (HM9.out.grow hb10);have HR10:=aM (Kd.R_below HR9.out hb10);clear hr10 hb10))
 have HAT:=aM (qkW HM10.out aE HG.out);have HKM:=aM HM10.out.km
 go_upto_region 14 with (first
  | (go_at_call 29;(with_reducible refine HAT.out.mono ?_);rintro e w11 ⟨gm2,gl2,cl2,ge2,ce2,rfl,hm11,hk11,hf1,hf2,hf3⟩;have HM11:=aM hm11;have HR11:=aM (veN hk11 HR10.out);have HQ11:=aM (veN hk11 HQ10.out);have HK11:=aM (HKM.out.mk hk11 (by simp));have HNE:=aM (show gm ∉ [gm2,gl2,ge2] from (by have:=HKM.out.lt;simp only [List.mem_cons,List.not_mem_nil,or_false];omega));clear hm11 hk11 hf1 hf2 hf3))
 have HRD11:=aM (show Calls Tryz.prog 31 #[kp gm2,.int .i64 0,.int .i64 0] w11 (fun z w'=>∃ v:Value,z=.returned (.tuple #[v,.int .i64 0])∧Kd.R kB 5 w' w11.heap.size (fun _=>True) v (pg1 99)∧Below w11.heap.size w11 w') from qfY HM11.out 0 (by rw [HLL.out];decide) 0 (by decide))
 go_upto_region 15 with (first
  | (go_at_call 31;(with_reducible refine HRD11.out.mono ?_);rintro e w12 ⟨v12,rfl,hr12,hb12⟩;obtain ⟨A12,c12,e12⟩:=Kd.R_slice hr12;subst e12;have HS12:=aM hr12;have HM12:=aM (HM11.out.grow hb12);have HR12:=aM (Kd.R_below HR11.out hb12);have HQ12:=aM (Kd.R_below HQ11.out hb12);have HK12:=aM (HK11.out.mk (MK.of_below (s:=[]) hb12) (by simp));clear hr12 hb12))
 obtain ⟨ad6,rfl,y6⟩:=qlV HR12.out;obtain ⟨ad10,rfl,y10⟩:=qlV HQ12.out
 have HSA:=aM (show Calls Tryz.prog 32 #[.slice (some ad10) 128 c10,.slice A12 128 c12] w12 (fun e w'=>e=.returned (.bool true)∧Below w12.heap.size w12 w') from (by
  have h:=qmG (some ad10) c10 A12 c12 (pg1 99) w12 (Kd.R_reads' HQ12.out).2.2 (Kd.R_reads' HQ12.out).2.1 (Kd.R_reads' HS12.out).2.2 (Kd.R_reads' HS12.out).2.1;rw [quE] at h
  exact h))
 go_wp2_with (first
  | (go_at_call 32;(with_reducible refine HSA.out.mono ?_);rintro e w13 ⟨rfl,hb13⟩;have HU13:=aM (show Calls Tryz.prog 37 #[kp gm2,.int .i64 0] w13 _ from qrP (n:=15) (HM12.out.grow hb13) 0 (by rw [HLL.out];decide));have HK13:=aM (HK12.out.mk (MK.of_below (s:=[]) hb13) (by simp));clear hb13)
  | (go_at_call 37;(with_reducible refine HU13.out.mono ?_);rintro e w14 ⟨rfl,hm14,hk14⟩;have HM14:=aM hm14;have HUS:=aM (show Calls Tryz.prog 27 #[kp gm2,.int .i64 0] w14 (fun z w'=>z=.returned (.int .i64 0)∧Below w14.heap.size w14 w') from qfU hm14 0 (by rw [HLL.out];decide));have HK14:=aM (HK13.out.mk hk14 HNE.out);clear hm14 hk14)
  | (go_at_call 27;(with_reducible refine HUS.out.mono ?_);rintro e w15 ⟨rfl,hb15⟩;have HM15:=aM (HM14.out.grow hb15);have HLB:=aM (show Calls Tryz.prog 24 #[kp gm] w15 (fun x w'=>x=.returned (.int .i64 12)∧Below w15.heap.size w15 w') from (by have h:=vaN (HK14.out.mk (MK.of_below (s:=[]) hb15) (by simp));rw [HLL.out] at h;exact h));clear hb15)
  | (go_at_call 24;(with_reducible refine HLB.out.mono ?_);rintro e w16 ⟨rfl,hb16⟩;have HB16:=aM hb16;clear hb16))
 go_ret;exact ⟨rfl,qaD HM15.out.below HB16.out⟩
end
end Go.Proofs.YtdlimghdimkadaaGreatDoor.PAll
namespace Go.Proofs.YtdlimghdimkadaaGreatDoor.Opens
open Go Go.Deep YtdlimghdimkadaaGreatDoorW.PrintWords
def Opens {α:Type} (P:Program) (t:TypeId) (d:Kd α) (G:α→Prop):Prop :=
 ∀ {H:Type} (enc:TypeId × Value→H) (W:World) (held:Bool) (fuel:Nat) (cs:List Value) (x:DataW H) (ps:List MemPlace),DataW.trod enc P W 0 (fun _=>true) held fuel t cs=some (x,ps)→(∀ n ∈ x.weights P t,n≤reachBytes)→∃ a:α,d.K W a cs∧G a
theorem Opens.int {P:Program} {t:TypeId} {k:IntKind} (ht:P.underlying t=some (.int k)):Opens P t (Kd.int k) (fun n=>(Lit.int k n).wf=true):=by
 intro H enc W held fuel cs x ps h _;obtain ⟨n,rfl,_,hw⟩:=DataW.trod_int ht h;exact ⟨n,rfl,hw⟩
theorem qyA {W:World} {base n:Nat} {a:Addr} {cs:List Value} (h:W.cells? base a n=some cs):cs.length=n∧∀ j u,cs[j]?=some u→W.cell? (a.add j)=some u:=by
 obtain ⟨_,hl,he⟩:=World.cells?_some h;refine ⟨hl,fun j u hu=>?_⟩
 have hj:j < n:=by
  have:=(List.getElem?_eq_some_iff.1 hu).1;omega
 rw [he j hj];exact hu
theorem Opens.slice {α:Type} {P:Program} {t e:TypeId} {d:Kd α} {G:α→Prop} (ht:P.underlying t=some (.slice e)) (hsz:P.cellsOf e=d.sz) (he:Opens P e d G) :
  Opens P t (Kd.slice e d) (fun l=>l.length*P.bytesOf e≤reachBytes∧∀ a ∈ l,G a):=by
 intro H enc W held fuel cs x ps h hw
 rcases open_slice ht h with ⟨rfl,_⟩|⟨a,len,cap,m,n,D,Pl,rfl,_,hl,hm,hmm,hx,hel⟩
 ·exact ⟨[],⟨none,0,rfl,Nat.le_refl _,Kd.C_nil d W⟩,by simp,by simp⟩
 ·obtain rfl:m=cap:=by simpa using hmm
  obtain ⟨rfl,_⟩:=Prod.mk.inj hx;simp only [DataW.weights,ht,List.mem_cons,List.mem_append,List.length_map,List.length_range] at hw
  have hall:∀ i,i < len→∃ b:α,∃ c:List Value,(d.K W b c∧∀ j u,c[j]?=some u→W.cell? ((a.add (i*d.sz)).add j)=some u)∧G b:=by
   intro i hi;obtain ⟨cs',hc,htr⟩:=hel i (by omega);rw [hsz] at hc
   have hwi:∀ n ∈ (D i).weights P e,n≤reachBytes:=by
    intro n hn;refine hw n (.inr (.inl ?_));clear hw hx hel
    have:∀ (l:List Nat),i ∈ l→n ∈ DataW.weightsAll P e (l.map D):=by
     intro l
     induction l with
     | nil=>simp
     | cons j l ih =>
      intro hm;simp only [List.map_cons,DataW.weightsAll,List.mem_append]
      rcases List.mem_cons.1 hm with rfl|hm
      ·exact .inl hn
      ·exact .inr (ih hm)
    exact this _ (List.mem_range.2 hi)
   obtain ⟨b,hb,hG⟩:=he enc W held n cs' (D i) (Pl i) htr hwi;exact ⟨b,cs',⟨hb,(qyA hc).2⟩,hG⟩
  have hf:∃ l:List α,l.length=len∧∀ i b,l[i]?=some b→(∃ c:List Value,d.K W b c∧∀ j u,c[j]?=some u→W.cell? ((a.add (i*d.sz)).add j)=some u)∧G b:=by
   clear hw hx hel hl hmm h
   induction len with
   | zero=>exact ⟨[],rfl,by simp⟩
   | succ len ih =>
    obtain ⟨l,h1,h2⟩:=ih (fun i hi=>hall i (by omega));obtain ⟨b,c,hb,hG⟩:=hall len (by omega);refine ⟨l ++ [b],by simp [h1],fun i b' hi=>?_⟩
    rcases Nat.lt_or_ge i l.length with hil|hil
    ·rw [List.getElem?_append_left hil] at hi;exact h2 i b' hi
    ·rw [List.getElem?_append_right hil] at hi
     obtain rfl:i=len:=by
      have:=(List.getElem?_eq_some_iff.1 hi).1;simp at this;omega
     rw [h1] at hi;simp at hi;subst hi;exact ⟨⟨c,hb⟩,hG⟩
  obtain ⟨l,hll,hl2⟩:=hf;subst hll;have hb:l.length*P.bytesOf e≤reachBytes:=Nat.le_trans (Nat.mul_le_mul_right _ (by omega)) (hw _ (.inl rfl));clear hw hx hall h hmm;refine ⟨l,⟨some a,m,rfl,hl,rfl,by unfold maxLen at hm;omega,fun _=>⟨a,rfl,fun j p hj=>?_⟩⟩,hb,?_⟩
  ·obtain ⟨⟨c,hK,hc⟩,_⟩:=hl2 j p hj;exact ⟨c,d.K_len hK,hK,fun i u hu=>by rw [← Deep.add_add];exact hc i u hu⟩
  ·intro b hb;obtain ⟨i,hi⟩:=List.getElem?_of_mem hb;exact (hl2 i b hi).2
def qgV {α:Type} (P:Program) (fs:List Field) (off:Nat) (d:Kd α) (G:α→Prop):Prop :=
 ∀ {H:Type} (enc:TypeId × Value→H) (W:World) (held:Bool) (fuel:Nat) (cs:List Value) (xs:List (DataW H × List MemPlace)),
  (∀ (i:Nat) (f:Field),fs[i]?=some f→DataW.trod enc P W 0 (fun _=>true) held fuel f.type ((cs.drop f.offset).take (P.cellsOf f.type))=xs[i]?)→xs.length=fs.length →
  (∀ n ∈ DataW.weightsEach P (fs.map (·.type)) (xs.map (·.1)),n≤reachBytes)→∃ a:α,d.K W a ((cs.drop off).take d.sz)∧G a
theorem qgV.one {α:Type} {P:Program} {f:Field} {d:Kd α} {G:α→Prop} (hsz:P.cellsOf f.type=d.sz) (h:Opens P f.type d G):qgV P [f] f.offset d G:=by
 intro H enc W held fuel cs xs hf hl hw
 match xs,hl with
 | [x],_ =>
  have h0:=hf 0 f rfl;rw [hsz] at h0;exact h enc W held fuel _ x.1 x.2 h0 (fun n hn=>hw n (by simp [DataW.weightsEach,hn]))
theorem qgV.cons {α β:Type} {P:Program} {f:Field} {fs:List Field} {off:Nat} {d:Kd α} {d2:Kd β} {G:α→Prop} {G2:β→Prop} (hsz:P.cellsOf f.type=d.sz) (hoff:off=f.offset+d.sz) (h:Opens P f.type d G) (h2:qgV P fs off d2 G2) :
  qgV P (f :: fs) f.offset (Kd.pair d d2) (fun x=>G x.1∧G2 x.2):=by
 intro H enc W held fuel cs xs hf hl hw
 match xs,hl with
 | x :: xs,hl =>
  have h0:=hf 0 f rfl;rw [hsz] at h0;obtain ⟨a,ha,hG⟩:=h enc W held fuel _ x.1 x.2 h0 (fun n hn=>hw n (by simp [DataW.weightsEach,hn]));obtain ⟨b,hb,hG2⟩:=h2 enc W held fuel cs xs (fun i g hg=>by simpa using hf (i+1) g (by simpa using hg)) (by simpa using hl) (fun n hn=>hw n (by simp [DataW.weightsEach,hn]));refine ⟨(a,b),⟨_,_,?_,ha,hb⟩,hG,hG2⟩;show (cs.drop f.offset).take (d.sz+d2.sz)=_;rw [List.take_add,List.drop_drop,hoff]
theorem Opens.struct {α:Type} {P:Program} {t:TypeId} {fs:Array Field} {d:Kd α} {G:α→Prop} (ht:P.underlying t=some (.struct fs)) (hsz:P.cellsOf t=d.sz) (h:qgV P fs.toList 0 d G):Opens P t d G:=by
 intro H enc W held fuel cs x ps hx hw;obtain ⟨xs,n,_,he,hl,hlen,hf⟩:=DataW.trod_struct ht hx;obtain ⟨rfl,_⟩:=Prod.mk.inj he;obtain ⟨a,ha,hG⟩:=h enc W held n cs xs (fun i f hi=>hf i f (by simpa using hi)) (by simpa using hlen) (fun n hn=>hw n (by simpa [DataW.weights,ht] using hn));refine ⟨a,?_,hG⟩;rw [List.drop_zero,List.take_of_length_le (by omega)] at ha;exact ha
theorem Opens.iso {α β:Type} {P:Program} {t:TypeId} {d:Kd α} {G:α→Prop} (f:β→α) (g:α→β) (hfg:∀ a,f (g a)=a) (h:Opens P t d G):Opens P t (Kd.iso d f) (fun b=>G (f b)):=by
 intro H enc W held fuel cs x ps hx hw;obtain ⟨a,ha,hG⟩:=h enc W held fuel cs x ps hx hw;exact ⟨g a,by show d.K W (f (g a)) cs;rw [hfg];exact ha,by show G (f (g a));rw [hfg];exact hG⟩
theorem Opens.imp {α:Type} {P:Program} {t:TypeId} {d:Kd α} {G G':α→Prop} (h:Opens P t d G) (hg:∀ a,G a→G' a):Opens P t d G':=by
 intro H enc W held fuel cs x ps hx hw;obtain ⟨a,ha,hG⟩:=h enc W held fuel cs x ps hx hw;exact ⟨a,ha,hg a hG⟩
theorem Opens.arg {α:Type} {P:Program} {t:TypeId} {d:Kd α} {G:α→Prop} (h:Opens P t d G) {H:Type} {enc:TypeId × Value→H} {W:World} {held:Bool} {v:Value} {x:DataW H} {ps:List MemPlace} {ts:List TypeId} {ds:List (DataW H)} (j:Nat)
  (hsz:(DataW.weightsEach P ts ds).all (·≤reachBytes)=true) (ht:ts[j]?=some t) (hd:ds[j]?=some x) (hv:DataW.Trod enc P W 0 (fun _=>true) held t v x ps):∃ a:α,d.K W a v.cells.toList∧G a:=by
 obtain ⟨fuel,hf⟩:=hv;refine h enc W held fuel _ x ps hf (fun n hn=>?_)
 simpa using List.all_eq_true.1 hsz n (DataW.weights_mem_each ht hd n hn)
theorem int_of {W:World} {k:IntKind} {x n:Int} (h:(Kd.int k).K W x (Value.cells (.int k n)).toList):n=x:=by
 have h2:[Value.int k n]=[Value.int k x]:=h
 simpa using h2
end Go.Proofs.YtdlimghdimkadaaGreatDoor.Opens
namespace Go.Proofs.YtdlimghdimkadaaGreatDoor.PAll
open Go Go.RowKit YtdlimghdimkadaaGreatDoorW.PrintWords YtdlimghdimkadaaGreatDoorW.PrintLast YtdlimghdimkadaaGreatDoorW.PrintMore
attribute [local go_sem] qdA qcY qdV qdU qcH qcG qcZ qcX
section
open Go.Shelf Plain Opens
variable {w0 W W':World} {gm gc gl cl ge ce:Nat} {a a':AC} {m m':AM} {n:Nat} {wr:Int} {g:Geo} {D:Nat→List (List Int)}
theorem vbW {n:Int} (h:(Lit.int .u8 n).wf=true):0≤n∧n < 256:=by
 unfold Lit.wf at h;rw [Bool.and_eq_true,decide_eq_true_eq,decide_eq_true_eq] at h;have h1:(0:Int)≤n:=h.1;have h2:n≤255:=h.2;omega
theorem oI:Opens Tryz.prog 3 (Kd.int .i64) (fun _=>True):=Opens.imp (Opens.int Tryz.underlying3) (fun _ _=>trivial)
theorem oY:Opens Tryz.prog 5 kB (fun n=>(Lit.int .u8 n).wf=true):=Opens.int Tryz.underlying5
theorem oYs:Opens Tryz.prog 35 (Kd.slice 5 kB) qbA :=
 Opens.imp (Opens.slice Tryz.underlying35 (by kernel_rfl) oY) (fun _ h x hx=>vbW (h.2 x hx))
structure GI where
 f0:Int
 f1:Int
 f2:Int
 f3:Int
def kGI:Kd GI:=Kd.iso (Kd.pair (Kd.int .i64) (Kd.pair (Kd.int .i64) (Kd.pair (Kd.int .i64) (Kd.int .i64)))) (fun x:GI=>(x.f0,x.f1,x.f2,x.f3))
theorem oG:Opens Tryz.prog 23 kGI (fun _=>True) :=
 Opens.imp (Opens.iso (fun x:GI=>(x.f0,x.f1,x.f2,x.f3)) (fun p=>⟨p.1,p.2.1,p.2.2.1,p.2.2.2⟩) (fun _=>rfl)
  (Opens.struct Tryz.underlying23 (by kernel_rfl) (qgV.cons (by kernel_rfl) rfl oI (qgV.cons (by kernel_rfl) rfl oI (qgV.cons (by kernel_rfl) rfl oI (qgV.one (by kernel_rfl) oI)))))) (fun _ _=>trivial)
theorem qrT {B P Z R:Int} (h:qbM B P Z R=true):16≤B∧8≤P∧64≤Z:=by
 unfold qbM at h;simp only [Bool.and_eq_true,decide_eq_true_eq] at h;omega
end
section
open Go.Shelf Plain Opens
variable {w0 W W':World} {gm gc gl cl ge ce:Nat} {a a':AC} {m m':AM} {n:Nat} {wr:Int} {g:Geo} {D:Nat→List (List Int)}
end
section
open Go.Shelf Plain Opens
variable {w0 W W':World} {gm gc gl cl ge ce:Nat} {a a':AC} {m m':AM} {n:Nat} {wr:Int} {g:Geo} {D:Nat→List (List Int)}
def KT (W W':World):Prop:=∀ (k:Nat) (cs:Array Value) (t:Nat),t ≠ 35→W.heap[k]?=some (.cells cs t (0,0))→W'.heap[k]?=some (.cells cs t (0,0))
theorem R_kt {α:Type} {d:Kd α} {e:Nat} {base:Nat} {ok:Nat→Prop} {v:Value} {l:List α} (h:KT W W') (he:∀ q,q ∈ e :: d.E→q ≠ 35) (hr:Kd.R d e W base ok v l):Kd.R d e W' base ok v l :=
 Kd.R_mono (Kd.R_move (Kd.R_bound hr) (fun k hk=>by
  obtain ⟨_,_,_,q,hq,cells,hc⟩:=hk;rw [hc]
  exact h _ _ _ (he q hq) hc)) (fun _ hk=>hk.1)
theorem qdQ.kt (h:qdQ w0 W gc a) (hk:KT W W') (hb:Below w0.heap.size w0 W'):qdQ w0 W' gc a:=by
 obtain ⟨gb,gp,m,D,hs,ha,hl⟩:=h;refine ⟨gb,gp,m,D,⟨hk _ _ _ (by decide) hs.c,hk _ _ _ (by decide) hs.b,fun i hi=>hk _ _ _ (by decide) (hs.p i hi),hs.inj,hs.ec,hs.eb,hs.ep,fun i j hi hj=>?_,?_,hb,hs.gok⟩,ha,hl⟩
 ·exact R_kt hk (fun q hq=>by
   rcases List.mem_cons.1 hq with rfl|hq
   ·decide
   ·cases hq) (hs.d i j hi hj)
 ·exact R_kt hk (fun q hq=>by
   rcases List.mem_cons.1 hq with rfl|hq
   ·decide
   ·cases hq) hs.pln
theorem Man.kt (h:Man w0 W gm gc gl cl ge ce a m) (hk:KT W W') (hb:Below w0.heap.size w0 W'):Man w0 W' gm gc gl cl ge ce a m:=by
 refine ⟨hk _ _ _ (by decide) h.c,h.chip.kt hk hb,?_,?_,h.em,h.el,h.ee,h.hl,h.hb,h.ln,h.lb⟩
 ·obtain ⟨cells,h1,h2⟩:=h.l;exact ⟨cells,hk _ _ _ (by decide) h1,h2⟩
 ·obtain ⟨cells,h1,h2⟩:=h.b;exact ⟨cells,hk _ _ _ (by decide) h1,h2⟩
theorem GM.kt (h:GM w0 W gm gc gl cl ge ce g wr n D) (hk:KT W W') (hb:Below w0.heap.size w0 W'):GM w0 W' gm gc gl cl ge ce g wr n D:=by
 obtain ⟨a,m,h1,h2⟩:=h;exact ⟨a,m,h1.kt hk hb,h2⟩
theorem qqS {α:Type} {d:Kd α} {base:Nat} {ok:Nat→Prop} {v:Value} {l:List α} (hr:Kd.R d 35 W base ok v l) (hg:W.grownBy W' v.ownBlock):KT W W':=fun k cs t ht hk=>by
 obtain ⟨inner,hown⟩:=Kd.R_own hr;rw [hg.block k (qcS hk) (qjX hown hk (Ne.symm ht))];exact hk
def kW (A:Option Addr) (n c:Nat):Kd Unit where
 sz:=1
 E:=[]
 K:=fun _ _ cs=>cs=[.slice A n c]
 M:=fun _ _ _ _ cs=>cs=[.slice A n c]
 K_len:=fun h=>by rw [h];rfl
 K_one:=fun h u hu=>by rw [h] at hu;rw [List.mem_singleton.1 hu];rfl
 K_below:=fun _ h=>h
 K_of_M:=fun h=>h
 M_mono:=fun _ h=>h
 M_bound:=fun h=>h
 M_move:=fun _ h=>h
 M_lower:=fun _ h=>h
theorem qdW.of_kW {s:List Nat} {base:Nat} {A B:Option Addr} {c d i:Nat} {x:List Int} (hi:i≤1000) (hc:x.length≤c) (hx:∀ w',Below w0.heap.size w0 w'→MK s W w'→Kd.C kB w' A x.length x) (hr:Kd.R (kW A x.length c) 35 W base (fun _=>True) (.slice B i d) (List.replicate i ())):qdW s w0 W B (List.replicate i x):=by
 refine ⟨by rw [List.length_replicate];exact hi,fun j hj=>?_⟩;rw [List.length_replicate] at hj;obtain ⟨g,c1,e1,-,-,cells,hg⟩:=Kd.R_form hr (by rw [List.length_replicate];omega);simp only [Value.slice.injEq] at e1;obtain ⟨rfl,-,rfl⟩:=e1
 have hd:(List.replicate i x).getD j []=x:=by
  rw [List.getD_eq_getElem?_getD,List.getElem?_replicate,if_pos hj];rfl
 rw [hd]
 have hr2:Kd.R (kW A x.length c) 35 W base (fun _=>True) (.slice (some ⟨g,0,none⟩) (List.replicate i ()).length d) (List.replicate i ()):=by
  rw [List.length_replicate];exact hr
 obtain ⟨-,-,hC⟩:=Kd.R_reads' hr2;obtain ⟨ad,cs,e0,-,hK,hcl⟩:=Kd.C_get hC () (j:Int) (by omega) (by rw [List.length_replicate];omega);obtain rfl:(⟨g,0,none⟩:Addr)=ad:=by simpa using e0
 have hcs:cs=[.slice A x.length c]:=hK;have h1:=hcl 0;rw [hcs] at h1;have h2:=h1 _ rfl;rw [Int.toNat_natCast] at h2;have hsz:j*(kW A x.length c).sz+0=j:=by show j*1+0=j;omega
 rw [hsz] at h2;have hxa:(⟨g,0,none⟩:Addr).add j=⟨g,j,none⟩:=by simp [Addr.add,eq_comm]
 refine ⟨⟨g,0,none⟩,A,c,rfl,hc,fun w' hb hk=>⟨?_,hx w' hb hk⟩⟩;rw [hxa] at h2 ⊢;rw [Joins.cell_of_block (hk.far (by decide) hg) j,← Joins.cell_of_block hg j];exact h2
theorem qrO (h:GM w0 W gm gc gl cl ge ce g wr n D):Calls Tryz.prog 30 #[cp gc] W fun e w'=>e=.returned (.int .i64 wr)∧Below W.heap.size W w':=by
 obtain ⟨a,m,hM,hG,rfl,rfl⟩:=h;exact hM.chip.wrong
theorem qzK:Tryz.prog.underlying 55=some (.slice 35):=by kernel_rfl
theorem vcK:(Tryz.prog.info? 35).map (fun i=>(i.zero,i.size,i.bytes))=some (some (.slice none 0 0),1,24):=by kernel_rfl
end
section
open Go.Shelf Plain Opens
variable {w0 W W':World} {gm gc gl cl ge ce:Nat} {a a':AC} {m m':AM} {n:Nat} {wr:Int} {g:Geo} {D:Nat→List (List Int)}
theorem vbG (B P Z R at_:Int) (A:Option Addr) (n c:Nat) (W:World) (hg:qbM B P Z R=false) (aE:Addr) (hgE:gNone W aE) :
  Calls Tryz.prog 5 #[gV B P Z R,.slice A n c,.int .i64 at_] W fun e w'=>e=.returned (.bool true)∧Below W.heap.size W w':=by
 have HAL:=aM (fun (w:World) (hb:Below W.heap.size W w)=>qkX aE w (qaK hgE hb));have HNW:=aM (fun (w:World)=>(show Calls Tryz.prog 11 #[gV B P Z R,.slice none 0 0] w (fun e w'=>e=.returned (.tuple #[.pointer none,.int .i64 22])∧Below w.heap.size w w') from vaI B P Z R none 0 [] w (Kd.R_reads' (Kd.R_nil kF 83 w 0 (fun _=>True))).2.2 (Nat.le_refl _) (by rw [hg];rfl)));have hu23:=Tryz.underlying23;clear hg hgE;go_enter Tryz.func5,Tryz.ntmps5
 go_upto_region 1 with (fail)
 generalize hW:W.alloc (.cells #[.int .i64 B,.int .i64 P,.int .i64 Z,.int .i64 R] 23)=W1
 obtain ⟨g0,hg0⟩:∃ g0,g0=W.heap.size:=⟨_,rfl⟩
 rw [← hg0];have HB1:=aM (show Below W.heap.size W W1 by rw [← hW];exact qaB (Below.refl _ _) _);have hx1:W1.heap[g0]?=some (.cells #[.int .i64 B,.int .i64 P,.int .i64 Z,.int .i64 R] 23 (0,0)):=by rw [← hW,hg0];exact qaO _ _ _
 have y0:=Joins.cell_of_block hx1 0;have y1:=Joins.cell_of_block hx1 1;have y2:=Joins.cell_of_block hx1 2;have y3:=Joins.cell_of_block hx1 3;have HG1:=aM hx1;clear hW hx1 hg0
 go_wp2_with (first
  | (go_at_call 11;(with_reducible refine (HNW.out _).mono ?_);rintro e w2 ⟨rfl,hb2⟩;have HB2:=aM (qaD HB1.out hb2);clear hb2)
  | (go_at_call 22;(with_reducible refine (HAL.out _ HB2.out).mono ?_);rintro e w9 ⟨rfl,hb9⟩;have HB9:=aM (qaD HB2.out hb9);clear hb9))
 go_ret;exact ⟨rfl,HB9.out⟩
theorem qyI (g:Geo) (hg:qbM g.B g.P g.Z g.R=true) (A:Option Addr) (c:Nat) (l:List Int) (at_:Int) (W:World) (hr:Kd.C kB W A l.length l) (hc:l.length≤c) (hby:qbA l) (aE:Addr) (hgE:gNone W aE) (hl:g.Z < l.length) :
  Calls Tryz.prog 5 #[gV g.B g.P g.Z g.R,.slice A l.length c,.int .i64 at_] W fun e w'=>e=.returned (.bool true)∧Below W.heap.size W w':=by
 have HAL:=aM (fun (w:World) (hb:Below W.heap.size W w)=>qkX aE w (qaK hgE hb));have HNW:=aM (fun (w:World)=>(show Calls Tryz.prog 11 #[gV g.B g.P g.Z g.R,.slice none 0 0] w (fun e w'=>∃ gc:Nat,e=.returned (.tuple #[cp gc,.int .i64 0])∧qdQ w w' gc (qnY g [])) from qnF g none 0 [] w (Kd.R_reads' (Kd.R_nil kF 83 w 0 (fun _=>True))).2.2 (Nat.le_refl _) hg (by rfl)));have hu23:=Tryz.underlying23;have d0:decide ((g.Z:Int) < (l.length:Int))=true:=decide_eq_true (by omega);have d0n:((g.Z:Int) < (l.length:Int))=True:=eq_true (by omega);have d0k:(g.Z < l.length)=True:=eq_true hl;clear hg hgE hr hc hby hl;go_enter Tryz.func5,Tryz.ntmps5
 go_upto_region 1 with (fail)
 generalize hW:W.alloc (.cells #[.int .i64 g.B,.int .i64 g.P,.int .i64 g.Z,.int .i64 g.R] 23)=W1
 obtain ⟨g0,hg0⟩:∃ g0,g0=W.heap.size:=⟨_,rfl⟩
 rw [← hg0];have HB1:=aM (show Below W.heap.size W W1 by rw [← hW];exact qaB (Below.refl _ _) _);have hx1:W1.heap[g0]?=some (.cells #[.int .i64 g.B,.int .i64 g.P,.int .i64 g.Z,.int .i64 g.R] 23 (0,0)):=by rw [← hW,hg0];exact qaO _ _ _
 have y0:=Joins.cell_of_block hx1 0;have y1:=Joins.cell_of_block hx1 1;have y2:=Joins.cell_of_block hx1 2;have y3:=Joins.cell_of_block hx1 3;have HG1:=aM hx1;clear hW hx1 hg0
 go_wp2_with (first
  | (go_at_call 11;(with_reducible refine (HNW.out _).mono ?_);rintro e w2 ⟨gc,rfl,hc2⟩;have HC2:=aM (hc2.lower HB1.out);have HB2:=aM hc2.below;have k2:=qaK y2 hc2.below;clear hc2)
  | (go_at_call 22;(with_reducible refine (HAL.out _ HC2.out.below).mono ?_);rintro e w9 ⟨rfl,hb9⟩;have HB9:=aM (qaD HC2.out.below hb9);clear hb9))
 go_ret;exact ⟨rfl,HB9.out⟩
def DA (x:List Int) (q j:Nat):Nat→List (List Int):=fun k=>if k < j then List.replicate q x else []
theorem vbP (x:List Int) (q:Nat):DA x q 0=fun _=>[]:=by
 funext k
 exact if_neg (Nat.not_lt_zero k)
theorem vbQ (x:List Int) (q j:Nat):qiV (DA x q j) j (List.replicate q x)=DA x q (j+1):=by
 funext k
 unfold qiV DA
 by_cases h:k=j
 ·rw [if_pos h,if_pos (by omega)]
 ·rw [if_neg h]
  by_cases h2:k < j
  ·rw [if_pos h2,if_pos (by omega)]
  ·rw [if_neg h2,if_neg (by omega)]
theorem vdI (x:List Int) (q:Nat) {j k:Nat} (h:k < j):DA x q j k=List.replicate q x:=if_pos h
def DL (x:List Int) (q L:Nat) (t:Int):Nat→List (List Int):=if 0≤t∧t < (L:Int) then qiV (DA x q L) t.toNat [x] else DA x q L
theorem qzG (x:List Int) (q:Nat) {L k:Nat} (t:Int) (h:k < L):DL x q L t k=if (k:Int)=t then [x] else List.replicate q x:=by
 unfold DL
 by_cases ht:0≤t∧t < (L:Int)
 ·rw [if_pos ht]
  by_cases hk:(k:Int)=t
  ·rw [if_pos hk,show t.toNat=k by omega,qeU]
  ·rw [if_neg hk,qeQ _ _ (by omega),vdI _ _ h]
 ·rw [if_neg ht,if_neg (by omega),vdI _ _ h]
theorem vdA (g:Geo) (hg:qbM g.B g.P g.Z g.R=true) (A:Option Addr) (c:Nat) (l:List Int) (at_:Int) (W:World) (hr:Kd.C kB W A l.length l) (hc:l.length≤c) (hby:qbA l) (aE:Addr) (hgE:gNone W aE) (hl:¬ g.Z < l.length) :
  Calls Tryz.prog 5 #[gV g.B g.P g.Z g.R,.slice A l.length c,.int .i64 at_] W fun e w'=>e=.returned (.bool true)∧Below W.heap.size W w':=by
 have HAL:=aM (fun (w:World) (hb:Below W.heap.size W w)=>qkX aE w (qaK hgE hb));have HNW:=aM (fun (w:World)=>(show Calls Tryz.prog 11 #[gV g.B g.P g.Z g.R,.slice none 0 0] w (fun e w'=>∃ gc:Nat,e=.returned (.tuple #[cp gc,.int .i64 0])∧qdQ w w' gc (qnY g [])) from qnF g none 0 [] w (Kd.R_reads' (Kd.R_nil kF 83 w 0 (fun _=>True))).2.2 (Nat.le_refl _) hg (by rfl)));have hu23:=Tryz.underlying23;have d0:decide ((g.Z:Int) < (l.length:Int))=false:=decide_eq_false (by omega);have d0n:((g.Z:Int) < (l.length:Int))=False:=eq_false (by omega);have d0k:(g.Z < l.length)=False:=eq_false hl;have HG:=aM hgE;have HR:=aM hg;have HX:=aM (fun (w':World) (hb:Below W.heap.size W w')=>Kd.C_below hr hb);have HXC:=aM hc;have HZ:=aM (show l.length≤g.Z by omega);have HBY:=aM hby;obtain ⟨q1,q2,q3,q4⟩:=qeS hg;have HLN:=aM (show 10≤qcK g∧qcK g≤256 by omega);clear hg hgE hr hc hby hl q1 q2 q3 q4;go_enter Tryz.func5,Tryz.ntmps5
 go_upto_region 1 with (fail)
 generalize hW:W.alloc (.cells #[.int .i64 g.B,.int .i64 g.P,.int .i64 g.Z,.int .i64 g.R] 23)=W1
 obtain ⟨g0,hg0⟩:∃ g0,g0=W.heap.size:=⟨_,rfl⟩
 rw [← hg0];have HB1:=aM (show Below W.heap.size W W1 by rw [← hW];exact qaB (Below.refl _ _) _);have hx1:W1.heap[g0]?=some (.cells #[.int .i64 g.B,.int .i64 g.P,.int .i64 g.Z,.int .i64 g.R] 23 (0,0)):=by rw [← hW,hg0];exact qaO _ _ _
 have y0:=Joins.cell_of_block hx1 0;have y1:=Joins.cell_of_block hx1 1;have y2:=Joins.cell_of_block hx1 2;have y3:=Joins.cell_of_block hx1 3;have HG1:=aM hx1;clear hW hx1 hg0
 go_upto_region 4 with (first|(go_at_call 11;(with_reducible refine (HNW.out _).mono ?_);rintro e w2 ⟨gc,rfl,hc2⟩;have HC2:=aM (hc2.lower HB1.out);have HB2:=aM hc2.below;have k2:=qaK y2 hc2.below;have HG2:=aM (qaA HG1.out hc2.below);clear hc2))
 have HGK:=aM (show 8≤g.P∧g.P≤64 from HC2.out.gok.2.1);have HGZ:=aM (show 64≤g.Z∧g.Z≤512 from HC2.out.gok.2.2);have HFM:=aM (qkL (n:=600) HC2.out aE HG.out HR.out (by decide))
 go_upto_region 9 with (first|(go_at_call 23;(with_reducible refine HFM.out.mono ?_);rintro e w3 ⟨gm,gl,cl,ge,ce,rfl,hm3,hk3,hf3⟩;have HM3:=aM hm3;have HG3:=aM (hk3.far (by decide) HG2.out);clear hm3 hk3 hf3))
 clear y0 y1 y2 y3 k2 d0 d0n d0k;go_loopw [10,11] (fun v10 v11 wr=>∃ i:Nat,i+2≤g.P∧v11=.int .i64 i∧qaJ (Kd.R (kW A l.length c) 35 wr W.heap.size (fun _=>True) v10 (List.replicate i ()))∧qaJ (GM W wr gm gc gl cl ge ce g 0 600 (fun _=>[]))∧qaJ (wr.heap[g0]?=some (.cells #[.int .i64 g.B,.int .i64 g.P,.int .i64 g.Z,.int .i64 g.R] 23 (0,0)))) (fun _ v11 _=>g.P - (intOf v11).toNat);case atStart=>exact ⟨0,by have:=HGK.out;omega,rfl,⟨Kd.R_nil _ _ _ _ _⟩,HM3,HG3⟩
 case round =>
 clear HM3 HG3 HFM HNW HG1 HG2 HC2 HB2;obtain ⟨i,hi,rfl,HRW,HM,HGX⟩:=hrel;have HPG:=aM (qlR HM.out)
 by_cases hlt:i+2 < g.P
 ·have d1:decide ((i:Int) < (g.P:Int) - 2)=true:=decide_eq_true (by omega);have d1n:((i:Int) < (g.P:Int) - 2)=True:=eq_true (by omega);have hwj:wrap64 ((i:Int)+1)=(i:Int)+1:=by have:=HGK.out;unfold wrap64;omega
  have hwk:IntKind.i64.wrap ((i:Int)+1)=(i:Int)+1:=by rw [qbL];exact hwj
  have HLT:=aM hlt;clear hlt hi
  go_upto_region 11 with (first
   | (go_at_call 26;(with_reducible refine HPG.out.mono ?_);rintro e w5 ⟨rfl,hb5⟩;have HM5:=aM (HM.out.grow hb5);have HR5:=aM (Kd.R_below HRW.out hb5);have HG5:=aM (qaA HGX.out hb5);clear hb5))
  go_wp2_with (first
   | ((with_reducible refine qbG (b:=.append) (xs:=#[.tmp 54,.tmp 56]) rfl ?_);at_builtin;refine Kd.R_append (kW A l.length c) (w0:=W) W.heap.size rfl (.tmp 54) (.tmp 56) 55 35 (.slice none 0 0) 24 rfl qzK vcK rfl Nat.zero_lt_one (by omega) u10 (List.replicate i ()) () [.slice A l.length c] (fun _=>True) (fun _=>False) rfl (by first|(go_simp;done)|(go_simp;rfl)) ?aP (fun _ hk=>hk.elim) ?aF ?aO ?aB ?aS ?aL ?_;(case aP=>exact (rfl:[Value.slice A l.length c]=[Value.slice A l.length c]));(case aF=>exact (fun _ _=>trivial));(case aO=>exact HR5.out);(case aB=>exact HM5.out.below);(case aS=>exact qaI HM5.out.below);(case aL=>rw [List.length_replicate];have:=HLT.out;have:=HGK.out;omega);intro v7 w7 ho hb hg hat;have HR7:=aM ho;have HM7:=aM (HM5.out.kt (qqS HR5.out hg) hb);have HG7:=aM (qqS HR5.out hg _ _ _ (by decide) HG5.out);clear ho hb hg hat))
  go_roundw;case rel=>exact ⟨i+1,HLT.out,by push_cast;rfl,⟨by rw [List.replicate_succ'];exact HR7.out⟩,HM7,HG7⟩
  case measure=>have:=HLT.out;simp [intOf];omega
 have hip:i+2=g.P:=by omega
 have d1:decide ((i:Int) < (g.P:Int) - 2)=false:=decide_eq_false (by omega);have d1n:((i:Int) < (g.P:Int) - 2)=False:=eq_false (by omega);have HIP:=aM hip;clear hlt hi hip;obtain ⟨A10,c10,e10⟩:=Kd.R_slice HRW.out;rw [List.length_replicate] at e10;subst e10
 go_upto_region 13 with (first
  | (go_at_call 26;(with_reducible refine HPG.out.mono ?_);rintro e w5 ⟨rfl,hb5⟩;have HM5:=aM (HM.out.grow hb5);have HR5:=aM (Kd.R_below HRW.out hb5);have HG5:=aM (qaA HGX.out hb5);clear hb5))
 have HC10:=aM (show i≤c10 by
  have h:=(Kd.R_reads' (show Kd.R (kW A l.length c) 35 w5 _ (fun _=>True) (.slice A10 (List.replicate i ()).length c10) _ by rw [List.length_replicate];exact HR5.out)).2.1;rw [List.length_replicate] at h
  exact h)
 have HPS:=aM (qdW.of_kW (s:=[gm,gl,ge]) (w0:=W) (by have:=HIP.out;have:=HGK.out;omega) HXC.out (fun w' hb _=>HX.out w' hb) HR5.out);clear HM HRW HGX HPG d1 d1n;go_loopw [12] (fun v12 wr=>∃ j:Nat,j≤qcK g∧v12=.int .i64 j∧qaJ (GM W wr gm gc gl cl ge ce g 0 (600 - 2*j) (DA l i j))∧qaJ (MK [gm,gl,ge] w5 wr)∧qaJ (wr.heap[g0]?=some (.cells #[.int .i64 g.B,.int .i64 g.P,.int .i64 g.Z,.int .i64 g.R] 23 (0,0)))) (fun v12 _=>qcK g - (intOf v12).toNat);case atStart=>exact ⟨0,Nat.zero_le _,rfl,⟨by rw [vbP];exact HM5.out⟩,⟨MK.refl _ _⟩,HG5⟩
 case round =>
 clear HM5 HG5 HR5;obtain ⟨j,hj,rfl,HM,HKK,HGX⟩:=hrel;have HLB:=aM (qkB HM.out)
 by_cases hlt:j < qcK g
 ·have d1:decide ((j:Int) < (qcK g:Int))=true:=decide_eq_true (by omega);have d1k:(j < qcK g)=True:=eq_true hlt;have hwj:wrap64 ((j:Int)+1)=(j:Int)+1:=by have:=HLN.out;unfold wrap64;omega
  have hwk:IntKind.i64.wrap ((j:Int)+1)=(j:Int)+1:=by rw [qbL];exact hwj
  have HLT:=aM hlt;clear hlt hj
  go_upto_region 15 with (first
   | (go_at_call 24;(with_reducible refine HLB.out.mono ?_);rintro e w6 ⟨rfl,hb6⟩;have HM6:=aM (HM.out.grow hb6);have HK6:=aM (HKK.out.trans (MK.of_below hb6));have HG6:=aM (qaA HGX.out hb6);clear hb6))
  have HCH:=aM (qhG (n:=598 - 2*j) (by rw [show 598 - 2*j+2=600 - 2*j by have:=HLT.out;have:=HLN.out;omega];exact HM6.out) j HLT.out A10 c10 (List.replicate i l) (by rw [List.length_replicate];exact HC10.out) (HPS.out.later HK6.out) (by rw [List.length_replicate,HIP.out];exact Nat.le_refl _) (fun y hy=>by rw [List.eq_of_mem_replicate hy];exact HZ.out) (fun y hy=>by rw [List.eq_of_mem_replicate hy];exact HBY.out));rw [vbQ,List.length_replicate] at HCH
  go_wp2_with (first
   | (go_at_call 28;(with_reducible refine HCH.out.mono ?_);rintro e w7 ⟨rfl,hm7,hk7⟩;have HM7:=aM hm7;have HK7:=aM (HK6.out.trans hk7);have HG7:=aM (hk7.far (by decide) HG6.out);clear hm7 hk7))
  go_roundw;case rel=>exact ⟨j+1,HLT.out,by push_cast;rfl,⟨by rw [show 600 - 2*(j+1)=598 - 2*j by omega];exact HM7.out⟩,HK7,HG7⟩
  case measure=>have:=HLT.out;simp [intOf];omega
 obtain rfl:j=qcK g:=by omega
 have d1:decide ((qcK g:Int) < (qcK g:Int))=false:=decide_eq_false (by omega);clear hlt hj
 go_upto_region 17 with (first
  | (go_at_call 24;(with_reducible refine HLB.out.mono ?_);rintro e w6 ⟨rfl,hb6⟩;have HM6:=aM (HM.out.grow hb6);have HG6:=aM (qaA HGX.out hb6);clear hb6))
 clear HM HKK HGX HLB d1;go_cut [90] (fun v90 wx=>v90=.bool false∧qaJ (GM W wx gm gc gl cl ge ce g 0 (598 - 2*qcK g) (DL l i (qcK g) at_))∧qaJ (wx.heap[g0]?=some (.cells #[.int .i64 g.B,.int .i64 g.P,.int .i64 g.Z,.int .i64 g.R] 23 (0,0))))
 case first =>
  have HLB:=aM (qkB HM6.out)
  by_cases h0:(0:Int)≤at_
  ·have e0:decide ((0:Int)≤at_)=true:=decide_eq_true h0;have e0n:((0:Int)≤at_)=True:=eq_true h0
   by_cases h1:at_ < (qcK g:Int)
   ·have e1:decide (at_ < (qcK g:Int))=true:=decide_eq_true h1;have e1n:(at_ < (qcK g:Int))=True:=eq_true h1
    obtain ⟨k,hk⟩:∃ k:Nat,at_=(k:Int):=⟨at_.toNat,by omega⟩
    have HKL:=aM (show k < qcK g by omega);have HDL:=aM (show qiV (DA l i (qcK g)) k [l]=DL l i (qcK g) at_ by unfold DL;rw [if_pos ⟨h0,h1⟩,hk,Int.toNat_natCast]);have HKE:=aM hk
    have HCH:=aM (fun (w:World) (q:Nat) (hb:Below w6.heap.size w6 w) (hg:w.heap[q]?=some (.cells #[.slice A l.length c] 35 (0,0)))=>(show Calls Tryz.prog 28 #[kp gm,.int .i64 at_,.slice (some ⟨q,0,none⟩) 1 1] w (fun z w'=>z=.returned (.int .i64 0)∧GM W w' gm gc gl cl ge ce g 0 (598 - 2*qcK g) (DL l i (qcK g) at_)∧MK [gm,gl,ge] w w') from (by
     have h:=qhG (n:=598 - 2*qcK g) (by rw [show 598 - 2*qcK g+2=600 - 2*qcK g by have:=HLN.out;omega];exact HM6.out.grow hb) k HKL.out (some ⟨q,0,none⟩) 1 [l] (Nat.le_refl _) (qjU hg HXC.out (fun w' hb2 _=>HX.out w' hb2)) (by have:=HGK.out;show 1+2≤g.P;omega) (fun y hy=>by rw [List.mem_singleton.1 hy];exact HZ.out) (fun y hy=>by rw [List.mem_singleton.1 hy];exact HBY.out);rw [HDL.out] at h;rw [HKE.out] at h ⊢
     exact h)))
    have HUS:=aM (fun (w:World) (hm:GM W w gm gc gl cl ge ce g 0 (598 - 2*qcK g) (DL l i (qcK g) at_))=>(show Calls Tryz.prog 27 #[kp gm,.int .i64 at_] w (fun z w'=>z=.returned (.int .i64 1)∧Below w.heap.size w w') from (by
     have h:=qfU hm k HKL.out;rw [qzG l i at_ HKL.out,if_pos HKE.out.symm] at h;rw [HKE.out]
     exact h)))
    clear h0 h1 hk
    go_wp2_with (first
     | (go_at_call 24;(with_reducible refine HLB.out.mono ?_);rintro e w7 ⟨rfl,hb7⟩;have HB7:=aM hb7;have HG7:=aM (qaA HG6.out hb7);clear hb7)
     | (go_at_call 28;(with_reducible refine (HCH.out _ w7.heap.size (qaB HB7.out _) (qaO _ _ _)).mono ?_);rintro e w8 ⟨rfl,hm8,hk8⟩;have HM8:=aM hm8;have HG8:=aM (hk8.far (by decide) (qaA HG7.out (qaB (Below.refl _ _) _)));clear hm8 hk8)
     | (go_at_call 27;(with_reducible refine (HUS.out _ HM8.out).mono ?_);rintro e w9 ⟨rfl,hb9⟩;have HM9:=aM (HM8.out.grow hb9);have HG9:=aM (qaA HG8.out hb9);clear hb9))
    go_meet;exact ⟨rfl,HM9,HG9⟩
   ·have e1:decide (at_ < (qcK g:Int))=false:=decide_eq_false h1;have e1n:(at_ < (qcK g:Int))=False:=eq_false h1;have HDL:=aM (show DL l i (qcK g) at_=DA l i (qcK g) by unfold DL;rw [if_neg (by omega)]);clear h0 h1
    go_wp2_with (first
     | (go_at_call 24;(with_reducible refine HLB.out.mono ?_);rintro e w7 ⟨rfl,hb7⟩;have HM7:=aM (HM6.out.grow hb7);have HG7:=aM (qaA HG6.out hb7);clear hb7))
    go_meet;exact ⟨rfl,⟨by rw [HDL.out];exact HM7.out.less (by omega)⟩,HG7⟩
  ·have e0:decide ((0:Int)≤at_)=false:=decide_eq_false h0;have e0n:((0:Int)≤at_)=False:=eq_false h0;have HDL:=aM (show DL l i (qcK g) at_=DA l i (qcK g) by unfold DL;rw [if_neg (by omega)]);clear h0;go_wp2;go_meet;exact ⟨rfl,⟨by rw [HDL.out];exact HM6.out.less (by omega)⟩,HG6⟩
 case rest =>
 obtain ⟨rfl,HM,HGX⟩:=hcut;generalize wc=w9 at HM HGX ⊢;clear HM6 HG6;have HAT:=aM (qkW HM.out aE HG.out);have HKM:=aM (HM.out.grow (Below.refl _ _))
 go_upto_region 20 with (first
  | (go_at_call 29;(with_reducible refine HAT.out.mono ?_);rintro e w11 ⟨gm2,gl2,cl2,ge2,ce2,rfl,hm11,hk11,hf1,hf2,hf3⟩;have HM11:=aM hm11;have HG11:=aM (hk11.far (by decide) HGX.out);clear hm11 hk11 hf1 hf2 hf3))
 have HWG:=aM (qrO HM11.out)
 go_upto_region 23 with (first
  | (go_at_call 30;(with_reducible refine HWG.out.mono ?_);rintro e w12 ⟨rfl,hb12⟩;have HM12:=aM (HM11.out.grow hb12);have HG12:=aM (qaA HG11.out hb12);clear hb12))
 clear HM11 HG11 HAT HKM HWG HM HGX;go_loopw [14] (fun v14 wr=>∃ j:Nat,j≤qcK g∧v14=.int .i64 j∧qaJ (GM W wr gm2 gc gl2 cl2 ge2 ce2 g 0 (598 - 2*qcK g) (DL l i (qcK g) at_))∧qaJ (wr.heap[g0]?=some (.cells #[.int .i64 g.B,.int .i64 g.P,.int .i64 g.Z,.int .i64 g.R] 23 (0,0)))) (fun v14 _=>qcK g - (intOf v14).toNat);case atStart=>exact ⟨0,Nat.zero_le _,rfl,HM12,HG12⟩
 case round =>
 clear HM12 HG12;obtain ⟨j,hj,rfl,HM,HGX⟩:=hrel;have HLB:=aM (qkB HM.out)
 by_cases hlt:j < qcK g
 ·have d1:decide ((j:Int) < (qcK g:Int))=true:=decide_eq_true (by omega);have d1k:(j < qcK g)=True:=eq_true hlt;have hwj:wrap64 ((j:Int)+1)=(j:Int)+1:=by have:=HLN.out;unfold wrap64;omega
  have hwk:IntKind.i64.wrap ((j:Int)+1)=(j:Int)+1:=by rw [qbL];exact hwj
  have HLT:=aM hlt;have HPL:=aM (show (l ++ List.replicate (g.Z - l.length) 255).length=g.Z by rw [List.length_append,List.length_replicate];have:=HZ.out;omega);have HDG:=aM (qzG l i at_ hlt);clear hlt hj
  go_upto_region 25 with (first
   | (go_at_call 24;(with_reducible refine HLB.out.mono ?_);rintro e w24 ⟨rfl,hb24⟩;have HM24:=aM (HM.out.grow hb24);have HG24:=aM (qaA HGX.out hb24);clear hb24))
  have HPG:=aM (qlR HM24.out)
  go_upto_region 26 with (first
   | (go_at_call 26;(with_reducible refine HPG.out.mono ?_);rintro e w25 ⟨rfl,hb25⟩;have HM25:=aM (HM24.out.grow hb25);have HG25:=aM (qaA HG24.out hb25);clear hb25))
  clear HM24 HG24 HPG HM HGX HLB
  by_cases hat:(j:Int)=at_
  ·have e0:((j:Int)==at_)=true:=by simp only [beq_iff_eq];exact hat
   have e0n:((j:Int)=at_)=True:=eq_true hat;have HD0:=aM (show (DL l i (qcK g) at_ j).getD 0 []=l by rw [HDG.out,if_pos hat];rfl);have HDL:=aM (show ((DL l i (qcK g) at_ j).length:Int)=1 by rw [HDG.out,if_pos hat];rfl);clear hat
   go_upto_region 28 with (fail)
   have HRD:=aM (show Calls Tryz.prog 31 #[kp gm2,.int .i64 j,.int .i64 0] w25 (fun z w'=>∃ v:Value,z=.returned (.tuple #[v,.int .i64 0])∧Kd.R kB 5 w' w25.heap.size (fun _=>True) v (l ++ List.replicate (g.Z - l.length) 255)∧Below w25.heap.size w25 w') from (by
    have h:=qfY HM25.out j HLT.out 0 (by have:=HGK.out;omega);rw [HD0.out] at h
    exact h))
   go_upto_region 29 with (first
    | (go_at_call 31;(with_reducible refine HRD.out.mono ?_);rintro e w28 ⟨v28,rfl,hr28,hb28⟩;obtain ⟨A28,c28,e28⟩:=Kd.R_slice hr28;rw [HPL.out] at e28;subst e28;have HR28:=aM hr28;have HM28:=aM (HM25.out.grow hb28);have HG28:=aM (qaA HG25.out hb28);clear hr28 hb28))
   have HUS:=aM (show Calls Tryz.prog 27 #[kp gm2,.int .i64 j] w28 (fun z w'=>z=.returned (.int .i64 (1))∧Below w28.heap.size w28 w') from (by
    have h:=qfU HM28.out j HLT.out;rw [HDL.out] at h
    exact h))
   have z2:w28.cell? ⟨g0,2,none⟩=some (.int .i64 g.Z):=Joins.cell_of_block HG28.out 2
   have hcap:g.Z≤c28:=by
    have h:=(Kd.R_reads' (show Kd.R kB 5 w28 _ (fun _=>True) (.slice A28 (l ++ List.replicate (g.Z - l.length) 255).length c28) _ by rw [HPL.out];exact HR28.out)).2.1;rw [HPL.out] at h;exact h
   have hlc:l.length≤c28:=by have:=HZ.out;omega
   have s1:(l.length≤c28)=True:=eq_true hlc;have s2:((l.length:Int)≤(c28:Int))=True:=eq_true (by omega);have s3:decide ((l.length:Int)≤(c28:Int))=true:=decide_eq_true (by omega)
   have HSM:=aM (fun (w:World) (hb:Below w28.heap.size w28 w)=>qmG A28 c28 A c l w (by
    have h:=Kd.C_take (m:=l.length) (Kd.C_below (Kd.R_reads' (show Kd.R kB 5 w28 _ (fun _=>True) (.slice A28 (l ++ List.replicate (g.Z - l.length) 255).length c28) _ by rw [HPL.out];exact HR28.out)).2.2 hb) (by rw [HPL.out];exact HZ.out);rw [List.take_left] at h
    exact h) hlc (HX.out w (qaD HM28.out.below hb)) HXC.out)
   clear hcap hlc
   go_wp2_with (first
    | (go_at_call 27;(with_reducible refine HUS.out.mono ?_);rintro e w29 ⟨rfl,hb29⟩;have HB29:=aM hb29;have HM29:=aM (HM28.out.grow hb29);have HG29:=aM (qaA HG28.out hb29);have y29:=qaK z2 hb29;clear hb29)
    | (go_at_call 32;(with_reducible refine (HSM.out _ HB29.out).mono ?_);rintro e w30 ⟨rfl,hb30⟩;have HM30:=aM (HM29.out.grow hb30);have HG30:=aM (qaA HG29.out hb30);clear hb30))
   go_roundw;case rel=>exact ⟨j+1,HLT.out,by push_cast;rfl,HM30,HG30⟩
   case measure=>have:=HLT.out;simp [intOf];omega
  ·have e0:((j:Int)==at_)=false:=by simp only [beq_eq_false_iff_ne];exact hat
   have e0n:((j:Int)=at_)=False:=eq_false hat
   have HD0:=aM (show (DL l i (qcK g) at_ j).getD 0 []=l by
    rw [HDG.out,if_neg hat,List.getD_eq_getElem?_getD,List.getElem?_replicate,if_pos (by have:=HIP.out;have:=HGK.out;omega)]
    rfl)
   have HDL:=aM (show ((DL l i (qcK g) at_ j).length:Int)=(g.P:Int) - 2 by rw [HDG.out,if_neg hat,List.length_replicate];have:=HIP.out;omega);clear hat
   go_upto_region 28 with (fail)
   have HRD:=aM (show Calls Tryz.prog 31 #[kp gm2,.int .i64 j,.int .i64 0] w25 (fun z w'=>∃ v:Value,z=.returned (.tuple #[v,.int .i64 0])∧Kd.R kB 5 w' w25.heap.size (fun _=>True) v (l ++ List.replicate (g.Z - l.length) 255)∧Below w25.heap.size w25 w') from (by
    have h:=qfY HM25.out j HLT.out 0 (by have:=HGK.out;omega);rw [HD0.out] at h
    exact h))
   go_upto_region 29 with (first
    | (go_at_call 31;(with_reducible refine HRD.out.mono ?_);rintro e w28 ⟨v28,rfl,hr28,hb28⟩;obtain ⟨A28,c28,e28⟩:=Kd.R_slice hr28;rw [HPL.out] at e28;subst e28;have HR28:=aM hr28;have HM28:=aM (HM25.out.grow hb28);have HG28:=aM (qaA HG25.out hb28);clear hr28 hb28))
   have HUS:=aM (show Calls Tryz.prog 27 #[kp gm2,.int .i64 j] w28 (fun z w'=>z=.returned (.int .i64 ((g.P:Int) - 2))∧Below w28.heap.size w28 w') from (by
    have h:=qfU HM28.out j HLT.out;rw [HDL.out] at h
    exact h))
   have z2:w28.cell? ⟨g0,2,none⟩=some (.int .i64 g.Z):=Joins.cell_of_block HG28.out 2
   have hcap:g.Z≤c28:=by
    have h:=(Kd.R_reads' (show Kd.R kB 5 w28 _ (fun _=>True) (.slice A28 (l ++ List.replicate (g.Z - l.length) 255).length c28) _ by rw [HPL.out];exact HR28.out)).2.1;rw [HPL.out] at h;exact h
   have hlc:l.length≤c28:=by have:=HZ.out;omega
   have s1:(l.length≤c28)=True:=eq_true hlc;have s2:((l.length:Int)≤(c28:Int))=True:=eq_true (by omega);have s3:decide ((l.length:Int)≤(c28:Int))=true:=decide_eq_true (by omega)
   have HSM:=aM (fun (w:World) (hb:Below w28.heap.size w28 w)=>qmG A28 c28 A c l w (by
    have h:=Kd.C_take (m:=l.length) (Kd.C_below (Kd.R_reads' (show Kd.R kB 5 w28 _ (fun _=>True) (.slice A28 (l ++ List.replicate (g.Z - l.length) 255).length c28) _ by rw [HPL.out];exact HR28.out)).2.2 hb) (by rw [HPL.out];exact HZ.out);rw [List.take_left] at h
    exact h) hlc (HX.out w (qaD HM28.out.below hb)) HXC.out)
   clear hcap hlc
   go_wp2_with (first
    | (go_at_call 27;(with_reducible refine HUS.out.mono ?_);rintro e w29 ⟨rfl,hb29⟩;have HB29:=aM hb29;have HM29:=aM (HM28.out.grow hb29);have HG29:=aM (qaA HG28.out hb29);have y29:=qaK z2 hb29;clear hb29)
    | (go_at_call 32;(with_reducible refine (HSM.out _ HB29.out).mono ?_);rintro e w30 ⟨rfl,hb30⟩;have HM30:=aM (HM29.out.grow hb30);have HG30:=aM (qaA HG29.out hb30);clear hb30))
   go_roundw;case rel=>exact ⟨j+1,HLT.out,by push_cast;rfl,HM30,HG30⟩
   case measure=>have:=HLT.out;simp [intOf];omega
 obtain rfl:j=qcK g:=by omega
 have d1:decide ((qcK g:Int) < (qcK g:Int))=false:=decide_eq_false (by omega);clear hlt hj
 go_wp2_with (first
  | (go_at_call 24;(with_reducible refine HLB.out.mono ?_);rintro e w24 ⟨rfl,hb24⟩;have HM24:=aM (HM.out.grow hb24);clear hb24)
  | (go_at_call 22;(with_reducible refine (HAL.out _ HM24.out.below).mono ?_);rintro e w9 ⟨rfl,hb9⟩;have HB9:=aM (qaD HM24.out.below hb9);clear hb9))
 go_ret;exact ⟨rfl,HB9.out⟩
theorem all_law (B P Z R:Int) (A:Option Addr) (c:Nat) (l:List Int) (at_:Int) (W:World) (hr:Kd.C kB W A l.length l) (hc:l.length≤c) (hby:qbA l) (aE:Addr) (hgE:gNone W aE) :
  Calls Tryz.prog 5 #[gV B P Z R,.slice A l.length c,.int .i64 at_] W fun e w'=>e=.returned (.bool true)∧Below W.heap.size W w':=by
 cases hg:qbM B P Z R with
 | false=>exact vbG B P Z R at_ A l.length c W hg aE hgE
 | true =>
  obtain ⟨h1,h2,h3⟩:=qrT hg
  obtain ⟨b,rfl⟩:∃ b:Nat,B=(b:Int):=⟨B.toNat,by omega⟩
  obtain ⟨p,rfl⟩:∃ p:Nat,P=(p:Int):=⟨P.toNat,by omega⟩
  obtain ⟨z,rfl⟩:∃ z:Nat,Z=(z:Int):=⟨Z.toNat,by omega⟩
  by_cases hl:z < l.length
  ·exact qyI ⟨b,p,z,R⟩ hg A c l at_ W hr hc hby aE hgE hl
  ·exact vdA ⟨b,p,z,R⟩ hg A c l at_ W hr hc hby aE hgE hl
end
end Go.Proofs.YtdlimghdimkadaaGreatDoor.PAll

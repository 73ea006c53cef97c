/- Part 6 of what the law EbmFormats rests on. -/
import Derived.Test.YtdlimghdimkadaaGreatDoorU5
import Derived.Deep.LoopGhost
import Derived.Test.YtdlimghdimkadaaGreatDoorU4
import Derived.BigQuiet
set_option maxRecDepth 100000
set_option maxHeartbeats 32000000
set_option linter.unusedSimpArgs false
set_option linter.unusedVariables false
namespace Go.Proofs.YtdlimghdimkadaaGreatDoor.PAll
open Go Go.RowKit YtdlimghdimkadaaGreatDoorW.PrintWords YtdlimghdimkadaaGreatDoorW.PrintLast YtdlimghdimkadaaGreatDoorW.PrintMore
attribute [local go_sem] qdG qdE qdY qdX qcJ qcI qdF qdD
section
theorem vcU {l:List F3} {t:Int} {i:Nat} {f:F3} (hg:l[i]?=some f) (hf:(f.f0==t)=true):l.any (fun f=>f.f0==t)=true :=
 List.any_eq_true.2 ⟨f,List.mem_of_getElem? hg,hf⟩
theorem qzV {l:List F3} {t:Int} {i:Nat} {f:F3} (h:(l.take i).any (fun f=>f.f0==t)=false) (hg:l[i]?=some f) (hf:(f.f0==t)=false):(l.take (i+1)).any (fun f=>f.f0==t)=false:=by
 obtain ⟨hlt,rfl⟩:=List.getElem?_eq_some_iff.1 hg;rw [List.take_add_one,List.getElem?_eq_getElem hlt,List.any_append,h]
 simpa using hf
theorem vcP (g:Nat) (t a b:Int) (f:F3) (w:World) (h:w.heap[g]?=some (.cells #[.int .i64 t,.int .i64 a,.int .i64 b] 83 (0,0))) :
  Calls Tryz.prog 110 #[.agg #[.int .i64 f.f0,.int .i64 f.f1,.int .i64 f.f2],.pointer (some ⟨g,0,none⟩)] w fun e w'=>e=.returned (.bool (f.f0==t))∧Below w.heap.size w w':=by
 have HX:=aM h;have hu44:=Tryz.underlying83;clear h;go_enter Tryz.func110,Tryz.ntmps110
 go_upto_region 1 with (fail)
 generalize hW:w.alloc (.cells #[.int .i64 f.f0,.int .i64 f.f1,.int .i64 f.f2] 83)=W1;have hb:Below w.heap.size w W1:=by rw [← hW];exact qaA (Below.refl _ _) _
 have hx:W1.heap[w.heap.size]?=some (.cells #[.int .i64 f.f0,.int .i64 f.f1,.int .i64 f.f2] 83 (0,0)):=by rw [← hW];exact qaM _ _ _
 have x0:=jC hx 0;have y0:=jC (qaB HX.out hb) 0;have HB:=aM hb;clear hW hx hb;go_wp2;go_ret;exact ⟨rfl,HB.out⟩
theorem qnD (g:Nat) (t a b:Int) (A:Option Addr) (c:Nat) (l:List F3) (w:World) (hg:w.heap[g]?=some (.cells #[.int .i64 t,.int .i64 a,.int .i64 b] 83 (0,0))) (hr:Kd.C kF w A l.length l) (hn:l.length≤4611686018427387904) :
  Calls Tryz.prog 142 #[.slice A l.length c,.func (.func 110) #[] #[.pointer (some ⟨g,0,none⟩)]] w fun e w'=>∃ r:Int,e=.returned (.int .i64 r)∧decide (0≤r)=l.any (fun f=>f.f0==t)∧Below w.heap.size w w':=by
 have HG:=aM hg;have HR:=aM hr;have HF:=aM (fun (W:World) (f:F3) (hb:Below w.heap.size w W)=>vcP g t a b f W (qaB HG.out hb));clear hg hr;go_enter Tryz.func142,Tryz.ntmps142
 go_upto_region 2 with (fail)
 go_loopw [8] (fun v8 wr=>∃ i:Nat,i≤l.length∧v8=.int .i64 i∧qaJ ((l.take i).any (fun f=>f.f0==t)=false)∧qaJ (Below w.heap.size w wr)) (fun i _=>l.length - (intOf i).toNat);case atStart=>exact ⟨0,Nat.zero_le _,rfl,⟨rfl⟩,⟨Below.refl _ _⟩⟩
 case round =>
  obtain ⟨i,hi,rfl,HM,HBr⟩:=hrel
  by_cases hlt:i < l.length
  ·have d0:decide ((i:Int) < (l.length:Int))=true:=decide_eq_true (by omega);have hq:(i < l.length)=True:=eq_true hlt;have hqi:((i:Int) < (l.length:Int))=True:=eq_true (by omega);obtain ⟨ad,rfl,y0,y1,y2⟩:=vfW (Kd.C_below HR.out HBr.out) (i:Int) (by omega) (by omega);rw [Int.toNat_natCast] at y0 y1 y2
   have hget:l[i]?=some (quK l (i:Int)):=by
    unfold quK;rw [Int.toNat_natCast,List.getD_eq_getElem?_getD,List.getElem?_eq_getElem hlt];rfl
   generalize quK l (i:Int)=f at y0 y1 y2 hget;have HGT:=aM hget;have hu44:=Tryz.underlying83;clear hget
   cases he:f.f0==t with
   | true =>
    have HE:=aM (vcU HGT.out he);have HF2:=aM (fun W hb=>show Calls Tryz.prog 110 #[.agg #[.int .i64 f.f0,.int .i64 f.f1,.int .i64 f.f2],.pointer (some ⟨g,0,none⟩)] W fun e w'=>e=.returned (.bool true)∧Below W.heap.size W w' by rw [← he];exact HF.out W f hb);clear he
    go_wp2_with (first
     | (go_at_call 110;(with_reducible refine (HF2.out _ HBr.out).mono ?_);rintro e w3 ⟨rfl,hb3⟩;have HB3:=aM hb3;clear hb3))
    go_ret;exact ⟨_,rfl,by rw [HE.out];exact decide_eq_true (by omega),qaC HBr.out HB3.out⟩
   | false =>
    have HM2:=aM (qzV HM.out HGT.out he);have HF2:=aM (fun W hb=>show Calls Tryz.prog 110 #[.agg #[.int .i64 f.f0,.int .i64 f.f1,.int .i64 f.f2],.pointer (some ⟨g,0,none⟩)] W fun e w'=>e=.returned (.bool false)∧Below W.heap.size W w' by rw [← he];exact HF.out W f hb);clear he
    go_wp2_with (first
     | (go_at_call 110;(with_reducible refine (HF2.out _ HBr.out).mono ?_);rintro e w3 ⟨rfl,hb3⟩;have HB3:=aM (qaC HBr.out hb3);clear hb3))
    go_roundw;case rel=>exact ⟨i+1,by omega,by push_cast;rfl,HM2,HB3⟩
    case measure=>simp [intOf];omega
  ·obtain rfl:i=l.length:=by omega
   have d0:decide ((l.length:Int) < (l.length:Int))=false:=decide_eq_false (by omega);go_wp2;go_ret;have hm:=HM.out;rw [List.take_length] at hm;exact ⟨_,rfl,by rw [hm];rfl,HBr.out⟩
theorem qjF (g:Nat) (t a b:Int) (A:Option Addr) (c:Nat) (l:List F3) (w:World) (hg:w.heap[g]?=some (.cells #[.int .i64 t,.int .i64 a,.int .i64 b] 83 (0,0))) (hr:Kd.C kF w A l.length l) (hn:l.length≤4611686018427387904) :
  Calls Tryz.prog 109 #[.slice A l.length c,.func (.func 110) #[] #[.pointer (some ⟨g,0,none⟩)]] w fun e w'=>e=.returned (.bool (l.any (fun f=>f.f0==t)))∧Below w.heap.size w w':=by
 have HI:=aM (qnD g t a b A c l w hg hr hn);clear hg hr hn;go_enter Tryz.func109,Tryz.ntmps109
 go_wp2_with (first
  | (go_at_call 142;(with_reducible refine HI.out.mono ?_);rintro e w1 ⟨r,rfl,hr,hb1⟩;have HR1:=aM hr;have HB1:=aM hb1;clear hr hb1))
 go_ret;rw [← HR1.out];exact ⟨rfl,HB1.out⟩
def qhP (f:F3):Bool:=(f.f1==1 && decide (0≤f.f2) && decide (f.f2≤2)) || (f.f1==2 && f.f2==0)
def qfA:List F3→List F3→Bool
 | _,[]=>true
 | seen,f :: r=>!decide (f.f0 < 1) && qhP f && !(seen.any (fun o=>o.f0==f.f0)) && qfA (seen ++ [f]) r
def qgC (l:List F3):Bool:=!decide (256 < l.length) && qfA [] l
theorem qvG {l:List F3} {i:Nat} {f:F3} (h:l[i]?=some f):qfA (l.take i) (l.drop i)=(!decide (f.f0 < 1) && qhP f && !((l.take i).any (fun o=>o.f0==f.f0)) && qfA (l.take (i+1)) (l.drop (i+1))):=by
 obtain ⟨hlt,rfl⟩:=List.getElem?_eq_some_iff.1 h;rw [← List.getElem_cons_drop (h:=hlt),qfA,List.take_add_one,List.getElem?_eq_getElem hlt];rfl
theorem qlO (A:Option Addr) (n c:Nat) (hn:256 < n) (W:World):Calls Tryz.prog 51 #[.slice A n c] W fun e w'=>e=.returned (.bool false)∧Below W.heap.size W w':=by
 have d0:decide (256 < n)=true:=decide_eq_true hn;have d1:decide ((256:Int) < (n:Int))=true:=decide_eq_true (by omega);go_enter Tryz.func51,Tryz.ntmps51;go_wp2;go_ret;exact ⟨rfl,Below.refl _ _⟩
theorem qnV (A:Option Addr) (c:Nat) (l:List F3) (W:World) (hr:Kd.C kF W A l.length l) (hc:l.length≤c) (hn:¬ 256 < l.length):Calls Tryz.prog 51 #[.slice A l.length c] W fun e w'=>e=.returned (.bool (qfA [] l))∧Below W.heap.size W w':=by
 have d0:decide (256 < l.length)=false:=decide_eq_false hn;have d1:decide ((256:Int) < (l.length:Int))=false:=decide_eq_false (by omega);have HR:=aM hr;have HC:=aM hc;have hu44:=Tryz.underlying83;clear hr hc;go_enter Tryz.func51,Tryz.ntmps51
 go_upto_region 4 with (fail)
 go_loopw [11] (fun v11 wr=>∃ i:Nat,i≤l.length∧v11=.int .i64 i∧qaJ (qfA [] l=qfA (l.take i) (l.drop i))∧qaJ (Below W.heap.size W wr)) (fun i _=>l.length - (intOf i).toNat);case atStart=>exact ⟨0,Nat.zero_le _,rfl,⟨rfl⟩,⟨Below.refl _ _⟩⟩
 case round =>
  obtain ⟨i,hi,rfl,HM,HBr⟩:=hrel
  by_cases hlt:i < l.length
  ·have dq:decide ((i:Int) < (l.length:Int))=true:=decide_eq_true (by omega);have hq:(i < l.length)=True:=eq_true hlt;have hqi:((i:Int) < (l.length:Int))=True:=eq_true (by omega);obtain ⟨ad,rfl,y0,y1,y2⟩:=vfW (Kd.C_below HR.out HBr.out) (i:Int) (by omega) (by omega);rw [Int.toNat_natCast] at y0 y1 y2
   have hget:l[i]?=some (quK l (i:Int)):=by
    unfold quK;rw [Int.toNat_natCast,List.getD_eq_getElem?_getD,List.getElem?_eq_getElem hlt];rfl
   generalize quK l (i:Int)=f at y0 y1 y2 hget;have HPG:=aM (HM.out.trans (qvG hget));clear hget
   go_upto_region 6 with (fail)
   generalize hW:wr.alloc (.cells #[.int .i64 f.f0,.int .i64 f.f1,.int .i64 f.f2] 83)=W1;have hb1:Below wr.heap.size wr W1:=by rw [← hW];exact qaA (Below.refl _ _) _
   have hx1:W1.heap[wr.heap.size]?=some (.cells #[.int .i64 f.f0,.int .i64 f.f1,.int .i64 f.f2] 83 (0,0)):=by rw [← hW];exact qaM _ _ _
   have z0:=jC hx1 0;have z1:=jC hx1 1;have z2:=jC hx1 2;have HB1:=aM (qaC HBr.out hb1);have hlc:i≤c:=by have:=HC.out;omega
   have dlc:decide (c < i)=false:=decide_eq_false (by omega)
   have HCF:=aM (show Calls Tryz.prog 109 #[.slice (some ad) i c,.func (.func 110) #[] #[.pointer (some ⟨wr.heap.size,0,none⟩)]] W1 _ by
    have hcf:=qjF wr.heap.size f.f0 f.f1 f.f2 (some ad) c (l.take i) W1 hx1 (Kd.C_take (Kd.C_below HR.out HB1.out) (Nat.le_of_lt hlt)) (by rw [List.length_take];omega);rw [show (l.take i).length=i by rw [List.length_take];omega] at hcf
    exact hcf)
   clear hW hb1 hx1 y0 y1 y2
   cases q1:f.f1==1 with
   | true =>
    have q4:(f.f1==2)=false:=by
     simp only [beq_eq_false_iff_ne];have:=beq_iff_eq.1 q1;omega
    cases q2:decide (0≤f.f2) with
    | true =>
     cases q3:decide (f.f2≤2) with
     | true =>
      have HT:=aM (show qhP f=true by unfold qhP;rw [q1,q2,q3];rfl)
      cases h0:decide (f.f0 < 1) with
      | true =>
       go_wp2;go_ret;rw [HPG.out,h0];exact ⟨rfl,HB1.out⟩
      | false =>
       cases ha:(l.take i).any (fun o=>o.f0==f.f0) with
       | true =>
        have HA:=aM ha;have HCG:=HCF.out;rw [ha] at HCG;have HCG2:=aM HCG;clear ha HCG
        go_wp2_with (first
         | (go_at_call 109;(with_reducible refine HCG2.out.mono ?_);rintro e w3 ⟨rfl,hb3⟩;have HB3:=aM (qaC HB1.out hb3);clear hb3))
        go_ret;rw [HPG.out,h0,HT.out,HA.out];exact ⟨rfl,HB3.out⟩
       | false =>
        have HA:=aM ha;have HCG:=HCF.out;rw [ha] at HCG;have HCG2:=aM HCG;have HM2:=aM (show qfA [] l=qfA (l.take (i+1)) (l.drop (i+1)) by rw [HPG.out,h0,HT.out,ha];rfl);clear ha HCG
        go_wp2_with (first
         | (go_at_call 109;(with_reducible refine HCG2.out.mono ?_);rintro e w3 ⟨rfl,hb3⟩;have HB3:=aM (qaC HB1.out hb3);clear hb3))
        go_roundw;case rel=>exact ⟨i+1,by omega,by push_cast;rfl,HM2,HB3⟩
        case measure=>simp [intOf];omega
     | false =>
      have HT:=aM (show qhP f=false by unfold qhP;rw [q1,q2,q3,q4];rfl)
      cases h0:decide (f.f0 < 1) with
      | true =>
       go_wp2;go_ret;rw [HPG.out,h0];exact ⟨rfl,HB1.out⟩
      | false =>
       go_wp2;go_ret;rw [HPG.out,h0,HT.out];exact ⟨rfl,HB1.out⟩
    | false =>
     have HT:=aM (show qhP f=false by unfold qhP;rw [q1,q2,q4];rfl)
     cases h0:decide (f.f0 < 1) with
     | true =>
      go_wp2;go_ret;rw [HPG.out,h0];exact ⟨rfl,HB1.out⟩
     | false =>
      go_wp2;go_ret;rw [HPG.out,h0,HT.out];exact ⟨rfl,HB1.out⟩
   | false =>
    cases q4:f.f1==2 with
    | true =>
     cases q5:f.f2==0 with
     | true =>
      have HT:=aM (show qhP f=true by unfold qhP;rw [q1,q4,q5];rfl)
      cases h0:decide (f.f0 < 1) with
      | true =>
       go_wp2;go_ret;rw [HPG.out,h0];exact ⟨rfl,HB1.out⟩
      | false =>
       cases ha:(l.take i).any (fun o=>o.f0==f.f0) with
       | true =>
        have HA:=aM ha;have HCG:=HCF.out;rw [ha] at HCG;have HCG2:=aM HCG;clear ha HCG
        go_wp2_with (first
         | (go_at_call 109;(with_reducible refine HCG2.out.mono ?_);rintro e w3 ⟨rfl,hb3⟩;have HB3:=aM (qaC HB1.out hb3);clear hb3))
        go_ret;rw [HPG.out,h0,HT.out,HA.out];exact ⟨rfl,HB3.out⟩
       | false =>
        have HA:=aM ha;have HCG:=HCF.out;rw [ha] at HCG;have HCG2:=aM HCG;have HM2:=aM (show qfA [] l=qfA (l.take (i+1)) (l.drop (i+1)) by rw [HPG.out,h0,HT.out,ha];rfl);clear ha HCG
        go_wp2_with (first
         | (go_at_call 109;(with_reducible refine HCG2.out.mono ?_);rintro e w3 ⟨rfl,hb3⟩;have HB3:=aM (qaC HB1.out hb3);clear hb3))
        go_roundw;case rel=>exact ⟨i+1,by omega,by push_cast;rfl,HM2,HB3⟩
        case measure=>simp [intOf];omega
     | false =>
      have HT:=aM (show qhP f=false by unfold qhP;rw [q1,q4,q5];rfl)
      cases h0:decide (f.f0 < 1) with
      | true =>
       go_wp2;go_ret;rw [HPG.out,h0];exact ⟨rfl,HB1.out⟩
      | false =>
       go_wp2;go_ret;rw [HPG.out,h0,HT.out];exact ⟨rfl,HB1.out⟩
    | false =>
     have HT:=aM (show qhP f=false by unfold qhP;rw [q1,q4];rfl)
     cases h0:decide (f.f0 < 1) with
     | true =>
      go_wp2;go_ret;rw [HPG.out,h0];exact ⟨rfl,HB1.out⟩
     | false =>
      go_wp2;go_ret;rw [HPG.out,h0,HT.out];exact ⟨rfl,HB1.out⟩
  ·obtain rfl:i=l.length:=by omega
   have dq:decide ((l.length:Int) < (l.length:Int))=false:=decide_eq_false (by omega);go_wp2;go_ret;have hm:=HM.out;rw [List.drop_length] at hm;rw [hm];exact ⟨rfl,HBr.out⟩
theorem qiX (A:Option Addr) (c:Nat) (l:List F3) (W:World) (hr:Kd.C kF W A l.length l) (hc:l.length≤c):Calls Tryz.prog 51 #[.slice A l.length c] W fun e w'=>e=.returned (.bool (qgC l))∧Below W.heap.size W w':=by
 by_cases h:256 < l.length
 ·rw [show qgC l=false by unfold qgC;rw [decide_eq_true h];rfl];exact qlO A l.length c h W
 ·rw [show qgC l=qfA [] l by unfold qgC;rw [decide_eq_false h];rfl];exact qnV A c l W hr hc h
end
end Go.Proofs.YtdlimghdimkadaaGreatDoor.PAll
namespace Go.Proofs.YtdlimghdimkadaaGreatDoor.RelS
open Go Go.RowKit YtdlimghdimkadaaGreatDoorW.PrintLast YtdlimghdimkadaaGreatDoorW.PrintWords Reg Rel
def cnt (Z:List Nat) (b:Nat→Bool):Nat:=Z.countP b
def loZ (Z B:List Nat) (n i:Nat):Nat:=Z.countP fun z=>(qkY B n i).contains z
def hiZ (Z B:List Nat) (n i:Nat):Nat:=Z.countP fun z=>!(qdA B n i).contains z && !(z==i)
def nxZ (Z:List Nat) (i s:Nat):Nat:=if Z.contains i then s+1 else s
theorem vaM (b:Nat→Bool) (i:Nat) (hb:b i=false):∀ (Z:List Nat),Z.Nodup→cnt Z (up b i)=nxZ Z i (cnt Z b)
 | [],_=>by simp [cnt,nxZ]
 | z :: r,h=>by
  obtain ⟨h1,h2⟩:=List.nodup_cons.1 h;have ih:=vaM b i hb r h2;unfold cnt nxZ at ih ⊢;rw [List.countP_cons,List.countP_cons,ih]
  by_cases hz:z=i
  ·subst hz;rw [qiO,hb];have h3:r.contains z=false:=by simpa using h1
   have h4:(z :: r).contains z=true:=by simp
   rw [h3,h4];simp
  ·rw [qfZ hz]
   have h4:(z :: r).contains i=r.contains i:=by
    rw [List.contains_cons];have:(i==z)=false:=by simpa using fun h=>hz h.symm
    rw [this,Bool.false_or]
   rw [h4]
   cases r.contains i <;> simp <;> omega
def quH (P:Program) (ops:Array Oper) (Q:Exit→Act→World→Prop) (B:List Nat) (n:Nat) (a0:Act) (V:List Ent) (Z:List Nat) (S:Nat→World→Prop) (G:World→World→Prop) (i:Nat) (oi:Oper):Prop :=
 (match oi.dst with
   | some t=>∃ (k:Nat) (e:Value ⊕ (Value→World→Prop)),V[k]?=some (i,t,e)∧∀ s a w,loZ Z B n i≤s→s≤hiZ Z B n i→S s w→qfQ a0 V (qkY B n i) (qdA B n i) a w→∀ K:Act→World→Prop,
     (∀ v w',S (nxZ Z i s) w'→G w w'→(match e with | .inl c=>v=c | .inr q=>q v w')→K (a.put (some t) v) w') →
     if Region.wanted oi (yielded ops a.tmps)=true then Oper.wp P oi a w K Q else K (a.put (some t) undef) w
   | none=>((inst U0 0 V).all fun e=>!(e.1==i))=true∧∀ s a w,loZ Z B n i≤s→s≤hiZ Z B n i→S s w→qfQ a0 V (qkY B n i) (qdA B n i) a w→∀ K:Act→World→Prop,(∀ w',S (nxZ Z i s) w'→G w w'→K a w') →
     if Region.wanted oi (yielded ops a.tmps)=true then Oper.wp P oi a w K Q else K a w)
section
variable {P:Program} {ops:Array Oper} {Q:Exit→Act→World→Prop} {T:Bool × List (List Nat × List Nat)} {B:List Nat}
theorem qqA {id n:Nat} {a0:Act} {w0:World} (V:List Ent) (Z:List Nat) (S:Nat→World→Prop) (G:World→World→Prop) (hm:P.follows .mixedOrders=true) (hn:ops.size=n)
  (hT:qeN .any ops=T) (hw:qdQ T.2 B=true) (hk:qeL T.2 (List.range n)=true) (hl:T.2.length=n)
  (hZ:Z.Nodup) (hZn:Z.all (fun z=>decide (z < n))=true) (h0:S 0 w0.drew) (hst:∀ (k:Nat) (i:Nat) (t:Tmp) (q:Value→World→Prop),V[k]?=some (i,t,.inr q)→∀ v w w',G w w'→q v w→q v w')
  (hs:∀ i ∈ List.range n,∃ oi,ops[i]?=some oi∧quH P ops Q B n a0 V Z S G i oi) (hV:okV (inst U0 0 V) a0.tmps.size=true) (hlt:(inst U0 0 V).all (fun e=>decide (e.1 < n))=true)
  (hend:∀ U w,S Z.length w→(∀ (k:Nat) (i:Nat) (t:Tmp) (q:Value→World→Prop),V[k]?=some (i,t,.inr q)→q (U k) w)→Q .normal (putV a0 (inst U 0 V)) w):(Code.region id ops true).wp P Q a0 w0:=by
 have hVU:∀ U,okV (inst U 0 V) a0.tmps.size=true:=fun U=>by rw [qvS (qdI (U:=U) (U':=U0))];exact hV
 refine qlX (n:=n) (S:=fun _=>True) (ds:=[]) (Array.replicate n false) hm hn rfl trivial (fun _=>?_);refine veW (T:=T) (B:=B) (md:=.any) (List.range n) (fun b a w=>∃ U,a=qbC a0 b (inst U 0 V)∧S (cnt Z b) w∧∀ (k:Nat) (i:Nat) (t:Tmp) (q:Value→World→Prop),V[k]?=some (i,t,.inr q)→b i=true→q (U k) w) hT hw hk ?_ ?_ ?_ ?_
 ·rw [Bool.and_eq_true,beq_iff_eq,beq_iff_eq];refine ⟨?_,by simp⟩;apply List.ext_getElem?;intro j;simp only [lof,hl]
  by_cases hj:j < n
  ·simp [hj]
  ·simp [hj]
 ·refine ⟨U0,?_,by rw [show cnt Z (fun _=>false)=0 by simp [cnt]];exact h0,fun _ _ _ _ _ hb=>by cases hb⟩
  have:∀ (V:List (Nat × Tmp × Value)) (a:Act),qbC a (fun _=>false) V=a:=by
   intro V
   induction V with
   | nil=>intro a;rfl
   | cons e r ih=>intro a;unfold qbC;simpa using ih a
  exact (this _ a0).symm
 ·intro i hi b a w hI hb hdep hlat;obtain ⟨U,rfl,hS,hU⟩:=hI;obtain ⟨oi,ho,hd⟩:=hs i hi;refine ⟨oi,ho,fun K hK=>?_⟩;have hin:∀ j,j < n→(List.range n).contains j=true:=fun j hj=>by simp [hj]
  have hD:∀ j,(qkY B n i).contains j=true→b j=true:=fun j hj=>by
   have h1:=List.contains_iff_mem.1 hj;obtain ⟨h2,h3⟩:=List.mem_filter.1 h1;exact hdep j (by rw [hin j (List.mem_range.1 h2),h3];rfl)
  have hL:∀ j,(qdA B n i).contains j=true→b j=false:=fun j hj=>by
   have h1:=List.contains_iff_mem.1 hj;obtain ⟨h2,h3⟩:=List.mem_filter.1 h1;exact hlat j (by rw [hin j (List.mem_range.1 h2),h3];rfl)
  have hslot:∀ (k:Nat) (e:Nat × Tmp × Value),(inst U 0 V)[k]?=some e→(qkY B n i).contains e.1=true→(qbC a0 b (inst U 0 V)).tmps[e.2.1]?=some e.2.2:=by
   intro k e hk hDe;obtain ⟨h1,h2⟩:=qgF (hVU U) hk;refine qgB k hk ?_ (hD _ hDe) h2;rw [List.all_append,Bool.and_eq_true] at h1;refine List.all_eq_true.2 (fun x hx=>?_);have:=List.all_eq_true.1 h1.2 x hx;rw [Bool.and_eq_true] at this;exact this.2
  have hK0:qfQ a0 V (qkY B n i) (qdA B n i) (qbC a0 b (inst U 0 V)) w:=by
   refine ⟨fun t v ht h0t=>?_,fun t v j hj ht h0t=>?_,fun k i t v hk hDe=>hslot k (i,t,v) (qfN hk) hDe,fun k i t q hk hDe=>⟨U k,?_,hU k i t q hk (hD _ hDe)⟩⟩
   ·rw [qdT (by rw [qfP (p:=fun z=>!(z.2==t)) (qdI (U:=U) (U':=U0))];exact ht)];exact h0t
   ·rw [qeE (hL j hj) (by rw [qfP (p:=fun z=>!(z.2==t) || z.1==j) (qdI (U:=U) (U':=U0))];exact ht)];exact h0t
   ·have:=hslot k _ (qdS (U:=U) (m:=0) hk) hDe;rw [Nat.zero_add] at this;exact this
  have hlo:loZ Z B n i≤cnt Z b:=List.countP_mono_left (fun z _ hz=>hD z hz)
  have hhi:cnt Z b≤hiZ Z B n i:=List.countP_mono_left (fun z _ hz=>by
   have h1:(qdA B n i).contains z=false:=by
    cases hc:(qdA B n i).contains z with
    | false=>rfl
    | true=>rw [hL z hc] at hz;cases hz
   have h2:(z==i)=false:=by
    simp only [beq_eq_false_iff_ne];rintro rfl;rw [hb] at hz
    cases hz
   rw [h1,h2]
   rfl)
  have hcu:=vaM b i hb Z hZ;unfold quH at hd
  rcases hdst:oi.dst with _|t
  ·rw [hdst] at hd;obtain ⟨hv,hd⟩:=hd;have:=hd (cnt Z b) (qbC a0 b (inst U 0 V)) w hlo hhi hS hK0 (fun a w=>K a w) (fun w' hS' hG=>?_)
   ·exact this
   ·have h9:=hK (qbC a0 b (inst U 0 V)) w' ⟨U,?_,by rw [hcu];exact hS',fun k j t q hk hbj=>?_⟩
    ·exact h9
    ·have:=qfK (a:=a0) (b:=b) (v:=undef) (i:=i) (L:=inst U 0 V) (by rw [qfP (p:=fun z=>!(z.1==i)) (qdI (U:=U) (U':=U0))];exact hv);exact this
    ·refine hst k j t q hk _ _ _ hG (hU k j t q hk ?_)
     by_cases hji:j=i
     ·exfalso
      subst hji;obtain ⟨v,hg⟩:=qjL (U:=U0) hk;have:=List.all_eq_true.1 hv _ (List.mem_of_getElem? hg);simp at this
     ·rwa [qfZ hji] at hbj
  ·rw [hdst] at hd;obtain ⟨k,e,hk,hd⟩:=hd;refine hd (cnt Z b) (qbC a0 b (inst U 0 V)) w hlo hhi hS hK0 K (fun v w' hS' hG hv=>?_)
   cases e with
   | inl c =>
    obtain rfl:v=c:=hv;have hk1:=qfN (U:=U) (m:=0) hk;obtain ⟨h1,_⟩:=qgF (hVU U) hk1;refine hK _ w' ⟨U,?_,by rw [hcu];exact hS',fun k' j t' q hk' hbj=>?_⟩
    ·refine qeD (L:=inst U 0 V) (L':=inst U 0 V) k hb hk1 ?_ h1;obtain ⟨hk3,hk4⟩:=List.getElem?_eq_some_iff.1 hk1;rw [← hk4,List.set_getElem_self]
    ·refine hst k' j t' q hk' _ _ _ hG (hU k' j t' q hk' ?_)
     by_cases hji:j=i
     ·exfalso
      subst hji
      have hkk:k' ≠ k:=by
       rintro rfl;rw [hk] at hk';simp at hk'
      exact qrI (hVU U) hk1 (qdS (U:=U) (m:=0) hk') (fun h=>hkk h)
     ·rwa [qfZ hji] at hbj
   | inr q =>
    have hk1:=qdS (U:=U) (m:=0) hk;obtain ⟨h1,_⟩:=qgF (hVU U) hk1;refine hK _ w' ⟨fun j=>if j=0+k then v else U j,?_,by rw [hcu];exact hS',fun k' j t' q' hk' hbj=>?_⟩
    ·exact qeD (L:=inst U 0 V) k hb hk1 (qjK hk) h1
    ·rw [Nat.zero_add]
     by_cases hkk:k'=k
     ·subst hkk;rw [hk] at hk';simp only [Option.some.injEq,Prod.mk.injEq,Sum.inr.injEq] at hk';obtain ⟨rfl,rfl,rfl⟩:=hk';simp only [if_true];exact hv
     ·simp only [if_neg hkk];refine hst k' j t' q' hk' _ _ _ hG (hU k' j t' q' hk' ?_)
      by_cases hji:j=i
      ·exfalso
       subst hji;exact qrI (hVU U) hk1 (qdS (U:=U) (m:=0) hk') (fun h=>hkk h)
      ·rwa [qfZ hji] at hbj
 ·intro b a w hb hI;obtain ⟨U,rfl,hS,hU⟩:=hI
  rw [qeZ (fun e he=>hb e.1 (by
   have h2:(inst U 0 V).all (fun e=>decide (e.1 < n))=true:=by rw [qfP (p:=fun z=>decide (z.1 < n)) (qdI (U:=U) (U':=U0))];exact hlt
   have:=List.all_eq_true.1 h2 e he;simp only [decide_eq_true_eq] at this
   simp [this]))]
  refine hend U w (by
   have h9:cnt Z b=Z.length:=List.countP_eq_length.2 (fun z hz=>hb z (by
    have:=List.all_eq_true.1 hZn z hz;simp only [decide_eq_true_eq] at this
    simp [this]))
   rw [← h9];exact hS) (fun k i t q hk=>hU k i t q hk (hb i ?_))
  obtain ⟨v,hg⟩:=qjL (U:=U0) hk;have:=List.all_eq_true.1 hlt _ (List.mem_of_getElem? hg);simp only [decide_eq_true_eq] at this;simp [this]
def qpN (P:Program) (ops:Array Oper) (Q:Exit→Act→World→Prop) (B:List Nat) (n:Nat) (a0:Act) (V:List Ent) (Z:List Nat) (S:Nat→World→Prop) (G:World→World→Prop):Nat→List Oper→Prop
 | _,[]=>True
 | i,o :: r=>quH P ops Q B n a0 V Z S G i o∧qpN P ops Q B n a0 V Z S G (i+1) r
theorem qoT {n:Nat} {a0:Act} {V:List Ent} {Z:List Nat} {S:Nat→World→Prop} {G:World→World→Prop}:∀ (l:List Oper) (i:Nat),qpN P ops Q B n a0 V Z S G i l→(∀ j,l[j]?=ops[i+j]?)→∀ j,j < l.length→∃ oi,ops[i+j]?=some oi∧quH P ops Q B n a0 V Z S G (i+j) oi
 | [],_,_,_,j,hj=>by simp at hj
 | o :: r,i,h,hg,0,_=>by
  have h0:=hg 0;simp only [List.getElem?_cons_zero,Nat.add_zero] at h0;exact ⟨o,h0.symm,h.1⟩
 | o :: r,i,h,hg,j+1,hj=>by
  have h2:=qoT r (i+1) h.2 (fun m=>by
   have:=hg (m+1);simp only [List.getElem?_cons_succ] at this
   rw [this,show i+(m+1)=i+1+m by omega]) j (by simp at hj;omega)
  rwa [show i+1+j=i+(j+1) by omega] at h2
theorem fromS_nil {n i:Nat} {a0:Act} {V:List Ent} {Z:List Nat} {S:Nat→World→Prop} {G:World→World→Prop}:qpN P ops Q B n a0 V Z S G i []:=trivial
theorem fromS_some {n i:Nat} {a0:Act} {V:List Ent} {Z:List Nat} {S:Nat→World→Prop} {G:World→World→Prop} {o:Oper} {r:List Oper} {t:Tmp} {v:Value} (k:Nat) (ht:o.dst=some t) (hk:V[k]?=some (i,t,.inl v))
  (h:∀ s a w,loZ Z B n i≤s→s≤hiZ Z B n i→S s w→qfQ a0 V (qkY B n i) (qdA B n i) a w→∀ K:Act→World→Prop,(∀ w',S (nxZ Z i s) w'→G w w'→K (a.put (some t) v) w')→if Region.wanted o (yielded ops a.tmps)=true then Oper.wp P o a w K Q else K (a.put (some t) undef) w)
  (hr:qpN P ops Q B n a0 V Z S G (i+1) r):qpN P ops Q B n a0 V Z S G i (o :: r):=by
 refine ⟨?_,hr⟩;unfold quH;rw [ht];exact ⟨k,_,hk,fun s a w hlo hhi hS hK K hC=>h s a w hlo hhi hS hK K (fun w' hS' hG=>hC v w' hS' hG rfl)⟩
theorem fromS_none {n i:Nat} {a0:Act} {V:List Ent} {Z:List Nat} {S:Nat→World→Prop} {G:World→World→Prop} {o:Oper} {r:List Oper} (ht:o.dst=none) (hk:((inst U0 0 V).all fun e=>!(e.1==i))=true)
  (h:∀ s a w,loZ Z B n i≤s→s≤hiZ Z B n i→S s w→qfQ a0 V (qkY B n i) (qdA B n i) a w→∀ K:Act→World→Prop,(∀ w',S (nxZ Z i s) w'→G w w'→K a w')→if Region.wanted o (yielded ops a.tmps)=true then Oper.wp P o a w K Q else K a w)
  (hr:qpN P ops Q B n a0 V Z S G (i+1) r):qpN P ops Q B n a0 V Z S G i (o :: r):=by
 refine ⟨?_,hr⟩;unfold quH;rw [ht];exact ⟨hk,h⟩
theorem relS {id n:Nat} {a0:Act} {w0:World} (V:List Ent) (Z:List Nat) (S:Nat→World→Prop) (G:World→World→Prop) (hm:P.follows .mixedOrders=true) (hn:ops.size=n) (hc:qnW ops n=true)
  (hZ:Z.Nodup) (hZn:Z.all (fun z=>decide (z < n))=true) (h0:S 0 w0.drew) (hst:∀ (k:Nat) (i:Nat) (t:Tmp) (q:Value→World→Prop),V[k]?=some (i,t,.inr q)→∀ v w w',G w w'→q v w→q v w')
  (hs:qpN P ops Q (Reg.bits ops) n a0 V Z S G 0 ops.toList) (hV:okV (inst U0 0 V) a0.tmps.size=true) (hlt:(inst U0 0 V).all (fun e=>decide (e.1 < n))=true)
  (hend:∀ U w,S Z.length w→(∀ (k:Nat) (i:Nat) (t:Tmp) (q:Value→World→Prop),V[k]?=some (i,t,.inr q)→q (U k) w)→Q .normal (putV a0 (inst U 0 V)) w):(Code.region id ops true).wp P Q a0 w0:=by
 unfold qnW at hc;rw [Bool.and_eq_true,Bool.and_eq_true,beq_iff_eq] at hc;refine qqA V Z S G hm hn rfl hc.1.1 hc.1.2 hc.2 hZ hZn h0 hst (fun i hi=>?_) hV hlt hend;have h2:=qoT ops.toList 0 hs (fun j=>by simp) i (by simpa [hn] using hi)
 rwa [Nat.zero_add] at h2
end
end Go.Proofs.YtdlimghdimkadaaGreatDoor.RelS
namespace Go.Proofs.YtdlimghdimkadaaGreatDoor.PAll
open Go Go.RowKit YtdlimghdimkadaaGreatDoorW.PrintWords YtdlimghdimkadaaGreatDoorW.PrintLast YtdlimghdimkadaaGreatDoorW.PrintMore
attribute [local go_sem] qdG qdE qdY qdX qcJ qcI qdF qdD
section
variable {w0 W:World} {gc gb:Nat} {gp:Nat→Nat} {m:Ch} {D:Nat→Nat→List Int}
abbrev gV (B P Z R:Int):Value:=.agg #[.int .i64 B,.int .i64 P,.int .i64 Z,.int .i64 R]
theorem vdY:(Tryz.prog.info? 83).map (fun i=>(i.zero,i.size,i.bytes))=some (some (.agg #[.int .i64 0,.int .i64 0,.int .i64 0]),3,24):=by kernel_rfl
theorem qpD (A:Option Addr) (c:Nat) (l:List F3) (w:World) (hr:Kd.C kF w A l.length l) (hc:l.length≤c) (hb:l.length≤1000000) :
  Calls Tryz.prog 52 #[.slice A l.length c] w fun e w'=>∃ v0_:Value,e=.returned (v0_)∧Kd.R kF 83 w' w.heap.size (fun _=>True) v0_ l∧Below w.heap.size w w':=by
 have HR:=aM hr;have HC:=aM hc;have HBs:=aM hb;clear hc hb
 rcases A with _|ad
 ·have h0:l=[]:=by
   rcases Nat.eq_zero_or_pos l.length with h0|h0
   ·exact List.eq_nil_of_length_eq_zero h0
   ·obtain ⟨ad,h,_⟩:=hr.2.2 h0
    cases h
  subst h0;clear hr;have hnil:=fun W:World=>Lib.run_eql_slice_nil (P:=Tryz.prog) W 36 83 none 0 c 0 0 Tryz.underlying36
  go_enter Tryz.func52,Tryz.ntmps52;go_wp2;go_ret;exact ⟨_,rfl,Kd.R_nil _ _ _ _ _,Below.refl _ _⟩
 ·clear hr;have hnil:=fun W:World=>Lib.run_eql_slice_nil (P:=Tryz.prog) W 36 83 (some ad) l.length c 0 0 Tryz.underlying36
  go_enter Tryz.func52,Tryz.ntmps52
  go_wp2_with (first
   | ((with_reducible refine qcL (N:=5) rfl ?_);refine Kd.R_lit kF w.heap.size 83 ?hg (N:=5) ?hd (xs:=([]:List F3)) (inner:=[]) (ok:=fun _=>True) (okp:=fun _=>True) ?hr ?hp (fun _ hk=>hk) trivial (Below.refl _ _) (Nat.le_refl _) (by simp) ?_;(case hd=>rfl);(case hg=>rfl);(case hr=>first|(go_simp;done)|(go_simp;rfl));(case hp=>exact (qeX.none _ _));intro v1 w1 ho hb _ _;have HO:=aM ho;have HB:=aM hb;clear ho hb)
   | ((with_reducible refine qbH (b:=.append) (xs:=#[.tmp 5,.tmp 6]) rfl ?_);at_builtin;refine Kd.R_append_rows kF (w0:=w) w.heap.size rfl (.tmp 5) (.tmp 6) 36 83 (.agg #[.int .i64 0,.int .i64 0,.int .i64 0]) 24 rfl Tryz.underlying36 vdY rfl (by decide) (by decide) v1 [] l _ _ _ (fun _=>True) (fun _=>False) rfl rfl ?aO ?aR (fun _ _ h=>h) (fun _ h=>h.elim) ?aF ?aB ?aS ?aL ?_;(case aO=>exact HO.out);(case aR=>exact Kd.C_below HR.out HB.out);(case aF=>exact fun _ _=>trivial);(case aB=>exact HB.out);(case aS=>exact qaI HB.out);(case aL=>have:=HBs.out;simp;omega);intro v2 w2 ho2 hb2 _ _;have HO2:=aM ho2;have HB2:=aM hb2;clear ho2 hb2))
  go_ret;exact ⟨_,rfl,HO2.out,HB2.out⟩
theorem qsV {l:List F3} (h:qgC l=true):l.length≤256:=by
 unfold qgC at h;simp only [Bool.and_eq_true,Bool.not_eq_true',decide_eq_false_iff_not] at h;omega
theorem quY {g:Geo} (h:qbQ g.B g.P g.Z g.R=true):GOK g:=by
 unfold qbQ at h;simp only [Bool.and_eq_true,decide_eq_true_eq] at h;unfold GOK;omega
def b0:Bk:=⟨false,0,0,fun _=>⟨0,.slice none 0 0⟩⟩
def m0 (g:Geo) (pv:Value) (pl:List F3):Ch:=⟨g,pv,pl,0,false,0,0,fun _=>b0⟩
def qlQ (P:Nat) (i:Nat) (gp:Nat→Nat) (k:Nat):Value :=
 if k % 4=0 then .bool false else if k % 4=1 then .int .i64 0 else if k % 4=2 then (if k / 4 < i then .slice (some ⟨gp (k / 4),0,none⟩) P P else .slice none 0 0) else .int .i64 0
def cN (g:Geo) (i:Nat) (gp:Nat→Nat):Array Value:=Array.ofFn fun k:Fin (g.B*4)=>qlQ g.P i gp k.val
theorem qnB (z:Array Value) (n k:Nat) (h:k < n):(madeCells z n)[k]?=some (z[k % z.size]!):=by
 unfold madeCells;rw [Array.getElem?_map,Array.getElem?_range,if_pos h];rfl
theorem cN_0 (g:Geo) (gp:Nat→Nat):cN g 0 gp=madeCells (#[.bool false,.int .i64 0,.slice none 0 0,.int .i64 0]) (g.B*4):=by
 apply Array.ext_getElem?;intro i
 by_cases h:i < g.B*4
 ·unfold cN;rw [qnB _ _ _ h,Array.getElem?_ofFn,dif_pos h];unfold qlQ;have h4:i % 4=0∨i % 4=1∨i % 4=2∨i % 4=3:=by omega
  rcases h4 with h4|h4|h4|h4 <;> simp [h4]
 ·rw [Array.getElem?_eq_none (by unfold cN;simp;omega),Array.getElem?_eq_none (by rw [size_madeCells];omega)]
theorem cP_0 (P:Nat):cP P b0=madeCells (#[.int .i64 0,.slice none 0 0]) (P*2):=by
 apply Array.ext_getElem?;intro i
 by_cases h:i < P*2
 ·rw [qnB _ _ _ h,vaN _ _ _ h];unfold qkD b0;have h4:i % 2=0∨i % 2=1:=by omega
  rcases h4 with h4|h4 <;> simp [h4]
 ·rw [Array.getElem?_eq_none (by unfold cP;simp;omega),Array.getElem?_eq_none (by rw [size_madeCells];omega)]
theorem veI (g:Geo) (gp:Nat→Nat) (pv:Value) (pl:List F3):cN g g.B gp=cB gp (m0 g pv pl):=by
 unfold cN cB;change (Array.ofFn fun k:Fin (g.B*4)=>qlQ g.P g.B gp k.val)=Array.ofFn fun k:Fin (g.B*4)=>qgY gp (m0 g pv pl) k.val
 congr 1
 funext k
 unfold qlQ qgY;have hk:k.val / 4 < g.B:=by have:=k.isLt;omega
 rw [if_pos hk];rfl
theorem veG (g:Geo) (i:Nat) (gp:Nat→Nat) (x:Nat):(cN g i gp).setIfInBounds (i*4+2) (.slice (some ⟨x,0,none⟩) g.P g.P)=cN g (i+1) (fun y=>if y=i then x else gp y):=by
 refine qgT (qlQ g.P i gp) _ _ _ ?_ (fun k hk=>?_)
 ·unfold qlQ;rw [show (i*4+2) % 4=2 by omega,show (i*4+2) / 4=i by omega];simp
 ·unfold qlQ;have h4:k % 4=0∨k % 4=1∨k % 4=2∨k % 4=3:=by omega
  rcases h4 with h4|h4|h4|h4
  ·simp [h4]
  ·simp [h4]
  ·have hne:k / 4 ≠ i:=fun h=>hk (by omega)
   simp only [h4,hne]
   by_cases hlt:k / 4 < i
   ·simp [hlt,show k / 4 < i+1 by omega]
   ·simp [hlt,show ¬ k / 4 < i+1 by omega]
  ·simp [h4]
theorem veH (g:Geo) (i:Nat) (gp:Nat→Nat) (k:Nat) (h:k < g.B*4):(cN g i gp)[k]?=some (qlQ g.P i gp k):=by
 unfold cN;rw [Array.getElem?_ofFn,dif_pos h]
theorem qzB:(Tryz.prog.info? 97).map (fun i=>(i.zero.map Value.cells,i.size,i.bytes))=some (some #[.bool false,.int .i64 0,.slice none 0 0,.int .i64 0],4,48):=by kernel_rfl
theorem vcF:(Tryz.prog.info? 159).map (fun i=>(i.zero.map Value.cells,i.size,i.bytes))=some (some #[.int .i64 0,.slice none 0 0],2,32):=by kernel_rfl
theorem qkJ (t e:TypeId) (z:Array Value) (s b n:Nat) (hu:Tryz.prog.underlying t=some (.slice e)) (hi:(Tryz.prog.info? e).map (fun i=>(i.zero.map Value.cells,i.size,i.bytes))=some (some z,s,b)) (hb:b*n≤281474976710656) (hn:n≤1000000) (w:World) :
  (Instr.makeSlice t (.int .i64 n) (.int .i64 n)).run Tryz.prog w=.ok (.slice (some ⟨w.heap.size,0,none⟩) n n) (w.alloc (.cells (madeCells z (n*s)) e)):=by
 obtain ⟨i,hi1,hi2⟩:=Option.map_eq_some_iff.1 hi;simp only [Prod.mk.injEq] at hi2;obtain ⟨h1,h2,h3⟩:=hi2;obtain ⟨z0,hz0,hz1⟩:=Option.map_eq_some_iff.1 h1;have h:=run_make (P:=Tryz.prog) w t e i z0 hu hi1 hz0 .i64 .i64 (n:Int) (n:Int) (by omega) (Int.le_refl _) (by rw [h3];exact (by have h7:((b*n:Nat):Int)≤281474976710656:=(by omega);rwa [Int.natCast_mul] at h7)) (by omega);simp only [Int.toNat_natCast,h2,hz1] at h;exact h
theorem vbV (B P Z R:Int) (A:Option Addr) (c:Nat) (l:List F3) (w:World) (hr:Kd.C kF w A l.length l) (hc:l.length≤c) (hbad:(qbQ B P Z R && qgC l)=false) :
  Calls Tryz.prog 11 #[gV B P Z R,.slice A l.length c] w fun e w'=>e=.returned (.tuple #[.pointer none,.int .i64 22])∧Below w.heap.size w w':=by
 have HR:=aM hr;have HC:=aM hc;have hu28:=Tryz.underlying23;clear hr hc
 cases hg:qbQ B P Z R with
 | false =>
  have HRG:=aM (fun W=>qhT B P Z R W);rw [hg] at HRG;clear hg hbad;go_enter Tryz.func11,Tryz.ntmps11
  go_upto_region 1 with (fail)
  generalize hW:w.alloc (.cells #[.int .i64 B,.int .i64 P,.int .i64 Z,.int .i64 R] 23)=W1;have hb:Below w.heap.size w W1:=by rw [← hW];exact qaA (Below.refl _ _) _
  have hg:W1.heap[w.heap.size]?=some (.cells #[.int .i64 B,.int .i64 P,.int .i64 Z,.int .i64 R] 23 (0,0)):=by rw [← hW];exact qaM _ _ _
  have HB:=aM hb;have a0:=jC hg 0;have a1:=jC hg 1;have a2:=jC hg 2;have a3:=jC hg 3;clear hW hb hg
  go_wp2_with (first
   | (go_at_call 50;(with_reducible refine (HRG.out _).mono ?_);rintro e w2 ⟨rfl,hb2⟩;have HB2:=aM hb2;clear hb2))
  go_ret2;exact ⟨rfl,qaC HB.out HB2.out⟩
 | true =>
  have hp:qgC l=false:=by rw [hg] at hbad;simpa using hbad
  have HRG:=aM (fun W=>qhT B P Z R W);rw [hg] at HRG;have HRP:=aM (fun (W:World) (hb:Below w.heap.size w W)=>show Calls Tryz.prog 51 #[.slice A l.length c] W fun e w'=>e=.returned (.bool false)∧Below W.heap.size W w' by rw [← hp];exact qiX A c l W (Kd.C_below HR.out hb) HC.out);clear hg hbad hp;go_enter Tryz.func11,Tryz.ntmps11
  go_upto_region 1 with (fail)
  generalize hW:w.alloc (.cells #[.int .i64 B,.int .i64 P,.int .i64 Z,.int .i64 R] 23)=W1;have hb:Below w.heap.size w W1:=by rw [← hW];exact qaA (Below.refl _ _) _
  have hg:W1.heap[w.heap.size]?=some (.cells #[.int .i64 B,.int .i64 P,.int .i64 Z,.int .i64 R] 23 (0,0)):=by rw [← hW];exact qaM _ _ _
  have HB:=aM hb;have a0:=jC hg 0;have a1:=jC hg 1;have a2:=jC hg 2;have a3:=jC hg 3;clear hW hb hg
  go_wp2_with (first
   | (go_at_call 50;(with_reducible refine (HRG.out _).mono ?_);rintro e w2 ⟨rfl,hb2⟩;have HB2:=aM (qaC HB.out hb2);clear hb2)
   | (go_at_call 51;(with_reducible refine (HRP.out _ HB2.out).mono ?_);rintro e w3 ⟨rfl,hb3⟩;have HB3:=aM (qaC HB2.out hb3);clear hb3))
  go_ret2;exact ⟨rfl,HB3.out⟩
theorem vdS (g:Geo) (A:Option Addr) (c:Nat) (l:List F3) (w:World) (hr:Kd.C kF w A l.length l) (hc:l.length≤c) (hg:qbQ g.B g.P g.Z g.R=true) (hp:qgC l=true) :
  Calls Tryz.prog 11 #[gV g.B g.P g.Z g.R,.slice A l.length c] w fun e w'=>∃ (gc gb:Nat) (gp:Nat→Nat) (pv:Value),e=.returned (.tuple #[cp gc,.int .i64 0])∧St w w' gc gb gp (m0 g pv l) (fun _ _=>[]):=by
 have hgok:=quY hg;have hlen:=qsV hp;have HR:=aM hr;have HC:=aM hc;have HGO:=aM hgok;have HRG:=aM (fun W=>qhT g.B g.P g.Z g.R W);rw [hg] at HRG;have HRP:=aM (fun (W:World) (hb:Below w.heap.size w W)=>show Calls Tryz.prog 51 #[.slice A l.length c] W fun e w'=>e=.returned (.bool true)∧Below W.heap.size W w' by rw [← hp];exact qiX A c l W (Kd.C_below HR.out hb) HC.out);have HCL:=aM (fun (W:World) (hb:Below w.heap.size w W)=>qpD A c l W (Kd.C_below HR.out hb) HC.out (by omega));clear hr hc hg hp hlen;obtain ⟨⟨hB1,hB2⟩,⟨hP1,hP2⟩,⟨hZ1,hZ2⟩⟩:=hgok;have hmk:∀ w,(Instr.makeSlice 90 (.int .i64 g.B) (.int .i64 g.B)).run Tryz.prog w=.ok (.slice (some ⟨w.heap.size,0,none⟩) g.B g.B) (w.alloc (.cells (cN g 0 (fun _=>0)) 97)):=fun w=>by rw [cN_0];exact qkJ _ _ _ 4 48 g.B Tryz.underlying90 qzB (by omega) (by omega) w
 have hmk2:∀ w,(Instr.makeSlice 93 (.int .i64 g.P) (.int .i64 g.P)).run Tryz.prog w=.ok (.slice (some ⟨w.heap.size,0,none⟩) g.P g.P) (w.alloc (.cells (cP g.P b0) 159)):=fun w=>by rw [cP_0];exact qkJ _ _ _ 2 32 g.P Tryz.underlying93 vcF (by omega) (by omega) w
 have HMK:=aM hmk;have HMK2:=aM hmk2;have hu28:=Tryz.underlying23;have hu55:=Tryz.underlying92;have hu60:=Tryz.underlying97;clear hmk hmk2;go_enter Tryz.func11,Tryz.ntmps11
 go_upto_region 1 with (fail)
 generalize hW:w.alloc (.cells #[.int .i64 g.B,.int .i64 g.P,.int .i64 g.Z,.int .i64 g.R] 23)=W1;have hb:Below w.heap.size w W1:=by rw [← hW];exact qaA (Below.refl _ _) _
 have hg:W1.heap[w.heap.size]?=some (.cells #[.int .i64 g.B,.int .i64 g.P,.int .i64 g.Z,.int .i64 g.R] 23 (0,0)):=by rw [← hW];exact qaM _ _ _
 have HB:=aM hb;have HG:=aM hg;have a0:=jC hg 0;have a1:=jC hg 1;have a2:=jC hg 2;have a3:=jC hg 3;clear hW hb hg
 go_upto_region 3 with (first
  | (go_at_call 50;(with_reducible refine (HRG.out _).mono ?_);rintro e w2 ⟨rfl,hb2⟩;have HB2:=aM hb2;clear hb2)
  | (go_at_call 51;(with_reducible refine (HRP.out _ (qaC HB.out HB2.out)).mono ?_);rintro e w3 ⟨rfl,hb3⟩;have HB3:=aM (qaC HB2.out hb3);clear hb3))
 have HBw:=aM (qaC HB.out HB3.out);have HG3:=aM (qaB HG.out HB3.out);clear a0 a1 a2 a3;refine Rel.tail (m:=7) [(0,16,.inl ?r1v0),(1,17,.inl ?r1v1),(2,18,.inr (fun v w'=>Kd.R kF 83 w' w.heap.size (fun _=>True) v l)),(3,19,.inl ?r1v3),(4,20,.inl ?r1v4),(5,21,.inr (fun v w'=>∃ gx,v=.slice (some ⟨gx,0,none⟩) g.B g.B∧w'.heap[gx]?=some (.cells (cN g 0 (fun _=>0)) 97 (0,0))∧w3.heap.size≤gx)),(6,22,.inr (fun v w'=>∃ gx pv,v=.agg #[.int .i64 g.B,.int .i64 g.P,.int .i64 g.Z,.int .i64 g.R,.slice (some ⟨gx,0,none⟩) g.B g.B,pv,.int .i64 0,.bool false,.int .i64 0,.int .i64 0]∧w'.heap[gx]?=some (.cells (cN g 0 (fun _=>0)) 97 (0,0))∧w3.heap.size≤gx∧Kd.R kF 83 w' w.heap.size (fun _=>True) pv l))] (fun w'=>Below w3.heap.size w3 w') (fun w' w''=>Below w'.heap.size w' w'') (by rfl) rfl (by kernel_rfl) (by kernel_rfl) (by kernel_rfl) ?r1S (Rel.stable_inl (Rel.stable_inl (Rel.stable_inr (fun v w w' hb h=>Kd.R_below h hb) (Rel.stable_inl (Rel.stable_inl (Rel.stable_inr (fun v w w' hb ⟨gx,h1,h2,h3⟩=>⟨gx,h1,qaB h2 hb,h3⟩) (Rel.stable_inr (fun v w w' hb ⟨gx,pv,h1,h2,h3,h4⟩=>⟨gx,pv,h1,qaB h2 hb,h3,Kd.R_below h4 hb⟩) Rel.stable_nil))))))) ?r1steps ?r1okv ?r1hlt ?r1fin;case r1S=>exact qaO (Below.refl _ _)
 case r1steps =>
  refine Rel.from_some 0 rfl rfl (fun a wq hS hK K hC=>?_) ?_
  ·refine Reg.sO ?_;have e2:=hK.off 2 _ rfl rfl;have hx:=qaB HG3.out hS;have f0:=jC hx 0;have f1:=jC hx 1;have f2:=jC hx 2;have f3:=jC hx 3;clear hx;clear hK;go_simp;exact hC _ hS (Below.refl _ _)
  refine Rel.from_some 1 rfl rfl (fun a wq hS hK K hC=>?_) ?_
  ·refine Reg.sO ?_;have e1:=hK.off 1 _ rfl rfl;clear hK;go_simp;exact hC _ hS (Below.refl _ _)
  refine Rel.from_rel 2 rfl rfl (fun a wq hS hK K hC=>?_) ?_
  ·refine Reg.sO ?_;have e17:=hK.sl 1 rfl;clear hK;go_simp;go_at_call 52;(with_reducible refine (HCL.out wq (qaC HBw.out hS)).mono ?_);rintro e w' ⟨v,rfl,ho,hb⟩;exact hC v w' (qaC hS hb) hb (Kd.R_lower ho (qaI (qaC HBw.out hS)))
  refine Rel.from_some 3 rfl rfl (fun a wq hS hK K hC=>?_) ?_
  ·refine Reg.sO ?_;have e2:=hK.off 2 _ rfl rfl;clear hK;go_simp;exact hC _ hS (Below.refl _ _)
  refine Rel.from_some 4 rfl rfl (fun a wq hS hK K hC=>?_) ?_
  ·refine Reg.sO ?_;have e19:=hK.sl 3 rfl;have hx:=qaB HG3.out hS;have f0:=jC hx 0;have f1:=jC hx 1;have f2:=jC hx 2;have f3:=jC hx 3;clear hx;clear hK;go_simp;exact hC _ hS (Below.refl _ _)
  refine Rel.from_rel 5 rfl rfl (fun a wq hS hK K hC=>?_) ?_
  ·refine Reg.sO ?_;have e20:=hK.sl 4 rfl;have hm:=HMK.out wq;clear hK;go_simp;exact hC _ _ (qaA hS _) (qaA (Below.refl _ _) _) ⟨_,rfl,qaM _ _ _,qaI hS⟩
  refine Rel.from_rel 6 rfl rfl (fun a wq hS hK K hC=>?_) ?_
  ·refine Reg.sO ?_;have e16:=hK.sl 0 rfl;obtain ⟨u18,e18,q18⟩:=hK.rel 2 _ _ _ rfl (by kernel_rfl);obtain ⟨u21,e21,q21⟩:=hK.rel 5 _ _ _ rfl (by kernel_rfl);obtain ⟨gx,rfl,hg1,hg2⟩:=q21;obtain ⟨A8,c8,e8⟩:=Kd.R_slice q18;subst e8;clear hK;go_simp;exact hC _ _ hS (Below.refl _ _) ⟨gx,_,rfl,hg1,hg2,q18⟩
  exact Rel.from_nil
 case r1okv=>rfl
 case r1hlt=>rfl
 case r1fin =>
  intro U wz hS hU;have q2:=hU 2 _ _ _ rfl;have q5:=hU 5 _ _ _ rfl;have q6:=hU 6 _ _ _ rfl;clear hU;simp only [Rel.inst,Nat.zero_add,Nat.reduceAdd,Reg.putV,List.foldl_cons,List.foldl_nil,Act.put,List.setIfInBounds_toArray,List.set_cons_zero,List.set_cons_succ];obtain ⟨gb,pv,eb,hgb,hgl,hpv⟩:=q6;rw [eb];have HSB:=aM hS;have HGB:=aM hgb;have HGL:=aM hgl;have HPV:=aM hpv;clear hS hgb hgl eb q5 q2 hpv;refine Rel.tail_cons (fun K hK=>?_);refine Reg.sO ?_;go_simp;refine hK _ _ ?_;clear hK;refine Rel.tail_cons (fun K hK=>?_);refine Reg.sO ?_;go_simp;refine hK _ _ ?_;clear hK;refine Rel.tail_nil ?_;generalize hW:wz.alloc (.cells #[.int .i64 g.B,.int .i64 g.P,.int .i64 g.Z,.int .i64 g.R,.slice (some ⟨gb,0,none⟩) g.B g.B,pv,.int .i64 0,.bool false,.int .i64 0,.int .i64 0] 92)=W4;have hb4:Below wz.heap.size wz W4:=by rw [← hW];exact qaA (Below.refl _ _) _
  have hc4:W4.heap[wz.heap.size]?=some (.cells (cC gb (m0 g pv l)) 92 (0,0)):=by rw [← hW];exact qaM _ _ _
  obtain ⟨gc,hgc⟩:∃ g,g=wz.heap.size:=⟨_,rfl⟩
  rw [← hgc] at hc4 ⊢;have HC4:=aM hc4;have HB4:=aM (qaC HBw.out (qaC HSB.out hb4));have HGB4:=aM (qaB HGB.out hb4);have HPV4:=aM (Kd.R_below HPV.out hb4);have HG4:=aM (qaB HG3.out (qaC HSB.out hb4));have HGL4:=aM (Nat.le_trans (qaI HBw.out) HGL.out);have HGC4:=aM (show w.heap.size≤gc by rw [hgc];exact qaI (qaC HBw.out HSB.out));have c4:=jC hc4 4;clear hW hb4 hc4 hgc;change W4.cell? ⟨gc,4,none⟩=some (.slice (some ⟨gb,0,none⟩) g.B g.B) at c4;go_wp2;go_loopw [29] (fun v29 wr=>∃ (i:Nat) (gp:Nat→Nat),i≤g.B∧v29=.int .i64 i∧qaJ (wr.heap[gc]?=some (.cells (cC gb (m0 g pv l)) 92 (0,0)))∧qaJ (wr.heap[gb]?=some (.cells (cN g i gp) 97 (0,0)))∧qaJ (∀ x,x < i→wr.heap[gp x]?=some (.cells (cP g.P b0) 159 (0,0)))∧qaJ (∀ x y,x < i→y < i→gp x=gp y→x=y)∧qaJ (∀ x,x < i→w.heap.size≤gp x)∧qaJ (wr.heap[w.heap.size]?=some (.cells #[.int .i64 g.B,.int .i64 g.P,.int .i64 g.Z,.int .i64 g.R] 23 (0,0)))∧qaJ (Kd.R kF 83 wr w.heap.size (fun _=>True) pv l)∧qaJ (Below w.heap.size w wr)) (fun i _=>g.B - (intOf i).toNat);case atStart=>exact ⟨0,fun _=>0,Nat.zero_le _,rfl,HC4,HGB4,⟨fun x h=>absurd h (Nat.not_lt_zero _)⟩,⟨fun x y h=>absurd h (Nat.not_lt_zero _)⟩,⟨fun x h=>absurd h (Nat.not_lt_zero _)⟩,HG4,HPV4,HB4⟩
  case round =>
   obtain ⟨i,gp,hi,rfl,HC5,HN5,HP5,HI5,HE5,HG5,HPV5,HB5⟩:=hrel;clear c4
   by_cases hlt:i < g.B
   ·have d0:decide ((i:Int) < (g.B:Int))=true:=decide_eq_true (by omega);have hq:(i < g.B)=True:=eq_true hlt;have hqi:((i:Int) < (g.B:Int))=True:=eq_true (by omega)
    go_upto_region 7 with (fail)
    refine Rel.tail (m:=10) [(0,32,.inl ?r2v0),(1,33,.inl ?r2v1),(2,34,.inl ?r2v2),(3,35,.inl ?r2v3),(4,36,.inl ?r2v4),(5,37,.inl ?r2v5),(6,38,.inl ?r2v6),(7,39,.inr (fun v w'=>∃ gx,v=.slice (some ⟨gx,0,none⟩) g.P g.P∧w'.heap[gx]?=some (.cells (cP g.P b0) 159 (0,0))∧wr.heap.size≤gx)),(8,40,.inl ?r2v8),(9,41,.inl ?r2v9)] (fun w'=>Below wr.heap.size wr w') (fun w' w''=>Below w'.heap.size w' w'') (by rfl) rfl (by kernel_rfl) (by kernel_rfl) (by kernel_rfl) ?r2S (Rel.stable_inl (Rel.stable_inl (Rel.stable_inl (Rel.stable_inl (Rel.stable_inl (Rel.stable_inl (Rel.stable_inl (Rel.stable_inr (fun v w w' hb ⟨gx,h1,h2,h3⟩=>⟨gx,h1,qaB h2 hb,h3⟩) (Rel.stable_inl (Rel.stable_inl Rel.stable_nil)))))))))) ?r2steps ?r2okv ?r2hlt ?r2fin;case r2S=>exact qaO (Below.refl _ _)
    case r2steps =>
     refine Rel.from_some 0 rfl rfl (fun a wq hS hK K hC=>?_) ?_
     ·refine Reg.sO ?_;have e6:=hK.off 6 _ rfl rfl;clear hK;go_simp;exact hC _ hS (Below.refl _ _)
     refine Rel.from_some 1 rfl rfl (fun a wq hS hK K hC=>?_) ?_
     ·refine Reg.sO ?_;have e32:=hK.sl 0 rfl;clear hK;go_simp;exact hC _ hS (Below.refl _ _)
     refine Rel.from_some 2 rfl rfl (fun a wq hS hK K hC=>?_) ?_
     ·refine Reg.sO ?_;have e33:=hK.sl 1 rfl;clear hK;go_simp;exact hC _ hS (Below.refl _ _)
     refine Rel.from_some 3 rfl rfl (fun a wq hS hK K hC=>?_) ?_
     ·refine Reg.sO ?_;have e34:=hK.sl 2 rfl;have hx:=qaB HG5.out hS;have f1:=jC hx 1;have k4:=jC (qaB HC5.out hS) 4;change _=some (Value.slice (some ⟨gb,0,none⟩) g.B g.B) at k4;clear hx;clear hK;go_simp;exact hC _ hS (Below.refl _ _)
     refine Rel.from_some 4 rfl rfl (fun a wq hS hK K hC=>?_) ?_
     ·refine Reg.sO ?_;have e7:=hK.off 7 _ rfl rfl;clear hK;go_simp;exact hC _ hS (Below.refl _ _)
     refine Rel.from_some 5 rfl rfl (fun a wq hS hK K hC=>?_) ?_
     ·refine Reg.sO ?_;have e2:=hK.off 2 _ rfl rfl;clear hK;go_simp;exact hC _ hS (Below.refl _ _)
     refine Rel.from_some 6 rfl rfl (fun a wq hS hK K hC=>?_) ?_
     ·refine Reg.sO ?_;have e37:=hK.sl 5 rfl;have hx:=qaB HG5.out hS;have f1:=jC hx 1;have k4:=jC (qaB HC5.out hS) 4;change _=some (Value.slice (some ⟨gb,0,none⟩) g.B g.B) at k4;clear hx;clear hK;go_simp;exact hC _ hS (Below.refl _ _)
     refine Rel.from_rel 7 rfl rfl (fun a wq hS hK K hC=>?_) ?_
     ·refine Reg.sO ?_;have e38:=hK.sl 6 rfl;have hm:=HMK2.out wq;clear hK;go_simp;exact hC _ _ (qaA hS _) (qaA (Below.refl _ _) _) ⟨_,rfl,qaM _ _ _,qaI hS⟩
     refine Rel.from_some 8 rfl rfl (fun a wq hS hK K hC=>?_) ?_
     ·refine Reg.sO ?_;have e35:=hK.sl 3 rfl;have e36:=hK.sl 4 rfl;clear hK;go_simp;exact hC _ hS (Below.refl _ _)
     refine Rel.from_some 9 rfl rfl (fun a wq hS hK K hC=>?_) ?_
     ·refine Reg.sO ?_;have e40:=hK.sl 8 rfl;clear hK;go_simp;exact hC _ hS (Below.refl _ _)
     exact Rel.from_nil
    case r2okv=>rfl
    case r2hlt=>rfl
    case r2fin =>
     intro U wz hS hU;have q7:=hU 7 _ _ _ rfl;clear hU;simp only [Rel.inst,Nat.zero_add,Nat.reduceAdd,Reg.putV,List.foldl_cons,List.foldl_nil,Act.put,List.setIfInBounds_toArray,List.set_cons_zero,List.set_cons_succ];obtain ⟨x0,eg,hg,hgl⟩:=q7;rw [eg];have hN:=qaB HN5.out hS;have zb:=qaP hN (i*4+2);rw [veH _ _ _ _ (by omega),show qlQ g.P i gp (i*4+2)=.slice none 0 0 by unfold qlQ;rw [if_neg (by omega),if_neg (by omega),if_pos (by omega),if_neg (by omega)]] at zb;have zf:=qaE hN (i*4+2);have HNz:=aM hN;have HCz:=aM (qaB HC5.out hS);have HGz:=aM hg;have HLz:=aM hgl;have HSz:=aM hS;clear hS hg hgl hN eg;refine Rel.tail_cons (fun K hK=>?_);refine Reg.sO ?_;go_simp;refine hK _ _ ?_;clear hK zb zf;refine Rel.tail_nil ?_;generalize hW:wz.setCell ⟨gb,i*4+2,none⟩ (.slice (some ⟨x0,0,none⟩) g.P g.P)=W6;have h1:W6.heap[gb]?=some (.cells (cN g (i+1) (fun x=>if x=i then x0 else gp x)) 97 (0,0)):=by rw [← hW,← veG];exact qcB HNz.out _ _
     have h2:W6.heap[gc]?=some (.cells (cC gb (m0 g pv l)) 92 (0,0)):=by rw [← hW];exact qaT HCz.out (qaW HCz.out HNz.out (by decide)) _
     have h3:∀ x,x < i+1→W6.heap[(fun x=>if x=i then x0 else gp x) x]?=some (.cells (cP g.P b0) 159 (0,0)):=fun x hx=>by
      rw [← hW]
      by_cases hxi:x=i
      ·subst hxi;simp only [if_true];exact qaT HGz.out (qaW HGz.out HNz.out (by decide)) _
      ·simp only [hxi,if_false];have hp:=qaB (HP5.out x (by omega)) HSz.out;exact qaT hp (qaW hp HNz.out (by decide)) _
     have h4:∀ x y,x < i+1→y < i+1→(fun x=>if x=i then x0 else gp x) x=(fun x=>if x=i then x0 else gp x) y→x=y:=fun x y hx hy e=>by
      have hlt2:∀ z,z < i→gp z < x0:=fun z hz=>Nat.lt_of_lt_of_le (qcG (HP5.out z hz)) HLz.out
      by_cases hxi:x=i
      ·by_cases hyi:y=i
       ·omega
       ·simp only [hxi,hyi,if_true,if_false] at e;have:=hlt2 y (by omega);omega
      ·by_cases hyi:y=i
       ·simp only [hxi,hyi,if_true,if_false] at e;have:=hlt2 x (by omega);omega
       ·simp only [hxi,hyi,if_false] at e;exact HI5.out x y (by omega) (by omega) e
     have h5:∀ x,x < i+1→w.heap.size≤(fun x=>if x=i then x0 else gp x) x:=fun x hx=>by
      by_cases hxi:x=i
      ·simp only [hxi,if_true];exact Nat.le_trans (qaI HB5.out) HLz.out
      ·simp only [hxi,if_false];exact HE5.out x (by omega)
     have h6:W6.heap[w.heap.size]?=some (.cells #[.int .i64 g.B,.int .i64 g.P,.int .i64 g.Z,.int .i64 g.R] 23 (0,0)):=by rw [← hW];exact qaT (qaB HG5.out HSz.out) (qaW (qaB HG5.out HSz.out) HNz.out (by decide)) _
     have h7:Below w.heap.size w W6:=by rw [← hW];exact qaK (qaC HB5.out HSz.out) HGL4.out
     have h8:Kd.R kF 83 W6 w.heap.size (fun _=>True) pv l:=by rw [← hW];exact Kd.R_set (Kd.R_below HPV5.out HSz.out) HNz.out (by decide) _ _
     have H8:=aM h8;have H1:=aM h1;have H2:=aM h2;have H3:=aM h3;have H4:=aM h4;have H5:=aM h5;have H6:=aM h6;have H7:=aM h7;clear hW h1 h2 h3 h4 h5 h6 h7 h8;go_wp2;go_roundw;case rel=>exact ⟨i+1,_,by omega,by push_cast;rfl,H2,H1,H3,H4,H5,H6,H8,H7⟩
     case measure=>simp [intOf];omega
   ·obtain hiB:i=g.B:=by omega
    subst hiB;have d0:decide ((g.B:Int) < (g.B:Int))=false:=decide_eq_false (by omega);go_wp2;go_ret2;exact ⟨gc,gb,gp,pv,rfl,⟨HC5.out,by rw [← veI];exact HN5.out,fun x hx=>HP5.out x hx,fun x y hx hy e=>HI5.out x y hx hy e,HGC4.out,HGL4.out,fun x hx=>HE5.out x hx,fun x y _ _=>Kd.R_nil _ _ _ _ _,HPV5.out,HB5.out,HGO.out⟩⟩
theorem setG {g:Nat} {a b c d:Value} (h:W.heap[g]?=some (.cells #[a,b,c,d] 23 (0,0))) (x y z u:Value):((((W.setCell ⟨g,0,none⟩ x).setCell ⟨g,1,none⟩ y).setCell ⟨g,2,none⟩ z).setCell ⟨g,3,none⟩ u).heap[g]?=some (.cells #[x,y,z,u] 23 (0,0)) :=
 qaR (qaR (qaR (qaR h 0 x (cs':=#[x,b,c,d]) rfl) 1 y (cs':=#[x,y,c,d]) rfl) 2 z (cs':=#[x,y,z,d]) rfl) 3 u rfl
theorem qqJ (h:St w0 W gc gb gp m D):Calls Tryz.prog 69 #[cp gc] W fun e w'=>e=.returned (gV m.g.B m.g.P m.g.Z m.g.R)∧Below W.heap.size W w':=by
 have H:=aM h.c;have hu28:=Tryz.underlying23;clear h;go_enter Tryz.func69,Tryz.ntmps69
 go_upto_region 1 with (fail)
 generalize hW:W.alloc (.cells #[.int .i64 0,.int .i64 0,.int .i64 0,.int .i64 0] 23)=W1;have hb:Below W.heap.size W W1:=by rw [← hW];exact qaA (Below.refl _ _) _
 have hx:W1.heap[W.heap.size]?=some (.cells #[.int .i64 0,.int .i64 0,.int .i64 0,.int .i64 0] 23 (0,0)):=by rw [← hW];exact qaM _ _ _
 have c0:W1.cell? ⟨gc,0,none⟩=some (.int .i64 m.g.B):=jC (qaB H.out hb) 0;have c1:W1.cell? ⟨gc,1,none⟩=some (.int .i64 m.g.P):=jC (qaB H.out hb) 1;have c2:W1.cell? ⟨gc,2,none⟩=some (.int .i64 m.g.Z):=jC (qaB H.out hb) 2;have c3:W1.cell? ⟨gc,3,none⟩=some (.int .i64 m.g.R):=jC (qaB H.out hb) 3;have x0:=jC hx 0;have x1:=jC hx 1;have x2:=jC hx 2;have x3:=jC hx 3;have fx0:=qaE hx 0;have fx1:=qaE hx 1;have fx2:=qaE hx 2;have fx3:=qaE hx 3;have HX:=aM hx;have HB:=aM hb;clear hW hx hb;go_wp2;refine bodyPost_ret (results_cell_row rfl _ _ W.heap.size 23 #[.int .i64 m.g.B,.int .i64 m.g.P,.int .i64 m.g.Z,.int .i64 m.g.R] (0,0) _ rfl (setG HX.out _ _ _ _) Tryz.underlying23 rfl (by kernel_rfl)) rfl ?_;exact ⟨rfl,qaK (qaK (qaK (qaK HB.out (Nat.le_refl _)) (Nat.le_refl _)) (Nat.le_refl _)) (Nat.le_refl _)⟩
end
section
structure APg where
 st:Int
 d:List Int
structure ABk where
 bad:Bool
 er:Int
 nx:Int
 pg:Nat→APg
structure AC where
 g:Geo
 pl:List F3
 frm:Int
 off:Bool
 ops:Int
 wrong:Int
 bk:Nat→ABk
def veO (b:Bk) (d:Nat→List Int):ABk:=⟨b.bad,b.er,b.nx,fun j=>⟨(b.pg j).st,d j⟩⟩
def qdP (m:Ch) (D:Nat→Nat→List Int):AC:=⟨m.g,m.pl,m.frm,m.off,m.ops,m.wrong,fun i=>veO (m.bk i) (D i)⟩
def AC.setBk (a:AC) (i:Nat) (b:ABk):AC:={ a with bk:=fun x=>if x=i then b else a.bk x }
def ABk.setPg (b:ABk) (j:Nat) (p:APg):ABk:={ b with pg:=fun x=>if x=j then p else b.pg x }
def ABk.clr (b:ABk) (st:Int) (P:Nat):ABk:={ b with pg:=fun x=>if x < P then ⟨st,[]⟩ else b.pg x }
def qdW (w0 W:World) (gc:Nat) (a:AC):Prop:=∃ (gb:Nat) (gp:Nat→Nat) (m:Ch) (D:Nat→Nat→List Int),St w0 W gc gb gp m D∧qdP m D=a∧∀ i j,(D i j).length≤m.g.Z
theorem qdW.grow {w0 W W':World} {gc:Nat} {a:AC} (h:qdW w0 W gc a) (hb:Below W.heap.size W W'):qdW w0 W' gc a:=by
 obtain ⟨gb,gp,m,D,hs,ha,hl⟩:=h;exact ⟨gb,gp,m,D,hs.grow hb,ha,hl⟩
theorem qdW.gok {w0 W:World} {gc:Nat} {a:AC} (h:qdW w0 W gc a):GOK a.g:=by
 obtain ⟨gb,gp,m,D,hs,ha,hl⟩:=h;subst ha;exact hs.gok
theorem qdW.lower {w0 w1 W:World} {gc:Nat} {a:AC} (h:qdW w1 W gc a) (hb:Below w0.heap.size w0 w1):qdW w0 W gc a:=by
 obtain ⟨gb,gp,m,D,hs,ha,hl⟩:=h;exact ⟨gb,gp,m,D,hs.lower hb,ha,hl⟩
theorem qdW.below {w0 W:World} {gc:Nat} {a:AC} (h:qdW w0 W gc a):Below w0.heap.size w0 W:=by
 obtain ⟨gb,gp,m,D,hs,ha,hl⟩:=h;exact hs.below
def AC.put (a:AC) (n p:Nat) (st:Int) (d:List Int):AC:=a.setBk n { ((a.bk n).setPg p ⟨st,d⟩) with nx:=wrap64 ((p:Int)+1) }
def AC.hit (a:AC):Option F3:=qcX a.pl (wrap64 (wrap64 (a.ops+1) - a.frm))
def AC.tick (a:AC):AC:={ a with ops:=wrap64 (a.ops+1) }
def AC.cut (a:AC):AC:={ a with off:=true }
def AC.err (a:AC):AC:={ a with wrong:=wrap64 (a.wrong+1) }
def qaZ (a:AC) (n p:Int) (l:List Int):Int × AC :=
 if a.off=true then (6,a) else if n < 0∨a.g.B≤n then (22,a) else if p < 0∨a.g.P≤p∨a.g.Z < l.length then (22,a)
 else if (a.bk n.toNat).bad=true∨(a.bk n.toNat).nx ≠ p then (1,a.err)
 else match a.hit with
  | none=>(0,a.tick.put n.toNat p.toNat 1 l)
  | some f=>if f.f1=2 then (5,a.tick.put n.toNat p.toNat 2 [])
   else if f.f2=0 then (6,a.tick.cut) else if f.f2=1 then (6,a.tick.cut.put n.toNat p.toNat 2 []) else (6,a.tick.cut.put n.toNat p.toNat 1 l)
def AC.erased (a:AC) (n:Nat) (st nx:Int):AC:=a.setBk n { ({ a.bk n with er:=wrap64 ((a.bk n).er+1) }:ABk).clr st a.g.P with nx:=nx }
def qbY (a:AC) (n:Int):Int × AC :=
 if a.off=true then (6,a) else if n < 0∨a.g.B≤n then (22,a) else if (a.bk n.toNat).bad=true then (1,a.err)
 else match a.hit with
  | none=>(0,a.tick.erased n.toNat 0 0)
  | some f=>if f.f1=2 then (5,a.tick.erased n.toNat 2 a.g.P)
   else if f.f2=1 then (6,a.tick.cut.erased n.toNat 2 a.g.P) else if f.f2=2 then (6,a.tick.cut.erased n.toNat 0 0)
   else (6,a.tick.cut.setBk n.toNat { a.bk n.toNat with er:=wrap64 ((a.bk n.toNat).er+1) })
def qeW (a:AC) (n:Int):Int × AC :=
 if a.off=true then (6,a) else if n < 0∨a.g.B≤n then (22,a) else (0,a.setBk n.toNat { a.bk n.toNat with bad:=true })
def qbW (a:AC) (n p:Int):List Int × Int :=
 if a.off=true then ([],6) else if n < 0∨a.g.B≤n then ([],22) else if p < 0∨a.g.P≤p then ([],22)
 else if ((a.bk n.toNat).pg p.toNat).st=2 then ([],5)
 else if ((a.bk n.toNat).pg p.toNat).st=1 then (((a.bk n.toNat).pg p.toNat).d ++ List.replicate (a.g.Z - ((a.bk n.toNat).pg p.toNat).d.length) 255,0)
 else (List.replicate a.g.Z 255,0)
def qpP (g:Geo) (l:List F3):AC:=⟨g,l,0,false,0,0,fun _=>⟨false,0,0,fun _=>⟨0,[]⟩⟩⟩
def qhH (a:AC) (n:Int):Int:=if n < 0∨a.g.B≤n then 0 else (a.bk n.toNat).nx
def qkW (a:AC) (n:Int):Int:=if n < 0∨a.g.B≤n then 0 else (a.bk n.toNat).er
def vaP (a:AC) (n:Int):Bool:=if n < 0∨a.g.B≤n then false else (a.bk n.toNat).bad
theorem qjP (m:Ch) (D:Nat→Nat→List Int) (n p:Nat) (st:Int) (v:Value) (d:List Int):qdP (m.setBk n { ((m.bk n).setPg p ⟨st,v⟩) with nx:=wrap64 ((p:Int)+1) }) (qiL D n p d)=(qdP m D).put n p st d:=by
 unfold qdP AC.put Ch.setBk AC.setBk ABk.setPg Bk.setPg veO qiL
 congr 1
 funext i
 by_cases hi:i=n
 ·subst hi;simp only [if_true,true_and]
  congr 1
  funext j
  by_cases hj:j=p <;> simp [hj]
 ·simp [hi]
theorem vcV (m:Ch) (D:Nat→Nat→List Int) (n:Nat):qdP (m.setBk n { m.bk n with er:=wrap64 ((m.bk n).er+1) }) D=(qdP m D).setBk n { (qdP m D).bk n with er:=wrap64 (((qdP m D).bk n).er+1) }:=by
 unfold qdP Ch.setBk AC.setBk veO
 congr 1
 funext i
 by_cases hi:i=n
 ·subst hi;simp
 ·simp [hi]
theorem qjQ (m:Ch) (D:Nat→Nat→List Int) (n:Nat) (st nx:Int):qdP (m.setBk n { clr st m.g.P { m.bk n with er:=wrap64 ((m.bk n).er+1) } with nx:=nx }) (qpC D n m.g.P)=(qdP m D).erased n st nx:=by
 unfold qdP AC.erased Ch.setBk AC.setBk ABk.clr clr veO qpC
 congr 1
 funext i
 by_cases hi:i=n
 ·subst hi;simp only [if_true,true_and]
  congr 1
  funext j
  by_cases hj:j < m.g.P <;> simp [hj]
 ·simp [hi]
theorem qzW (m:Ch) (D:Nat→Nat→List Int) (n:Nat):qdP (m.setBk n { m.bk n with bad:=true }) D=(qdP m D).setBk n { (qdP m D).bk n with bad:=true }:=by
 unfold qdP Ch.setBk AC.setBk veO
 congr 1
 funext i
 by_cases hi:i=n
 ·subst hi;simp
 ·simp [hi]
theorem qjG {D:Nat→Nat→List Int} {Z:Nat} (h:∀ i j,(D i j).length≤Z) (n p:Nat) (d:List Int) (hd:d.length≤Z) (i j:Nat):(qiL D n p d i j).length≤Z:=by
 unfold qiL
 by_cases hh:i=n∧j=p
 ·rw [if_pos hh];exact hd
 ·rw [if_neg hh];exact h i j
theorem qjO {D:Nat→Nat→List Int} {Z:Nat} (h:∀ i j,(D i j).length≤Z) (n k:Nat) (i j:Nat):(qpC D n k i j).length≤Z:=by
 unfold qpC
 by_cases hh:i=n∧j < k
 ·rw [if_pos hh];exact Nat.zero_le _
 ·rw [if_neg hh];exact h i j
section
variable {w0 W:World} {gc:Nat} {a:AC}
theorem qdW.next (h:qdW w0 W gc a) (n:Int):Calls Tryz.prog 81 #[cp gc,.int .i64 n] W fun e w'=>e=.returned (.int .i64 (qhH a n))∧Below W.heap.size W w':=by
 obtain ⟨gb,gp,m,D,hs,rfl,hl⟩:=h
 by_cases hn:n < 0∨m.g.B≤n
 ·rw [show qhH (qdP m D) n=0 from if_pos hn];exact vbU hs n hn
 ·rw [show qhH (qdP m D) n=(m.bk n.toNat).nx from if_neg hn];have h2:=qyK hs n.toNat (by omega);rw [show ((n.toNat:Nat):Int)=n by omega] at h2;exact h2
theorem qdW.erases (h:qdW w0 W gc a) (n:Int):Calls Tryz.prog 35 #[cp gc,.int .i64 n] W fun e w'=>e=.returned (.int .i64 (qkW a n))∧Below W.heap.size W w':=by
 obtain ⟨gb,gp,m,D,hs,rfl,hl⟩:=h
 by_cases hn:n < 0∨m.g.B≤n
 ·rw [show qkW (qdP m D) n=0 from if_pos hn];exact qwP hs n hn
 ·rw [show qkW (qdP m D) n=(m.bk n.toNat).er from if_neg hn];have h2:=qtT hs n.toNat (by omega);rw [show ((n.toNat:Nat):Int)=n by omega] at h2;exact h2
theorem qdW.bad (h:qdW w0 W gc a) (n:Int):Calls Tryz.prog 79 #[cp gc,.int .i64 n] W fun e w'=>e=.returned (.bool (vaP a n))∧Below W.heap.size W w':=by
 obtain ⟨gb,gp,m,D,hs,rfl,hl⟩:=h
 by_cases hn:n < 0∨m.g.B≤n
 ·rw [show vaP (qdP m D) n=false from if_pos hn];exact veM hs n hn
 ·rw [show vaP (qdP m D) n=(m.bk n.toNat).bad from if_neg hn];have h2:=vcT hs n.toNat (by omega);rw [show ((n.toNat:Nat):Int)=n by omega] at h2;exact h2
theorem qdW.on (h:qdW w0 W gc a):Calls Tryz.prog 48 #[cp gc] W fun e w'=>e=.returned (.bool !a.off)∧Below W.heap.size W w':=by
 obtain ⟨gb,gp,m,D,hs,rfl,hl⟩:=h;exact vfL hs
theorem qdW.geometry (h:qdW w0 W gc a):Calls Tryz.prog 69 #[cp gc] W fun e w'=>e=.returned (gV a.g.B a.g.P a.g.Z a.g.R)∧Below W.heap.size W w':=by
 obtain ⟨gb,gp,m,D,hs,rfl,hl⟩:=h;exact qqJ hs
theorem qdW.mark (h:qdW w0 W gc a) (n:Int):Calls Tryz.prog 65 #[cp gc,.int .i64 n] W fun e w'=>e=.returned (.int .i64 (qeW a n).1)∧qdW w0 w' gc (qeW a n).2∧qaY W w':=by
 have h0:=h;obtain ⟨gb,gp,m,D,hs,rfl,hl⟩:=h
 by_cases ho:m.off=true
 ·rw [show qeW (qdP m D) n=(6,qdP m D) from if_pos ho];refine (qrM (k:=6) (by decide) n (qhU hs ho n)).mono ?_;rintro e w' ⟨rfl,hb⟩;exact ⟨rfl,h0.grow hb,qaY.of_below hb⟩
 ·have hof:m.off=false:=by simpa using ho
  by_cases hn:n < 0∨m.g.B≤n
  ·rw [show qeW (qdP m D) n=(22,qdP m D) from (if_neg ho).trans (if_pos hn)];refine (qrM (k:=22) (by decide) n (qjH hs hof n hn)).mono ?_;rintro e w' ⟨rfl,hb⟩;exact ⟨rfl,h0.grow hb,qaY.of_below hb⟩
  ·rw [show qeW (qdP m D) n=(0,(qdP m D).setBk n.toNat { (qdP m D).bk n.toNat with bad:=true }) from (if_neg ho).trans (if_neg hn)];have h2:=vbY hs hof n.toNat (by omega);rw [show ((n.toNat:Nat):Int)=n by omega] at h2;refine h2.mono ?_;rintro e w' ⟨rfl,h3,hk⟩;exact ⟨rfl,⟨gb,gp,_,D,h3,qzW m D n.toNat,hl⟩,hk⟩
theorem qdW.read (h:qdW w0 W gc a) (n p:Int):Calls Tryz.prog 77 #[cp gc,.int .i64 n,.int .i64 p] W fun e w'=>∃ v:Value,e=.returned (.tuple #[v,.int .i64 (qbW a n p).2])∧Kd.R kB 5 w' W.heap.size (fun _=>True) v (qbW a n p).1∧Below W.heap.size W w':=by
 obtain ⟨gb,gp,m,D,hs,rfl,hl⟩:=h
 by_cases ho:m.off=true
 ·rw [show qbW (qdP m D) n p=([],6) from if_pos ho];refine (qrE (k:=6) (by decide) n p (qhU hs ho n)).mono ?_;rintro e w' ⟨rfl,hb⟩;exact ⟨_,rfl,Kd.R_nil _ _ _ _ _,hb⟩
 have hof:m.off=false:=by simpa using ho
 by_cases hn:n < 0∨m.g.B≤n
 ·rw [show qbW (qdP m D) n p=([],22) from (if_neg ho).trans (if_pos hn)];refine (qrE (k:=22) (by decide) n p (qjH hs hof n hn)).mono ?_;rintro e w' ⟨rfl,hb⟩;exact ⟨_,rfl,Kd.R_nil _ _ _ _ _,hb⟩
 obtain ⟨i,rfl⟩:∃ i:Nat,n=i:=⟨n.toNat,by omega⟩
 by_cases hp:p < 0∨m.g.P≤p
 ·rw [show qbW (qdP m D) i p=([],22) from (if_neg ho).trans ((if_neg hn).trans (if_pos hp))];refine (qsQ hs hof i (by omega) p hp).mono ?_;rintro e w' ⟨rfl,hb⟩;exact ⟨_,rfl,Kd.R_nil _ _ _ _ _,hb⟩
 obtain ⟨j,rfl⟩:∃ j:Nat,p=j:=⟨p.toNat,by omega⟩
 have e0:qbW (qdP m D) i j=if ((m.bk i).pg j).st=2 then ([],5) else if ((m.bk i).pg j).st=1 then (D i j ++ List.replicate (m.g.Z - (D i j).length) 255,0) else (List.replicate m.g.Z 255,0):=(if_neg ho).trans ((if_neg hn).trans (if_neg hp))
 rw [e0]
 by_cases h2:((m.bk i).pg j).st=2
 ·rw [if_pos h2];refine (qvB hs hof i j (by omega) (by omega) h2).mono ?_;rintro e w' ⟨rfl,hb⟩;exact ⟨_,rfl,Kd.R_nil _ _ _ _ _,hb⟩
 rw [if_neg h2]
 by_cases h1:((m.bk i).pg j).st=1
 ·rw [if_pos h1];exact qvC hs hof i j (by omega) (by omega) h1 (hl i j)
 ·rw [if_neg h1];exact qsR hs hof i j (by omega) (by omega) h2 h1
theorem qdW.program (h:qdW w0 W gc a) (n p:Int) (A:Option Addr) (c:Nat) (l:List Int) (hr:∀ w',Below w0.heap.size w0 w'→qaY W w'→Kd.C kB w' A l.length l) (hc:l.length≤c):Calls Tryz.prog 58 #[cp gc,.int .i64 n,.int .i64 p,.slice A l.length c] W fun e w'=>e=.returned (.int .i64 (qaZ a n p l).1)∧qdW w0 w' gc (qaZ a n p l).2∧qaY W w':=by
 have h0:=h;obtain ⟨gb,gp,m,D,hs,rfl,hl⟩:=h
 by_cases ho:m.off=true
 ·rw [show qaZ (qdP m D) n p l=(6,qdP m D) from if_pos ho];refine (qkC (k:=6) (by decide) n p _ (qhU hs ho n)).mono ?_;rintro e w' ⟨rfl,hb⟩;exact ⟨rfl,h0.grow hb,qaY.of_below hb⟩
 have hof:m.off=false:=by simpa using ho
 by_cases hn:n < 0∨m.g.B≤n
 ·rw [show qaZ (qdP m D) n p l=(22,qdP m D) from (if_neg ho).trans (if_pos hn)];refine (qkC (k:=22) (by decide) n p _ (qjH hs hof n hn)).mono ?_;rintro e w' ⟨rfl,hb⟩;exact ⟨rfl,h0.grow hb,qaY.of_below hb⟩
 obtain ⟨i,rfl⟩:∃ i:Nat,n=i:=⟨n.toNat,by omega⟩
 by_cases hp:p < 0∨m.g.P≤p∨m.g.Z < l.length
 ·rw [show qaZ (qdP m D) i p l=(22,qdP m D) from (if_neg ho).trans ((if_neg hn).trans (if_pos hp))];refine (qmV hs hof i (by omega) p A l.length c hp).mono ?_;rintro e w' ⟨rfl,hb⟩;exact ⟨rfl,h0.grow hb,qaY.of_below hb⟩
 obtain ⟨j,rfl⟩:∃ j:Nat,p=j:=⟨p.toNat,by omega⟩
 have hlz:l.length≤m.g.Z:=by omega
 by_cases hb:(m.bk i).bad=true∨(m.bk i).nx ≠ j
 ·rw [show qaZ (qdP m D) i j l=(1,(qdP m D).err) from (if_neg ho).trans ((if_neg hn).trans ((if_neg hp).trans (if_pos hb)))];refine (qoA hs hof i j (by omega) (by omega) hb A l.length c hlz).mono ?_;rintro e w' ⟨rfl,h2,hk⟩;exact ⟨rfl,⟨gb,gp,_,D,h2,rfl,hl⟩,hk⟩
 have hbd:(m.bk i).bad=false:=by
  cases hh:(m.bk i).bad with
  | false=>rfl
  | true=>exact absurd (.inl hh) hb
 have hnx:(m.bk i).nx=j:=Decidable.not_not.1 (fun hh=>hb (.inr hh))
 have e0:qaZ (qdP m D) i j l=match qcX m.pl (tgt m) with
  | none=>(0,(qdP m D).tick.put i j 1 l)
  | some f=>if f.f1=2 then (5,(qdP m D).tick.put i j 2 [])
   else if f.f2=0 then (6,(qdP m D).tick.cut) else if f.f2=1 then (6,(qdP m D).tick.cut.put i j 2 []) else (6,(qdP m D).tick.cut.put i j 1 l):=(if_neg ho).trans ((if_neg hn).trans ((if_neg hp).trans (if_neg hb)))
 rw [e0]
 cases hh:qcX m.pl (tgt m) with
 | none =>
  refine (qsU hs hof hh i j (by omega) (by omega) hbd hnx A c l hr hc hlz).mono ?_;rintro e w' ⟨rfl,⟨v,h2⟩,hk⟩;exact ⟨rfl,⟨gb,gp,_,_,h2,qjP { m with ops:=wrap64 (m.ops+1) } D i j 1 v l,qjG hl i j l hlz⟩,hk⟩
 | some f =>
  simp only
  by_cases h1:f.f1=2
  ·rw [if_pos h1];refine (qoB hs hof f hh h1 i j (by omega) (by omega) hbd hnx A c l hr hc hlz).mono ?_;rintro e w' ⟨rfl,h2,hk⟩;exact ⟨rfl,⟨gb,gp,_,_,h2,qjP { m with ops:=wrap64 (m.ops+1) } D i j 2 _ [],qjG hl i j [] (Nat.zero_le _)⟩,hk⟩
  rw [if_neg h1]
  by_cases h2:f.f2=0
  ·rw [if_pos h2];refine (qoE hs hof f hh h1 h2 i j (by omega) (by omega) hbd hnx A c l hr hc hlz).mono ?_;rintro e w' ⟨rfl,h2,hk⟩;exact ⟨rfl,⟨gb,gp,_,_,h2,rfl,hl⟩,hk⟩
  rw [if_neg h2]
  by_cases h3:f.f2=1
  ·rw [if_pos h3];refine (qoD hs hof f hh h1 h3 i j (by omega) (by omega) hbd hnx A c l hr hc hlz).mono ?_;rintro e w' ⟨rfl,h2,hk⟩;exact ⟨rfl,⟨gb,gp,_,_,h2,qjP { m with ops:=wrap64 (m.ops+1),off:=true } D i j 2 _ [],qjG hl i j [] (Nat.zero_le _)⟩,hk⟩
  rw [if_neg h3];refine (qoC hs hof f hh h1 h2 h3 i j (by omega) (by omega) hbd hnx A c l hr hc hlz).mono ?_;rintro e w' ⟨rfl,⟨v,h2⟩,hk⟩;exact ⟨rfl,⟨gb,gp,_,_,h2,qjP { m with ops:=wrap64 (m.ops+1),off:=true } D i j 1 v l,qjG hl i j l hlz⟩,hk⟩
theorem qdW.erase (h:qdW w0 W gc a) (n:Int):Calls Tryz.prog 63 #[cp gc,.int .i64 n] W fun e w'=>e=.returned (.int .i64 (qbY a n).1)∧qdW w0 w' gc (qbY a n).2∧qaY W w':=by
 have h0:=h;obtain ⟨gb,gp,m,D,hs,rfl,hl⟩:=h
 by_cases ho:m.off=true
 ·rw [show qbY (qdP m D) n=(6,qdP m D) from if_pos ho];refine (qoX (k:=6) (by decide) n (qhU hs ho n)).mono ?_;rintro e w' ⟨rfl,hb⟩;exact ⟨rfl,h0.grow hb,qaY.of_below hb⟩
 have hof:m.off=false:=by simpa using ho
 by_cases hn:n < 0∨m.g.B≤n
 ·rw [show qbY (qdP m D) n=(22,qdP m D) from (if_neg ho).trans (if_pos hn)];refine (qoX (k:=22) (by decide) n (qjH hs hof n hn)).mono ?_;rintro e w' ⟨rfl,hb⟩;exact ⟨rfl,h0.grow hb,qaY.of_below hb⟩
 obtain ⟨i,rfl⟩:∃ i:Nat,n=i:=⟨n.toNat,by omega⟩
 by_cases hb:(m.bk i).bad=true
 ·rw [show qbY (qdP m D) i=(1,(qdP m D).err) from (if_neg ho).trans ((if_neg hn).trans (if_pos hb))];refine (qtU hs hof i (by omega) hb).mono ?_;rintro e w' ⟨rfl,h2,hk⟩;exact ⟨rfl,⟨gb,gp,_,D,h2,rfl,hl⟩,hk⟩
 have hbd:(m.bk i).bad=false:=by simpa using hb
 have e0:qbY (qdP m D) i=match qcX m.pl (tgt m) with
  | none=>(0,(qdP m D).tick.erased i 0 0)
  | some f=>if f.f1=2 then (5,(qdP m D).tick.erased i 2 m.g.P)
   else if f.f2=1 then (6,(qdP m D).tick.cut.erased i 2 m.g.P) else if f.f2=2 then (6,(qdP m D).tick.cut.erased i 0 0)
   else (6,(qdP m D).tick.cut.setBk i { (qdP m D).bk i with er:=wrap64 (((qdP m D).bk i).er+1) }):=(if_neg ho).trans ((if_neg hn).trans (if_neg hb))
 rw [e0]
 cases hh:qcX m.pl (tgt m) with
 | none =>
  refine (qzK hs hof hh i (by omega) hbd).mono ?_;rintro e w' ⟨rfl,h2,hk⟩;exact ⟨rfl,⟨gb,gp,_,_,h2,qjQ { m with ops:=wrap64 (m.ops+1) } D i 0 0,qjO hl i _⟩,hk⟩
 | some f =>
  simp only
  by_cases h1:f.f1=2
  ·rw [if_pos h1];refine (qtV hs hof f hh h1 i (by omega) hbd).mono ?_;rintro e w' ⟨rfl,h2,hk⟩;exact ⟨rfl,⟨gb,gp,_,_,h2,qjQ { m with ops:=wrap64 (m.ops+1) } D i 2 m.g.P,qjO hl i _⟩,hk⟩
  rw [if_neg h1]
  by_cases h2:f.f2=1
  ·rw [if_pos h2];refine (qtX hs hof f hh h1 h2 i (by omega) hbd).mono ?_;rintro e w' ⟨rfl,h2,hk⟩;exact ⟨rfl,⟨gb,gp,_,_,h2,qjQ { m with ops:=wrap64 (m.ops+1),off:=true } D i 2 m.g.P,qjO hl i _⟩,hk⟩
  rw [if_neg h2]
  by_cases h3:f.f2=2
  ·rw [if_pos h3];refine (qtW hs hof f hh h1 h3 i (by omega) hbd).mono ?_;rintro e w' ⟨rfl,h2,hk⟩;exact ⟨rfl,⟨gb,gp,_,_,h2,qjQ { m with ops:=wrap64 (m.ops+1),off:=true } D i 0 0,qjO hl i _⟩,hk⟩
  rw [if_neg h3];refine (qtY hs hof f hh h1 h2 h3 i (by omega) hbd).mono ?_;rintro e w' ⟨rfl,h2,hk⟩;exact ⟨rfl,⟨gb,gp,_,_,h2,vcV { m with ops:=wrap64 (m.ops+1),off:=true } D i,hl⟩,hk⟩
theorem qrY (g:Geo) (A:Option Addr) (c:Nat) (l:List F3) (w:World) (hr:Kd.C kF w A l.length l) (hc:l.length≤c) (hg:qbQ g.B g.P g.Z g.R=true) (hp:qgC l=true) :
  Calls Tryz.prog 11 #[gV g.B g.P g.Z g.R,.slice A l.length c] w fun e w'=>∃ gc:Nat,e=.returned (.tuple #[cp gc,.int .i64 0])∧qdW w w' gc (qpP g l):=by
 refine (vdS g A c l w hr hc hg hp).mono ?_;rintro e w' ⟨gc,gb,gp,pv,rfl,h⟩;exact ⟨gc,rfl,gb,gp,_,_,h,rfl,fun i j=>Nat.zero_le _⟩
end
end
section
variable {w0 W:World} {gc:Nat} {a:AC}
def qeJ (B P Z R:Int):Int:=if qbQ B P Z R=true then wrap64 (wrap64 (B - R) - 2) else 0
theorem qvZ (B P Z R:Int) (W:World):Calls Tryz.prog 13 #[gV B P Z R] W fun e w'=>e=.returned (.int .i64 (qeJ B P Z R))∧Below W.heap.size W w':=by
 have hu28:=Tryz.underlying23
 cases hg:qbQ B P Z R with
 | false =>
  have HRG:=aM (fun W=>qhT B P Z R W);rw [hg] at HRG;have HE:=aM (show qeJ B P Z R=0 by unfold qeJ;rw [hg];rfl);clear hg;go_enter Tryz.func13,Tryz.ntmps13
  go_upto_region 1 with (fail)
  generalize hW:W.alloc (.cells #[.int .i64 B,.int .i64 P,.int .i64 Z,.int .i64 R] 23)=W1;have hb:Below W.heap.size W W1:=by rw [← hW];exact qaA (Below.refl _ _) _
  have hg:W1.heap[W.heap.size]?=some (.cells #[.int .i64 B,.int .i64 P,.int .i64 Z,.int .i64 R] 23 (0,0)):=by rw [← hW];exact qaM _ _ _
  have HB:=aM hb;have a0:=jC hg 0;have a1:=jC hg 1;have a2:=jC hg 2;have a3:=jC hg 3;clear hW hb hg
  go_wp2_with (first
   | (go_at_call 50;(with_reducible refine (HRG.out _).mono ?_);rintro e w2 ⟨rfl,hb2⟩;have HB2:=aM hb2;clear hb2))
  go_ret;rw [HE.out];exact ⟨rfl,qaC HB.out HB2.out⟩
 | true =>
  have HRG:=aM (fun W=>qhT B P Z R W);rw [hg] at HRG;have HE:=aM (show qeJ B P Z R=wrap64 (wrap64 (B - R) - 2) by unfold qeJ;rw [hg];rfl);clear hg;go_enter Tryz.func13,Tryz.ntmps13
  go_upto_region 1 with (fail)
  generalize hW:W.alloc (.cells #[.int .i64 B,.int .i64 P,.int .i64 Z,.int .i64 R] 23)=W1;have hb:Below W.heap.size W W1:=by rw [← hW];exact qaA (Below.refl _ _) _
  have hg:W1.heap[W.heap.size]?=some (.cells #[.int .i64 B,.int .i64 P,.int .i64 Z,.int .i64 R] 23 (0,0)):=by rw [← hW];exact qaM _ _ _
  have HB:=aM hb;have HG:=aM hg;have a0:=jC hg 0;have a1:=jC hg 1;have a2:=jC hg 2;have a3:=jC hg 3;clear hW hb hg
  go_wp2_with (first
   | (go_at_call 50;(with_reducible refine (HRG.out _).mono ?_);rintro e w2 ⟨rfl,hb2⟩;have HB2:=aM hb2;have b0:=jC (qaB HG.out hb2) 0;have b3:=jC (qaB HG.out hb2) 3;clear hb2))
  go_ret;rw [HE.out];exact ⟨rfl,qaC HB.out HB2.out⟩
def qcN (a:AC) (b n:Int):List Int × Bool:=if qhH a b≤n then ([],false) else ((qbW a b n).1,(qbW a b n).2==0)
abbrev lkC (gc:Nat) (g:Geo):Array Value:=#[cp gc,.int .i64 g.B,.int .i64 g.P,.int .i64 g.Z,.int .i64 g.R]
abbrev kp (gk:Nat):Value:=.pointer (some ⟨gk,0,none⟩)
theorem qvL (h:qdW w0 W gc a) (gk:Nat) (hk:W.heap[gk]?=some (.cells (lkC gc a.g) 113 (0,0))) (b n:Int) :
  Calls Tryz.prog 122 #[kp gk,.int .i64 b,.int .i64 n] W fun e w'=>∃ v:Value,e=.returned (.tuple #[v,.bool (qcN a b n).2])∧Kd.R kB 5 w' W.heap.size (fun _=>True) v (qcN a b n).1∧Below W.heap.size W w':=by
 have H:=aM h;have HK:=aM hk;have c0:=jC hk 0;have HN:=aM (h.next b);clear h hk
 by_cases hn:qhH a b≤n
 ·have d0:decide (qhH a b≤n)=true:=decide_eq_true hn;rw [show qcN a b n=([],false) from if_pos hn];clear hn;go_enter Tryz.func122,Tryz.ntmps122
  go_wp2_with (first
   | (go_at_call 81;(with_reducible refine HN.out.mono ?_);rintro e w1 ⟨rfl,hb1⟩;have HB1:=aM hb1;clear hb1))
  go_ret2;exact ⟨_,rfl,Kd.R_nil _ _ _ _ _,HB1.out⟩
 ·have d0:decide (qhH a b≤n)=false:=decide_eq_false hn;rw [show qcN a b n=((qbW a b n).1,(qbW a b n).2==0) from if_neg hn];clear hn;have HR:=aM (fun (w1:World) (hb:Below W.heap.size W w1)=>(H.out.grow hb).read b n);generalize qbW a b n=r at HR ⊢;go_enter Tryz.func122,Tryz.ntmps122
  go_wp2_with (first
   | (go_at_call 81;(with_reducible refine HN.out.mono ?_);rintro e w1 ⟨rfl,hb1⟩;have HB1:=aM hb1;have c1:=jC (qaB HK.out hb1) 0;clear hb1)
   | (go_at_call 77;(with_reducible refine (HR.out _ HB1.out).mono ?_);rintro e w2 ⟨v,rfl,ho,hb2⟩;have HO:=aM (Kd.R_lower ho (qaI HB1.out));have HB2:=aM (qaC HB1.out hb2);clear ho hb2))
  go_ret2;exact ⟨v,rfl,HO.out,HB2.out⟩
def qhN (a:AC) (b:Int):Nat→Nat→Nat × Bool
 | 0,n=>(n,false)
 | k+1,n=>if (qcN a b ((n:Int)+2)).2=true then qhN a b k (n+1) else (n,(qbW a b ((n:Int)+2)).2==5)
theorem vaV (h:qdW w0 W gc a) (gk:Nat) (hk:W.heap[gk]?=some (.cells (lkC gc a.g) 113 (0,0))) (b:Int) :
  Calls Tryz.prog 124 #[kp gk,.int .i64 b] W fun e w'=>e=.returned (.tuple #[.int .i64 (qhN a b (a.g.P - 2) 0).1,.bool (qhN a b (a.g.P - 2) 0).2])∧Below W.heap.size W w':=by
 have hgok:=h.gok;have H:=aM h;have HK:=aM hk;have HPG:=aM (fun (w1:World) (hb:Below W.heap.size W w1) (n:Int)=>qvL (H.out.grow hb) gk (qaB HK.out hb) b n);have HRD:=aM (fun (w1:World) (hb:Below W.heap.size W w1) (n:Int)=>(H.out.grow hb).read b n);obtain ⟨_,⟨hP1,hP2⟩,_⟩:=hgok;have hwP:wrap64 ((a.g.P:Int) - 2)=((a.g.P - 2:Nat):Int):=by unfold wrap64;omega
 have HW:=aM hwP
 obtain ⟨P2,hP⟩:∃ P2,a.g.P - 2=P2:=⟨_,rfl⟩
 have hPP:P2≤62:=by omega
 rw [hP] at HW ⊢;have c2:∀ w1,Below W.heap.size W w1→w1.cell? ⟨gk,2,none⟩=some (.int .i64 a.g.P):=fun w1 hb=>jC (qaB HK.out hb) 2
 have HC2:=aM c2;have c0:∀ w1,Below W.heap.size W w1→w1.cell? ⟨gk,0,none⟩=some (cp gc):=fun w1 hb=>jC (qaB HK.out hb) 0
 have HC0:=aM c0;clear h hk hwP c2 c0;go_enter Tryz.func124,Tryz.ntmps124
 go_upto_region 2 with (fail)
 go_loopw [6] (fun v6 wr=>∃ i:Nat,i≤P2∧v6=.int .i64 i∧qaJ (qhN a b P2 0=qhN a b (P2 - i) i)∧qaJ (Below W.heap.size W wr)) (fun i _=>P2 - (intOf i).toNat);case atStart=>exact ⟨0,Nat.zero_le _,rfl,⟨rfl⟩,⟨Below.refl _ _⟩⟩
 case round =>
  obtain ⟨i,hi,rfl,HM,HBr⟩:=hrel;have z2:=HC2.out _ HBr.out;have z0:=HC0.out _ HBr.out;have hwp:=HW.out
  by_cases hlt:i < P2
  ·have d0:decide ((i:Int) < (P2:Int))=true:=decide_eq_true (by omega);have hwi:wrap64 ((i:Int)+2)=(i:Int)+2:=by unfold wrap64;omega
   have HM2:=aM (show qhN a b P2 0=if (qcN a b ((i:Int)+2)).2=true then qhN a b (P2 - (i+1)) (i+1) else (i,(qbW a b ((i:Int)+2)).2==5) by
    rw [HM.out,show P2 - i=(P2 - (i+1))+1 by omega];rfl)
   have HP:=aM (HPG.out _ HBr.out ((i:Int)+2));have HR:=aM (fun w1 hb=>HRD.out w1 hb ((i:Int)+2))
   cases hp:(qcN a b ((i:Int)+2)).2 with
   | true =>
    have HM3:=aM (HM2.out.trans (if_pos hp));rw [hp] at HP;clear hp
    go_wp2_with (first
     | (go_at_call 122;(with_reducible refine HP.out.mono ?_);rintro e w1 ⟨v,rfl,-,hb1⟩;have HB1:=aM (qaC HBr.out hb1);clear hb1))
    go_roundw;case rel=>exact ⟨i+1,by omega,by push_cast;rfl,HM3,HB1⟩
    case measure=>simp [intOf];omega
   | false =>
    have HM3:=aM (HM2.out.trans (if_neg (by rw [hp];decide)));rw [hp] at HP;clear hp;generalize qbW a b ((i:Int)+2)=r at HR HM3
    go_wp2_with (first
     | (go_at_call 122;(with_reducible refine HP.out.mono ?_);rintro e w1 ⟨v,rfl,-,hb1⟩;have HB1:=aM (qaC HBr.out hb1);have y0:=HC0.out _ HB1.out;clear hb1)
     | (go_at_call 77;(with_reducible refine (HR.out _ HB1.out).mono ?_);rintro e w2 ⟨v2,rfl,-,hb2⟩;have HB2:=aM (qaC HB1.out hb2);clear hb2))
    go_ret2;rw [HM3.out];exact ⟨rfl,HB2.out⟩
  ·obtain rfl:i=P2:=by omega
   have d0:decide ((i:Int) < (i:Int))=false:=decide_eq_false (by omega);have hm:=HM.out;rw [Nat.sub_self] at hm;have HM3:=aM hm;clear hm;go_wp2;go_ret2;rw [HM3.out];exact ⟨rfl,HBr.out⟩
end
section
open Plain
theorem vdZ:∃ i,Tryz.prog.info? 5=some i∧i.size=1:=by
 have h:(Tryz.prog.info? 5).map (·.size)=some 1:=by kernel_rfl
 obtain ⟨i,hi,hs⟩:=Option.map_eq_some_iff.1 h;exact ⟨i,hi,hs⟩
theorem qpY (A:Option Addr) (c:Nat) (l:List Int) (j:Int) (h0:0≤j) (hj:j≤l.length) (hc:l.length≤c) :
  ∃ (A':Option Addr) (c':Nat),(∀ W:World,(Instr.slice 35 (.slice A l.length c) (some (.int .i64 j)) none none).run Tryz.prog W=.ok (.slice A' (l.drop j.toNat).length c') W)∧(l.drop j.toNat).length≤c'∧∀ w:World,Kd.C kB w A l.length l→Kd.C kB w A' (l.drop j.toNat).length (l.drop j.toNat):=by
 obtain ⟨i,hi,hs⟩:=vdZ;refine ⟨if c=j.toNat then A else A.map (·.add (j.toNat*1)),c - j.toNat,fun W=>?_,by rw [List.length_drop];omega,fun w h=>Kd.C_drop h (by omega) hc⟩;rw [List.length_drop];exact qzM 35 5 .i64 Tryz.underlying35 hi 1 hs A l.length c j h0 hj W
theorem veZ (A:Option Addr) (c:Nat) (l:List Int) (j:Int) (h0:0≤j) (hj:j≤l.length) (hc:l.length≤c) :
  (∀ W:World,(Instr.slice 35 (.slice A l.length c) none (some (.int .i64 j)) none).run Tryz.prog W=.ok (.slice A (l.take j.toNat).length c) W)∧(l.take j.toNat).length≤c∧∀ w:World,Kd.C kB w A l.length l→Kd.C kB w A (l.take j.toNat).length (l.take j.toNat):=by
 obtain ⟨i,hi,hs⟩:=vdZ;refine ⟨fun W=>?_,by rw [List.length_take];omega,fun w h=>Kd.C_take h (by omega)⟩;rw [List.length_take,show min j.toNat l.length=j.toNat by omega];exact veF 35 5 .i64 Tryz.underlying35 hi A l.length c j h0 hj hc W
theorem qzP {W:World} {q:Addr} {x:Value} (h1:W.cell? q=some x) {g t:Nat} {fr:Nat × Nat} {cs:Array Value} (hx:W.heap[g]?=some (.cells cs t fr)) (hno:∀ k:Nat,cs[k]? ≠ some x) (k:Nat) (v:Value):(W.setCell ⟨g,k,none⟩ v).cell? q=some x:=by
 have hne:q.block ≠ g:=fun e=>by
  unfold World.cell? at h1;rw [e,hx] at h1;simp only at h1
  split at h1
  ·cases h1
  ·exact hno _ h1
 unfold World.cell? at h1 ⊢;rw [Below.heap_setCell W ⟨g,k,none⟩ v _ hne];exact h1
theorem qxP {W:World} {A:Option Addr} {l:List Int} (h:Kd.C kB W A l.length l) {g t:Nat} {fr:Nat × Nat} {cs:Array Value} (hx:W.heap[g]?=some (.cells cs t fr)) (hno:∀ k:Nat,∀ n:Int,cs[k]? ≠ some (.int .u8 n)) (k:Nat) (v:Value):Kd.C kB (W.setCell ⟨g,k,none⟩ v) A l.length l:=by
 refine ⟨h.1,h.2.1,fun hp=>?_⟩;obtain ⟨ad,hA,hr⟩:=h.2.2 hp;refine ⟨ad,hA,fun j x hj=>?_⟩;obtain ⟨cs2,hs,hK,hc⟩:=hr j x hj;refine ⟨cs2,hs,hK,fun i u hu=>?_⟩;have h1:=hc i u hu;have hcs:cs2=[.int .u8 x]:=hK;subst hcs
 have hu2:u=.int .u8 x:=by
  cases i with
  | zero=>simpa using hu.symm
  | succ i=>simp at hu
 subst hu2;exact qzP h1 hx (fun q=>hno q x) k v
def veS (w w':World) (a:Addr) (v:Value):Option (List Int)→Prop
 | none=>∃ x,v=.tuple #[.pointer none,x]∧(x=.iface 239 (.pointer (some a))∨∃ k:Addr,x=.iface 195 (.pointer (some k)))
 | some p=>∃ (g:Nat) (B:Option Addr) (c:Nat),v=.tuple #[.pointer (some ⟨g,0,none⟩),.nilIface]∧w.heap.size≤g∧w'.heap[g]?=some (.cells #[.slice B (p.drop 1).length c] 199 (0,0))∧(p.drop 1).length≤c∧Kd.C kB w' B (p.drop 1).length (p.drop 1)
theorem qvR (A:Option Addr) (c:Nat) (l:List Int) (a:Addr) (kind:Int) (n:Nat) (w:World) (hn:0 < n) (hl:qbA l) (hr:Kd.C kB w A l.length l) (hc:l.length≤c) (hg:gNone w a) :
  Calls Tryz.prog 128 #[.slice A l.length c,.int .u8 kind,.int .i64 n] w fun e w'=>∃ v,e=.returned v∧veS w w' a v (qgE l kind n)∧Below w.heap.size w w':=by
 have HR:=aM hr;have HC:=aM hc;have HL:=aM hl;have HG:=aM hg;have HN:=aM hn;clear hr hc hl hg hn
 by_cases h64:l.length < 64∨512 < l.length
 ·have hO:qgE l kind n=none:=by unfold qgE;rw [if_pos h64]
  rw [hO];have HG2:w.cell? ⟨0,0,none⟩=some (.iface 239 (.pointer (some a))):=HG.out
  by_cases h1:l.length < 64
  ·have d0:decide ((l.length:Int) < 64)=true:=decide_eq_true (by omega);have d1:decide (l.length < 64)=true:=decide_eq_true h1;clear h64 h1 hO;go_enter Tryz.func128,Tryz.ntmps128;go_wp2;go_region;go_wp2;go_ret2;exact ⟨_,rfl,⟨_,rfl,.inl rfl⟩,qaO (Below.refl _ _)⟩
  ·have d0:decide ((l.length:Int) < 64)=false:=decide_eq_false (by omega);have d1:decide (l.length < 64)=false:=decide_eq_false h1;have d2:decide (512 < (l.length:Int))=true:=decide_eq_true (by omega);have d3:decide (512 < l.length)=true:=decide_eq_true (by omega);clear h64 h1 hO;go_enter Tryz.func128,Tryz.ntmps128;go_wp2;go_region;go_wp2;go_ret2;exact ⟨_,rfl,⟨_,rfl,.inl rfl⟩,qaO (Below.refl _ _)⟩
 ·have d0:decide ((l.length:Int) < 64)=false:=decide_eq_false (by omega);have d1:decide (l.length < 64)=false:=decide_eq_false (by omega);have d2:decide (512 < (l.length:Int))=false:=decide_eq_false (by omega);have d3:decide (512 < l.length)=false:=decide_eq_false (by omega)
  have hO:qgE l kind n=if (qbB l).2.2=true∧(qbB l).1.length=n∧(qbB l).1.getD 0 0=kind∧qfD (l.drop (qbB l).2.1.toNat)=true then some (qbB l).1 else none:=by
   unfold qgE;rw [if_neg h64]
  have HU:=aM (qsK A c l w HL.out (by omega) HR.out HC.out);have hpb:=qfH HL.out;have hln:(l.drop (qbB l).2.1.toNat).length≤9223372036854775806:=by rw [List.length_drop];omega
  have hen:=qpU HL.out;rw [hO];clear h64 hO;generalize (qbB l).1=p at HU hpb ⊢;generalize (qbB l).2.1=en at HU hen hln ⊢;generalize (qbB l).2.2=ok at HU ⊢;obtain ⟨A2,c2,hcut,hc2,hC2⟩:=qpY A c l en hen.1 hen.2 HC.out;generalize l.drop en.toNat=dl at hcut hc2 hC2 hln ⊢;have HB2:=aM (fun (w':World) (hb:Below w.heap.size w w')=>qzT A2 c2 dl w' hln (hC2 w' (Kd.C_below HR.out hb)) hc2);have HE:=aM hen;have hu63:=Tryz.underlying197;have hu65:=Tryz.underlying199;clear hC2 hc2 hen hln
  cases ok with
  | false =>
   rw [if_neg (by rintro ⟨h,_⟩;cases h)];go_enter Tryz.func128,Tryz.ntmps128
   go_upto_region 4 with (first
    | (go_at_call 146;(with_reducible refine HU.out.mono ?_);rintro e w1 ⟨v1,rfl,hr1,hb1⟩;obtain ⟨A1,c1,rfl,hl1,hC1⟩:=Kd.R_reads hr1;have HC1:=aM hC1;have HB1:=aM hb1;have HL1:=aM hl1;have HBL:=aM (HB2.out w1 hb1);clear hr1 hC1 hb1 hl1))
   go_wp2;go_ret2;exact ⟨_,rfl,⟨_,rfl,.inr ⟨_,rfl⟩⟩,qaA HB1.out _⟩
  | true =>
   by_cases hpn:p.length=n
   ·subst hpn;have e1:((p.length:Int)==(p.length:Int))=true:=by simp
    have e2:((p.length:Int) != (p.length:Int))=false:=by simp
    by_cases hk:p.getD 0 0=kind
    ·have e3:(p.getD 0 0==kind)=true:=beq_iff_eq.mpr hk;have e4:(p.getD 0 0 != kind)=false:=bne_eq_false_iff_eq.mpr hk
     cases hbl:qfD dl with
     | false =>
      rw [if_neg (by rintro ⟨_,_,_,h⟩;cases h)];rw [hbl] at HB2;clear hbl;go_enter Tryz.func128,Tryz.ntmps128
      go_upto_region 4 with (first
       | (go_at_call 146;(with_reducible refine HU.out.mono ?_);rintro e w1 ⟨v1,rfl,hr1,hb1⟩;obtain ⟨A1,c1,rfl,hl1,hC1⟩:=Kd.R_reads hr1;have HC1:=aM hC1;have HB1:=aM hb1;have HL1:=aM hl1;have HBL:=aM (HB2.out w1 hb1);clear hr1 hC1 hb1 hl1))
      have hp0:0 < p.length:=by have:=HN.out;omega
      obtain ⟨ad,hA1,hx0⟩:=Kd.at_int HC1.out 0 (by decide) (by omega);subst hA1;have hx1:w1.cell? ad=some (.int .u8 (p.getD 0 0)):=by simpa [Addr.add,rd] using hx0
      clear hx0;have hq0:((0:Int) < (p.length:Int))=True:=eq_true (by omega);have hq1:(0 < p.length)=True:=eq_true hp0;generalize p.getD 0 0=p0 at hx1 e3 e4 hk;clear hk
      go_wp2_with (first
       | (go_at_call 147;(with_reducible refine HBL.out.mono ?_);rintro e w2 ⟨rfl,hb2⟩;have HB3:=aM (qaC HB1.out hb2);clear hb2))
      go_ret2;exact ⟨_,rfl,⟨_,rfl,.inr ⟨_,rfl⟩⟩,qaA HB3.out _⟩
     | true =>
      rw [if_pos ⟨rfl,rfl,hk,rfl⟩];rw [hbl] at HB2;clear hbl;go_enter Tryz.func128,Tryz.ntmps128
      go_upto_region 4 with (first
       | (go_at_call 146;(with_reducible refine HU.out.mono ?_);rintro e w1 ⟨v1,rfl,hr1,hb1⟩;obtain ⟨A1,c1,rfl,hl1,hC1⟩:=Kd.R_reads hr1;have HC1:=aM hC1;have HB1:=aM hb1;have HL1:=aM hl1;have HBL:=aM (HB2.out w1 hb1);clear hr1 hC1 hb1 hl1))
      have hp0:0 < p.length:=by have:=HN.out;omega
      obtain ⟨ad,hA1,hx0⟩:=Kd.at_int HC1.out 0 (by decide) (by omega);subst hA1;have hx1:w1.cell? ad=some (.int .u8 (p.getD 0 0)):=by simpa [Addr.add,rd] using hx0
      clear hx0;have hq0:((0:Int) < (p.length:Int))=True:=eq_true (by omega);have hq1:(0 < p.length)=True:=eq_true hp0;generalize p.getD 0 0=p0 at hx1 e3 e4 hk;obtain ⟨A5,c5,hcut5,hc5,hC5⟩:=qpY (some ad) c1 p 1 (by decide) (by omega) HL1.out
      obtain ⟨q,hq⟩:∃ q,q=p.drop (1:Int).toNat:=⟨_,rfl⟩
      have HQ:=aM hq;rw [← hq] at hcut5 hc5 hC5;have HC5:=aM (hC5 w1 HC1.out);have HL5:=aM hc5;clear hC5 hc5 hk hq
      go_wp2_with (first
       | (go_at_call 147;(with_reducible refine HBL.out.mono ?_);rintro e w2 ⟨rfl,hb2⟩;have HB3:=aM (qaC HB1.out hb2);have HB4:=aM hb2;clear hb2))
      go_ret2;have hq:=HQ.out;subst hq;exact ⟨_,rfl,⟨_,A5,c5,rfl,qaI HB3.out,qaM _ _ _,HL5.out,Kd.C_below HC5.out (qaA HB4.out _)⟩,qaA HB3.out _⟩
    ·rw [if_neg (by rintro ⟨_,_,h,_⟩;exact hk h)];have e3:(p.getD 0 0==kind)=false:=beq_eq_false_iff_ne.mpr hk;have e4:(p.getD 0 0 != kind)=true:=bne_iff_ne.mpr hk;go_enter Tryz.func128,Tryz.ntmps128
     go_upto_region 4 with (first
      | (go_at_call 146;(with_reducible refine HU.out.mono ?_);rintro e w1 ⟨v1,rfl,hr1,hb1⟩;obtain ⟨A1,c1,rfl,hl1,hC1⟩:=Kd.R_reads hr1;have HC1:=aM hC1;have HB1:=aM hb1;have HL1:=aM hl1;have HBL:=aM (HB2.out w1 hb1);clear hr1 hC1 hb1 hl1))
     have hp0:0 < p.length:=by have:=HN.out;omega
     obtain ⟨ad,hA1,hx0⟩:=Kd.at_int HC1.out 0 (by decide) (by omega);subst hA1;have hx1:w1.cell? ad=some (.int .u8 (p.getD 0 0)):=by simpa [Addr.add,rd] using hx0
     clear hx0;have hq0:((0:Int) < (p.length:Int))=True:=eq_true (by omega);have hq1:(0 < p.length)=True:=eq_true hp0;generalize p.getD 0 0=p0 at hx1 e3 e4 hk;clear hk;go_wp2;go_ret2;exact ⟨_,rfl,⟨_,rfl,.inr ⟨_,rfl⟩⟩,qaA HB1.out _⟩
   ·rw [if_neg (by rintro ⟨_,h,_⟩;exact hpn h)];have e1:((p.length:Int)==(n:Int))=false:=by simp;omega
    have e2:((p.length:Int) != (n:Int))=true:=by simp;omega
    clear hpn;go_enter Tryz.func128,Tryz.ntmps128
    go_upto_region 4 with (first
     | (go_at_call 146;(with_reducible refine HU.out.mono ?_);rintro e w1 ⟨v1,rfl,hr1,hb1⟩;obtain ⟨A1,c1,rfl,hl1,hC1⟩:=Kd.R_reads hr1;have HC1:=aM hC1;have HB1:=aM hb1;have HL1:=aM hl1;have HBL:=aM (HB2.out w1 hb1);clear hr1 hC1 hb1 hl1))
    go_wp2;go_ret2;exact ⟨_,rfl,⟨_,rfl,.inr ⟨_,rfl⟩⟩,qaA HB1.out _⟩
end
end Go.Proofs.YtdlimghdimkadaaGreatDoor.PAll

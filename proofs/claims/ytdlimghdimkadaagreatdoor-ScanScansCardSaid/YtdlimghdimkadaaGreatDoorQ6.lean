/- Part 6 of what the law ScanScans rests on. -/
import Derived.Test.YtdlimghdimkadaaGreatDoorQ1
import Derived.Test.YtdlimghdimkadaaGreatDoorQ5
set_option maxRecDepth 100000
set_option maxHeartbeats 32000000
set_option linter.unusedSimpArgs false
set_option linter.unusedVariables false
namespace Go.Proofs.YtdlimghdimkadaaGreatDoor.PAll
open Go Go.RowKit YtdlimghdimkadaaGreatDoorW.PrintWords YtdlimghdimkadaaGreatDoorW.PrintLast YtdlimghdimkadaaGreatDoorW.PrintMore
attribute [local go_sem] qdS qdQ qeJ qeI qcV qcU qdR qdP
section
attribute [local go_sem] qdS qdQ qeJ qeI qcV qcU qdR qdP   
def pumiceref03_power.l0:Nat→Int→Option (Bool)
 | 0,_=>none
 | k+1,x0=>if x0 > 1 then (if (Int.tmod x0 2)=0 then (pumiceref03_power.l0 k (wrap64 (Int.tdiv x0 2))) else (some (x0==1))) else (some (x0==1))
def pumiceref03_power.f (k:Nat) (a0:Int):Option (Bool):=pumiceref03_power.l0 k a0
theorem pumiceref03_power.calls (k:Nat) (a0:Int) (r:Bool) (w:World) (h:pumiceref03_power.f k a0=some r) :
  Calls Tryz.prog 111 #[.int .i64 a0] w fun e w'=>e=.returned (.bool r)∧qaY w w':=by
 have H:(pumiceref03_power.l0 k a0)=some r:=h;clear h;have H':=aM H;clear H;go_enter Tryz.func111,Tryz.ntmps111;go_wp2;go_loopg [0] k (fun kq v0 w'=>∃ (x0_1:Int),v0=.int .i64 x0_1∧qaN (pumiceref03_power.l0 kq x0_1=some r)∧qaN (kq≤k)∧qaY w w');case atStart=>exact ⟨(a0),(by first|rfl|(simp;done)|(simp [*];done)),H',⟨Nat.le_refl _⟩,by repeat (first|exact qaY.refl _|apply qaY.step)⟩
 case round =>
  clear H';try clear c1
  obtain ⟨x0_1,rfl,HA,HK1,⟨m1,rfl⟩⟩:=hrel
  cases gk with
  | zero=>exact absurd HA.out (by simp [pumiceref03_power.l0])
  | succ k1 =>
   have H:=HA.out;clear HA;simp only [pumiceref03_power.l0] at H
   by_cases c2:x0_1 > 1
   ·rw [if_pos c2] at H;have c2b0:decide (1 < x0_1)=true:=decide_eq_true c2;clear c2
    by_cases c3:(Int.tmod x0_1 2)=0
    ·rw [if_pos c3] at H;have c3b0:((Int.tmod x0_1 2)==0)=true:=beq_iff_eq.mpr c3;have c3b1:((Int.tmod x0_1 2) != 0)=false:=bne_eq_false_iff_eq.mpr c3;clear c3;have H':=aM H;clear H;go_wp2;go_roundg k1;case measure=>have:=HK1.out;omega
     case rel=>exact ⟨(wrap64 (Int.tdiv x0_1 2)),(by first|rfl|(simp;done)|(simp [*];done)),H',⟨by have:=HK1.out;omega⟩,by repeat (first|exact qaY.refl _|apply qaY.step)⟩
    ·rw [if_neg c3] at H;have c3b0:((Int.tmod x0_1 2)==0)=false:=beq_eq_false_iff_ne.mpr c3;have c3b1:((Int.tmod x0_1 2) != 0)=true:=bne_iff_ne.mpr c3;obtain rfl:=Option.some.inj H;go_wp2;go_ret;exact ⟨by first|rfl|(simp;done)|(simp [*];done),by repeat (first|exact qaY.refl _|apply qaY.step)⟩
   ·rw [if_neg c2] at H;have c2b0:decide (1 < x0_1)=false:=decide_eq_false c2;clear c2;obtain rfl:=Option.some.inj H;go_wp2;go_ret;exact ⟨by first|rfl|(simp;done)|(simp [*];done),by repeat (first|exact qaY.refl _|apply qaY.step)⟩
def pumiceref03_Right.f (k:Nat) (a0_0:Int) (a0_1:Int) (a0_2:Int) (a0_3:Int):Option (Bool):=if a0_0 < 16 then (some false) else (if a0_0 > 256 then (some false) else (if a0_1 < 8 then (some false) else (if a0_1 > 64 then (some false) else ((pumiceref03_power.f k a0_1).bind fun t109=>(if t109=true then (if a0_2 ≥ 64 then (if a0_2≤512 then ((pumiceref03_power.f k a0_2).bind fun t110=>(if t110=true then (if (wrap64 ((wrap64 (a0_1 - 2))*a0_2)) ≥ 1536 then (if a0_3 ≥ 0 then (some (decide (a0_3≤(wrap64 (Int.tdiv a0_0 4))))) else (some false)) else (some false)) else (some false))) else (some false)) else (some false)) else (some false))))))
theorem pumiceref03_Right.calls (k:Nat) (a0_0:Int) (a0_1:Int) (a0_2:Int) (a0_3:Int) (r:Bool) (w:World) (h:pumiceref03_Right.f k a0_0 a0_1 a0_2 a0_3=some r) :
  Calls Tryz.prog 53 #[.agg #[.int .i64 a0_0,.int .i64 a0_1,.int .i64 a0_2,.int .i64 a0_3]] w fun e w'=>e=.returned (.bool r)∧Below w.heap.size w w':=by
 have hu23:=Tryz.underlying23;have HB:=aM (Below.refl w.heap.size w);have H:(if a0_0 < 16 then (some false) else (if a0_0 > 256 then (some false) else (if a0_1 < 8 then (some false) else (if a0_1 > 64 then (some false) else ((pumiceref03_power.f k a0_1).bind fun t109=>(if t109=true then (if a0_2 ≥ 64 then (if a0_2≤512 then ((pumiceref03_power.f k a0_2).bind fun t110=>(if t110=true then (if (wrap64 ((wrap64 (a0_1 - 2))*a0_2)) ≥ 1536 then (if a0_3 ≥ 0 then (some (decide (a0_3≤(wrap64 (Int.tdiv a0_0 4))))) else (some false)) else (some false)) else (some false))) else (some false)) else (some false)) else (some false)))))))=some r:=h;clear h
 by_cases c2:a0_0 < 16
 ·rw [if_pos c2] at H;have c2b0:decide (a0_0 < 16)=true:=decide_eq_true c2;clear c2;obtain rfl:=Option.some.inj H;go_enter Tryz.func53,Tryz.ntmps53;go_wp2_with (first|((with_reducible refine qbM (N:=1) rfl ?_);refine qbU ?hg (N:=1) ?hd (cs:=#[.int .i64 a0_0,.int .i64 a0_1,.int .i64 a0_2,.int .i64 a0_3]) (t:=23) ?hr ?_;(case hd=>rfl);(case hg=>rfl);(case hr=>first|(go_simp;done)|(go_simp;rfl));intro gb108 hg w3 hbox hb;have n0_:=aM (qaF (by repeat (first|(with_reducible first|exact HB.out|apply qaA|apply qaB|apply qaD)|exact HB.out)) hb);have n1_:=aM (hbox);have n2_:=aM ((by rw [hg];exact (qaG (by repeat (first|(with_reducible first|exact HB.out|apply qaA|apply qaB|apply qaD)|exact HB.out))):w.heap.size≤gb108));have n3_:=aM ((by rw [hg];exact (qaG (by repeat (first|(with_reducible first|exact HB.out|apply qaA|apply qaB|apply qaD)|exact HB.out))):w.heap.size≤gb108));clear HB;have HB:=n0_;have BK108:=n1_;have GW108:=n2_;have GE108:=n3_;clear n0_ n1_ n2_ n3_;clear hb hbox hg;have hcz4_0:w3.cell? ⟨gb108,0,none⟩=some (.int .i64 a0_0):=(qaJ BK108.out 0).trans rfl;have hcz4_1:w3.cell? ⟨gb108,1,none⟩=some (.int .i64 a0_1):=(qaJ BK108.out 1).trans rfl;have hcz4_2:w3.cell? ⟨gb108,2,none⟩=some (.int .i64 a0_2):=(qaJ BK108.out 2).trans rfl;have hcz4_3:w3.cell? ⟨gb108,3,none⟩=some (.int .i64 a0_3):=(qaJ BK108.out 3).trans rfl;have hfz4_0:=qaC BK108.out 0;have hfz4_1:=qaC BK108.out 1;have hfz4_2:=qaC BK108.out 2;have hfz4_3:=qaC BK108.out 3))
  go_ret;exact ⟨by first|rfl|(simp [errW_none,errW_some] <;> rfl)|(simp [*,errW_none,errW_some] <;> rfl),by repeat (first|(with_reducible first|exact HB.out|apply qaA|apply qaB|apply qaD|refine qaH ?_ GE108.out)|exact HB.out)⟩
 ·rw [if_neg c2] at H;have c2b0:decide (a0_0 < 16)=false:=decide_eq_false c2;clear c2
  by_cases c5:a0_0 > 256
  ·rw [if_pos c5] at H;have c5b0:decide (256 < a0_0)=true:=decide_eq_true c5;clear c5;obtain rfl:=Option.some.inj H;go_enter Tryz.func53,Tryz.ntmps53;go_wp2_with (first|((with_reducible refine qbM (N:=1) rfl ?_);refine qbU ?hg (N:=1) ?hd (cs:=#[.int .i64 a0_0,.int .i64 a0_1,.int .i64 a0_2,.int .i64 a0_3]) (t:=23) ?hr ?_;(case hd=>rfl);(case hg=>rfl);(case hr=>first|(go_simp;done)|(go_simp;rfl));intro gb108 hg w6 hbox hb;have n0_:=aM (qaF (by repeat (first|(with_reducible first|exact HB.out|apply qaA|apply qaB|apply qaD)|exact HB.out)) hb);have n1_:=aM (hbox);have n2_:=aM ((by rw [hg];exact (qaG (by repeat (first|(with_reducible first|exact HB.out|apply qaA|apply qaB|apply qaD)|exact HB.out))):w.heap.size≤gb108));have n3_:=aM ((by rw [hg];exact (qaG (by repeat (first|(with_reducible first|exact HB.out|apply qaA|apply qaB|apply qaD)|exact HB.out))):w.heap.size≤gb108));clear HB;have HB:=n0_;have BK108:=n1_;have GW108:=n2_;have GE108:=n3_;clear n0_ n1_ n2_ n3_;clear hb hbox hg;have hcz7_0:w6.cell? ⟨gb108,0,none⟩=some (.int .i64 a0_0):=(qaJ BK108.out 0).trans rfl;have hcz7_1:w6.cell? ⟨gb108,1,none⟩=some (.int .i64 a0_1):=(qaJ BK108.out 1).trans rfl;have hcz7_2:w6.cell? ⟨gb108,2,none⟩=some (.int .i64 a0_2):=(qaJ BK108.out 2).trans rfl;have hcz7_3:w6.cell? ⟨gb108,3,none⟩=some (.int .i64 a0_3):=(qaJ BK108.out 3).trans rfl;have hfz7_0:=qaC BK108.out 0;have hfz7_1:=qaC BK108.out 1;have hfz7_2:=qaC BK108.out 2;have hfz7_3:=qaC BK108.out 3))
   go_ret;exact ⟨by first|rfl|(simp [errW_none,errW_some] <;> rfl)|(simp [*,errW_none,errW_some] <;> rfl),by repeat (first|(with_reducible first|exact HB.out|apply qaA|apply qaB|apply qaD|refine qaH ?_ GE108.out)|exact HB.out)⟩
  ·rw [if_neg c5] at H;have c5b0:decide (256 < a0_0)=false:=decide_eq_false c5;clear c5
   by_cases c8:a0_1 < 8
   ·rw [if_pos c8] at H;have c8b0:decide (a0_1 < 8)=true:=decide_eq_true c8;clear c8;obtain rfl:=Option.some.inj H;go_enter Tryz.func53,Tryz.ntmps53;go_wp2_with (first|((with_reducible refine qbM (N:=1) rfl ?_);refine qbU ?hg (N:=1) ?hd (cs:=#[.int .i64 a0_0,.int .i64 a0_1,.int .i64 a0_2,.int .i64 a0_3]) (t:=23) ?hr ?_;(case hd=>rfl);(case hg=>rfl);(case hr=>first|(go_simp;done)|(go_simp;rfl));intro gb108 hg w9 hbox hb;have n0_:=aM (qaF (by repeat (first|(with_reducible first|exact HB.out|apply qaA|apply qaB|apply qaD)|exact HB.out)) hb);have n1_:=aM (hbox);have n2_:=aM ((by rw [hg];exact (qaG (by repeat (first|(with_reducible first|exact HB.out|apply qaA|apply qaB|apply qaD)|exact HB.out))):w.heap.size≤gb108));have n3_:=aM ((by rw [hg];exact (qaG (by repeat (first|(with_reducible first|exact HB.out|apply qaA|apply qaB|apply qaD)|exact HB.out))):w.heap.size≤gb108));clear HB;have HB:=n0_;have BK108:=n1_;have GW108:=n2_;have GE108:=n3_;clear n0_ n1_ n2_ n3_;clear hb hbox hg;have hcz10_0:w9.cell? ⟨gb108,0,none⟩=some (.int .i64 a0_0):=(qaJ BK108.out 0).trans rfl;have hcz10_1:w9.cell? ⟨gb108,1,none⟩=some (.int .i64 a0_1):=(qaJ BK108.out 1).trans rfl;have hcz10_2:w9.cell? ⟨gb108,2,none⟩=some (.int .i64 a0_2):=(qaJ BK108.out 2).trans rfl;have hcz10_3:w9.cell? ⟨gb108,3,none⟩=some (.int .i64 a0_3):=(qaJ BK108.out 3).trans rfl;have hfz10_0:=qaC BK108.out 0;have hfz10_1:=qaC BK108.out 1;have hfz10_2:=qaC BK108.out 2;have hfz10_3:=qaC BK108.out 3))
    go_ret;exact ⟨by first|rfl|(simp [errW_none,errW_some] <;> rfl)|(simp [*,errW_none,errW_some] <;> rfl),by repeat (first|(with_reducible first|exact HB.out|apply qaA|apply qaB|apply qaD|refine qaH ?_ GE108.out)|exact HB.out)⟩
   ·rw [if_neg c8] at H;have c8b0:decide (a0_1 < 8)=false:=decide_eq_false c8;clear c8
    by_cases c11:a0_1 > 64
    ·rw [if_pos c11] at H;have c11b0:decide (64 < a0_1)=true:=decide_eq_true c11;clear c11;obtain rfl:=Option.some.inj H;go_enter Tryz.func53,Tryz.ntmps53;go_wp2_with (first|((with_reducible refine qbM (N:=1) rfl ?_);refine qbU ?hg (N:=1) ?hd (cs:=#[.int .i64 a0_0,.int .i64 a0_1,.int .i64 a0_2,.int .i64 a0_3]) (t:=23) ?hr ?_;(case hd=>rfl);(case hg=>rfl);(case hr=>first|(go_simp;done)|(go_simp;rfl));intro gb108 hg w12 hbox hb;have n0_:=aM (qaF (by repeat (first|(with_reducible first|exact HB.out|apply qaA|apply qaB|apply qaD)|exact HB.out)) hb);have n1_:=aM (hbox);have n2_:=aM ((by rw [hg];exact (qaG (by repeat (first|(with_reducible first|exact HB.out|apply qaA|apply qaB|apply qaD)|exact HB.out))):w.heap.size≤gb108));have n3_:=aM ((by rw [hg];exact (qaG (by repeat (first|(with_reducible first|exact HB.out|apply qaA|apply qaB|apply qaD)|exact HB.out))):w.heap.size≤gb108));clear HB;have HB:=n0_;have BK108:=n1_;have GW108:=n2_;have GE108:=n3_;clear n0_ n1_ n2_ n3_;clear hb hbox hg;have hcz13_0:w12.cell? ⟨gb108,0,none⟩=some (.int .i64 a0_0):=(qaJ BK108.out 0).trans rfl;have hcz13_1:w12.cell? ⟨gb108,1,none⟩=some (.int .i64 a0_1):=(qaJ BK108.out 1).trans rfl;have hcz13_2:w12.cell? ⟨gb108,2,none⟩=some (.int .i64 a0_2):=(qaJ BK108.out 2).trans rfl;have hcz13_3:w12.cell? ⟨gb108,3,none⟩=some (.int .i64 a0_3):=(qaJ BK108.out 3).trans rfl;have hfz13_0:=qaC BK108.out 0;have hfz13_1:=qaC BK108.out 1;have hfz13_2:=qaC BK108.out 2;have hfz13_3:=qaC BK108.out 3))
     go_ret;exact ⟨by first|rfl|(simp [errW_none,errW_some] <;> rfl)|(simp [*,errW_none,errW_some] <;> rfl),by repeat (first|(with_reducible first|exact HB.out|apply qaA|apply qaB|apply qaD|refine qaH ?_ GE108.out)|exact HB.out)⟩
    ·rw [if_neg c11] at H;have c11b0:decide (64 < a0_1)=false:=decide_eq_false c11;clear c11;replace H:=Option.bind_eq_some_iff.mp H;obtain ⟨t109,A140,H⟩:=H;replace H:(if t109=true then (if a0_2 ≥ 64 then (if a0_2≤512 then ((pumiceref03_power.f k a0_2).bind fun t110=>(if t110=true then (if (wrap64 ((wrap64 (a0_1 - 2))*a0_2)) ≥ 1536 then (if a0_3 ≥ 0 then (some (decide (a0_3≤(wrap64 (Int.tdiv a0_0 4))))) else (some false)) else (some false)) else (some false))) else (some false)) else (some false)) else (some false))=some r:=H;have A14:=aM A140;clear A140
     by_cases c15:t109=true
     ·subst c15;have H1:(if a0_2 ≥ 64 then (if a0_2≤512 then ((pumiceref03_power.f k a0_2).bind fun t110=>(if t110=true then (if (wrap64 ((wrap64 (a0_1 - 2))*a0_2)) ≥ 1536 then (if a0_3 ≥ 0 then (some (decide (a0_3≤(wrap64 (Int.tdiv a0_0 4))))) else (some false)) else (some false)) else (some false))) else (some false)) else (some false))=some r:=by rw [if_pos rfl] at H;exact H
      clear H;have H:=H1;clear H1
      by_cases c16:a0_2 ≥ 64
      ·rw [if_pos c16] at H;have c16b0:decide (64≤a0_2)=true:=decide_eq_true c16;clear c16
       by_cases c17:a0_2≤512
       ·rw [if_pos c17] at H;have c17b0:decide (a0_2≤512)=true:=decide_eq_true c17;clear c17;replace H:=Option.bind_eq_some_iff.mp H;obtain ⟨t110,A180,H⟩:=H;replace H:(if t110=true then (if (wrap64 ((wrap64 (a0_1 - 2))*a0_2)) ≥ 1536 then (if a0_3 ≥ 0 then (some (decide (a0_3≤(wrap64 (Int.tdiv a0_0 4))))) else (some false)) else (some false)) else (some false))=some r:=H;have A18:=aM A180;clear A180
        by_cases c19:t110=true
        ·subst c19;have H1:(if (wrap64 ((wrap64 (a0_1 - 2))*a0_2)) ≥ 1536 then (if a0_3 ≥ 0 then (some (decide (a0_3≤(wrap64 (Int.tdiv a0_0 4))))) else (some false)) else (some false))=some r:=by rw [if_pos rfl] at H;exact H
         clear H;have H:=H1;clear H1
         by_cases c20:(wrap64 ((wrap64 (a0_1 - 2))*a0_2)) ≥ 1536
         ·rw [if_pos c20] at H;have c20b0:decide (1536≤(wrap64 ((wrap64 (a0_1 - 2))*a0_2)))=true:=decide_eq_true c20;clear c20
          by_cases c21:a0_3 ≥ 0
          ·rw [if_pos c21] at H;have c21b0:decide (0≤a0_3)=true:=decide_eq_true c21;clear c21;obtain rfl:=Option.some.inj H;go_enter Tryz.func53,Tryz.ntmps53;go_wp2_with (first|((with_reducible refine qbM (N:=1) rfl ?_);refine qbU ?hg (N:=1) ?hd (cs:=#[.int .i64 a0_0,.int .i64 a0_1,.int .i64 a0_2,.int .i64 a0_3]) (t:=23) ?hr ?_;(case hd=>rfl);(case hg=>rfl);(case hr=>first|(go_simp;done)|(go_simp;rfl));intro gb108 hg w22 hbox hb;have n0_:=aM (qaF (by repeat (first|(with_reducible first|exact HB.out|apply qaA|apply qaB|apply qaD)|exact HB.out)) hb);have n1_:=aM (hbox);have n2_:=aM ((by rw [hg];exact (qaG (by repeat (first|(with_reducible first|exact HB.out|apply qaA|apply qaB|apply qaD)|exact HB.out))):w.heap.size≤gb108));have n3_:=aM ((by rw [hg];exact (qaG (by repeat (first|(with_reducible first|exact HB.out|apply qaA|apply qaB|apply qaD)|exact HB.out))):w.heap.size≤gb108));clear HB;have HB:=n0_;have BK108:=n1_;have GW108:=n2_;have GE108:=n3_;clear n0_ n1_ n2_ n3_;clear hb hbox hg;have hcz23_0:w22.cell? ⟨gb108,0,none⟩=some (.int .i64 a0_0):=(qaJ BK108.out 0).trans rfl;have hcz23_1:w22.cell? ⟨gb108,1,none⟩=some (.int .i64 a0_1):=(qaJ BK108.out 1).trans rfl;have hcz23_2:w22.cell? ⟨gb108,2,none⟩=some (.int .i64 a0_2):=(qaJ BK108.out 2).trans rfl;have hcz23_3:w22.cell? ⟨gb108,3,none⟩=some (.int .i64 a0_3):=(qaJ BK108.out 3).trans rfl;have hfz23_0:=qaC BK108.out 0;have hfz23_1:=qaC BK108.out 1;have hfz23_2:=qaC BK108.out 2;have hfz23_3:=qaC BK108.out 3)|(go_at_call 111;(with_reducible refine (pumiceref03_power.calls k a0_1 true _ A14.out).mono ?_);rintro e w' ⟨rfl,⟨nd,rfl⟩⟩)|(go_at_call 111;(with_reducible refine (pumiceref03_power.calls k a0_2 true _ A18.out).mono ?_);rintro e w' ⟨rfl,⟨nd,rfl⟩⟩))
           go_ret;exact ⟨by first|rfl|(simp [errW_none,errW_some] <;> rfl)|(simp [*,errW_none,errW_some] <;> rfl),by repeat (first|(with_reducible first|exact HB.out|apply qaA|apply qaB|apply qaD|refine qaH ?_ GE108.out)|exact HB.out)⟩
          ·rw [if_neg c21] at H;have c21b0:decide (0≤a0_3)=false:=decide_eq_false c21;clear c21;obtain rfl:=Option.some.inj H;go_enter Tryz.func53,Tryz.ntmps53;go_wp2_with (first|((with_reducible refine qbM (N:=1) rfl ?_);refine qbU ?hg (N:=1) ?hd (cs:=#[.int .i64 a0_0,.int .i64 a0_1,.int .i64 a0_2,.int .i64 a0_3]) (t:=23) ?hr ?_;(case hd=>rfl);(case hg=>rfl);(case hr=>first|(go_simp;done)|(go_simp;rfl));intro gb108 hg w24 hbox hb;have n0_:=aM (qaF (by repeat (first|(with_reducible first|exact HB.out|apply qaA|apply qaB|apply qaD)|exact HB.out)) hb);have n1_:=aM (hbox);have n2_:=aM ((by rw [hg];exact (qaG (by repeat (first|(with_reducible first|exact HB.out|apply qaA|apply qaB|apply qaD)|exact HB.out))):w.heap.size≤gb108));have n3_:=aM ((by rw [hg];exact (qaG (by repeat (first|(with_reducible first|exact HB.out|apply qaA|apply qaB|apply qaD)|exact HB.out))):w.heap.size≤gb108));clear HB;have HB:=n0_;have BK108:=n1_;have GW108:=n2_;have GE108:=n3_;clear n0_ n1_ n2_ n3_;clear hb hbox hg;have hcz25_0:w24.cell? ⟨gb108,0,none⟩=some (.int .i64 a0_0):=(qaJ BK108.out 0).trans rfl;have hcz25_1:w24.cell? ⟨gb108,1,none⟩=some (.int .i64 a0_1):=(qaJ BK108.out 1).trans rfl;have hcz25_2:w24.cell? ⟨gb108,2,none⟩=some (.int .i64 a0_2):=(qaJ BK108.out 2).trans rfl;have hcz25_3:w24.cell? ⟨gb108,3,none⟩=some (.int .i64 a0_3):=(qaJ BK108.out 3).trans rfl;have hfz25_0:=qaC BK108.out 0;have hfz25_1:=qaC BK108.out 1;have hfz25_2:=qaC BK108.out 2;have hfz25_3:=qaC BK108.out 3)|(go_at_call 111;(with_reducible refine (pumiceref03_power.calls k a0_1 true _ A14.out).mono ?_);rintro e w' ⟨rfl,⟨nd,rfl⟩⟩)|(go_at_call 111;(with_reducible refine (pumiceref03_power.calls k a0_2 true _ A18.out).mono ?_);rintro e w' ⟨rfl,⟨nd,rfl⟩⟩))
           go_ret;exact ⟨by first|rfl|(simp [errW_none,errW_some] <;> rfl)|(simp [*,errW_none,errW_some] <;> rfl),by repeat (first|(with_reducible first|exact HB.out|apply qaA|apply qaB|apply qaD|refine qaH ?_ GE108.out)|exact HB.out)⟩
         ·rw [if_neg c20] at H;have c20b0:decide (1536≤(wrap64 ((wrap64 (a0_1 - 2))*a0_2)))=false:=decide_eq_false c20;clear c20;obtain rfl:=Option.some.inj H;go_enter Tryz.func53,Tryz.ntmps53;go_wp2_with (first|((with_reducible refine qbM (N:=1) rfl ?_);refine qbU ?hg (N:=1) ?hd (cs:=#[.int .i64 a0_0,.int .i64 a0_1,.int .i64 a0_2,.int .i64 a0_3]) (t:=23) ?hr ?_;(case hd=>rfl);(case hg=>rfl);(case hr=>first|(go_simp;done)|(go_simp;rfl));intro gb108 hg w26 hbox hb;have n0_:=aM (qaF (by repeat (first|(with_reducible first|exact HB.out|apply qaA|apply qaB|apply qaD)|exact HB.out)) hb);have n1_:=aM (hbox);have n2_:=aM ((by rw [hg];exact (qaG (by repeat (first|(with_reducible first|exact HB.out|apply qaA|apply qaB|apply qaD)|exact HB.out))):w.heap.size≤gb108));have n3_:=aM ((by rw [hg];exact (qaG (by repeat (first|(with_reducible first|exact HB.out|apply qaA|apply qaB|apply qaD)|exact HB.out))):w.heap.size≤gb108));clear HB;have HB:=n0_;have BK108:=n1_;have GW108:=n2_;have GE108:=n3_;clear n0_ n1_ n2_ n3_;clear hb hbox hg;have hcz27_0:w26.cell? ⟨gb108,0,none⟩=some (.int .i64 a0_0):=(qaJ BK108.out 0).trans rfl;have hcz27_1:w26.cell? ⟨gb108,1,none⟩=some (.int .i64 a0_1):=(qaJ BK108.out 1).trans rfl;have hcz27_2:w26.cell? ⟨gb108,2,none⟩=some (.int .i64 a0_2):=(qaJ BK108.out 2).trans rfl;have hcz27_3:w26.cell? ⟨gb108,3,none⟩=some (.int .i64 a0_3):=(qaJ BK108.out 3).trans rfl;have hfz27_0:=qaC BK108.out 0;have hfz27_1:=qaC BK108.out 1;have hfz27_2:=qaC BK108.out 2;have hfz27_3:=qaC BK108.out 3)|(go_at_call 111;(with_reducible refine (pumiceref03_power.calls k a0_1 true _ A14.out).mono ?_);rintro e w' ⟨rfl,⟨nd,rfl⟩⟩)|(go_at_call 111;(with_reducible refine (pumiceref03_power.calls k a0_2 true _ A18.out).mono ?_);rintro e w' ⟨rfl,⟨nd,rfl⟩⟩))
          go_ret;exact ⟨by first|rfl|(simp [errW_none,errW_some] <;> rfl)|(simp [*,errW_none,errW_some] <;> rfl),by repeat (first|(with_reducible first|exact HB.out|apply qaA|apply qaB|apply qaD|refine qaH ?_ GE108.out)|exact HB.out)⟩
        ·replace c19:=Bool.eq_false_iff.mpr c19;subst c19;have H1:(some false)=some r:=by rw [if_neg (show ¬ (false=true) by decide)] at H;exact H
         clear H;have H:=H1;clear H1;obtain rfl:=Option.some.inj H;go_enter Tryz.func53,Tryz.ntmps53;go_wp2_with (first|((with_reducible refine qbM (N:=1) rfl ?_);refine qbU ?hg (N:=1) ?hd (cs:=#[.int .i64 a0_0,.int .i64 a0_1,.int .i64 a0_2,.int .i64 a0_3]) (t:=23) ?hr ?_;(case hd=>rfl);(case hg=>rfl);(case hr=>first|(go_simp;done)|(go_simp;rfl));intro gb108 hg w28 hbox hb;have n0_:=aM (qaF (by repeat (first|(with_reducible first|exact HB.out|apply qaA|apply qaB|apply qaD)|exact HB.out)) hb);have n1_:=aM (hbox);have n2_:=aM ((by rw [hg];exact (qaG (by repeat (first|(with_reducible first|exact HB.out|apply qaA|apply qaB|apply qaD)|exact HB.out))):w.heap.size≤gb108));have n3_:=aM ((by rw [hg];exact (qaG (by repeat (first|(with_reducible first|exact HB.out|apply qaA|apply qaB|apply qaD)|exact HB.out))):w.heap.size≤gb108));clear HB;have HB:=n0_;have BK108:=n1_;have GW108:=n2_;have GE108:=n3_;clear n0_ n1_ n2_ n3_;clear hb hbox hg;have hcz29_0:w28.cell? ⟨gb108,0,none⟩=some (.int .i64 a0_0):=(qaJ BK108.out 0).trans rfl;have hcz29_1:w28.cell? ⟨gb108,1,none⟩=some (.int .i64 a0_1):=(qaJ BK108.out 1).trans rfl;have hcz29_2:w28.cell? ⟨gb108,2,none⟩=some (.int .i64 a0_2):=(qaJ BK108.out 2).trans rfl;have hcz29_3:w28.cell? ⟨gb108,3,none⟩=some (.int .i64 a0_3):=(qaJ BK108.out 3).trans rfl;have hfz29_0:=qaC BK108.out 0;have hfz29_1:=qaC BK108.out 1;have hfz29_2:=qaC BK108.out 2;have hfz29_3:=qaC BK108.out 3)|(go_at_call 111;(with_reducible refine (pumiceref03_power.calls k a0_1 true _ A14.out).mono ?_);rintro e w' ⟨rfl,⟨nd,rfl⟩⟩)|(go_at_call 111;(with_reducible refine (pumiceref03_power.calls k a0_2 false _ A18.out).mono ?_);rintro e w' ⟨rfl,⟨nd,rfl⟩⟩))
         go_ret;exact ⟨by first|rfl|(simp [errW_none,errW_some] <;> rfl)|(simp [*,errW_none,errW_some] <;> rfl),by repeat (first|(with_reducible first|exact HB.out|apply qaA|apply qaB|apply qaD|refine qaH ?_ GE108.out)|exact HB.out)⟩
       ·rw [if_neg c17] at H;have c17b0:decide (a0_2≤512)=false:=decide_eq_false c17;clear c17;obtain rfl:=Option.some.inj H;go_enter Tryz.func53,Tryz.ntmps53;go_wp2_with (first|((with_reducible refine qbM (N:=1) rfl ?_);refine qbU ?hg (N:=1) ?hd (cs:=#[.int .i64 a0_0,.int .i64 a0_1,.int .i64 a0_2,.int .i64 a0_3]) (t:=23) ?hr ?_;(case hd=>rfl);(case hg=>rfl);(case hr=>first|(go_simp;done)|(go_simp;rfl));intro gb108 hg w30 hbox hb;have n0_:=aM (qaF (by repeat (first|(with_reducible first|exact HB.out|apply qaA|apply qaB|apply qaD)|exact HB.out)) hb);have n1_:=aM (hbox);have n2_:=aM ((by rw [hg];exact (qaG (by repeat (first|(with_reducible first|exact HB.out|apply qaA|apply qaB|apply qaD)|exact HB.out))):w.heap.size≤gb108));have n3_:=aM ((by rw [hg];exact (qaG (by repeat (first|(with_reducible first|exact HB.out|apply qaA|apply qaB|apply qaD)|exact HB.out))):w.heap.size≤gb108));clear HB;have HB:=n0_;have BK108:=n1_;have GW108:=n2_;have GE108:=n3_;clear n0_ n1_ n2_ n3_;clear hb hbox hg;have hcz31_0:w30.cell? ⟨gb108,0,none⟩=some (.int .i64 a0_0):=(qaJ BK108.out 0).trans rfl;have hcz31_1:w30.cell? ⟨gb108,1,none⟩=some (.int .i64 a0_1):=(qaJ BK108.out 1).trans rfl;have hcz31_2:w30.cell? ⟨gb108,2,none⟩=some (.int .i64 a0_2):=(qaJ BK108.out 2).trans rfl;have hcz31_3:w30.cell? ⟨gb108,3,none⟩=some (.int .i64 a0_3):=(qaJ BK108.out 3).trans rfl;have hfz31_0:=qaC BK108.out 0;have hfz31_1:=qaC BK108.out 1;have hfz31_2:=qaC BK108.out 2;have hfz31_3:=qaC BK108.out 3)|(go_at_call 111;(with_reducible refine (pumiceref03_power.calls k a0_1 true _ A14.out).mono ?_);rintro e w' ⟨rfl,⟨nd,rfl⟩⟩))
        go_ret;exact ⟨by first|rfl|(simp [errW_none,errW_some] <;> rfl)|(simp [*,errW_none,errW_some] <;> rfl),by repeat (first|(with_reducible first|exact HB.out|apply qaA|apply qaB|apply qaD|refine qaH ?_ GE108.out)|exact HB.out)⟩
      ·rw [if_neg c16] at H;have c16b0:decide (64≤a0_2)=false:=decide_eq_false c16;clear c16;obtain rfl:=Option.some.inj H;go_enter Tryz.func53,Tryz.ntmps53;go_wp2_with (first|((with_reducible refine qbM (N:=1) rfl ?_);refine qbU ?hg (N:=1) ?hd (cs:=#[.int .i64 a0_0,.int .i64 a0_1,.int .i64 a0_2,.int .i64 a0_3]) (t:=23) ?hr ?_;(case hd=>rfl);(case hg=>rfl);(case hr=>first|(go_simp;done)|(go_simp;rfl));intro gb108 hg w32 hbox hb;have n0_:=aM (qaF (by repeat (first|(with_reducible first|exact HB.out|apply qaA|apply qaB|apply qaD)|exact HB.out)) hb);have n1_:=aM (hbox);have n2_:=aM ((by rw [hg];exact (qaG (by repeat (first|(with_reducible first|exact HB.out|apply qaA|apply qaB|apply qaD)|exact HB.out))):w.heap.size≤gb108));have n3_:=aM ((by rw [hg];exact (qaG (by repeat (first|(with_reducible first|exact HB.out|apply qaA|apply qaB|apply qaD)|exact HB.out))):w.heap.size≤gb108));clear HB;have HB:=n0_;have BK108:=n1_;have GW108:=n2_;have GE108:=n3_;clear n0_ n1_ n2_ n3_;clear hb hbox hg;have hcz33_0:w32.cell? ⟨gb108,0,none⟩=some (.int .i64 a0_0):=(qaJ BK108.out 0).trans rfl;have hcz33_1:w32.cell? ⟨gb108,1,none⟩=some (.int .i64 a0_1):=(qaJ BK108.out 1).trans rfl;have hcz33_2:w32.cell? ⟨gb108,2,none⟩=some (.int .i64 a0_2):=(qaJ BK108.out 2).trans rfl;have hcz33_3:w32.cell? ⟨gb108,3,none⟩=some (.int .i64 a0_3):=(qaJ BK108.out 3).trans rfl;have hfz33_0:=qaC BK108.out 0;have hfz33_1:=qaC BK108.out 1;have hfz33_2:=qaC BK108.out 2;have hfz33_3:=qaC BK108.out 3)|(go_at_call 111;(with_reducible refine (pumiceref03_power.calls k a0_1 true _ A14.out).mono ?_);rintro e w' ⟨rfl,⟨nd,rfl⟩⟩))
       go_ret;exact ⟨by first|rfl|(simp [errW_none,errW_some] <;> rfl)|(simp [*,errW_none,errW_some] <;> rfl),by repeat (first|(with_reducible first|exact HB.out|apply qaA|apply qaB|apply qaD|refine qaH ?_ GE108.out)|exact HB.out)⟩
     ·replace c15:=Bool.eq_false_iff.mpr c15;subst c15;have H1:(some false)=some r:=by rw [if_neg (show ¬ (false=true) by decide)] at H;exact H
      clear H;have H:=H1;clear H1;obtain rfl:=Option.some.inj H;go_enter Tryz.func53,Tryz.ntmps53;go_wp2_with (first|((with_reducible refine qbM (N:=1) rfl ?_);refine qbU ?hg (N:=1) ?hd (cs:=#[.int .i64 a0_0,.int .i64 a0_1,.int .i64 a0_2,.int .i64 a0_3]) (t:=23) ?hr ?_;(case hd=>rfl);(case hg=>rfl);(case hr=>first|(go_simp;done)|(go_simp;rfl));intro gb108 hg w34 hbox hb;have n0_:=aM (qaF (by repeat (first|(with_reducible first|exact HB.out|apply qaA|apply qaB|apply qaD)|exact HB.out)) hb);have n1_:=aM (hbox);have n2_:=aM ((by rw [hg];exact (qaG (by repeat (first|(with_reducible first|exact HB.out|apply qaA|apply qaB|apply qaD)|exact HB.out))):w.heap.size≤gb108));have n3_:=aM ((by rw [hg];exact (qaG (by repeat (first|(with_reducible first|exact HB.out|apply qaA|apply qaB|apply qaD)|exact HB.out))):w.heap.size≤gb108));clear HB;have HB:=n0_;have BK108:=n1_;have GW108:=n2_;have GE108:=n3_;clear n0_ n1_ n2_ n3_;clear hb hbox hg;have hcz35_0:w34.cell? ⟨gb108,0,none⟩=some (.int .i64 a0_0):=(qaJ BK108.out 0).trans rfl;have hcz35_1:w34.cell? ⟨gb108,1,none⟩=some (.int .i64 a0_1):=(qaJ BK108.out 1).trans rfl;have hcz35_2:w34.cell? ⟨gb108,2,none⟩=some (.int .i64 a0_2):=(qaJ BK108.out 2).trans rfl;have hcz35_3:w34.cell? ⟨gb108,3,none⟩=some (.int .i64 a0_3):=(qaJ BK108.out 3).trans rfl;have hfz35_0:=qaC BK108.out 0;have hfz35_1:=qaC BK108.out 1;have hfz35_2:=qaC BK108.out 2;have hfz35_3:=qaC BK108.out 3)|(go_at_call 111;(with_reducible refine (pumiceref03_power.calls k a0_1 false _ A14.out).mono ?_);rintro e w' ⟨rfl,⟨nd,rfl⟩⟩))
      go_ret;exact ⟨by first|rfl|(simp [errW_none,errW_some] <;> rfl)|(simp [*,errW_none,errW_some] <;> rfl),by repeat (first|(with_reducible first|exact HB.out|apply qaA|apply qaB|apply qaD|refine qaH ?_ GE108.out)|exact HB.out)⟩
mutual
def pumiceref03_RightPlan.l0:Nat→List (S83)→Int→Option (Bool)
 | 0,_,_=>none
 | k+1,x0,x3=>if x3 < (x0.length:Int) then (if 0≤x3 then (if ((qaT x0 x3).f0) < 1 then (pumiceref03_RightPlan.j1 k x0 x3 true ((qaT x0 x3).f0) ((qaT x0 x3).f1) ((qaT x0 x3).f2)) else (if ((qaT x0 x3).f1)=1 then (if ((qaT x0 x3).f2) < 0 then (pumiceref03_RightPlan.j1 k x0 x3 true ((qaT x0 x3).f0) ((qaT x0 x3).f1) ((qaT x0 x3).f2)) else (if ((qaT x0 x3).f2) > 2 then (pumiceref03_RightPlan.j1 k x0 x3 true ((qaT x0 x3).f0) ((qaT x0 x3).f1) ((qaT x0 x3).f2)) else (if ((qaT x0 x3).f1)=2 then (pumiceref03_RightPlan.j1 k x0 x3 (decide (((qaT x0 x3).f2) > 0)) ((qaT x0 x3).f0) ((qaT x0 x3).f1) ((qaT x0 x3).f2)) else (pumiceref03_RightPlan.j1 k x0 x3 false ((qaT x0 x3).f0) ((qaT x0 x3).f1) ((qaT x0 x3).f2))))) else (if ((qaT x0 x3).f1)=2 then (if ((qaT x0 x3).f2) < 0 then (pumiceref03_RightPlan.j1 k x0 x3 true ((qaT x0 x3).f0) ((qaT x0 x3).f1) ((qaT x0 x3).f2)) else (pumiceref03_RightPlan.j1 k x0 x3 (decide (((qaT x0 x3).f2) > 0)) ((qaT x0 x3).f0) ((qaT x0 x3).f1) ((qaT x0 x3).f2))) else (pumiceref03_RightPlan.j1 k x0 x3 true ((qaT x0 x3).f0) ((qaT x0 x3).f1) ((qaT x0 x3).f2))))) else (none)) else (some true)
def pumiceref03_RightPlan.j1:Nat→List (S83)→Int→Bool→Int→Int→Int→Option (Bool)
 | 0,_,_,_,_,_,_=>none
 | k+1,x0,x3,x56,x113000,x113001,x113002=>if x56=true then (some false) else (pumiceref03_RightPlan.l1 k x0 x3 0 x113000 x113001 x113002)
def pumiceref03_RightPlan.l1:Nat→List (S83)→Int→Int→Int→Int→Int→Option (Bool)
 | 0,_,_,_,_,_,_=>none
 | k+1,x0,x3,x5,x113000,x113001,x113002=>if x5 < x3 then (if 0≤x5 then (if x5 < (x0.length:Int) then (if ((qaT x0 x5).f0)=x113000 then (some false) else (pumiceref03_RightPlan.l1 k x0 x3 (wrap64 (x5+1)) x113000 x113001 x113002)) else (none)) else (none)) else (pumiceref03_RightPlan.l0 k x0 (wrap64 (x3+1)))
end
def pumiceref03_RightPlan.f (k:Nat) (l0:List (S83)):Option (Bool):=if (l0.length:Int) > 256 then (some false) else (pumiceref03_RightPlan.l0 k l0 0)
theorem pumiceref03_RightPlan.calls (k:Nat) (A0:Option Addr) (c0:Nat) (l0:List (S83)) (r:Bool) (w:World) (hr0:Kd.C k83 w A0 l0.length l0) (hc0:l0.length≤c0) (h:pumiceref03_RightPlan.f k l0=some r) :
  Calls Tryz.prog 54 #[.slice A0 l0.length c0] w fun e w'=>e=.returned (.bool r)∧Below w.heap.size w w':=by
 have hu83:=Tryz.underlying83;have HR0:=aM hr0;have HC0:=aM hc0;clear hr0 hc0;have HB:=aM (Below.refl w.heap.size w);have H:(if (l0.length:Int) > 256 then (some false) else (pumiceref03_RightPlan.l0 k l0 0))=some r:=h;clear h
 by_cases c2:(l0.length:Int) > 256
 ·rw [if_pos c2] at H;have c2b0:decide (256 < (l0.length:Int))=true:=decide_eq_true c2;have c2b1:decide (256 < l0.length)=true:=decide_eq_true (by omega);clear c2;obtain rfl:=Option.some.inj H;go_enter Tryz.func54,Tryz.ntmps54;go_wp2
  repeat (go_quiet (fail);try go_wp2)
  go_ret;exact ⟨by first|rfl|(simp [errW_none,errW_some] <;> rfl)|(simp [*,errW_none,errW_some] <;> rfl),by repeat (first|(with_reducible first|exact HB.out|apply qaA|apply qaB|apply qaD)|exact HB.out)⟩
 ·rw [if_neg c2] at H;have c2b0:decide (256 < (l0.length:Int))=false:=decide_eq_false c2;have c2b1:decide (256 < l0.length)=false:=decide_eq_false (by omega);clear c2;have H':=aM H;clear H;go_enter Tryz.func54,Tryz.ntmps54;go_wp2
  repeat (go_quiet (fail);try go_wp2)
  go_loopg [3] k (fun kq v3 w'=>∃ (x3_1:Int),v3=.int .i64 x3_1∧qaN (pumiceref03_RightPlan.l0 kq l0 x3_1=some r)∧qaN (kq≤k)∧qaN (Below w.heap.size w w'));case atStart=>exact ⟨(0),(by first|rfl|(simp;done)|(simp [*];done)),H',⟨Nat.le_refl _⟩,⟨by repeat (first|(with_reducible first|exact HB.out|apply qaA|apply qaB|apply qaD)|exact HB.out)⟩⟩
  case round =>
   clear H';try clear c2
   try clear c2b0
   try clear c2b1
   try clear p2
   obtain ⟨x3_1,rfl,HA,HK1,HB⟩:=hrel
   cases gk with
   | zero=>exact absurd HA.out (by simp [pumiceref03_RightPlan.l0])
   | succ k1 =>
    have H:=HA.out;clear HA;simp only [pumiceref03_RightPlan.l0] at H
    by_cases c3:x3_1 < (l0.length:Int)
    ·rw [if_pos c3] at H;have c3b0:decide (x3_1 < (l0.length:Int))=true:=decide_eq_true c3;clear c3
     by_cases c4:0≤x3_1
     ·rw [if_pos c4] at H;have c4b0:decide (0≤x3_1)=true:=decide_eq_true c4;clear c4;have HC5:=aM H;clear H;have p111:0≤(x3_1:Int):=of_decide_eq_true (by first|(with_reducible assumption)|assumption);have q111:x3_1 < (l0.length:Int):=of_decide_eq_true (by first|(with_reducible assumption)|assumption);obtain ⟨ad111,e111,hx111_0,hx111_1,hx111_2⟩:=qwW HR0.out x3_1 p111 q111
      cases e111
      replace hx111_0:=(HB.out.cell (World.block_lt_of_cell? w _ hx111_0)).trans hx111_0;replace hx111_1:=(HB.out.cell (World.block_lt_of_cell? w _ hx111_1)).trans hx111_1;replace hx111_2:=(HB.out.cell (World.block_lt_of_cell? w _ hx111_2)).trans hx111_2;replace p111:=eq_true p111;replace q111:=eq_true q111
      go_upto_region 7 with (first|((with_reducible refine qbM (N:=4) rfl ?_);refine qbU ?hg (N:=4) ?hd (cs:=#[.int .i64 0,.int .i64 0,.int .i64 0]) (t:=83) ?hr ?_;(case hd=>rfl);(case hg=>rfl);(case hr=>first|(go_simp;done)|(go_simp;rfl));intro gb112 hg w6 hbox hb;have n0_:=aM (qaF (by repeat (first|(with_reducible first|exact HB.out|apply qaA|apply qaB|apply qaD)|exact HB.out)) hb);have n1_:=aM (hbox);have n2_:=aM ((by rw [hg];exact (qaG (by repeat (first|(with_reducible first|exact HB.out|apply qaA|apply qaB|apply qaD)|exact HB.out))):w.heap.size≤gb112));have n3_:=aM ((by rw [hg];exact (qaG (by repeat (first|(with_reducible first|exact HB.out|apply qaA|apply qaB|apply qaD)|exact HB.out))):w.heap.size≤gb112));clear HB;have HB:=n0_;have BK112:=n1_;have GW112:=n2_;have GE112:=n3_;clear n0_ n1_ n2_ n3_;clear hb hbox hg;have hcz7_0:w6.cell? ⟨gb112,0,none⟩=some (.int .i64 0):=(qaJ BK112.out 0).trans rfl;have hcz7_1:w6.cell? ⟨gb112,1,none⟩=some (.int .i64 0):=(qaJ BK112.out 1).trans rfl;have hcz7_2:w6.cell? ⟨gb112,2,none⟩=some (.int .i64 0):=(qaJ BK112.out 2).trans rfl;have hfz7_0:=qaC BK112.out 0;have hfz7_1:=qaC BK112.out 1;have hfz7_2:=qaC BK112.out 2))
      repeat (go_quiet (first|((with_reducible refine qbM (N:=4) rfl ?_);refine qbU ?hg (N:=4) ?hd (cs:=#[.int .i64 0,.int .i64 0,.int .i64 0]) (t:=83) ?hr ?_;(case hd=>rfl);(case hg=>rfl);(case hr=>first|(go_simp;done)|(go_simp;rfl));intro gb112 hg w6 hbox hb;have n0_:=aM (qaF (by repeat (first|(with_reducible first|exact HB.out|apply qaA|apply qaB|apply qaD)|exact HB.out)) hb);have n1_:=aM (hbox);have n2_:=aM ((by rw [hg];exact (qaG (by repeat (first|(with_reducible first|exact HB.out|apply qaA|apply qaB|apply qaD)|exact HB.out))):w.heap.size≤gb112));have n3_:=aM ((by rw [hg];exact (qaG (by repeat (first|(with_reducible first|exact HB.out|apply qaA|apply qaB|apply qaD)|exact HB.out))):w.heap.size≤gb112));clear HB;have HB:=n0_;have BK112:=n1_;have GW112:=n2_;have GE112:=n3_;clear n0_ n1_ n2_ n3_;clear hb hbox hg;have hcz7_0:w6.cell? ⟨gb112,0,none⟩=some (.int .i64 0):=(qaJ BK112.out 0).trans rfl;have hcz7_1:w6.cell? ⟨gb112,1,none⟩=some (.int .i64 0):=(qaJ BK112.out 1).trans rfl;have hcz7_2:w6.cell? ⟨gb112,2,none⟩=some (.int .i64 0):=(qaJ BK112.out 2).trans rfl;have hfz7_0:=qaC BK112.out 0;have hfz7_1:=qaC BK112.out 1;have hfz7_2:=qaC BK112.out 2));go_upto_region 7 with (first|((with_reducible refine qbM (N:=4) rfl ?_);refine qbU ?hg (N:=4) ?hd (cs:=#[.int .i64 0,.int .i64 0,.int .i64 0]) (t:=83) ?hr ?_;(case hd=>rfl);(case hg=>rfl);(case hr=>first|(go_simp;done)|(go_simp;rfl));intro gb112 hg w6 hbox hb;have n0_:=aM (qaF (by repeat (first|(with_reducible first|exact HB.out|apply qaA|apply qaB|apply qaD)|exact HB.out)) hb);have n1_:=aM (hbox);have n2_:=aM ((by rw [hg];exact (qaG (by repeat (first|(with_reducible first|exact HB.out|apply qaA|apply qaB|apply qaD)|exact HB.out))):w.heap.size≤gb112));have n3_:=aM ((by rw [hg];exact (qaG (by repeat (first|(with_reducible first|exact HB.out|apply qaA|apply qaB|apply qaD)|exact HB.out))):w.heap.size≤gb112));clear HB;have HB:=n0_;have BK112:=n1_;have GW112:=n2_;have GE112:=n3_;clear n0_ n1_ n2_ n3_;clear hb hbox hg;have hcz7_0:w6.cell? ⟨gb112,0,none⟩=some (.int .i64 0):=(qaJ BK112.out 0).trans rfl;have hcz7_1:w6.cell? ⟨gb112,1,none⟩=some (.int .i64 0):=(qaJ BK112.out 1).trans rfl;have hcz7_2:w6.cell? ⟨gb112,2,none⟩=some (.int .i64 0):=(qaJ BK112.out 2).trans rfl;have hfz7_0:=qaC BK112.out 0;have hfz7_1:=qaC BK112.out 1;have hfz7_2:=qaC BK112.out 2)))
      (try simp only [Act.put,List.setIfInBounds_toArray,List.set_cons_zero,List.set_cons_succ])
      go_cut [56] (fun v56 wc=>∃ (kq:Nat) (x56_4:Bool),v56=.bool x56_4∧qaN (pumiceref03_RightPlan.j1 kq l0 x3_1 x56_4 ((qaT l0 x3_1).f0) ((qaT l0 x3_1).f1) ((qaT l0 x3_1).f2)=some r)∧qaN (kq≤k1)∧qaN (wc.heap[gb112]?=some (.cells #[.int .i64 ((qaT l0 x3_1).f0),.int .i64 ((qaT l0 x3_1).f1),.int .i64 ((qaT l0 x3_1).f2)] 83 (0,0)))∧qaN (Below w.heap.size w wc))
      case first =>
       have H:=HC5.out;clear HC5
       by_cases c8:((qaT l0 x3_1).f0) < 1
       ·rw [if_pos c8] at H;have c8b0:decide (((qaT l0 x3_1).f0) < 1)=true:=decide_eq_true c8;clear c8
        (first|rw [c8b0]|(simp only [qbJ];rw [c8b0])|skip)
        have H':=aM H;clear H;have hcz9_0:w6.cell? ⟨gb112,0,none⟩=some (.int .i64 0):=(qaJ BK112.out 0).trans rfl;have hcz9_1:w6.cell? ⟨gb112,1,none⟩=some (.int .i64 0):=(qaJ BK112.out 1).trans rfl;have hcz9_2:w6.cell? ⟨gb112,2,none⟩=some (.int .i64 0):=(qaJ BK112.out 2).trans rfl;have hfz9_0:=qaC BK112.out 0;have hfz9_1:=qaC BK112.out 1;have hfz9_2:=qaC BK112.out 2;go_wp2
        repeat (go_quiet (fail);try go_wp2)
        go_meet;case rel=>exact ⟨_,(true),(by first|rfl|(simp;done)|(simp [*];done)),H',⟨by have:=HK1.out;first|omega|exact Nat.le_refl _⟩,⟨by (with_reducible repeat (first|refine qaK ?_ _|refine qaM ?_|refine qaI ?_ _));refine qaU (cs:=#[.int .i64 ((qaT l0 x3_1).f0),.int .i64 ((qaT l0 x3_1).f1),.int .i64 0]) ?_ 2 _ rfl;(with_reducible repeat (first|refine qaK ?_ _|refine qaM ?_|refine qaI ?_ _));refine qaU (cs:=#[.int .i64 ((qaT l0 x3_1).f0),.int .i64 0,.int .i64 0]) ?_ 1 _ rfl;(with_reducible repeat (first|refine qaK ?_ _|refine qaM ?_|refine qaI ?_ _));refine qaU (cs:=#[.int .i64 0,.int .i64 0,.int .i64 0]) ?_ 0 _ rfl;(with_reducible repeat (first|refine qaK ?_ _|refine qaM ?_|refine qaI ?_ _));exact BK112.out⟩,⟨by repeat (first|(with_reducible first|exact HB.out|apply qaA|apply qaB|apply qaD|refine qaH ?_ GE112.out)|exact HB.out)⟩⟩
       ·rw [if_neg c8] at H;have c8b0:decide (((qaT l0 x3_1).f0) < 1)=false:=decide_eq_false c8;clear c8
        (first|rw [c8b0]|(simp only [qbJ];rw [c8b0])|skip)
        by_cases c10:((qaT l0 x3_1).f1)=1
        ·rw [if_pos c10] at H;have c10b0:(((qaT l0 x3_1).f1)==1)=true:=beq_iff_eq.mpr c10;have c10b1:(((qaT l0 x3_1).f1) != 1)=false:=bne_eq_false_iff_eq.mpr c10;clear c10
         by_cases c11:((qaT l0 x3_1).f2) < 0
         ·rw [if_pos c11] at H;have c11b0:decide (((qaT l0 x3_1).f2) < 0)=true:=decide_eq_true c11;clear c11;have H':=aM H;clear H;have hcz12_0:w6.cell? ⟨gb112,0,none⟩=some (.int .i64 0):=(qaJ BK112.out 0).trans rfl;have hcz12_1:w6.cell? ⟨gb112,1,none⟩=some (.int .i64 0):=(qaJ BK112.out 1).trans rfl;have hcz12_2:w6.cell? ⟨gb112,2,none⟩=some (.int .i64 0):=(qaJ BK112.out 2).trans rfl;have hfz12_0:=qaC BK112.out 0;have hfz12_1:=qaC BK112.out 1;have hfz12_2:=qaC BK112.out 2;go_wp2
          repeat (go_quiet (fail);try go_wp2)
          go_meet;case rel=>exact ⟨_,(true),(by first|rfl|(simp;done)|(simp [*];done)),H',⟨by have:=HK1.out;first|omega|exact Nat.le_refl _⟩,⟨by (with_reducible repeat (first|refine qaK ?_ _|refine qaM ?_|refine qaI ?_ _));refine qaU (cs:=#[.int .i64 ((qaT l0 x3_1).f0),.int .i64 ((qaT l0 x3_1).f1),.int .i64 0]) ?_ 2 _ rfl;(with_reducible repeat (first|refine qaK ?_ _|refine qaM ?_|refine qaI ?_ _));refine qaU (cs:=#[.int .i64 ((qaT l0 x3_1).f0),.int .i64 0,.int .i64 0]) ?_ 1 _ rfl;(with_reducible repeat (first|refine qaK ?_ _|refine qaM ?_|refine qaI ?_ _));refine qaU (cs:=#[.int .i64 0,.int .i64 0,.int .i64 0]) ?_ 0 _ rfl;(with_reducible repeat (first|refine qaK ?_ _|refine qaM ?_|refine qaI ?_ _));exact BK112.out⟩,⟨by repeat (first|(with_reducible first|exact HB.out|apply qaA|apply qaB|apply qaD|refine qaH ?_ GE112.out)|exact HB.out)⟩⟩
         ·rw [if_neg c11] at H;have c11b0:decide (((qaT l0 x3_1).f2) < 0)=false:=decide_eq_false c11;clear c11
          by_cases c13:((qaT l0 x3_1).f2) > 2
          ·rw [if_pos c13] at H;have c13b0:decide (2 < ((qaT l0 x3_1).f2))=true:=decide_eq_true c13;clear c13;have H':=aM H;clear H;have hcz14_0:w6.cell? ⟨gb112,0,none⟩=some (.int .i64 0):=(qaJ BK112.out 0).trans rfl;have hcz14_1:w6.cell? ⟨gb112,1,none⟩=some (.int .i64 0):=(qaJ BK112.out 1).trans rfl;have hcz14_2:w6.cell? ⟨gb112,2,none⟩=some (.int .i64 0):=(qaJ BK112.out 2).trans rfl;have hfz14_0:=qaC BK112.out 0;have hfz14_1:=qaC BK112.out 1;have hfz14_2:=qaC BK112.out 2;go_wp2
           repeat (go_quiet (fail);try go_wp2)
           go_meet;case rel=>exact ⟨_,(true),(by first|rfl|(simp;done)|(simp [*];done)),H',⟨by have:=HK1.out;first|omega|exact Nat.le_refl _⟩,⟨by (with_reducible repeat (first|refine qaK ?_ _|refine qaM ?_|refine qaI ?_ _));refine qaU (cs:=#[.int .i64 ((qaT l0 x3_1).f0),.int .i64 ((qaT l0 x3_1).f1),.int .i64 0]) ?_ 2 _ rfl;(with_reducible repeat (first|refine qaK ?_ _|refine qaM ?_|refine qaI ?_ _));refine qaU (cs:=#[.int .i64 ((qaT l0 x3_1).f0),.int .i64 0,.int .i64 0]) ?_ 1 _ rfl;(with_reducible repeat (first|refine qaK ?_ _|refine qaM ?_|refine qaI ?_ _));refine qaU (cs:=#[.int .i64 0,.int .i64 0,.int .i64 0]) ?_ 0 _ rfl;(with_reducible repeat (first|refine qaK ?_ _|refine qaM ?_|refine qaI ?_ _));exact BK112.out⟩,⟨by repeat (first|(with_reducible first|exact HB.out|apply qaA|apply qaB|apply qaD|refine qaH ?_ GE112.out)|exact HB.out)⟩⟩
          ·rw [if_neg c13] at H;have c13b0:decide (2 < ((qaT l0 x3_1).f2))=false:=decide_eq_false c13;clear c13
           by_cases c15:((qaT l0 x3_1).f1)=2
           ·rw [if_pos c15] at H;have c15b0:(((qaT l0 x3_1).f1)==2)=true:=beq_iff_eq.mpr c15;have c15b1:(((qaT l0 x3_1).f1) != 2)=false:=bne_eq_false_iff_eq.mpr c15;clear c15;have H':=aM H;clear H;have hcz16_0:w6.cell? ⟨gb112,0,none⟩=some (.int .i64 0):=(qaJ BK112.out 0).trans rfl;have hcz16_1:w6.cell? ⟨gb112,1,none⟩=some (.int .i64 0):=(qaJ BK112.out 1).trans rfl;have hcz16_2:w6.cell? ⟨gb112,2,none⟩=some (.int .i64 0):=(qaJ BK112.out 2).trans rfl;have hfz16_0:=qaC BK112.out 0;have hfz16_1:=qaC BK112.out 1;have hfz16_2:=qaC BK112.out 2;go_wp2
            repeat (go_quiet (fail);try go_wp2)
            go_meet;case rel=>exact ⟨_,(decide (((qaT l0 x3_1).f2) > 0)),(by first|rfl|(simp;done)|(simp [*];done)),H',⟨by have:=HK1.out;first|omega|exact Nat.le_refl _⟩,⟨by (with_reducible repeat (first|refine qaK ?_ _|refine qaM ?_|refine qaI ?_ _));refine qaU (cs:=#[.int .i64 ((qaT l0 x3_1).f0),.int .i64 ((qaT l0 x3_1).f1),.int .i64 0]) ?_ 2 _ rfl;(with_reducible repeat (first|refine qaK ?_ _|refine qaM ?_|refine qaI ?_ _));refine qaU (cs:=#[.int .i64 ((qaT l0 x3_1).f0),.int .i64 0,.int .i64 0]) ?_ 1 _ rfl;(with_reducible repeat (first|refine qaK ?_ _|refine qaM ?_|refine qaI ?_ _));refine qaU (cs:=#[.int .i64 0,.int .i64 0,.int .i64 0]) ?_ 0 _ rfl;(with_reducible repeat (first|refine qaK ?_ _|refine qaM ?_|refine qaI ?_ _));exact BK112.out⟩,⟨by repeat (first|(with_reducible first|exact HB.out|apply qaA|apply qaB|apply qaD|refine qaH ?_ GE112.out)|exact HB.out)⟩⟩
           ·rw [if_neg c15] at H;have c15b0:(((qaT l0 x3_1).f1)==2)=false:=beq_eq_false_iff_ne.mpr c15;have c15b1:(((qaT l0 x3_1).f1) != 2)=true:=bne_iff_ne.mpr c15;have H':=aM H;clear H;have hcz17_0:w6.cell? ⟨gb112,0,none⟩=some (.int .i64 0):=(qaJ BK112.out 0).trans rfl;have hcz17_1:w6.cell? ⟨gb112,1,none⟩=some (.int .i64 0):=(qaJ BK112.out 1).trans rfl;have hcz17_2:w6.cell? ⟨gb112,2,none⟩=some (.int .i64 0):=(qaJ BK112.out 2).trans rfl;have hfz17_0:=qaC BK112.out 0;have hfz17_1:=qaC BK112.out 1;have hfz17_2:=qaC BK112.out 2;go_wp2
            repeat (go_quiet (fail);try go_wp2)
            go_meet;case rel=>exact ⟨_,(false),(by first|rfl|(simp;done)|(simp [*];done)),H',⟨by have:=HK1.out;first|omega|exact Nat.le_refl _⟩,⟨by (with_reducible repeat (first|refine qaK ?_ _|refine qaM ?_|refine qaI ?_ _));refine qaU (cs:=#[.int .i64 ((qaT l0 x3_1).f0),.int .i64 ((qaT l0 x3_1).f1),.int .i64 0]) ?_ 2 _ rfl;(with_reducible repeat (first|refine qaK ?_ _|refine qaM ?_|refine qaI ?_ _));refine qaU (cs:=#[.int .i64 ((qaT l0 x3_1).f0),.int .i64 0,.int .i64 0]) ?_ 1 _ rfl;(with_reducible repeat (first|refine qaK ?_ _|refine qaM ?_|refine qaI ?_ _));refine qaU (cs:=#[.int .i64 0,.int .i64 0,.int .i64 0]) ?_ 0 _ rfl;(with_reducible repeat (first|refine qaK ?_ _|refine qaM ?_|refine qaI ?_ _));exact BK112.out⟩,⟨by repeat (first|(with_reducible first|exact HB.out|apply qaA|apply qaB|apply qaD|refine qaH ?_ GE112.out)|exact HB.out)⟩⟩
        ·rw [if_neg c10] at H;have c10b0:(((qaT l0 x3_1).f1)==1)=false:=beq_eq_false_iff_ne.mpr c10;have c10b1:(((qaT l0 x3_1).f1) != 1)=true:=bne_iff_ne.mpr c10
         by_cases c18:((qaT l0 x3_1).f1)=2
         ·rw [if_pos c18] at H;have c18b0:(((qaT l0 x3_1).f1)==2)=true:=beq_iff_eq.mpr c18;have c18b1:(((qaT l0 x3_1).f1) != 2)=false:=bne_eq_false_iff_eq.mpr c18;clear c18
          by_cases c19:((qaT l0 x3_1).f2) < 0
          ·rw [if_pos c19] at H;have c19b0:decide (((qaT l0 x3_1).f2) < 0)=true:=decide_eq_true c19;clear c19;have H':=aM H;clear H;have hcz20_0:w6.cell? ⟨gb112,0,none⟩=some (.int .i64 0):=(qaJ BK112.out 0).trans rfl;have hcz20_1:w6.cell? ⟨gb112,1,none⟩=some (.int .i64 0):=(qaJ BK112.out 1).trans rfl;have hcz20_2:w6.cell? ⟨gb112,2,none⟩=some (.int .i64 0):=(qaJ BK112.out 2).trans rfl;have hfz20_0:=qaC BK112.out 0;have hfz20_1:=qaC BK112.out 1;have hfz20_2:=qaC BK112.out 2;go_wp2
           repeat (go_quiet (fail);try go_wp2)
           go_meet;case rel=>exact ⟨_,(true),(by first|rfl|(simp;done)|(simp [*];done)),H',⟨by have:=HK1.out;first|omega|exact Nat.le_refl _⟩,⟨by (with_reducible repeat (first|refine qaK ?_ _|refine qaM ?_|refine qaI ?_ _));refine qaU (cs:=#[.int .i64 ((qaT l0 x3_1).f0),.int .i64 ((qaT l0 x3_1).f1),.int .i64 0]) ?_ 2 _ rfl;(with_reducible repeat (first|refine qaK ?_ _|refine qaM ?_|refine qaI ?_ _));refine qaU (cs:=#[.int .i64 ((qaT l0 x3_1).f0),.int .i64 0,.int .i64 0]) ?_ 1 _ rfl;(with_reducible repeat (first|refine qaK ?_ _|refine qaM ?_|refine qaI ?_ _));refine qaU (cs:=#[.int .i64 0,.int .i64 0,.int .i64 0]) ?_ 0 _ rfl;(with_reducible repeat (first|refine qaK ?_ _|refine qaM ?_|refine qaI ?_ _));exact BK112.out⟩,⟨by repeat (first|(with_reducible first|exact HB.out|apply qaA|apply qaB|apply qaD|refine qaH ?_ GE112.out)|exact HB.out)⟩⟩
          ·rw [if_neg c19] at H;have c19b0:decide (((qaT l0 x3_1).f2) < 0)=false:=decide_eq_false c19;clear c19;have H':=aM H;clear H;have hcz21_0:w6.cell? ⟨gb112,0,none⟩=some (.int .i64 0):=(qaJ BK112.out 0).trans rfl;have hcz21_1:w6.cell? ⟨gb112,1,none⟩=some (.int .i64 0):=(qaJ BK112.out 1).trans rfl;have hcz21_2:w6.cell? ⟨gb112,2,none⟩=some (.int .i64 0):=(qaJ BK112.out 2).trans rfl;have hfz21_0:=qaC BK112.out 0;have hfz21_1:=qaC BK112.out 1;have hfz21_2:=qaC BK112.out 2;go_wp2
           repeat (go_quiet (fail);try go_wp2)
           go_meet;case rel=>exact ⟨_,(decide (((qaT l0 x3_1).f2) > 0)),(by first|rfl|(simp;done)|(simp [*];done)),H',⟨by have:=HK1.out;first|omega|exact Nat.le_refl _⟩,⟨by (with_reducible repeat (first|refine qaK ?_ _|refine qaM ?_|refine qaI ?_ _));refine qaU (cs:=#[.int .i64 ((qaT l0 x3_1).f0),.int .i64 ((qaT l0 x3_1).f1),.int .i64 0]) ?_ 2 _ rfl;(with_reducible repeat (first|refine qaK ?_ _|refine qaM ?_|refine qaI ?_ _));refine qaU (cs:=#[.int .i64 ((qaT l0 x3_1).f0),.int .i64 0,.int .i64 0]) ?_ 1 _ rfl;(with_reducible repeat (first|refine qaK ?_ _|refine qaM ?_|refine qaI ?_ _));refine qaU (cs:=#[.int .i64 0,.int .i64 0,.int .i64 0]) ?_ 0 _ rfl;(with_reducible repeat (first|refine qaK ?_ _|refine qaM ?_|refine qaI ?_ _));exact BK112.out⟩,⟨by repeat (first|(with_reducible first|exact HB.out|apply qaA|apply qaB|apply qaD|refine qaH ?_ GE112.out)|exact HB.out)⟩⟩
         ·rw [if_neg c18] at H;have c18b0:(((qaT l0 x3_1).f1)==2)=false:=beq_eq_false_iff_ne.mpr c18;have c18b1:(((qaT l0 x3_1).f1) != 2)=true:=bne_iff_ne.mpr c18;have H':=aM H;clear H;have hcz22_0:w6.cell? ⟨gb112,0,none⟩=some (.int .i64 0):=(qaJ BK112.out 0).trans rfl;have hcz22_1:w6.cell? ⟨gb112,1,none⟩=some (.int .i64 0):=(qaJ BK112.out 1).trans rfl;have hcz22_2:w6.cell? ⟨gb112,2,none⟩=some (.int .i64 0):=(qaJ BK112.out 2).trans rfl;have hfz22_0:=qaC BK112.out 0;have hfz22_1:=qaC BK112.out 1;have hfz22_2:=qaC BK112.out 2;go_wp2
          repeat (go_quiet (fail);try go_wp2)
          go_meet;case rel=>exact ⟨_,(true),(by first|rfl|(simp;done)|(simp [*];done)),H',⟨by have:=HK1.out;first|omega|exact Nat.le_refl _⟩,⟨by (with_reducible repeat (first|refine qaK ?_ _|refine qaM ?_|refine qaI ?_ _));refine qaU (cs:=#[.int .i64 ((qaT l0 x3_1).f0),.int .i64 ((qaT l0 x3_1).f1),.int .i64 0]) ?_ 2 _ rfl;(with_reducible repeat (first|refine qaK ?_ _|refine qaM ?_|refine qaI ?_ _));refine qaU (cs:=#[.int .i64 ((qaT l0 x3_1).f0),.int .i64 0,.int .i64 0]) ?_ 1 _ rfl;(with_reducible repeat (first|refine qaK ?_ _|refine qaM ?_|refine qaI ?_ _));refine qaU (cs:=#[.int .i64 0,.int .i64 0,.int .i64 0]) ?_ 0 _ rfl;(with_reducible repeat (first|refine qaK ?_ _|refine qaM ?_|refine qaI ?_ _));exact BK112.out⟩,⟨by repeat (first|(with_reducible first|exact HB.out|apply qaA|apply qaB|apply qaD|refine qaH ?_ GE112.out)|exact HB.out)⟩⟩
      case rest =>
       clear HC5;try clear c1
       try clear p1
       try clear q1
       try clear hx1
       try clear c2
       try clear c2b0
       try clear c2b1
       try clear p2
       try clear c3
       try clear c3b0
       try clear c4
       try clear c4b0
       try clear c5
       try clear c8
       try clear c8b0
       try clear c10
       try clear c10b0
       try clear c10b1
       try clear c11
       try clear c11b0
       try clear p11
       try clear q11
       try clear hx11
       try clear c13
       try clear c13b0
       try clear c15
       try clear c15b0
       try clear c15b1
       try clear c18
       try clear c18b0
       try clear c18b1
       try clear c19
       try clear c19b0
       try clear hcz12_0
       try clear hcz12_1
       try clear hcz12_2
       try clear hcz14_0
       try clear hcz14_1
       try clear hcz14_2
       try clear hcz16_0
       try clear hcz16_1
       try clear hcz16_2
       try clear hcz17_0
       try clear hcz17_1
       try clear hcz17_2
       try clear hcz20_0
       try clear hcz20_1
       try clear hcz20_2
       try clear hcz21_0
       try clear hcz21_1
       try clear hcz21_2
       try clear hcz22_0
       try clear hcz22_1
       try clear hcz22_2
       try clear hcz7_0
       try clear hcz7_1
       try clear hcz7_2
       try clear hcz9_0
       try clear hcz9_1
       try clear hcz9_2
       try clear hfz12_0
       try clear hfz12_1
       try clear hfz12_2
       try clear hfz14_0
       try clear hfz14_1
       try clear hfz14_2
       try clear hfz16_0
       try clear hfz16_1
       try clear hfz16_2
       try clear hfz17_0
       try clear hfz17_1
       try clear hfz17_2
       try clear hfz20_0
       try clear hfz20_1
       try clear hfz20_2
       try clear hfz21_0
       try clear hfz21_1
       try clear hfz21_2
       try clear hfz22_0
       try clear hfz22_1
       try clear hfz22_2
       try clear hfz7_0
       try clear hfz7_1
       try clear hfz7_2
       try clear hfz9_0
       try clear hfz9_1
       try clear hfz9_2
       try clear hx111_0
       try clear hx111_1
       try clear hx111_2
       try clear p111
       try clear p2
       try clear q111
       obtain ⟨kq,x56_4,rfl,HA,HJ4,BK112,HB⟩:=hcut
       cases kq with
       | zero=>exact absurd HA.out (by simp [pumiceref03_RightPlan.j1])
       | succ kj4 =>
        have H:=HA.out;clear HA;simp only [pumiceref03_RightPlan.j1] at H
        by_cases c23:x56_4=true
        ·subst c23;have H1:(some false)=some r:=by rw [if_pos rfl] at H;exact H
         clear H;have H:=H1;clear H1;obtain rfl:=Option.some.inj H;go_wp2
         repeat (go_quiet (fail);try go_wp2)
         go_ret;exact ⟨by first|rfl|(simp [errW_none,errW_some] <;> rfl)|(simp [*,errW_none,errW_some] <;> rfl),by repeat (first|(with_reducible first|exact HB.out|apply qaA|apply qaB|apply qaD|refine qaH ?_ GE112.out)|exact HB.out)⟩
        ·replace c23:=Bool.eq_false_iff.mpr c23;subst c23;have H1:(pumiceref03_RightPlan.l1 kj4 l0 x3_1 0 ((qaT l0 x3_1).f0) ((qaT l0 x3_1).f1) ((qaT l0 x3_1).f2))=some r:=by rw [if_neg (show ¬ (false=true) by decide)] at H;exact H
         clear H;have H:=H1;clear H1;have H':=aM H;clear H;go_wp2
         repeat (go_quiet (fail);try go_wp2)
         go_loopg [5] kj4 (fun kq v5 w'=>∃ (x5_3:Int),v5=.int .i64 x5_3∧qaN (pumiceref03_RightPlan.l1 kq l0 x3_1 x5_3 ((qaT l0 x3_1).f0) ((qaT l0 x3_1).f1) ((qaT l0 x3_1).f2)=some r)∧qaN (kq≤kj4)∧qaN (w'.heap[gb112]?=some (.cells #[.int .i64 ((qaT l0 x3_1).f0),.int .i64 ((qaT l0 x3_1).f1),.int .i64 ((qaT l0 x3_1).f2)] 83 (0,0)))∧qaN (Below w.heap.size w w'));case atStart=>exact ⟨(0),(by first|rfl|(simp;done)|(simp [*];done)),H',⟨Nat.le_refl _⟩,⟨by (with_reducible repeat (first|refine qaK ?_ _|refine qaM ?_|refine qaI ?_ _));exact BK112.out⟩,⟨by repeat (first|(with_reducible first|exact HB.out|apply qaA|apply qaB|apply qaD|refine qaH ?_ GE112.out)|exact HB.out)⟩⟩
         case round =>
          clear H';try clear c1
          try clear p1
          try clear q1
          try clear hx1
          try clear c2
          try clear c2b0
          try clear c2b1
          try clear p2
          try clear c3
          try clear c3b0
          try clear c4
          try clear c4b0
          try clear c5
          try clear c8
          try clear c8b0
          try clear c10
          try clear c10b0
          try clear c10b1
          try clear c11
          try clear c11b0
          try clear p11
          try clear q11
          try clear hx11
          try clear c13
          try clear c13b0
          try clear c15
          try clear c15b0
          try clear c15b1
          try clear c18
          try clear c18b0
          try clear c18b1
          try clear c19
          try clear c19b0
          try clear c23
          try clear hcz12_0
          try clear hcz12_1
          try clear hcz12_2
          try clear hcz14_0
          try clear hcz14_1
          try clear hcz14_2
          try clear hcz16_0
          try clear hcz16_1
          try clear hcz16_2
          try clear hcz17_0
          try clear hcz17_1
          try clear hcz17_2
          try clear hcz20_0
          try clear hcz20_1
          try clear hcz20_2
          try clear hcz21_0
          try clear hcz21_1
          try clear hcz21_2
          try clear hcz22_0
          try clear hcz22_1
          try clear hcz22_2
          try clear hcz7_0
          try clear hcz7_1
          try clear hcz7_2
          try clear hcz9_0
          try clear hcz9_1
          try clear hcz9_2
          try clear hfz12_0
          try clear hfz12_1
          try clear hfz12_2
          try clear hfz14_0
          try clear hfz14_1
          try clear hfz14_2
          try clear hfz16_0
          try clear hfz16_1
          try clear hfz16_2
          try clear hfz17_0
          try clear hfz17_1
          try clear hfz17_2
          try clear hfz20_0
          try clear hfz20_1
          try clear hfz20_2
          try clear hfz21_0
          try clear hfz21_1
          try clear hfz21_2
          try clear hfz22_0
          try clear hfz22_1
          try clear hfz22_2
          try clear hfz7_0
          try clear hfz7_1
          try clear hfz7_2
          try clear hfz9_0
          try clear hfz9_1
          try clear hfz9_2
          try clear hx111_0
          try clear hx111_1
          try clear hx111_2
          try clear p1
          try clear p11
          try clear p111
          try clear p2
          try clear q1
          try clear q11
          try clear q111
          obtain ⟨x5_3,rfl,HA,HK3,BK112,HB⟩:=hrel
          cases gk with
          | zero=>exact absurd HA.out (by simp [pumiceref03_RightPlan.l1])
          | succ k3 =>
           have H:=HA.out;clear HA;simp only [pumiceref03_RightPlan.l1] at H
           by_cases c24:x5_3 < x3_1
           ·rw [if_pos c24] at H;have c24b0:decide (x5_3 < x3_1)=true:=decide_eq_true c24;clear c24
            by_cases c25:0≤x5_3
            ·rw [if_pos c25] at H;have c25b0:decide (0≤x5_3)=true:=decide_eq_true c25;clear c25
             by_cases c26:x5_3 < (l0.length:Int)
             ·rw [if_pos c26] at H;have c26b0:decide (x5_3 < (l0.length:Int))=true:=decide_eq_true c26;clear c26
              by_cases c27:((qaT l0 x5_3).f0)=((qaT l0 x3_1).f0)
              ·rw [if_pos c27] at H;have c27b0:(((qaT l0 x5_3).f0)==((qaT l0 x3_1).f0))=true:=beq_iff_eq.mpr c27;have c27b1:(((qaT l0 x5_3).f0) != ((qaT l0 x3_1).f0))=false:=bne_eq_false_iff_eq.mpr c27;clear c27;obtain rfl:=Option.some.inj H;have p113:0≤(x5_3:Int):=of_decide_eq_true (by first|(with_reducible assumption)|assumption);have q113:x5_3 < (l0.length:Int):=of_decide_eq_true (by first|(with_reducible assumption)|assumption);obtain ⟨ad113,e113,hx113_0,hx113_1,hx113_2⟩:=qwW HR0.out x5_3 p113 q113
               obtain rfl:ad111=ad113:=(by injection e113)
               replace hx113_0:=(HB.out.cell (World.block_lt_of_cell? w _ hx113_0)).trans hx113_0;replace hx113_1:=(HB.out.cell (World.block_lt_of_cell? w _ hx113_1)).trans hx113_1;replace hx113_2:=(HB.out.cell (World.block_lt_of_cell? w _ hx113_2)).trans hx113_2;replace p113:=eq_true p113;replace q113:=eq_true q113;have hcz28_0:wr.cell? ⟨gb112,0,none⟩=some (.int .i64 ((qaT l0 x3_1).f0)):=(qaJ BK112.out 0).trans rfl;have hcz28_1:wr.cell? ⟨gb112,1,none⟩=some (.int .i64 ((qaT l0 x3_1).f1)):=(qaJ BK112.out 1).trans rfl;have hcz28_2:wr.cell? ⟨gb112,2,none⟩=some (.int .i64 ((qaT l0 x3_1).f2)):=(qaJ BK112.out 2).trans rfl;have hfz28_0:=qaC BK112.out 0;have hfz28_1:=qaC BK112.out 1;have hfz28_2:=qaC BK112.out 2;go_wp2
               repeat (go_quiet (fail);try go_wp2)
               go_ret;exact ⟨by first|rfl|(simp [errW_none,errW_some] <;> rfl)|(simp [*,errW_none,errW_some] <;> rfl),by repeat (first|(with_reducible first|exact HB.out|apply qaA|apply qaB|apply qaD|refine qaH ?_ GE112.out)|exact HB.out)⟩
              ·rw [if_neg c27] at H;have c27b0:(((qaT l0 x5_3).f0)==((qaT l0 x3_1).f0))=false:=beq_eq_false_iff_ne.mpr c27;have c27b1:(((qaT l0 x5_3).f0) != ((qaT l0 x3_1).f0))=true:=bne_iff_ne.mpr c27;have H':=aM H;clear H;have p113:0≤(x5_3:Int):=of_decide_eq_true (by first|(with_reducible assumption)|assumption);have q113:x5_3 < (l0.length:Int):=of_decide_eq_true (by first|(with_reducible assumption)|assumption);obtain ⟨ad113,e113,hx113_0,hx113_1,hx113_2⟩:=qwW HR0.out x5_3 p113 q113
               obtain rfl:ad111=ad113:=(by injection e113)
               replace hx113_0:=(HB.out.cell (World.block_lt_of_cell? w _ hx113_0)).trans hx113_0;replace hx113_1:=(HB.out.cell (World.block_lt_of_cell? w _ hx113_1)).trans hx113_1;replace hx113_2:=(HB.out.cell (World.block_lt_of_cell? w _ hx113_2)).trans hx113_2;replace p113:=eq_true p113;replace q113:=eq_true q113;have hcz29_0:wr.cell? ⟨gb112,0,none⟩=some (.int .i64 ((qaT l0 x3_1).f0)):=(qaJ BK112.out 0).trans rfl;have hcz29_1:wr.cell? ⟨gb112,1,none⟩=some (.int .i64 ((qaT l0 x3_1).f1)):=(qaJ BK112.out 1).trans rfl;have hcz29_2:wr.cell? ⟨gb112,2,none⟩=some (.int .i64 ((qaT l0 x3_1).f2)):=(qaJ BK112.out 2).trans rfl;have hfz29_0:=qaC BK112.out 0;have hfz29_1:=qaC BK112.out 1;have hfz29_2:=qaC BK112.out 2;go_wp2
               repeat (go_quiet (fail);try go_wp2)
               go_roundg k3;case measure=>have:=HK1.out;have:=HJ4.out;have:=HK3.out;omega
               case rel=>exact ⟨(wrap64 (x5_3+1)),(by first|rfl|(simp;done)|(simp [*];done)),H',⟨by have:=HK1.out;have:=HJ4.out;have:=HK3.out;omega⟩,⟨by (with_reducible repeat (first|refine qaK ?_ _|refine qaM ?_|refine qaI ?_ _));exact BK112.out⟩,⟨by repeat (first|(with_reducible first|exact HB.out|apply qaA|apply qaB|apply qaD|refine qaH ?_ GE112.out)|exact HB.out)⟩⟩
             ·rw [if_neg c26] at H;exact absurd H (by simp)
            ·rw [if_neg c25] at H;exact absurd H (by simp)
           ·rw [if_neg c24] at H;have c24b0:decide (x5_3 < x3_1)=false:=decide_eq_false c24;clear c24;have H':=aM H;clear H;go_wp2
            repeat (go_quiet (fail);try go_wp2)
            go_roundg k3;case measure=>have:=HK1.out;have:=HJ4.out;have:=HK3.out;omega
            case rel=>exact ⟨(wrap64 (x3_1+1)),(by first|rfl|(simp;done)|(simp [*];done)),H',⟨by have:=HK1.out;have:=HJ4.out;have:=HK3.out;omega⟩,⟨by repeat (first|(with_reducible first|exact HB.out|apply qaA|apply qaB|apply qaD|refine qaH ?_ GE112.out)|exact HB.out)⟩⟩
     ·rw [if_neg c4] at H;exact absurd H (by simp)
    ·rw [if_neg c3] at H;have c3b0:decide (x3_1 < (l0.length:Int))=false:=decide_eq_false c3;clear c3;obtain rfl:=Option.some.inj H;go_wp2
     repeat (go_quiet (fail);try go_wp2)
     go_ret;exact ⟨by first|rfl|(simp [errW_none,errW_some] <;> rfl)|(simp [*,errW_none,errW_some] <;> rfl),by repeat (first|(with_reducible first|exact HB.out|apply qaA|apply qaB|apply qaD)|exact HB.out)⟩
end
section
abbrev SF:=S83
abbrev kS:=k83
def toS (f:F3):SF:=⟨f.f0,f.f1,f.f2⟩
theorem veD {w:World} {A:Option Addr} {n:Nat} {xs:List F3} (h:Kd.C kF w A n xs):Kd.C kS w A n (xs.map toS):=by
 refine ⟨by rw [List.length_map];exact h.1,h.2.1,fun h0=>?_⟩;obtain ⟨ad,e,hc⟩:=h.2.2 h0;refine ⟨ad,e,fun j p hj=>?_⟩;rw [List.getElem?_map] at hj;obtain ⟨q,hq,rfl⟩:=Option.map_eq_some_iff.1 hj;obtain ⟨c,h1,h2,h3⟩:=hc j q hq;exact ⟨c,h1,h2,h3⟩
theorem qzG (l:List F3) (i:Nat) (hi:i < l.length):qaT (l.map toS) (i:Int)=toS l[i]:=by
 unfold qaT;rw [Int.toNat_natCast,List.getD_eq_getElem?_getD,List.getElem?_map,List.getElem?_eq_getElem hi];rfl
theorem quH (i:Nat) (h:i≤300):wrap64 ((i:Int)+1)=((i+1:Nat):Int):=by
 unfold wrap64;omega
theorem vaR (l:List F3) (hl:l.length≤256) (i:Nat) (hi:i < l.length) (f0 f1 f2:Int) (r:Bool) (K:Nat) (h0:∀ k,K≤k→pumiceref03_RightPlan.l0 k (l.map toS) ((i+1:Nat):Int)=some r) :
  ∀ e j,j+e=i→∀ k,K+e+1≤k→pumiceref03_RightPlan.l1 k (l.map toS) i j f0 f1 f2=some (!(((l.take i).drop j).any (fun o=>o.f0==f0)) && r):=by
 intro e
 induction e with
 | zero =>
  intro j hj k hk
  obtain ⟨k,rfl⟩:∃ q,k=q+1:=⟨k - 1,by omega⟩
  obtain rfl:j=i:=by omega
  unfold pumiceref03_RightPlan.l1;rw [if_neg (by omega),quH _ (by omega),h0 k (by omega),List.drop_eq_nil_of_le (by rw [List.length_take];omega)];rfl
 | succ e ih =>
  intro j hj k hk
  obtain ⟨k,rfl⟩:∃ q,k=q+1:=⟨k - 1,by omega⟩
  have hji:j < (l.take i).length:=by rw [List.length_take];omega
  have hjl:j < l.length:=by omega
  unfold pumiceref03_RightPlan.l1;rw [if_pos (by omega),if_pos (by omega),if_pos (by rw [List.length_map];omega),qzG l j hjl,quH _ (by omega),ih (j+1) (by omega) k (by omega),← List.getElem_cons_drop (h:=hji),List.any_cons,List.getElem_take]
  by_cases hf:(toS l[j]).f0=f0
  ·rw [if_pos hf];have:(l[j].f0==f0)=true:=by simpa [toS] using hf
   rw [this];rfl
  ·rw [if_neg hf];have:(l[j].f0==f0)=false:=by simpa [toS] using hf
   rw [this];rfl
theorem vaS (l:List F3) (hl:l.length≤256):∀ d i,i+d=l.length→∃ K,∀ k,K≤k→pumiceref03_RightPlan.l0 k (l.map toS) (i:Int)=some (qeG (l.take i) (l.drop i)):=by
 intro d
 induction d with
 | zero =>
  intro i hi;refine ⟨1,fun k hk=>?_⟩
  obtain ⟨k,rfl⟩:∃ q,k=q+1:=⟨k - 1,by omega⟩
  unfold pumiceref03_RightPlan.l0;rw [if_neg (by rw [List.length_map];omega),List.drop_eq_nil_of_le (by omega)];rfl
 | succ d ih =>
  intro i hi;obtain ⟨K,hK⟩:=ih (i+1) (by omega);have hlt:i < l.length:=by omega
  have h1:=fun f0 f1 f2 k hk=>vaR l hl i hlt f0 f1 f2 _ K hK i 0 (by omega) k hk
  refine ⟨K+i+4,fun k hk=>?_⟩
  obtain ⟨k,rfl⟩:∃ q,k=q+2:=⟨k - 2,by omega⟩
  have h2:=fun f0 f1 f2=>h1 f0 f1 f2 k (by omega)
  rw [qhU (List.getElem?_eq_getElem hlt)];unfold pumiceref03_RightPlan.l0;rw [if_pos (by rw [List.length_map];omega),if_pos (by omega),qzG l i hlt];generalize l[i]=f at *;obtain ⟨f0,f1,f2⟩:=f;simp only [toS];have j1t:∀ a b c,pumiceref03_RightPlan.j1 (k+1) (l.map toS) i true a b c=some false:=fun a b c=>by unfold pumiceref03_RightPlan.j1;rfl
  have j1f:∀ a b c,pumiceref03_RightPlan.j1 (k+1) (l.map toS) i false a b c=some (!((l.take i).any (fun o=>o.f0==a)) && qeG (l.take (i+1)) (l.drop (i+1))):=fun a b c=>by
   unfold pumiceref03_RightPlan.j1;rw [if_neg (by decide)];have:=h2 a b c;rw [List.drop_zero] at this;exact this
  unfold qgI;simp only
  by_cases c0:f0 < 1
  ·simp [c0,j1t]
  by_cases c1:f1=1
  ·subst c1
   by_cases c2:f2 < 0
   ·simp [c0,c2,j1t,show ¬ 0≤f2 by omega]
   by_cases c3:f2 > 2
   ·simp [c0,c2,c3,j1t,show ¬ f2≤2 by omega]
   simp [c0,c2,c3,j1f,show 0≤f2 by omega,show f2≤2 by omega]
  by_cases c2:f1=2
  ·subst c2
   by_cases c3:f2 < 0
   ·simp [c0,c3,j1t,show ¬ f2=0 by omega]
   by_cases c4:f2 > 0
   ·simp [c0,c3,c4,j1t,show ¬ f2=0 by omega]
   ·obtain rfl:f2=0:=by omega
    simp [c0,j1f]
  ·simp [c0,c1,c2,j1t]
theorem qmN (A:Option Addr) (c:Nat) (l:List F3) (W:World) (hr:Kd.C kF W A l.length l) (hc:l.length≤c):Calls Tryz.prog 54 #[.slice A l.length c] W fun e w'=>e=.returned (.bool (qcJ l))∧Below W.heap.size W w':=by
 have hf:∃ k,pumiceref03_RightPlan.f k (l.map toS)=some (qcJ l):=by
  unfold pumiceref03_RightPlan.f qcJ
  by_cases h:256 < l.length
  ·refine ⟨0,?_⟩;rw [if_pos (by rw [List.length_map];omega),decide_eq_true h];rfl
  ·obtain ⟨K,hK⟩:=vaS l (by omega) l.length 0 (by omega);refine ⟨K,?_⟩;rw [if_neg (by rw [List.length_map];omega),decide_eq_false h];have:=hK K (Nat.le_refl _);rw [List.take_zero,List.drop_zero] at this;exact this
 obtain ⟨k,hk⟩:=hf;have h:=pumiceref03_RightPlan.calls k A c (l.map toS) (qcJ l) W (by rw [List.length_map];exact veD hr) (by rw [List.length_map];exact hc) hk;rw [List.length_map] at h;exact h
theorem qvI:∀ n:Fin 513,pumiceref03_power.f 12 ((n.val:Nat):Int)=some (qjL ((n.val:Nat):Int)):=by decide +kernel
theorem qrM (n:Int) (h0:0≤n) (h1:n≤512):pumiceref03_power.f 12 n=some (qjL n):=by
 obtain ⟨m,rfl⟩:=Int.eq_ofNat_of_zero_le h0;exact qvI ⟨m,by omega⟩
theorem qhP (B P Z R:Int) (W:World):Calls Tryz.prog 53 #[.agg #[.int .i64 B,.int .i64 P,.int .i64 Z,.int .i64 R]] W fun e w'=>e=.returned (.bool (qcG B P Z R))∧Below W.heap.size W w':=by
 refine pumiceref03_Right.calls 12 B P Z R (qcG B P Z R) W ?_;unfold pumiceref03_Right.f qcG
 by_cases c0:B < 16
 ·rw [if_pos c0];simp [show ¬ 16≤B by omega]
 rw [if_neg c0]
 by_cases c1:B > 256
 ·rw [if_pos c1];simp [show ¬ B≤256 by omega]
 rw [if_neg c1]
 by_cases c2:P < 8
 ·rw [if_pos c2];simp [show ¬ 8≤P by omega]
 rw [if_neg c2]
 by_cases c3:P > 64
 ·rw [if_pos c3];simp [show ¬ P≤64 by omega]
 rw [if_neg c3,qrM P (by omega) (by omega)];simp only [Option.bind_some,decide_eq_true (show (16:Int)≤B by omega),decide_eq_true (show B≤256 by omega),decide_eq_true (show (8:Int)≤P by omega),decide_eq_true (show P≤64 by omega),Bool.true_and]
 by_cases c4:qjL P=true
 ·rw [if_pos c4,c4]
  by_cases c5:Z ≥ 64
  ·rw [if_pos c5]
   by_cases c6:Z≤512
   ·rw [if_pos c6,qrM Z (by omega) c6];simp only [Option.bind_some,decide_eq_true (show (64:Int)≤Z by omega),decide_eq_true c6,Bool.true_and]
    by_cases c7:qjL Z=true
    ·rw [if_pos c7,c7]
     by_cases c8:wrap64 (wrap64 (P - 2)*Z) ≥ 1536
     ·rw [if_pos c8]
      by_cases c9:R ≥ 0
      ·rw [if_pos c9];simp [show (1536:Int)≤wrap64 (wrap64 (P - 2)*Z) from c8,show (0:Int)≤R from c9]
      ·rw [if_neg c9];simp [show ¬ (0:Int)≤R by omega]
     ·rw [if_neg c8];simp [show ¬ (1536:Int)≤wrap64 (wrap64 (P - 2)*Z) by omega]
    ·rw [if_neg c7];simp [c7]
   ·rw [if_neg c6];simp [c6]
  ·rw [if_neg c5];simp [show ¬ (64:Int)≤Z by omega]
 ·rw [if_neg c4];simp [c4]
end
section
variable {w0 W:World} {gd:Nat} {m:DM} {a:AC}
theorem qtK:(Tryz.prog.info? 83).map (fun i=>(i.zero,i.size,i.bytes))=some (some (.agg #[.int .i64 0,.int .i64 0,.int .i64 0]),3,24):=by kernel_rfl
theorem DS.setPlan (h:DS w0 W gd m a) (v:Value) (l:List F3) (hv:Kd.R kF 83 W w0.heap.size (fun _=>True) v l):DS w0 (W.setCell ⟨gd,6,none⟩ v) gd { m with plan:=v } { a with pl:=l }:=by
 refine ⟨?_,?_,fun i hi=>?_,h.inj,h.ec,h.eb,h.ep,fun i j hi hj=>?_,Kd.R_set hv h.c (by decide) _ _,qaH h.below h.ec,h.gok,h.cap⟩
 ·have e:dC { m with plan:=v } { a with pl:=l }=(dC m a).setIfInBounds 6 v:=rfl;rw [e];exact qbW h.c 6 v
 ·exact h.b.keep (fun _ hk=>qaR hk (h.b.ne h.c (by decide)) _)
 ·exact (h.p i hi).keep (fun _ hk=>qaR hk ((h.p i hi).ne h.c (by decide)) _)
 ·exact Kd.R_set (h.d i j hi hj) h.c (by decide) _ _
theorem qyT (h:DS w0 W gd m a) (A:Option Addr) (c:Nat) (l:List F3) (hr:Kd.C kF W A l.length l) (hc:l.length≤c) (hp:qcJ l=false):Calls Tryz.prog 68 #[cp gd,.slice A l.length c] W fun e w'=>e=.returned (.int .i64 22)∧Below W.heap.size W w':=by
 have HP:=aM (qmN A c l W hr hc);rw [hp] at HP;clear h hr hc hp;go_enter Tryz.func68,Tryz.ntmps68;go_wp2_with (first|(go_at_call 54;(with_reducible refine HP.out.mono ?_);rintro e w1 ⟨rfl,hb1⟩;have HB1:=aM hb1;clear hb1));go_ret;exact ⟨rfl,HB1.out⟩
theorem vbP (h:DS w0 W gd m a) (A:Option Addr) (c:Nat) (l:List F3) (hr:Kd.C kF W A l.length l) (hc:l.length≤c) (hp:qcJ l=true):Calls Tryz.prog 68 #[cp gd,.slice A l.length c] W fun e w'=>e=.returned (.int .i64 0)∧qbT w0 w' gd { a with pl:=l,frm:=a.ops }∧qaP W w':=by
 have hlen:=qiL hp;have HP:=aM (qmN A c l W hr hc);rw [hp] at HP;have HR:=aM hr;have HL:=aM hlen;have H:=aM h;clear h hr hc hp hlen;go_enter Tryz.func68,Tryz.ntmps68
 go_upto_region 5 with (first|(go_at_call 54;(with_reducible refine HP.out.mono ?_);rintro e w1 ⟨rfl,hb1⟩;have HB1:=aM hb1;clear hb1))
 have HR1:=aM (Kd.C_below HR.out HB1.out);have H1:=aM (H.out.grow HB1.out)
 go_upto_region 6 with (first
   | ((with_reducible refine qbM (N:=11) rfl ?_);refine Kd.R_lit kF (w0:=w1) w1.heap.size 83 ?hg (N:=11) ?hd (xs:=([]:List F3)) (inner:=[]) (ok:=fun _=>True) (okp:=fun _=>True) ?hr ?hp (fun _ hk=>hk) trivial (Below.refl _ _) (Nat.le_refl _) (by simp) ?_;(case hd=>rfl);(case hg=>rfl);(case hr=>first|(go_simp;done)|(go_simp;rfl));(case hp=>exact (qfK.none _ _));intro v2 w2 ho hb _ _;have HO:=aM ho;have HB2:=aM hb;clear ho hb)
   | ((with_reducible refine qbC (b:=.append) (xs:=#[.tmp 11,.tmp 12]) rfl ?_);at_builtin;refine Kd.R_append_rows kF (w0:=w1) w1.heap.size rfl (.tmp 11) (.tmp 12) 36 83 (.agg #[.int .i64 0,.int .i64 0,.int .i64 0]) 24 rfl Tryz.underlying36 qtK rfl (by decide) (by decide) v2 [] l _ _ _ (fun _=>True) (fun _=>False) rfl rfl ?aO ?aR (fun _ _ h=>h) (fun _ h=>h.elim) ?aF ?aB ?aS ?aL ?_;(case aO=>exact HO.out);(case aR=>exact Kd.C_below HR1.out HB2.out);(case aF=>exact fun _ _=>trivial);(case aB=>exact HB2.out);(case aS=>exact qaG HB2.out);(case aL=>have:=HL.out;simp;omega);intro v3 w3 ho2 hb2 _ _;have HO3:=aM ho2;have HB3:=aM hb2;have h3:=H1.out.grow hb2;have H3:=aM h3;have f6:=qaC h3.c 6;have c6:w3.cell? ⟨gd,6,none⟩=some m.plan:=h3.cell 6;obtain ⟨A6,c6',e6⟩:=(show ∃ A6 c6',v3=Value.slice A6 l.length c6' from Kd.R_slice ho2);rw [e6] at HO3;subst e6;clear ho2 hb2 h3))
 generalize hW:w3.setCell ⟨gd,6,none⟩ (.slice A6 l.length c6')=W4;have H4:=aM (show DS w0 W4 gd { m with plan:=.slice A6 l.length c6' } { a with pl:=l } by rw [← hW];exact H3.out.setPlan _ l (Kd.R_lower HO3.out (qaG H1.out.below)));have HK4:=aM (show qaP W W4 by rw [← hW];exact (qaP.of_below (qaF HB1.out HB3.out)).set ⟨_,H3.out.c⟩ (by decide) _ _);have c8:W4.cell? ⟨gd,8,none⟩=some (.int .i64 a.ops):=H4.out.cell 8;have c7:W4.cell? ⟨gd,7,none⟩=some (.int .i64 a.frm):=H4.out.cell 7;have f7:=qaC H4.out.c 7;clear hW c6 f6;go_wp2;go_ret;exact ⟨rfl,⟨_,H4.out.setC 7 _ rfl rfl rfl rfl⟩,HK4.out.set ⟨_,H4.out.c⟩ (by decide) _ _⟩
theorem qbT.arm (h:qbT w0 W gd a) (A:Option Addr) (c:Nat) (l:List F3) (hr:Kd.C kF W A l.length l) (hc:l.length≤c):Calls Tryz.prog 68 #[cp gd,.slice A l.length c] W fun e w'=>e=.returned (.int .i64 (qqY a l).1)∧qbT w0 w' gd (qqY a l).2∧qaP W w':=by
 obtain ⟨m,h⟩:=h
 by_cases hp:qcJ l=true
 ·rw [show qqY a l=(0,{ a with pl:=l,frm:=a.ops }) from if_pos hp];exact vbP h A c l hr hc hp
 ·rw [show qqY a l=(22,a) from if_neg hp];refine (qyT h A c l hr hc (by simpa using hp)).mono ?_;rintro e w' ⟨rfl,hb⟩;exact ⟨rfl,⟨m,h.grow hb⟩,qaP.of_below hb⟩
end
section
variable {w0 W:World} {gd:Nat} {m:DM} {a:AC}
theorem DS.blk (h:DS w0 W gd m a) (i:Nat) (hi:i < a.g.B):W.cell? ⟨m.gb,i*4,none⟩=some (.slice (some ⟨m.gp i,0,none⟩) a.g.P a.g.P)∧W.cell? ⟨m.gb,i*4+1,none⟩=some (.int .i64 (a.bk i).nx)∧W.cell? ⟨m.gb,i*4+2,none⟩=some (.bool (a.bk i).bad)∧W.cell? ⟨m.gb,i*4+3,none⟩=some (.int .i64 (a.bk i).er):=by
 refine ⟨h.b.cell ?_,h.b.cell ?_,h.b.cell ?_,h.b.cell ?_⟩
 ·unfold dB;rw [if_pos (by omega),if_pos (by omega),show (i*4) / 4=i by omega]
 ·unfold dB;rw [if_pos (by omega),if_neg (by omega),if_pos (by omega),show (i*4+1) / 4=i by omega]
 ·unfold dB;rw [if_pos (by omega),if_neg (by omega),if_neg (by omega),if_pos (by omega),show (i*4+2) / 4=i by omega]
 ·unfold dB;rw [if_pos (by omega),if_neg (by omega),if_neg (by omega),if_neg (by omega),show (i*4+3) / 4=i by omega]
theorem DS.pag (h:DS w0 W gd m a) (i j:Nat) (hi:i < a.g.B) (hj:j < a.g.P):W.cell? ⟨m.gp i,j*3,none⟩=some (.bool (!(((a.bk i).pg j).st==0)))∧W.cell? ⟨m.gp i,j*3+1,none⟩=some (.bool (((a.bk i).pg j).st==2))∧W.cell? ⟨m.gp i,j*3+2,none⟩=some (m.pv i j):=by
 refine ⟨(h.p i hi).cell ?_,(h.p i hi).cell ?_,(h.p i hi).cell ?_⟩
 ·unfold dP;rw [if_pos (by omega),if_pos (by omega),show (j*3) / 3=j by omega]
 ·unfold dP;rw [if_pos (by omega),if_neg (by omega),if_pos (by omega),show (j*3+1) / 3=j by omega]
 ·unfold dP;rw [if_pos (by omega),if_neg (by omega),if_neg (by omega),show (j*3+2) / 3=j by omega]
theorem DS.bad (h:DS w0 W gd m a) (n:Int):Calls Tryz.prog 80 #[cp gd,.int .i64 n] W fun e w'=>e=.returned (.bool (qpN a n))∧Below W.heap.size W w':=by
 have c4:W.cell? ⟨gd,4,none⟩=some (.slice (some ⟨m.gb,0,none⟩) a.g.B m.cap):=h.cell 4
 by_cases h1:n < 0
 ·have d0:decide (n < 0)=true:=decide_eq_true h1;have d0n:(n < 0)=True:=eq_true h1;have d0g:decide (0≤n)=false:=decide_eq_false (by omega);have HE:=aM (show qpN a n=false from if_pos (.inl h1));clear h h1;go_enter Tryz.func80,Tryz.ntmps80;go_wp2;go_ret;rw [HE.out];exact ⟨rfl,Below.refl _ _⟩
 have d0:decide (n < 0)=false:=decide_eq_false h1;have d0n:(n < 0)=False:=eq_false h1;have d0g:decide (0≤n)=true:=decide_eq_true (by omega)
 by_cases h2:(a.g.B:Int)≤n
 ·have d1:decide ((a.g.B:Int)≤n)=true:=decide_eq_true h2;have d2:decide (n < (a.g.B:Int))=false:=decide_eq_false (by omega);have HE:=aM (show qpN a n=false from if_pos (.inr h2));clear h h1 h2;go_enter Tryz.func80,Tryz.ntmps80;go_wp2;go_ret;rw [HE.out];exact ⟨rfl,Below.refl _ _⟩
 obtain ⟨i,rfl⟩:∃ i:Nat,n=(i:Int):=⟨n.toNat,by omega⟩
 have hi:i < a.g.B:=by omega
 have d1:decide ((a.g.B:Int)≤(i:Int))=false:=decide_eq_false h2;have d2:decide ((i:Int) < (a.g.B:Int))=true:=decide_eq_true (by omega);have hq:(i < a.g.B)=True:=eq_true hi;have hqi:((i:Int) < (a.g.B:Int))=True:=eq_true (by omega);have hqm:(a.g.B≤i)=False:=eq_false (by omega);have HE:=aM (show qpN a (i:Int)=(a.bk i).bad from (if_neg (by omega)).trans (by rw [Int.toNat_natCast]));obtain ⟨b0,b1,b2,b3⟩:=h.blk i hi;clear h h1 h2 hi;go_enter Tryz.func80,Tryz.ntmps80;go_wp2;go_ret;rw [HE.out];exact ⟨rfl,Below.refl _ _⟩
theorem qbT.bad (h:qbT w0 W gd a) (n:Int):Calls Tryz.prog 80 #[cp gd,.int .i64 n] W fun e w'=>e=.returned (.bool (qpN a n))∧Below W.heap.size W w':=by
 obtain ⟨m,h⟩:=h;exact h.bad n
theorem DS.next (h:DS w0 W gd m a) (n:Int):Calls Tryz.prog 82 #[cp gd,.int .i64 n] W fun e w'=>e=.returned (.int .i64 (qdY a n))∧Below W.heap.size W w':=by
 have c4:W.cell? ⟨gd,4,none⟩=some (.slice (some ⟨m.gb,0,none⟩) a.g.B m.cap):=h.cell 4
 by_cases h1:n < 0
 ·have d0:decide (n < 0)=true:=decide_eq_true h1;have d0n:(n < 0)=True:=eq_true h1;have d0g:decide (0≤n)=false:=decide_eq_false (by omega);have HE:=aM (show qdY a n=0 from if_pos (.inl h1));clear h h1;go_enter Tryz.func82,Tryz.ntmps82;go_wp2;go_ret;rw [HE.out];exact ⟨rfl,Below.refl _ _⟩
 have d0:decide (n < 0)=false:=decide_eq_false h1;have d0n:(n < 0)=False:=eq_false h1;have d0g:decide (0≤n)=true:=decide_eq_true (by omega)
 by_cases h2:(a.g.B:Int)≤n
 ·have d1:decide ((a.g.B:Int)≤n)=true:=decide_eq_true h2;have d2:decide (n < (a.g.B:Int))=false:=decide_eq_false (by omega);have HE:=aM (show qdY a n=0 from if_pos (.inr h2));clear h h1 h2;go_enter Tryz.func82,Tryz.ntmps82;go_wp2;go_ret;rw [HE.out];exact ⟨rfl,Below.refl _ _⟩
 obtain ⟨i,rfl⟩:∃ i:Nat,n=(i:Int):=⟨n.toNat,by omega⟩
 have hi:i < a.g.B:=by omega
 have d1:decide ((a.g.B:Int)≤(i:Int))=false:=decide_eq_false h2;have d2:decide ((i:Int) < (a.g.B:Int))=true:=decide_eq_true (by omega);have hq:(i < a.g.B)=True:=eq_true hi;have hqi:((i:Int) < (a.g.B:Int))=True:=eq_true (by omega);have hqm:(a.g.B≤i)=False:=eq_false (by omega);have HE:=aM (show qdY a (i:Int)=(a.bk i).nx from (if_neg (by omega)).trans (by rw [Int.toNat_natCast]));obtain ⟨b0,b1,b2,b3⟩:=h.blk i hi;clear h h1 h2 hi;go_enter Tryz.func82,Tryz.ntmps82;go_wp2;go_ret;rw [HE.out];exact ⟨rfl,Below.refl _ _⟩
theorem qbT.next (h:qbT w0 W gd a) (n:Int):Calls Tryz.prog 82 #[cp gd,.int .i64 n] W fun e w'=>e=.returned (.int .i64 (qdY a n))∧Below W.heap.size W w':=by
 obtain ⟨m,h⟩:=h;exact h.next n
theorem DS.erases (h:DS w0 W gd m a) (n:Int):Calls Tryz.prog 83 #[cp gd,.int .i64 n] W fun e w'=>e=.returned (.int .i64 (qgB a n))∧Below W.heap.size W w':=by
 have c4:W.cell? ⟨gd,4,none⟩=some (.slice (some ⟨m.gb,0,none⟩) a.g.B m.cap):=h.cell 4
 by_cases h1:n < 0
 ·have d0:decide (n < 0)=true:=decide_eq_true h1;have d0n:(n < 0)=True:=eq_true h1;have d0g:decide (0≤n)=false:=decide_eq_false (by omega);have HE:=aM (show qgB a n=0 from if_pos (.inl h1));clear h h1;go_enter Tryz.func83,Tryz.ntmps83;go_wp2;go_ret;rw [HE.out];exact ⟨rfl,Below.refl _ _⟩
 have d0:decide (n < 0)=false:=decide_eq_false h1;have d0n:(n < 0)=False:=eq_false h1;have d0g:decide (0≤n)=true:=decide_eq_true (by omega)
 by_cases h2:(a.g.B:Int)≤n
 ·have d1:decide ((a.g.B:Int)≤n)=true:=decide_eq_true h2;have d2:decide (n < (a.g.B:Int))=false:=decide_eq_false (by omega);have HE:=aM (show qgB a n=0 from if_pos (.inr h2));clear h h1 h2;go_enter Tryz.func83,Tryz.ntmps83;go_wp2;go_ret;rw [HE.out];exact ⟨rfl,Below.refl _ _⟩
 obtain ⟨i,rfl⟩:∃ i:Nat,n=(i:Int):=⟨n.toNat,by omega⟩
 have hi:i < a.g.B:=by omega
 have d1:decide ((a.g.B:Int)≤(i:Int))=false:=decide_eq_false h2;have d2:decide ((i:Int) < (a.g.B:Int))=true:=decide_eq_true (by omega);have hq:(i < a.g.B)=True:=eq_true hi;have hqi:((i:Int) < (a.g.B:Int))=True:=eq_true (by omega);have hqm:(a.g.B≤i)=False:=eq_false (by omega);have HE:=aM (show qgB a (i:Int)=(a.bk i).er from (if_neg (by omega)).trans (by rw [Int.toNat_natCast]));obtain ⟨b0,b1,b2,b3⟩:=h.blk i hi;clear h h1 h2 hi;go_enter Tryz.func83,Tryz.ntmps83;go_wp2;go_ret;rw [HE.out];exact ⟨rfl,Below.refl _ _⟩
theorem qbT.erases (h:qbT w0 W gd a) (n:Int):Calls Tryz.prog 83 #[cp gd,.int .i64 n] W fun e w'=>e=.returned (.int .i64 (qgB a n))∧Below W.heap.size W w':=by
 obtain ⟨m,h⟩:=h;exact h.erases n
theorem DS.ops (h:DS w0 W gd m a):Calls Tryz.prog 84 #[cp gd] W fun e w'=>e=.returned (.int .i64 a.ops)∧Below W.heap.size W w':=by
 have c0:W.cell? ⟨gd,8,none⟩=some (.int .i64 a.ops):=h.cell 8;clear h;go_enter Tryz.func84,Tryz.ntmps84;go_wp2;go_ret;exact ⟨rfl,Below.refl _ _⟩
theorem qbT.ops (h:qbT w0 W gd a):Calls Tryz.prog 84 #[cp gd] W fun e w'=>e=.returned (.int .i64 a.ops)∧Below W.heap.size W w':=by
 obtain ⟨m,h⟩:=h;exact h.ops
theorem DS.wrong (h:DS w0 W gd m a):Calls Tryz.prog 85 #[cp gd] W fun e w'=>e=.returned (.int .i64 a.wrong)∧Below W.heap.size W w':=by
 have c0:W.cell? ⟨gd,9,none⟩=some (.int .i64 a.wrong):=h.cell 9;clear h;go_enter Tryz.func85,Tryz.ntmps85;go_wp2;go_ret;exact ⟨rfl,Below.refl _ _⟩
theorem qbT.wrong (h:qbT w0 W gd a):Calls Tryz.prog 85 #[cp gd] W fun e w'=>e=.returned (.int .i64 a.wrong)∧Below W.heap.size W w':=by
 obtain ⟨m,h⟩:=h;exact h.wrong
theorem DS.on (h:DS w0 W gd m a):Calls Tryz.prog 72 #[cp gd] W fun e w'=>e=.returned (.bool (!a.off))∧Below W.heap.size W w':=by
 have c0:W.cell? ⟨gd,5,none⟩=some (.bool a.off):=h.cell 5;clear h
 cases ho:a.off with
 | true =>
  rw [ho] at c0;clear ho;go_enter Tryz.func72,Tryz.ntmps72;go_wp2;go_ret;exact ⟨rfl,Below.refl _ _⟩
 | false =>
  rw [ho] at c0;clear ho;go_enter Tryz.func72,Tryz.ntmps72;go_wp2;go_ret;exact ⟨rfl,Below.refl _ _⟩
theorem qbT.on (h:qbT w0 W gd a):Calls Tryz.prog 72 #[cp gd] W fun e w'=>e=.returned (.bool (!a.off))∧Below W.heap.size W w':=by
 obtain ⟨m,h⟩:=h;exact h.on
theorem DS.geometry (h:DS w0 W gd m a):Calls Tryz.prog 73 #[cp gd] W fun e w'=>e=.returned (gV a.g.B a.g.P a.g.Z a.g.R)∧Below W.heap.size W w':=by
 have H:=aM h.c;have hu28:=Tryz.underlying23;clear h;go_enter Tryz.func73,Tryz.ntmps73
 go_upto_region 1 with (fail)
 generalize hW:W.alloc (.cells #[.int .i64 0,.int .i64 0,.int .i64 0,.int .i64 0] 23)=W1;have hb:Below W.heap.size W W1:=by rw [← hW];exact qaA (Below.refl _ _) _
 have hx:W1.heap[W.heap.size]?=some (.cells #[.int .i64 0,.int .i64 0,.int .i64 0,.int .i64 0] 23 (0,0)):=by rw [← hW];exact qaV _ _ _
 have c0:W1.cell? ⟨gd,0,none⟩=some (.int .i64 a.g.B):=jC (qaE H.out hb) 0;have c1:W1.cell? ⟨gd,1,none⟩=some (.int .i64 a.g.P):=jC (qaE H.out hb) 1;have c2:W1.cell? ⟨gd,2,none⟩=some (.int .i64 a.g.Z):=jC (qaE H.out hb) 2;have c3:W1.cell? ⟨gd,3,none⟩=some (.int .i64 a.g.R):=jC (qaE H.out hb) 3;have x0:=jC hx 0;have x1:=jC hx 1;have x2:=jC hx 2;have x3:=jC hx 3;have fx0:=qaC hx 0;have fx1:=qaC hx 1;have fx2:=qaC hx 2;have fx3:=qaC hx 3;have HX:=aM hx;have HB:=aM hb;clear hW hx hb;go_wp2;refine bodyPost_ret (results_cell_row rfl _ _ W.heap.size 23 #[.int .i64 a.g.B,.int .i64 a.g.P,.int .i64 a.g.Z,.int .i64 a.g.R] (0,0) _ rfl (setG HX.out _ _ _ _) Tryz.underlying23 rfl (by kernel_rfl)) rfl ?_;exact ⟨rfl,qaH (qaH (qaH (qaH HB.out (Nat.le_refl _)) (Nat.le_refl _)) (Nat.le_refl _)) (Nat.le_refl _)⟩
end
section
variable {w0 W:World} {gd:Nat} {m:DM} {a:AC}
theorem qoY (h:DS w0 W gd m a) (n p:Int) (hk:qhD a n ≠ 0):Calls Tryz.prog 78 #[cp gd,.int .i64 n,.int .i64 p] W fun e w'=>e=.returned (.tuple #[.slice none 0 0,.int .i64 (qhD a n)])∧Below W.heap.size W w':=by
 have HA:=aM (qcE h n);generalize qhD a n=k at hk HA ⊢;have e0:(k==0)=false:=by simp only [beq_eq_false_iff_ne];exact hk
 have e0p:(k=0)=False:=eq_false hk;clear h hk;go_enter Tryz.func78,Tryz.ntmps78;go_wp2_with (first|(go_at_call 117;(with_reducible refine HA.out.mono ?_);rintro e w1 ⟨rfl,hb1⟩;have HB1:=aM hb1;clear hb1));go_ret2;exact ⟨rfl,HB1.out⟩
theorem qqM (h:DS w0 W gd m a) (n p:Int) (hk:qhD a n=0) (hp:p < 0∨a.g.P≤p):Calls Tryz.prog 78 #[cp gd,.int .i64 n,.int .i64 p] W fun e w'=>e=.returned (.tuple #[.slice none 0 0,.int .i64 22])∧Below W.heap.size W w':=by
 have hA:=qcE h n;rw [hk] at hA;have HA:=aM hA;have H:=aM h;clear h hk hA
 by_cases h0:p < 0
 ·have d0:decide (p < 0)=true:=decide_eq_true h0;have d0p:(p < 0)=True:=eq_true h0;clear h0 hp;go_enter Tryz.func78,Tryz.ntmps78;go_wp2_with (first|(go_at_call 117;(with_reducible refine HA.out.mono ?_);rintro e w1 ⟨rfl,hb1⟩;have HB1:=aM hb1;clear hb1));go_ret2;exact ⟨rfl,HB1.out⟩
 ·have d0:decide (p < 0)=false:=decide_eq_false h0;have d0p:(p < 0)=False:=eq_false h0;have d1:decide ((a.g.P:Int)≤p)=true:=decide_eq_true (by omega);have d1p:((a.g.P:Int)≤p)=True:=eq_true (by omega);clear h0 hp;go_enter Tryz.func78,Tryz.ntmps78;go_wp2_with (first|(go_at_call 117;(with_reducible refine HA.out.mono ?_);rintro e w1 ⟨rfl,hb1⟩;have HB1:=aM hb1;have y1:w1.cell? ⟨gd,1,none⟩=some (.int .i64 a.g.P):=(H.out.grow hb1).cell 1;clear hb1));go_ret2;exact ⟨rfl,HB1.out⟩
theorem qtT (h:DS w0 W gd m a) (ho:a.off=false) (i j:Nat) (hi:i < a.g.B) (hj:j < a.g.P) (hst:((a.bk i).pg j).st=2):Calls Tryz.prog 78 #[cp gd,.int .i64 i,.int .i64 j] W fun e w'=>e=.returned (.tuple #[.slice none 0 0,.int .i64 5])∧Below W.heap.size W w':=by
 have hA:=qcE h (i:Int);rw [show qhD a (i:Int)=0 from (if_neg (by rw [ho];decide)).trans (if_neg (by omega))] at hA;have HA:=aM hA;have H:=aM h;have HI:=aM (And.intro hi hj);have HST:=aM (show (((a.bk i).pg j).st==2)=true by rw [hst];rfl);obtain ⟨Ad,cd,ed⟩:=Kd.R_slice (h.d i j hi hj);have HED:=aM ed;have d0:decide ((j:Int) < 0)=false:=decide_eq_false (by omega);have d0p:((j:Int) < 0)=False:=eq_false (by omega);have d1:decide ((a.g.P:Int)≤(j:Int))=false:=decide_eq_false (by omega);have d1p:((a.g.P:Int)≤(j:Int))=False:=eq_false (by omega);have d1q:(a.g.P≤j)=False:=eq_false (by omega);have hq:(i < a.g.B)=True:=eq_true hi;have hqi:((i:Int) < (a.g.B:Int))=True:=eq_true (by omega);have hqj:(j < a.g.P)=True:=eq_true hj;have hqji:((j:Int) < (a.g.P:Int))=True:=eq_true (by omega);have hu:=Tryz.underlying164;clear h hA ed hst ho hi hj;go_enter Tryz.func78,Tryz.ntmps78
 go_upto_region 6 with (first|(go_at_call 117;(with_reducible refine HA.out.mono ?_);rintro e w1 ⟨rfl,hb1⟩;have HB1:=aM hb1;have H1:=aM (H.out.grow hb1);have y1:w1.cell? ⟨gd,1,none⟩=some (.int .i64 a.g.P):=H1.out.cell 1;clear hb1))
 have y4:w1.cell? ⟨gd,4,none⟩=some (.slice (some ⟨m.gb,0,none⟩) a.g.B m.cap):=H1.out.cell 4;obtain ⟨b0,-,-,-⟩:=H1.out.blk i HI.out.1;obtain ⟨q0,q1,q2⟩:=H1.out.pag i j HI.out.1 HI.out.2;rw [HST.out] at q1;rw [HED.out] at q2;generalize (!(((a.bk i).pg j).st==0))=s0 at q0;clear y1
 go_upto_region 7 with (fail)
 generalize hW:w1.alloc (.cells #[.bool s0,.bool true,.slice Ad ((a.bk i).pg j).d.length cd] 164)=W3;have hb3:Below w1.heap.size w1 W3:=by rw [← hW];exact qaA (Below.refl _ _) _
 have hx:W3.heap[w1.heap.size]?=some (.cells #[.bool s0,.bool true,.slice Ad ((a.bk i).pg j).d.length cd] 164 (0,0)):=by rw [← hW];exact qaV _ _ _
 have x1:=jC hx 1;have HB3:=aM (qaF HB1.out hb3);clear hW hb3 hx y4 b0 q0 q1 q2;go_wp2;go_ret2;exact ⟨rfl,HB3.out⟩
theorem qrZ (l:List Int) (i:Nat) (h:l.length≤i):(l ++ List.replicate (i - l.length) (255:Int)).length=i:=by simp;omega
theorem qwD (l:List Int) (i:Nat) (h:l.length≤i):(l ++ List.replicate (i - l.length) (255:Int)) ++ [255]=l ++ List.replicate (i+1 - l.length) 255:=by
 rw [show i+1 - l.length=(i - l.length)+1 by omega,List.replicate_succ',List.append_assoc]
theorem qtU (h:DS w0 W gd m a) (ho:a.off=false) (i j:Nat) (hi:i < a.g.B) (hj:j < a.g.P) (hst:¬ ((a.bk i).pg j).st=2) (l:List Int) (hl:l=((a.bk i).pg j).d) (hz:l.length≤a.g.Z):Calls Tryz.prog 78 #[cp gd,.int .i64 i,.int .i64 j] W fun e w'=>∃ v:Value,e=.returned (.tuple #[v,.int .i64 0])∧Kd.R kB 5 w' W.heap.size (fun _=>True) v (l ++ List.replicate (a.g.Z - l.length) 255)∧Below W.heap.size W w':=by
 have hA:=qcE h (i:Int);rw [show qhD a (i:Int)=0 from (if_neg (by rw [ho];decide)).trans (if_neg (by omega))] at hA;have HA:=aM hA;have H:=aM h;have HI:=aM (And.intro hi hj);have HST:=aM (show (((a.bk i).pg j).st==2)=false by simp only [beq_eq_false_iff_ne];exact hst);have hzz:=h.gok.2.2;obtain ⟨Ad,cd,ed⟩:=Kd.R_slice (h.d i j hi hj);rw [← hl] at ed;have HED:=aM ed
 have HDD:=aM (fun (w1:World) (hb:Below W.heap.size W w1)=>(show Kd.C kB w1 Ad l.length l from by
  have h7:=(h.grow hb).d i j hi hj;rw [← hl,ed] at h7
  exact (Kd.R_reads' h7).2.2))
 have d0:decide ((j:Int) < 0)=false:=decide_eq_false (by omega);have d0p:((j:Int) < 0)=False:=eq_false (by omega);have d1:decide ((a.g.P:Int)≤(j:Int))=false:=decide_eq_false (by omega);have d1p:((a.g.P:Int)≤(j:Int))=False:=eq_false (by omega);have d1q:(a.g.P≤j)=False:=eq_false (by omega);have hq:(i < a.g.B)=True:=eq_true hi;have hqi:((i:Int) < (a.g.B:Int))=True:=eq_true (by omega);have hqj:(j < a.g.P)=True:=eq_true hj;have hqji:((j:Int) < (a.g.P:Int))=True:=eq_true (by omega);have hu:=Tryz.underlying164;clear h hA ed hst ho hi hj hl
 obtain ⟨Z,hZ⟩:∃ Z,a.g.Z=Z:=⟨_,rfl⟩
 rw [hZ] at hzz hz ⊢;have HZ:=aM hZ;have HLZ:=aM hz;clear hZ hz;go_enter Tryz.func78,Tryz.ntmps78
 go_upto_region 6 with (first|(go_at_call 117;(with_reducible refine HA.out.mono ?_);rintro e w1 ⟨rfl,hb1⟩;have HB1:=aM hb1;have H1:=aM (H.out.grow hb1);have y1:w1.cell? ⟨gd,1,none⟩=some (.int .i64 a.g.P):=H1.out.cell 1;clear hb1))
 have y4:w1.cell? ⟨gd,4,none⟩=some (.slice (some ⟨m.gb,0,none⟩) a.g.B m.cap):=H1.out.cell 4;obtain ⟨b0,-,-,-⟩:=H1.out.blk i HI.out.1;obtain ⟨q0,q1,q2⟩:=H1.out.pag i j HI.out.1 HI.out.2;rw [HST.out] at q1;rw [HED.out] at q2;generalize (!(((a.bk i).pg j).st==0))=s0 at q0;clear y1
 go_upto_region 7 with (fail)
 generalize hW:w1.alloc (.cells #[.bool s0,.bool false,.slice Ad l.length cd] 164)=W3;have hb3:Below w1.heap.size w1 W3:=by rw [← hW];exact qaA (Below.refl _ _) _
 have hx:W3.heap[w1.heap.size]?=some (.cells #[.bool s0,.bool false,.slice Ad l.length cd] 164 (0,0)):=by rw [← hW];exact qaV _ _ _
 have HX3:=aM hx;have x1:=jC hx 1;have HB3:=aM (qaF HB1.out hb3);clear hW hb3 hx y4 b0 q0 q1 q2
 go_upto_region 9 with (fail)
 have HSZ:=aM (Nat.le_refl W3.heap.size)
 go_upto_region 10 with (first
   | ((with_reducible refine qbM (N:=45) rfl ?_);refine Kd.R_lit kB (w0:=W3) W3.heap.size 5 ?hg (N:=45) ?hd (xs:=([]:List Int)) (inner:=[]) (ok:=fun _=>True) (okp:=fun _=>True) ?hr ?hp (fun _ hk=>hk) trivial (Below.refl _ _) (Nat.le_refl _) (by simp) ?_;(case hd=>rfl);(case hg=>rfl);(case hr=>first|(go_simp;done)|(go_simp;rfl));(case hp=>exact (qfK.none _ _));intro v4 w4 ho hb _ _;have HO:=aM ho;have HB4:=aM hb;have x2:=jC (qaE HX3.out hb) 2;clear ho hb)
   | ((with_reducible refine qbC (b:=.append) (xs:=#[.tmp 45,.tmp 47]) rfl ?_);at_builtin;refine Kd.R_append_rows kB (w0:=W3) W3.heap.size rfl (.tmp 45) (.tmp 47) 35 5 (.int .u8 0) 1 rfl Tryz.underlying35 qiZ rfl (by decide) (by decide) v4 [] l _ _ _ (fun _=>True) (fun _=>False) rfl rfl ?aO ?aR (fun _ _ h=>h) (fun _ h=>h.elim) ?aF ?aB ?aS ?aL ?_;(case aO=>exact HO.out);(case aR=>exact HDD.out _ (qaF HB3.out HB4.out));(case aF=>exact fun _ _=>trivial);(case aB=>exact HB4.out);(case aS=>exact qaG HB4.out);(case aL=>have:=HLZ.out;simp;omega);intro v5 w5 ho2 hb2 _ _;have HO5:=aM ho2;have HB5:=aM hb2;clear ho2 hb2))
 go_loopw [10] (fun v10 wr=>∃ k:Nat,l.length≤k∧k≤Z∧qaN (Kd.R kB 5 wr W3.heap.size (fun _=>True) v10 (l ++ List.replicate (k - l.length) 255))∧qaN (∃ A c,v10=.slice A k c)∧qaN (Below W3.heap.size W3 wr)) (fun v _=>Z - (match v with | .slice _ n _=>n | _=>0));case atStart=>exact ⟨l.length,Nat.le_refl _,HLZ.out,⟨by rw [Nat.sub_self,List.replicate_zero,List.append_nil];exact HO5.out⟩,⟨by obtain ⟨A5,c5,e5⟩:=Kd.R_slice HO5.out;exact ⟨A5,c5,by simpa using e5⟩⟩,HB5⟩
 case round =>
  obtain ⟨k,hk1,hk2,HR,HE,HBr⟩:=hrel;obtain ⟨Ak,ck,rfl⟩:=HE.out;have yz:wr.cell? ⟨gd,2,none⟩=some (.int .i64 Z):=by rw [← HZ.out];exact (H.out.grow (qaF HB3.out HBr.out)).cell 2
  have HK1:=aM hk1
  by_cases hlt:k < Z
  ·have e0:decide ((k:Int) < (Z:Int))=true:=decide_eq_true (by omega);have e0p:(k < Z)=True:=eq_true hlt;have HK2:=aM hlt;clear hk1 hk2 hlt;go_wp2_with (first|((with_reducible refine qbC (b:=.append) (xs:=#[.tmp 57,.tmp 58]) rfl ?_);at_builtin;refine Kd.R_append kB (w0:=W3) W3.heap.size rfl (.tmp 57) (.tmp 58) 35 5 (.int .u8 0) 1 rfl Tryz.underlying35 qiZ rfl (by decide) (by omega) (.slice Ak k ck) (l ++ List.replicate (k - l.length) 255) 255 [.int .u8 255] (fun _=>True) (fun _=>False) rfl rfl ?aP (fun _ hk=>hk.elim) ?aF ?aO ?aB ?aS ?aL ?_;(case aP=>exact rfl);(case aB=>exact (by repeat (first|(with_reducible first|exact HBr.out|apply qaA|apply qaB|apply qaD)|exact HBr.out)));(case aF=>exact (fun _ _=>trivial));(case aO=>exact (by (with_reducible repeat (first|apply Kd.R_alloc|apply Kd.R_drewN|apply Kd.R_drew));exact HR.out));(case aS=>exact (qaG (by repeat (first|(with_reducible first|exact HBr.out|apply qaA|apply qaB|apply qaD)|exact HBr.out))));(case aL=>have:=HK2.out;rw [qrZ l k HK1.out];omega);intro v7 w7 ho hb hg hat;rw [qwD l k HK1.out] at ho;have HO7:=aM ho;have HB7:=aM hb;have HE7:=aM (show ∃ A c,v7=Value.slice A (k+1) c by obtain ⟨A7,c7,e7⟩:=Kd.R_slice ho;exact ⟨A7,c7,by rw [e7,qrZ l (k+1) (Nat.le_succ_of_le HK1.out)]⟩);clear ho hb hg hat))
   obtain ⟨A7,c7,rfl⟩:=HE7.out;go_roundw;case rel=>exact ⟨k+1,Nat.le_succ_of_le HK1.out,HK2.out,HO7,⟨⟨A7,c7,rfl⟩⟩,HB7⟩
   case measure=>have:=HK2.out;show Z - (k+1) < Z - k;omega
  ·obtain rfl:k=Z:=by omega
   have e0:decide ((k:Int) < (k:Int))=false:=decide_eq_false (by omega);go_wp2;go_ret2;exact ⟨_,rfl,Kd.R_lower HR.out (qaG HB3.out),qaF HB3.out HBr.out⟩
theorem DS.read (h:DS w0 W gd m a) (hd:∀ i j,¬ ((a.bk i).pg j).st=1→((a.bk i).pg j).d=[]) (hl:∀ i j,((a.bk i).pg j).d.length≤a.g.Z) (n p:Int):Calls Tryz.prog 78 #[cp gd,.int .i64 n,.int .i64 p] W fun e w'=>∃ v:Value,e=.returned (.tuple #[v,.int .i64 (qbV a n p).2])∧Kd.R kB 5 w' W.heap.size (fun _=>True) v (qbV a n p).1∧Below W.heap.size W w':=by
 by_cases ho:a.off=true
 ·have e1:qhD a n=6:=if_pos ho;rw [show qbV a n p=([],6) from if_pos ho];refine (qoY h n p (by rw [e1];decide)).mono ?_;rintro e w' ⟨rfl,hb⟩;rw [e1];exact ⟨_,rfl,Kd.R_nil _ _ _ _ _,hb⟩
 have hof:a.off=false:=by simpa using ho
 by_cases hn:n < 0∨a.g.B≤n
 ·have e1:qhD a n=22:=(if_neg ho).trans (if_pos hn);rw [show qbV a n p=([],22) from (if_neg ho).trans (if_pos hn)];refine (qoY h n p (by rw [e1];decide)).mono ?_;rintro e w' ⟨rfl,hb⟩;rw [e1];exact ⟨_,rfl,Kd.R_nil _ _ _ _ _,hb⟩
 have e1:qhD a n=0:=(if_neg ho).trans (if_neg hn)
 by_cases hp:p < 0∨a.g.P≤p
 ·rw [show qbV a n p=([],22) from (if_neg ho).trans ((if_neg hn).trans (if_pos hp))];refine (qqM h n p e1 hp).mono ?_;rintro e w' ⟨rfl,hb⟩;exact ⟨_,rfl,Kd.R_nil _ _ _ _ _,hb⟩
 obtain ⟨i,rfl⟩:∃ i:Nat,n=i:=⟨n.toNat,by omega⟩
 obtain ⟨j,rfl⟩:∃ j:Nat,p=j:=⟨p.toNat,by omega⟩
 have e0:qbV a i j=if ((a.bk i).pg j).st=2 then ([],5) else if ((a.bk i).pg j).st=1 then (((a.bk i).pg j).d ++ List.replicate (a.g.Z - ((a.bk i).pg j).d.length) 255,0) else (List.replicate a.g.Z 255,0):=(if_neg ho).trans ((if_neg hn).trans (if_neg hp))
 rw [e0]
 by_cases h2:((a.bk i).pg j).st=2
 ·rw [if_pos h2];refine (qtT h hof i j (by omega) (by omega) h2).mono ?_;rintro e w' ⟨rfl,hb⟩;exact ⟨_,rfl,Kd.R_nil _ _ _ _ _,hb⟩
 rw [if_neg h2];have hda:=qtU h hof i j (by omega) (by omega) h2 _ rfl (hl i j)
 by_cases h1:((a.bk i).pg j).st=1
 ·rw [if_pos h1];exact hda
 ·rw [if_neg h1];rw [hd i j h1,List.nil_append,List.length_nil,Nat.sub_zero] at hda;exact hda
theorem qbT.read (h:qbT w0 W gd a) (hd:∀ i j,¬ ((a.bk i).pg j).st=1→((a.bk i).pg j).d=[]) (hl:∀ i j,((a.bk i).pg j).d.length≤a.g.Z) (n p:Int):Calls Tryz.prog 78 #[cp gd,.int .i64 n,.int .i64 p] W fun e w'=>∃ v:Value,e=.returned (.tuple #[v,.int .i64 (qbV a n p).2])∧Kd.R kB 5 w' W.heap.size (fun _=>True) v (qbV a n p).1∧Below W.heap.size W w':=by
 obtain ⟨m,h⟩:=h;exact h.read hd hl n p
end
end Go.Proofs.YtdlimghdimkadaaGreatDoor.PAll

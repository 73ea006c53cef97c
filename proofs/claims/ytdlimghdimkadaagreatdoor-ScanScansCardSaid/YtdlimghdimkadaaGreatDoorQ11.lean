/- Part 11 of what the law ScanScans rests on. -/
import Derived.Test.YtdlimghdimkadaaGreatDoorQ1
import Derived.Test.YtdlimghdimkadaaGreatDoorQ7
import Derived.RowKit
import Derived.Test.YtdlimghdimkadaaGreatDoorQ6
import Derived.Test.YtdlimghdimkadaaGreatDoorQ8
import Derived.Test.YtdlimghdimkadaaGreatDoorQ9
import Derived.Test.YtdlimghdimkadaaGreatDoorQ10
import Derived.LaidEql
import Derived.Stop.Asserts
import Derived.RowKitTokens
import Derived.BigQuiet
set_option maxRecDepth 100000
set_option maxHeartbeats 32000000
set_option linter.unusedSimpArgs false
set_option linter.unusedVariables false
namespace Go.Proofs.YtdlimghdimkadaaGreatDoor.PAll
open Go Go.RowKit YtdlimghdimkadaaGreatDoorW.PrintWords YtdlimghdimkadaaGreatDoorW.PrintLast YtdlimghdimkadaaGreatDoorW.PrintMore
attribute [local go_sem] qdS qdQ qeJ qeI qcV qcU qdR qdP
section
attribute [local go_sem] qdS qdQ qeJ qeI qcV qcU qdR qdP   
attribute [local go_sem high] vdV
def pumiceref07_older.l0:Nat→List (qpM)→Int→Int→Option (Bool)
 | 0,_,_,_=>none
 | k+1,x0,x1,x5=>if x5 < (x0.length:Int) then (if x5=x1 then (pumiceref07_older.l0 k x0 x1 (wrap64 (x5+1))) else (if 0≤x5 then (if ((qaQ x0 x5).f0)=4 then (if 0≤x1 then (if x1 < (x0.length:Int) then (if ((qaQ x0 x5).f2)=((qaQ x0 x1).f2) then (if ((qaQ x0 x5).f4) > ((qaQ x0 x1).f4) then (some true) else (if ((qaQ x0 x5).f4)=((qaQ x0 x1).f4) then (if x5 < x1 then (some true) else (pumiceref07_older.l0 k x0 x1 (wrap64 (x5+1)))) else (pumiceref07_older.l0 k x0 x1 (wrap64 (x5+1))))) else (pumiceref07_older.l0 k x0 x1 (wrap64 (x5+1)))) else (none)) else (none)) else (pumiceref07_older.l0 k x0 x1 (wrap64 (x5+1)))) else (none))) else (some false)
def pumiceref07_older.f (k:Nat) (l0:List (qpM)) (a1:Int):Option (Bool):=pumiceref07_older.l0 k l0 a1 0
theorem pumiceref07_older.calls (k:Nat) (A0:Option Addr) (c0:Nat) (l0:List (qpM)) (a1:Int) (r:Bool) (w:World) (hr0:Kd.C vbF w A0 l0.length l0) (hc0:l0.length≤c0) (h:pumiceref07_older.f k l0 a1=some r) :
  Calls Tryz.prog 75 #[.slice A0 l0.length c0,.int .i64 a1] w fun e w'=>e=.returned (.bool r)∧qaY w w':=by
 have HR0:=aM hr0;have HC0:=aM hc0;clear hr0 hc0;have H:(pumiceref07_older.l0 k l0 a1 0)=some r:=h;clear h;have H':=aM H;clear H;go_enter Tryz.func75,Tryz.ntmps75;go_wp2
 repeat (go_quiet (fail);try go_wp2)
 go_loopg [5] k (fun kq v5 w'=>∃ (x5_1:Int),v5=.int .i64 x5_1∧qaN (pumiceref07_older.l0 kq l0 a1 x5_1=some r)∧qaN (kq≤k)∧qaY w w');case atStart=>exact ⟨(0),(by first|rfl|(simp;done)|(simp [*];done)),H',⟨Nat.le_refl _⟩,by repeat (first|exact qaY.refl _|apply qaY.step)⟩
 case round =>
  clear H';try clear p2
  obtain ⟨x5_1,rfl,HA,HK1,⟨m1,rfl⟩⟩:=hrel
  cases gk with
  | zero=>exact absurd HA.out (by simp [pumiceref07_older.l0])
  | succ k1 =>
   have H:=HA.out;clear HA;simp only [pumiceref07_older.l0] at H
   by_cases c3:x5_1 < (l0.length:Int)
   ·rw [if_pos c3] at H;have c3b0:decide (x5_1 < (l0.length:Int))=true:=decide_eq_true c3;clear c3
    by_cases c4:x5_1=a1
    ·rw [if_pos c4] at H;have c4b0:(x5_1==a1)=true:=beq_iff_eq.mpr c4;have c4b1:(x5_1 != a1)=false:=bne_eq_false_iff_eq.mpr c4;clear c4;have H':=aM H;clear H;go_wp2
     repeat (go_quiet (fail);try go_wp2)
     go_roundg k1;case measure=>have:=HK1.out;omega
     case rel=>exact ⟨(wrap64 (x5_1+1)),(by first|rfl|(simp;done)|(simp [*];done)),H',⟨by have:=HK1.out;omega⟩,by repeat (first|exact qaY.refl _|apply qaY.step)⟩
    ·rw [if_neg c4] at H;have c4b0:(x5_1==a1)=false:=beq_eq_false_iff_ne.mpr c4;have c4b1:(x5_1 != a1)=true:=bne_iff_ne.mpr c4
     by_cases c5:0≤x5_1
     ·rw [if_pos c5] at H;have c5b0:decide (0≤x5_1)=true:=decide_eq_true c5;clear c5
      by_cases c6:((qaQ l0 x5_1).f0)=4
      ·rw [if_pos c6] at H;have c6b0:(((qaQ l0 x5_1).f0)==4)=true:=beq_iff_eq.mpr c6;have c6b1:(((qaQ l0 x5_1).f0) != 4)=false:=bne_eq_false_iff_eq.mpr c6;clear c6
       by_cases c7:0≤a1
       ·rw [if_pos c7] at H;have c7b0:decide (0≤a1)=true:=decide_eq_true c7;clear c7
        by_cases c8:a1 < (l0.length:Int)
        ·rw [if_pos c8] at H;have c8b0:decide (a1 < (l0.length:Int))=true:=decide_eq_true c8;clear c8
         by_cases c9:((qaQ l0 x5_1).f2)=((qaQ l0 a1).f2)
         ·rw [if_pos c9] at H;have c9b0:(((qaQ l0 x5_1).f2)==((qaQ l0 a1).f2))=true:=beq_iff_eq.mpr c9;have c9b1:(((qaQ l0 x5_1).f2) != ((qaQ l0 a1).f2))=false:=bne_eq_false_iff_eq.mpr c9;clear c9
          by_cases c10:((qaQ l0 x5_1).f4) > ((qaQ l0 a1).f4)
          ·rw [if_pos c10] at H;have c10b0:decide (((qaQ l0 a1).f4) < ((qaQ l0 x5_1).f4))=true:=decide_eq_true c10;clear c10;obtain rfl:=Option.some.inj H;have p271:0≤(x5_1:Int):=of_decide_eq_true (by first|(with_reducible assumption)|assumption);have q271:x5_1 < (l0.length:Int):=of_decide_eq_true (by first|(with_reducible assumption)|assumption);obtain ⟨ad271,e271,hx271_0,hx271_1,hx271_2,hx271_3,hx271_4,hx271_5⟩:=qbY HR0.out x5_1 p271 q271
           cases e271
           replace p271:=eq_true p271;replace q271:=eq_true q271;have p272:0≤(x5_1:Int):=of_decide_eq_true (by first|(with_reducible assumption)|assumption);have q272:x5_1 < (l0.length:Int):=of_decide_eq_true (by first|(with_reducible assumption)|assumption);obtain ⟨ad272,e272,hx272_0,hx272_1,hx272_2,hx272_3,hx272_4,hx272_5⟩:=qbY HR0.out x5_1 p272 q272
           obtain rfl:ad271=ad272:=(by injection e272)
           replace p272:=eq_true p272;replace q272:=eq_true q272;have p273:0≤(a1:Int):=of_decide_eq_true (by first|(with_reducible assumption)|assumption);have q273:a1 < (l0.length:Int):=of_decide_eq_true (by first|(with_reducible assumption)|assumption);obtain ⟨ad273,e273,hx273_0,hx273_1,hx273_2,hx273_3,hx273_4,hx273_5⟩:=qbY HR0.out a1 p273 q273
           obtain rfl:ad271=ad273:=(by injection e273)
           replace p273:=eq_true p273;replace q273:=eq_true q273;have p274:0≤(x5_1:Int):=of_decide_eq_true (by first|(with_reducible assumption)|assumption);have q274:x5_1 < (l0.length:Int):=of_decide_eq_true (by first|(with_reducible assumption)|assumption);obtain ⟨ad274,e274,hx274_0,hx274_1,hx274_2,hx274_3,hx274_4,hx274_5⟩:=qbY HR0.out x5_1 p274 q274
           obtain rfl:ad271=ad274:=(by injection e274)
           replace p274:=eq_true p274;replace q274:=eq_true q274;have p275:0≤(a1:Int):=of_decide_eq_true (by first|(with_reducible assumption)|assumption);have q275:a1 < (l0.length:Int):=of_decide_eq_true (by first|(with_reducible assumption)|assumption);obtain ⟨ad275,e275,hx275_0,hx275_1,hx275_2,hx275_3,hx275_4,hx275_5⟩:=qbY HR0.out a1 p275 q275
           obtain rfl:ad271=ad275:=(by injection e275)
           replace p275:=eq_true p275;replace q275:=eq_true q275;go_wp2
           repeat (go_quiet (fail);try go_wp2)
           go_ret;exact ⟨by first|rfl|(simp;done)|(simp [*];done),by repeat (first|exact qaY.refl _|apply qaY.step)⟩
          ·rw [if_neg c10] at H;have c10b0:decide (((qaQ l0 a1).f4) < ((qaQ l0 x5_1).f4))=false:=decide_eq_false c10;clear c10
           by_cases c11:((qaQ l0 x5_1).f4)=((qaQ l0 a1).f4)
           ·rw [if_pos c11] at H;have c11b0:(((qaQ l0 x5_1).f4)==((qaQ l0 a1).f4))=true:=beq_iff_eq.mpr c11;have c11b1:(((qaQ l0 x5_1).f4) != ((qaQ l0 a1).f4))=false:=bne_eq_false_iff_eq.mpr c11;clear c11
            by_cases c12:x5_1 < a1
            ·rw [if_pos c12] at H;have c12b0:decide (x5_1 < a1)=true:=decide_eq_true c12;clear c12;obtain rfl:=Option.some.inj H;have p271:0≤(x5_1:Int):=of_decide_eq_true (by first|(with_reducible assumption)|assumption);have q271:x5_1 < (l0.length:Int):=of_decide_eq_true (by first|(with_reducible assumption)|assumption);obtain ⟨ad271,e271,hx271_0,hx271_1,hx271_2,hx271_3,hx271_4,hx271_5⟩:=qbY HR0.out x5_1 p271 q271
             cases e271
             replace p271:=eq_true p271;replace q271:=eq_true q271;have p272:0≤(x5_1:Int):=of_decide_eq_true (by first|(with_reducible assumption)|assumption);have q272:x5_1 < (l0.length:Int):=of_decide_eq_true (by first|(with_reducible assumption)|assumption);obtain ⟨ad272,e272,hx272_0,hx272_1,hx272_2,hx272_3,hx272_4,hx272_5⟩:=qbY HR0.out x5_1 p272 q272
             obtain rfl:ad271=ad272:=(by injection e272)
             replace p272:=eq_true p272;replace q272:=eq_true q272;have p273:0≤(a1:Int):=of_decide_eq_true (by first|(with_reducible assumption)|assumption);have q273:a1 < (l0.length:Int):=of_decide_eq_true (by first|(with_reducible assumption)|assumption);obtain ⟨ad273,e273,hx273_0,hx273_1,hx273_2,hx273_3,hx273_4,hx273_5⟩:=qbY HR0.out a1 p273 q273
             obtain rfl:ad271=ad273:=(by injection e273)
             replace p273:=eq_true p273;replace q273:=eq_true q273;have p274:0≤(x5_1:Int):=of_decide_eq_true (by first|(with_reducible assumption)|assumption);have q274:x5_1 < (l0.length:Int):=of_decide_eq_true (by first|(with_reducible assumption)|assumption);obtain ⟨ad274,e274,hx274_0,hx274_1,hx274_2,hx274_3,hx274_4,hx274_5⟩:=qbY HR0.out x5_1 p274 q274
             obtain rfl:ad271=ad274:=(by injection e274)
             replace p274:=eq_true p274;replace q274:=eq_true q274;have p275:0≤(a1:Int):=of_decide_eq_true (by first|(with_reducible assumption)|assumption);have q275:a1 < (l0.length:Int):=of_decide_eq_true (by first|(with_reducible assumption)|assumption);obtain ⟨ad275,e275,hx275_0,hx275_1,hx275_2,hx275_3,hx275_4,hx275_5⟩:=qbY HR0.out a1 p275 q275
             obtain rfl:ad271=ad275:=(by injection e275)
             replace p275:=eq_true p275;replace q275:=eq_true q275;have p276:0≤(x5_1:Int):=of_decide_eq_true (by first|(with_reducible assumption)|assumption);have q276:x5_1 < (l0.length:Int):=of_decide_eq_true (by first|(with_reducible assumption)|assumption);obtain ⟨ad276,e276,hx276_0,hx276_1,hx276_2,hx276_3,hx276_4,hx276_5⟩:=qbY HR0.out x5_1 p276 q276
             obtain rfl:ad271=ad276:=(by injection e276)
             replace p276:=eq_true p276;replace q276:=eq_true q276;have p277:0≤(a1:Int):=of_decide_eq_true (by first|(with_reducible assumption)|assumption);have q277:a1 < (l0.length:Int):=of_decide_eq_true (by first|(with_reducible assumption)|assumption);obtain ⟨ad277,e277,hx277_0,hx277_1,hx277_2,hx277_3,hx277_4,hx277_5⟩:=qbY HR0.out a1 p277 q277
             obtain rfl:ad271=ad277:=(by injection e277)
             replace p277:=eq_true p277;replace q277:=eq_true q277;go_wp2
             repeat (go_quiet (fail);try go_wp2)
             go_ret;exact ⟨by first|rfl|(simp;done)|(simp [*];done),by repeat (first|exact qaY.refl _|apply qaY.step)⟩
            ·rw [if_neg c12] at H;have c12b0:decide (x5_1 < a1)=false:=decide_eq_false c12;clear c12;have H':=aM H;clear H;have p271:0≤(x5_1:Int):=of_decide_eq_true (by first|(with_reducible assumption)|assumption);have q271:x5_1 < (l0.length:Int):=of_decide_eq_true (by first|(with_reducible assumption)|assumption);obtain ⟨ad271,e271,hx271_0,hx271_1,hx271_2,hx271_3,hx271_4,hx271_5⟩:=qbY HR0.out x5_1 p271 q271
             cases e271
             replace p271:=eq_true p271;replace q271:=eq_true q271;have p272:0≤(x5_1:Int):=of_decide_eq_true (by first|(with_reducible assumption)|assumption);have q272:x5_1 < (l0.length:Int):=of_decide_eq_true (by first|(with_reducible assumption)|assumption);obtain ⟨ad272,e272,hx272_0,hx272_1,hx272_2,hx272_3,hx272_4,hx272_5⟩:=qbY HR0.out x5_1 p272 q272
             obtain rfl:ad271=ad272:=(by injection e272)
             replace p272:=eq_true p272;replace q272:=eq_true q272;have p273:0≤(a1:Int):=of_decide_eq_true (by first|(with_reducible assumption)|assumption);have q273:a1 < (l0.length:Int):=of_decide_eq_true (by first|(with_reducible assumption)|assumption);obtain ⟨ad273,e273,hx273_0,hx273_1,hx273_2,hx273_3,hx273_4,hx273_5⟩:=qbY HR0.out a1 p273 q273
             obtain rfl:ad271=ad273:=(by injection e273)
             replace p273:=eq_true p273;replace q273:=eq_true q273;have p274:0≤(x5_1:Int):=of_decide_eq_true (by first|(with_reducible assumption)|assumption);have q274:x5_1 < (l0.length:Int):=of_decide_eq_true (by first|(with_reducible assumption)|assumption);obtain ⟨ad274,e274,hx274_0,hx274_1,hx274_2,hx274_3,hx274_4,hx274_5⟩:=qbY HR0.out x5_1 p274 q274
             obtain rfl:ad271=ad274:=(by injection e274)
             replace p274:=eq_true p274;replace q274:=eq_true q274;have p275:0≤(a1:Int):=of_decide_eq_true (by first|(with_reducible assumption)|assumption);have q275:a1 < (l0.length:Int):=of_decide_eq_true (by first|(with_reducible assumption)|assumption);obtain ⟨ad275,e275,hx275_0,hx275_1,hx275_2,hx275_3,hx275_4,hx275_5⟩:=qbY HR0.out a1 p275 q275
             obtain rfl:ad271=ad275:=(by injection e275)
             replace p275:=eq_true p275;replace q275:=eq_true q275;have p276:0≤(x5_1:Int):=of_decide_eq_true (by first|(with_reducible assumption)|assumption);have q276:x5_1 < (l0.length:Int):=of_decide_eq_true (by first|(with_reducible assumption)|assumption);obtain ⟨ad276,e276,hx276_0,hx276_1,hx276_2,hx276_3,hx276_4,hx276_5⟩:=qbY HR0.out x5_1 p276 q276
             obtain rfl:ad271=ad276:=(by injection e276)
             replace p276:=eq_true p276;replace q276:=eq_true q276;have p277:0≤(a1:Int):=of_decide_eq_true (by first|(with_reducible assumption)|assumption);have q277:a1 < (l0.length:Int):=of_decide_eq_true (by first|(with_reducible assumption)|assumption);obtain ⟨ad277,e277,hx277_0,hx277_1,hx277_2,hx277_3,hx277_4,hx277_5⟩:=qbY HR0.out a1 p277 q277
             obtain rfl:ad271=ad277:=(by injection e277)
             replace p277:=eq_true p277;replace q277:=eq_true q277;go_wp2
             repeat (go_quiet (fail);try go_wp2)
             go_roundg k1;case measure=>have:=HK1.out;omega
             case rel=>exact ⟨(wrap64 (x5_1+1)),(by first|rfl|(simp;done)|(simp [*];done)),H',⟨by have:=HK1.out;omega⟩,by repeat (first|exact qaY.refl _|apply qaY.step)⟩
           ·rw [if_neg c11] at H;have c11b0:(((qaQ l0 x5_1).f4)==((qaQ l0 a1).f4))=false:=beq_eq_false_iff_ne.mpr c11;have c11b1:(((qaQ l0 x5_1).f4) != ((qaQ l0 a1).f4))=true:=bne_iff_ne.mpr c11;have H':=aM H;clear H;have p271:0≤(x5_1:Int):=of_decide_eq_true (by first|(with_reducible assumption)|assumption);have q271:x5_1 < (l0.length:Int):=of_decide_eq_true (by first|(with_reducible assumption)|assumption);obtain ⟨ad271,e271,hx271_0,hx271_1,hx271_2,hx271_3,hx271_4,hx271_5⟩:=qbY HR0.out x5_1 p271 q271
            cases e271
            replace p271:=eq_true p271;replace q271:=eq_true q271;have p272:0≤(x5_1:Int):=of_decide_eq_true (by first|(with_reducible assumption)|assumption);have q272:x5_1 < (l0.length:Int):=of_decide_eq_true (by first|(with_reducible assumption)|assumption);obtain ⟨ad272,e272,hx272_0,hx272_1,hx272_2,hx272_3,hx272_4,hx272_5⟩:=qbY HR0.out x5_1 p272 q272
            obtain rfl:ad271=ad272:=(by injection e272)
            replace p272:=eq_true p272;replace q272:=eq_true q272;have p273:0≤(a1:Int):=of_decide_eq_true (by first|(with_reducible assumption)|assumption);have q273:a1 < (l0.length:Int):=of_decide_eq_true (by first|(with_reducible assumption)|assumption);obtain ⟨ad273,e273,hx273_0,hx273_1,hx273_2,hx273_3,hx273_4,hx273_5⟩:=qbY HR0.out a1 p273 q273
            obtain rfl:ad271=ad273:=(by injection e273)
            replace p273:=eq_true p273;replace q273:=eq_true q273;have p274:0≤(x5_1:Int):=of_decide_eq_true (by first|(with_reducible assumption)|assumption);have q274:x5_1 < (l0.length:Int):=of_decide_eq_true (by first|(with_reducible assumption)|assumption);obtain ⟨ad274,e274,hx274_0,hx274_1,hx274_2,hx274_3,hx274_4,hx274_5⟩:=qbY HR0.out x5_1 p274 q274
            obtain rfl:ad271=ad274:=(by injection e274)
            replace p274:=eq_true p274;replace q274:=eq_true q274;have p275:0≤(a1:Int):=of_decide_eq_true (by first|(with_reducible assumption)|assumption);have q275:a1 < (l0.length:Int):=of_decide_eq_true (by first|(with_reducible assumption)|assumption);obtain ⟨ad275,e275,hx275_0,hx275_1,hx275_2,hx275_3,hx275_4,hx275_5⟩:=qbY HR0.out a1 p275 q275
            obtain rfl:ad271=ad275:=(by injection e275)
            replace p275:=eq_true p275;replace q275:=eq_true q275;have p276:0≤(x5_1:Int):=of_decide_eq_true (by first|(with_reducible assumption)|assumption);have q276:x5_1 < (l0.length:Int):=of_decide_eq_true (by first|(with_reducible assumption)|assumption);obtain ⟨ad276,e276,hx276_0,hx276_1,hx276_2,hx276_3,hx276_4,hx276_5⟩:=qbY HR0.out x5_1 p276 q276
            obtain rfl:ad271=ad276:=(by injection e276)
            replace p276:=eq_true p276;replace q276:=eq_true q276;have p277:0≤(a1:Int):=of_decide_eq_true (by first|(with_reducible assumption)|assumption);have q277:a1 < (l0.length:Int):=of_decide_eq_true (by first|(with_reducible assumption)|assumption);obtain ⟨ad277,e277,hx277_0,hx277_1,hx277_2,hx277_3,hx277_4,hx277_5⟩:=qbY HR0.out a1 p277 q277
            obtain rfl:ad271=ad277:=(by injection e277)
            replace p277:=eq_true p277;replace q277:=eq_true q277;go_wp2
            repeat (go_quiet (fail);try go_wp2)
            go_roundg k1;case measure=>have:=HK1.out;omega
            case rel=>exact ⟨(wrap64 (x5_1+1)),(by first|rfl|(simp;done)|(simp [*];done)),H',⟨by have:=HK1.out;omega⟩,by repeat (first|exact qaY.refl _|apply qaY.step)⟩
         ·rw [if_neg c9] at H;have c9b0:(((qaQ l0 x5_1).f2)==((qaQ l0 a1).f2))=false:=beq_eq_false_iff_ne.mpr c9;have c9b1:(((qaQ l0 x5_1).f2) != ((qaQ l0 a1).f2))=true:=bne_iff_ne.mpr c9;have H':=aM H;clear H;have p271:0≤(x5_1:Int):=of_decide_eq_true (by first|(with_reducible assumption)|assumption);have q271:x5_1 < (l0.length:Int):=of_decide_eq_true (by first|(with_reducible assumption)|assumption);obtain ⟨ad271,e271,hx271_0,hx271_1,hx271_2,hx271_3,hx271_4,hx271_5⟩:=qbY HR0.out x5_1 p271 q271
          cases e271
          replace p271:=eq_true p271;replace q271:=eq_true q271;have p272:0≤(x5_1:Int):=of_decide_eq_true (by first|(with_reducible assumption)|assumption);have q272:x5_1 < (l0.length:Int):=of_decide_eq_true (by first|(with_reducible assumption)|assumption);obtain ⟨ad272,e272,hx272_0,hx272_1,hx272_2,hx272_3,hx272_4,hx272_5⟩:=qbY HR0.out x5_1 p272 q272
          obtain rfl:ad271=ad272:=(by injection e272)
          replace p272:=eq_true p272;replace q272:=eq_true q272;have p273:0≤(a1:Int):=of_decide_eq_true (by first|(with_reducible assumption)|assumption);have q273:a1 < (l0.length:Int):=of_decide_eq_true (by first|(with_reducible assumption)|assumption);obtain ⟨ad273,e273,hx273_0,hx273_1,hx273_2,hx273_3,hx273_4,hx273_5⟩:=qbY HR0.out a1 p273 q273
          obtain rfl:ad271=ad273:=(by injection e273)
          replace p273:=eq_true p273;replace q273:=eq_true q273;go_wp2
          repeat (go_quiet (fail);try go_wp2)
          go_roundg k1;case measure=>have:=HK1.out;omega
          case rel=>exact ⟨(wrap64 (x5_1+1)),(by first|rfl|(simp;done)|(simp [*];done)),H',⟨by have:=HK1.out;omega⟩,by repeat (first|exact qaY.refl _|apply qaY.step)⟩
        ·rw [if_neg c8] at H;exact absurd H (by simp)
       ·rw [if_neg c7] at H;exact absurd H (by simp)
      ·rw [if_neg c6] at H;have c6b0:(((qaQ l0 x5_1).f0)==4)=false:=beq_eq_false_iff_ne.mpr c6;have c6b1:(((qaQ l0 x5_1).f0) != 4)=true:=bne_iff_ne.mpr c6;have H':=aM H;clear H;have p271:0≤(x5_1:Int):=of_decide_eq_true (by first|(with_reducible assumption)|assumption);have q271:x5_1 < (l0.length:Int):=of_decide_eq_true (by first|(with_reducible assumption)|assumption);obtain ⟨ad271,e271,hx271_0,hx271_1,hx271_2,hx271_3,hx271_4,hx271_5⟩:=qbY HR0.out x5_1 p271 q271
       cases e271
       replace p271:=eq_true p271;replace q271:=eq_true q271;go_wp2
       repeat (go_quiet (fail);try go_wp2)
       go_roundg k1;case measure=>have:=HK1.out;omega
       case rel=>exact ⟨(wrap64 (x5_1+1)),(by first|rfl|(simp;done)|(simp [*];done)),H',⟨by have:=HK1.out;omega⟩,by repeat (first|exact qaY.refl _|apply qaY.step)⟩
     ·rw [if_neg c5] at H;exact absurd H (by simp)
   ·rw [if_neg c3] at H;have c3b0:decide (x5_1 < (l0.length:Int))=false:=decide_eq_false c3;clear c3;obtain rfl:=Option.some.inj H;go_wp2
    repeat (go_quiet (fail);try go_wp2)
    go_ret;exact ⟨by first|rfl|(simp;done)|(simp [*];done),by repeat (first|exact qaY.refl _|apply qaY.step)⟩
def pumicelaw07_Own.l0:Nat→List (qpM)→List (S68)→Int→Option ((List (S68)))
 | 0,_,_,_=>none
 | k+1,x0,x3,x4=>if x4 < (x0.length:Int) then (if 0≤x4 then (if x3.length < 2932031007402 then (pumicelaw07_Own.l0 k x0 (x3 ++ [(⟨(qaQ x0 x4).f0,(qaQ x0 x4).f1,(qaQ x0 x4).f2,(qaQ x0 x4).f3,(qaQ x0 x4).f4,(qaQ x0 x4).f5⟩:S68)]) (wrap64 (x4+1))) else (none)) else (none)) else (some x3)
def pumicelaw07_Own.f (k:Nat) (l0:List (qpM)):Option ((List (S68))):=pumicelaw07_Own.l0 k l0 ([]:List (S68)) 0
theorem pumicelaw07_Own.calls (k:Nat) (A0:Option Addr) (c0:Nat) (l0:List (qpM)) (r:List (S68)) (w:World) (hr0:Kd.C vbF w A0 l0.length l0) (hc0:l0.length≤c0) (h:pumicelaw07_Own.f k l0=some r) :
  Calls Tryz.prog 76 #[.slice A0 l0.length c0] w fun e w'=>∃ v0_:Value,e=.returned (v0_)∧Kd.R k68 68 w' w.heap.size (fun _=>True) v0_ r∧Below w.heap.size w w':=by
 have hu122:=Tryz.underlying122;have hu68:=Tryz.underlying68;have HR0:=aM hr0;have HC0:=aM hc0;clear hr0 hc0;have HB:=aM (Below.refl w.heap.size w);have H:(pumicelaw07_Own.l0 k l0 ([]:List (S68)) 0)=some r:=h;clear h;have H':=aM H;clear H;go_enter Tryz.func76,Tryz.ntmps76;go_wp2;go_loopg [3,4] k (fun kq v3 v4 w'=>∃ (x3_1:List (S68)) (x4_1:Int),v4=.int .i64 x4_1∧qaN (pumicelaw07_Own.l0 kq l0 x3_1 x4_1=some r)∧qaN (kq≤k)∧qaN (Kd.R k68 68 w' w.heap.size (fun _=>True) v3 x3_1)∧qaN (Below w.heap.size w w'));case atStart=>exact ⟨(([]:List (S68))),(0),(by first|rfl|(simp;done)|(simp [*];done)),H',⟨Nat.le_refl _⟩,⟨by first|exact Kd.R_nil _ _ _ _ _|exact Kd.N_nil _ _ _ _ _|exact Kd.V_nil _ _ _ _ _|exact Kd.Q_nil _ _ _ _ _|exact Kd.S_nil _ _ _ _ _⟩,⟨by repeat (first|(with_reducible first|exact HB.out|apply qaA|apply qaB|apply qaD)|exact HB.out)⟩⟩
 case round =>
  clear H';obtain ⟨x3_1,x4_1,rfl,HA,HK1,HO_3,HB⟩:=hrel
  cases gk with
  | zero=>exact absurd HA.out (by simp [pumicelaw07_Own.l0])
  | succ k1 =>
   have H:=HA.out;clear HA;simp only [pumicelaw07_Own.l0] at H
   by_cases c2:x4_1 < (l0.length:Int)
   ·rw [if_pos c2] at H;have c2b0:decide (x4_1 < (l0.length:Int))=true:=decide_eq_true c2;clear c2
    by_cases c3:0≤x4_1
    ·rw [if_pos c3] at H;have c3b0:decide (0≤x4_1)=true:=decide_eq_true c3;clear c3
     by_cases c4:x3_1.length < 2932031007402
     ·rw [if_pos c4] at H;have LMc4:=aM c4;clear c4
      obtain ⟨y280,hy280⟩:∃ y_:List (S68),y_=(x3_1 ++ [(⟨(qaQ l0 x4_1).f0,(qaQ l0 x4_1).f1,(qaQ l0 x4_1).f2,(qaQ l0 x4_1).f3,(qaQ l0 x4_1).f4,(qaQ l0 x4_1).f5⟩:S68)]):=⟨_,rfl⟩
      replace H:(pumicelaw07_Own.l0 k1 l0 y280 (wrap64 (x4_1+1)))=some r:=by first|(rw [hy280];with_reducible exact H)|(have H2_:=(Option.bind_some _ _).symm.trans H;rw [hy280];with_reducible exact H2_)|(have H2_:=(Option.bind_some _ _).symm.trans H;with_reducible exact H2_)|with_reducible exact H|(rw [hy280];exact H)|exact H
      have Ny280:=aM hy280;clear hy280;have H':=aM H;clear H;have p278:0≤(x4_1:Int):=of_decide_eq_true (by first|(with_reducible assumption)|assumption);have q278:x4_1 < (l0.length:Int):=of_decide_eq_true (by first|(with_reducible assumption)|assumption);obtain ⟨ad278,e278,hx278_0,hx278_1,hx278_2,hx278_3,hx278_4,hx278_5⟩:=qbY HR0.out x4_1 p278 q278
      cases e278
      replace hx278_0:=(HB.out.cell (World.block_lt_of_cell? w _ hx278_0)).trans hx278_0;replace hx278_1:=(HB.out.cell (World.block_lt_of_cell? w _ hx278_1)).trans hx278_1;replace hx278_2:=(HB.out.cell (World.block_lt_of_cell? w _ hx278_2)).trans hx278_2;replace hx278_3:=(HB.out.cell (World.block_lt_of_cell? w _ hx278_3)).trans hx278_3;replace hx278_4:=(HB.out.cell (World.block_lt_of_cell? w _ hx278_4)).trans hx278_4;replace hx278_5:=(HB.out.cell (World.block_lt_of_cell? w _ hx278_5)).trans hx278_5;replace p278:=eq_true p278;replace q278:=eq_true q278;go_wp2_with (first|((with_reducible refine qbM (N:=5) rfl ?_);refine qbU ?hg (N:=5) ?hd (cs:=#[.int .i64 0,.int .i64 0,.int .i64 0,.int .i64 0,.int .u64 0,.bool false]) (t:=122) ?hr ?_;(case hd=>rfl);(case hg=>rfl);(case hr=>first|(go_simp;done)|(go_simp;rfl));intro gb279 hg w5 hbox hb;have n0_:=aM (Kd.R_below (by (with_reducible repeat (first|apply Kd.R_alloc|apply Kd.R_drewN|apply Kd.R_drew));exact HO_3.out) hb);have n1_:=aM (qaF (by repeat (first|(with_reducible first|exact HB.out|apply qaA|apply qaB|apply qaD)|exact HB.out)) hb);have n2_:=aM (hbox);have n3_:=aM ((by rw [hg];exact (qaG (by repeat (first|(with_reducible first|exact HB.out|apply qaA|apply qaB|apply qaD)|exact HB.out))):w.heap.size≤gb279));have n4_:=aM ((by rw [hg];exact (qaG (by repeat (first|(with_reducible first|exact HB.out|apply qaA|apply qaB|apply qaD)|exact HB.out))):w.heap.size≤gb279));clear HO_3;clear HB;have HO_3:=n0_;have HB:=n1_;have BK279:=n2_;have GW279:=n3_;have GE279:=n4_;clear n0_ n1_ n2_ n3_ n4_;clear hb hbox hg;have hcz6_0:w5.cell? ⟨gb279,0,none⟩=some (.int .i64 0):=(qaJ BK279.out 0).trans rfl;have hcz6_1:w5.cell? ⟨gb279,1,none⟩=some (.int .i64 0):=(qaJ BK279.out 1).trans rfl;have hcz6_2:w5.cell? ⟨gb279,2,none⟩=some (.int .i64 0):=(qaJ BK279.out 2).trans rfl;have hcz6_3:w5.cell? ⟨gb279,3,none⟩=some (.int .i64 0):=(qaJ BK279.out 3).trans rfl;have hcz6_4:w5.cell? ⟨gb279,4,none⟩=some (.int .u64 0):=(qaJ BK279.out 4).trans rfl;have hcz6_5:w5.cell? ⟨gb279,5,none⟩=some (.bool false):=(qaJ BK279.out 5).trans rfl;have hfz6_0:=qaC BK279.out 0;have hfz6_1:=qaC BK279.out 1;have hfz6_2:=qaC BK279.out 2;have hfz6_3:=qaC BK279.out 3;have hfz6_4:=qaC BK279.out 4;have hfz6_5:=qaC BK279.out 5)|((with_reducible refine qbC (b:=.append) (xs:=#[.tmp 16,.tmp 30]) rfl ?_);at_builtin;refine Kd.R_append k68 (w0:=w) w.heap.size rfl (.tmp 16) (.tmp 30) 40 68 (.agg #[(.int .i64 0),(.int .i64 0),(.int .i64 0),(.int .i64 0),(.int .u64 0),(.bool false)]) 48 rfl Tryz.underlying40 qzM rfl (by decide) (by omega) u3 x3_1 (⟨(qaQ l0 x4_1).f0,(qaQ l0 x4_1).f1,(qaQ l0 x4_1).f2,(qaQ l0 x4_1).f3,(qaQ l0 x4_1).f4,(qaQ l0 x4_1).f5⟩:S68) [.int .i64 ((qaQ l0 x4_1).f0),.int .i64 ((qaQ l0 x4_1).f1),.int .i64 ((qaQ l0 x4_1).f2),.int .i64 ((qaQ l0 x4_1).f3),.int .u64 ((qaQ l0 x4_1).f4),.bool ((qaQ l0 x4_1).f5)] (fun _=>True) (fun _=>False) rfl (by first|(go_simp;done)|(go_simp;rfl)) ?aP (fun _ hk=>hk.elim) ?aF ?aO ?aB ?aS ?aL ?_;(case aP=>exact qqG _ _ _ (⟨(qaQ l0 x4_1).f0,(qaQ l0 x4_1).f1,(qaQ l0 x4_1).f2,(qaQ l0 x4_1).f3,(qaQ l0 x4_1).f4,(qaQ l0 x4_1).f5⟩:S68));(case aB=>exact (by repeat (first|(with_reducible first|exact HB.out|apply qaA|apply qaB|apply qaD|refine qaH ?_ GE279.out)|exact HB.out)));(case aF=>exact (fun _ _=>trivial));(case aO=>exact (by (with_reducible repeat (first|apply Kd.R_alloc|apply Kd.R_drewN|apply Kd.R_drew));exact Kd.R_mono (Kd.R_far (p:=⟨gb279,5,none⟩) (Kd.R_far (p:=⟨gb279,4,none⟩) (Kd.R_far (p:=⟨gb279,3,none⟩) (Kd.R_far (p:=⟨gb279,2,none⟩) (Kd.R_far (p:=⟨gb279,1,none⟩) (Kd.R_far (p:=⟨gb279,0,none⟩) (Kd.R_types HO_3.out BK279.out (by decide)) (fun _ hk=>hk.2) (.int .i64 ((qaQ l0 x4_1).f0))) (fun _ hk=>hk.2) (.int .i64 ((qaQ l0 x4_1).f1))) (fun _ hk=>hk.2) (.int .i64 ((qaQ l0 x4_1).f2))) (fun _ hk=>hk.2) (.int .i64 ((qaQ l0 x4_1).f3))) (fun _ hk=>hk.2) (.int .u64 ((qaQ l0 x4_1).f4))) (fun _ hk=>hk.2) (.bool ((qaQ l0 x4_1).f5))) (fun _ hk=>trivial)));(case aS=>exact (qaG (by repeat (first|(with_reducible first|exact HB.out|apply qaA|apply qaB|apply qaD|refine qaH ?_ GE279.out)|exact HB.out))));(case aL=>have:=LMc4.out;omega);intro v281 w7 ho hb hg hat;rw [← Ny280.out] at ho;have n0_:=aM (qcX (g:=gb279) (o:=.cells #[.int .i64 ((qaQ l0 x4_1).f0),.int .i64 ((qaQ l0 x4_1).f1),.int .i64 ((qaQ l0 x4_1).f2),.int .i64 ((qaQ l0 x4_1).f3),.int .u64 ((qaQ l0 x4_1).f4),.bool ((qaQ l0 x4_1).f5)] 122 (0,0)) (by (with_reducible repeat (first|refine qaK ?_ _|refine qaM ?_|refine qaI ?_ _));refine qaU (cs:=#[.int .i64 ((qaQ l0 x4_1).f0),.int .i64 ((qaQ l0 x4_1).f1),.int .i64 ((qaQ l0 x4_1).f2),.int .i64 ((qaQ l0 x4_1).f3),.int .u64 ((qaQ l0 x4_1).f4),.bool false]) ?_ 5 _ rfl;(with_reducible repeat (first|refine qaK ?_ _|refine qaM ?_|refine qaI ?_ _));refine qaU (cs:=#[.int .i64 ((qaQ l0 x4_1).f0),.int .i64 ((qaQ l0 x4_1).f1),.int .i64 ((qaQ l0 x4_1).f2),.int .i64 ((qaQ l0 x4_1).f3),.int .u64 0,.bool false]) ?_ 4 _ rfl;(with_reducible repeat (first|refine qaK ?_ _|refine qaM ?_|refine qaI ?_ _));refine qaU (cs:=#[.int .i64 ((qaQ l0 x4_1).f0),.int .i64 ((qaQ l0 x4_1).f1),.int .i64 ((qaQ l0 x4_1).f2),.int .i64 0,.int .u64 0,.bool false]) ?_ 3 _ rfl;(with_reducible repeat (first|refine qaK ?_ _|refine qaM ?_|refine qaI ?_ _));refine qaU (cs:=#[.int .i64 ((qaQ l0 x4_1).f0),.int .i64 ((qaQ l0 x4_1).f1),.int .i64 0,.int .i64 0,.int .u64 0,.bool false]) ?_ 2 _ rfl;(with_reducible repeat (first|refine qaK ?_ _|refine qaM ?_|refine qaI ?_ _));refine qaU (cs:=#[.int .i64 ((qaQ l0 x4_1).f0),.int .i64 0,.int .i64 0,.int .i64 0,.int .u64 0,.bool false]) ?_ 1 _ rfl;(with_reducible repeat (first|refine qaK ?_ _|refine qaM ?_|refine qaI ?_ _));refine qaU (cs:=#[.int .i64 0,.int .i64 0,.int .i64 0,.int .i64 0,.int .u64 0,.bool false]) ?_ 0 _ rfl;(with_reducible repeat (first|refine qaK ?_ _|refine qaM ?_|refine qaI ?_ _));exact BK279.out) hg (Kd.R_ne HO_3.out BK279.out (by decide)));have n1_:=aM (hb);have n2_:=aM (ho);clear BK279;clear HB;clear HO_3;have BK279:=n0_;have HB:=n1_;have HO282:=n2_;clear n0_ n1_ n2_;clear ho hb hg hat))
      go_roundg k1;case measure=>have:=HK1.out;omega
      case rel=>exact ⟨(y280),(wrap64 (x4_1+1)),(by first|rfl|(simp;done)|(simp [*];done)),H',⟨by have:=HK1.out;omega⟩,⟨by (with_reducible repeat (first|apply Kd.R_alloc|apply Kd.R_drewN|apply Kd.R_drew));exact HO282.out⟩,⟨by repeat (first|(with_reducible first|exact HB.out|apply qaA|apply qaB|apply qaD|refine qaH ?_ GE279.out)|exact HB.out)⟩⟩
     ·rw [if_neg c4] at H;exact absurd H (by simp)
    ·rw [if_neg c3] at H;exact absurd H (by simp)
   ·rw [if_neg c2] at H;have c2b0:decide (x4_1 < (l0.length:Int))=false:=decide_eq_false c2;clear c2;obtain rfl:=Option.some.inj H;go_wp2;go_ret;exact ⟨_,by first|rfl|(simp [errW_none,errW_some] <;> rfl)|(simp [*,errW_none,errW_some] <;> rfl),by (with_reducible repeat (first|apply Kd.R_alloc|apply Kd.R_drewN|apply Kd.R_drew));exact HO_3.out,by repeat (first|(with_reducible first|exact HB.out|apply qaA|apply qaB|apply qaD)|exact HB.out)⟩
def pumicelaw07_same.l0:Nat→List (S68)→List (S68)→Int→Option (Bool)
 | 0,_,_,_=>none
 | k+1,x0,x5,x6=>if x6 < (x0.length:Int) then (if 0≤x6 then (if x6 < (x5.length:Int) then (if (!(((qbK x0 x6).f0)==((qbK x5 x6).f0)) || (!(((qbK x0 x6).f1)==((qbK x5 x6).f1)) || (!(((qbK x0 x6).f2)==((qbK x5 x6).f2)) || (!(((qbK x0 x6).f3)==((qbK x5 x6).f3)) || (!(((qbK x0 x6).f4)==((qbK x5 x6).f4)) || (!(((qbK x0 x6).f5)==((qbK x5 x6).f5))))))))=true then (some false) else (pumicelaw07_same.l0 k x0 x5 (wrap64 (x6+1)))) else (none)) else (none)) else (some true)
def pumicelaw07_same.f (k:Nat) (l0:List (S68)) (l1:List (qpM)):Option (Bool):=if (l0.length:Int)=(l1.length:Int) then ((pumicelaw07_Own.f k l1).bind fun t283=>(pumicelaw07_same.l0 k l0 t283 0)) else (some false)
theorem pumicelaw07_same.calls (k:Nat) (A0:Option Addr) (c0:Nat) (l0:List (S68)) (A1:Option Addr) (c1:Nat) (l1:List (qpM)) (r:Bool) (w:World) (hr0:Kd.C k68 w A0 l0.length l0) (hc0:l0.length≤c0) (hr1:Kd.C vbF w A1 l1.length l1) (hc1:l1.length≤c1) (h:pumicelaw07_same.f k l0 l1=some r) :
  Calls Tryz.prog 20 #[.slice A0 l0.length c0,.slice A1 l1.length c1] w fun e w'=>e=.returned (.bool r)∧Below w.heap.size w w':=by
 have hu68:=Tryz.underlying68;have HR0:=aM hr0;have HC0:=aM hc0;clear hr0 hc0;have HR1:=aM hr1;have HC1:=aM hc1;clear hr1 hc1;have HB:=aM (Below.refl w.heap.size w);have H:(if (l0.length:Int)=(l1.length:Int) then ((pumicelaw07_Own.f k l1).bind fun t283=>(pumicelaw07_same.l0 k l0 t283 0)) else (some false))=some r:=h;clear h
 by_cases c3:(l0.length:Int)=(l1.length:Int)
 ·rw [if_pos c3] at H;have c3b0:((l0.length:Int)==(l1.length:Int))=true:=beq_iff_eq.mpr c3;have c3b1:((l0.length:Int) != (l1.length:Int))=false:=bne_eq_false_iff_eq.mpr c3
  have c3b2:(l0.length==l1.length)=true:=by first|simpa using c3|(simp at c3 ⊢;omega)
  clear c3;replace H:=Option.bind_eq_some_iff.mp H;obtain ⟨t283,A40,H⟩:=H;replace H:(pumicelaw07_same.l0 k l0 t283 0)=some r:=H;have A4:=aM A40;clear A40;have H':=aM H;clear H;go_enter Tryz.func20,Tryz.ntmps20;go_wp2_with (first|(go_at_call 76;(with_reducible refine (pumicelaw07_Own.calls k _ _ l1 t283 _ ?side1 ?side2 A4.out).mono ?_);(case side1=>repeat (first|exact HR1.out|(with_reducible refine Kd.C_alloc ?_ _)|(with_reducible refine Kd.C_drewN ?_ _)|(with_reducible refine Kd.C_drew ?_)));(case side2=>exact HC1.out);rintro e w5 ⟨v284,rfl,ho0,hb⟩;have n0_:=aM (Kd.R_lower ho0 (qaG (by repeat (first|(with_reducible first|exact HB.out|apply qaA|apply qaB|apply qaD)|exact HB.out))));have n1_:=aM (qaF (by repeat (first|(with_reducible first|exact HB.out|apply qaA|apply qaB|apply qaD)|exact HB.out)) hb);clear HB;have HO285:=n0_;have HB:=n1_;clear n0_ n1_;(try clear hb);(try clear hb2);(try clear hk);(try clear hi);(try clear ho0)))
  repeat (go_quiet (first|(go_at_call 76;(with_reducible refine (pumicelaw07_Own.calls k _ _ l1 t283 _ ?side1 ?side2 A4.out).mono ?_);(case side1=>repeat (first|exact HR1.out|(with_reducible refine Kd.C_alloc ?_ _)|(with_reducible refine Kd.C_drewN ?_ _)|(with_reducible refine Kd.C_drew ?_)));(case side2=>exact HC1.out);rintro e w5 ⟨v284,rfl,ho0,hb⟩;have n0_:=aM (Kd.R_lower ho0 (qaG (by repeat (first|(with_reducible first|exact HB.out|apply qaA|apply qaB|apply qaD)|exact HB.out))));have n1_:=aM (qaF (by repeat (first|(with_reducible first|exact HB.out|apply qaA|apply qaB|apply qaD)|exact HB.out)) hb);clear HB;have HO285:=n0_;have HB:=n1_;clear n0_ n1_;(try clear hb);(try clear hb2);(try clear hk);(try clear hi);(try clear ho0)));try go_wp2_with (first|(go_at_call 76;(with_reducible refine (pumicelaw07_Own.calls k _ _ l1 t283 _ ?side1 ?side2 A4.out).mono ?_);(case side1=>repeat (first|exact HR1.out|(with_reducible refine Kd.C_alloc ?_ _)|(with_reducible refine Kd.C_drewN ?_ _)|(with_reducible refine Kd.C_drew ?_)));(case side2=>exact HC1.out);rintro e w5 ⟨v284,rfl,ho0,hb⟩;have n0_:=aM (Kd.R_lower ho0 (qaG (by repeat (first|(with_reducible first|exact HB.out|apply qaA|apply qaB|apply qaD)|exact HB.out))));have n1_:=aM (qaF (by repeat (first|(with_reducible first|exact HB.out|apply qaA|apply qaB|apply qaD)|exact HB.out)) hb);clear HB;have HO285:=n0_;have HB:=n1_;clear n0_ n1_;(try clear hb);(try clear hb2);(try clear hk);(try clear hi);(try clear ho0))))
  go_loopg [6] k (fun kq v6 w'=>∃ (x6_1:Int),v6=.int .i64 x6_1∧qaN (pumicelaw07_same.l0 kq l0 t283 x6_1=some r)∧qaN (kq≤k)∧qaN (Kd.R k68 68 w' w.heap.size (fun _=>True) v284 t283)∧qaN (Below w.heap.size w w'));case atStart=>exact ⟨(0),(by first|rfl|(simp;done)|(simp [*];done)),H',⟨Nat.le_refl _⟩,⟨by (with_reducible repeat (first|apply Kd.R_alloc|apply Kd.R_drewN|apply Kd.R_drew));exact HO285.out⟩,⟨by repeat (first|(with_reducible first|exact HB.out|apply qaA|apply qaB|apply qaD)|exact HB.out)⟩⟩
  case round =>
   clear H';try clear c1
   try clear c2
   try clear p2
   try clear c3
   try clear c3b0
   try clear c3b1
   try clear c3b2
   obtain ⟨x6_1,rfl,HA,HK1,HO_5,HB⟩:=hrel
   cases gk with
   | zero=>exact absurd HA.out (by simp [pumicelaw07_same.l0])
   | succ k1 =>
    have H:=HA.out;clear HA;simp only [pumicelaw07_same.l0] at H
    by_cases c6:x6_1 < (l0.length:Int)
    ·rw [if_pos c6] at H;have c6b0:decide (x6_1 < (l0.length:Int))=true:=decide_eq_true c6;clear c6
     by_cases c7:0≤x6_1
     ·rw [if_pos c7] at H;have c7b0:decide (0≤x6_1)=true:=decide_eq_true c7;clear c7
      by_cases c8:x6_1 < (t283.length:Int)
      ·rw [if_pos c8] at H;have c8b0:decide (x6_1 < (t283.length:Int))=true:=decide_eq_true c8;clear c8
       by_cases c9:(!(((qbK l0 x6_1).f0)==((qbK t283 x6_1).f0)) || (!(((qbK l0 x6_1).f1)==((qbK t283 x6_1).f1)) || (!(((qbK l0 x6_1).f2)==((qbK t283 x6_1).f2)) || (!(((qbK l0 x6_1).f3)==((qbK t283 x6_1).f3)) || (!(((qbK l0 x6_1).f4)==((qbK t283 x6_1).f4)) || (!(((qbK l0 x6_1).f5)==((qbK t283 x6_1).f5))))))))=true
       ·rw [if_pos c9] at H;have c9b0:(!(((qbK l0 x6_1).f0)==((qbK t283 x6_1).f0)) || (!(((qbK l0 x6_1).f1)==((qbK t283 x6_1).f1)) || (!(((qbK l0 x6_1).f2)==((qbK t283 x6_1).f2)) || (!(((qbK l0 x6_1).f3)==((qbK t283 x6_1).f3)) || (!(((qbK l0 x6_1).f4)==((qbK t283 x6_1).f4)) || (!(((qbK l0 x6_1).f5)==((qbK t283 x6_1).f5))))))))=true:=c9;clear c9;obtain rfl:=Option.some.inj H;have p286:0≤(x6_1:Int):=of_decide_eq_true (by first|(with_reducible assumption)|assumption);have q286:x6_1 < (l0.length:Int):=of_decide_eq_true (by first|(with_reducible assumption)|assumption);obtain ⟨ad286,e286,hx286_0,hx286_1,hx286_2,hx286_3,hx286_4,hx286_5⟩:=qkX HR0.out x6_1 p286 q286
        cases e286
        replace hx286_0:=(HB.out.cell (World.block_lt_of_cell? w _ hx286_0)).trans hx286_0;replace hx286_1:=(HB.out.cell (World.block_lt_of_cell? w _ hx286_1)).trans hx286_1;replace hx286_2:=(HB.out.cell (World.block_lt_of_cell? w _ hx286_2)).trans hx286_2;replace hx286_3:=(HB.out.cell (World.block_lt_of_cell? w _ hx286_3)).trans hx286_3;replace hx286_4:=(HB.out.cell (World.block_lt_of_cell? w _ hx286_4)).trans hx286_4;replace hx286_5:=(HB.out.cell (World.block_lt_of_cell? w _ hx286_5)).trans hx286_5;replace p286:=eq_true p286;replace q286:=eq_true q286;obtain ⟨Ao10,co10,eo10⟩:=Kd.R_slice HO_5.out;subst eo10;have p287:0≤(x6_1:Int):=of_decide_eq_true (by first|(with_reducible assumption)|assumption);have q287:x6_1 < (t283.length:Int):=of_decide_eq_true (by first|(with_reducible assumption)|assumption);obtain ⟨ad287,e287,hx287_0,hx287_1,hx287_2,hx287_3,hx287_4,hx287_5⟩:=qkX (Kd.R_reads' HO_5.out).2.2 x6_1 p287 q287
        cases e287
        replace p287:=eq_true p287;replace q287:=eq_true q287;go_wp2
        repeat (go_quiet (fail);try go_wp2)
        go_ret;exact ⟨by first|rfl|(simp [errW_none,errW_some] <;> rfl)|(simp [*,errW_none,errW_some] <;> rfl),by repeat (first|(with_reducible first|exact HB.out|apply qaA|apply qaB|apply qaD)|exact HB.out)⟩
       ·rw [if_neg c9] at H;have c9b0:(!(((qbK l0 x6_1).f0)==((qbK t283 x6_1).f0)) || (!(((qbK l0 x6_1).f1)==((qbK t283 x6_1).f1)) || (!(((qbK l0 x6_1).f2)==((qbK t283 x6_1).f2)) || (!(((qbK l0 x6_1).f3)==((qbK t283 x6_1).f3)) || (!(((qbK l0 x6_1).f4)==((qbK t283 x6_1).f4)) || (!(((qbK l0 x6_1).f5)==((qbK t283 x6_1).f5))))))))=false:=by simpa using c9
        clear c9;have H':=aM H;clear H;have p286:0≤(x6_1:Int):=of_decide_eq_true (by first|(with_reducible assumption)|assumption);have q286:x6_1 < (l0.length:Int):=of_decide_eq_true (by first|(with_reducible assumption)|assumption);obtain ⟨ad286,e286,hx286_0,hx286_1,hx286_2,hx286_3,hx286_4,hx286_5⟩:=qkX HR0.out x6_1 p286 q286
        cases e286
        replace hx286_0:=(HB.out.cell (World.block_lt_of_cell? w _ hx286_0)).trans hx286_0;replace hx286_1:=(HB.out.cell (World.block_lt_of_cell? w _ hx286_1)).trans hx286_1;replace hx286_2:=(HB.out.cell (World.block_lt_of_cell? w _ hx286_2)).trans hx286_2;replace hx286_3:=(HB.out.cell (World.block_lt_of_cell? w _ hx286_3)).trans hx286_3;replace hx286_4:=(HB.out.cell (World.block_lt_of_cell? w _ hx286_4)).trans hx286_4;replace hx286_5:=(HB.out.cell (World.block_lt_of_cell? w _ hx286_5)).trans hx286_5;replace p286:=eq_true p286;replace q286:=eq_true q286;obtain ⟨Ao11,co11,eo11⟩:=Kd.R_slice HO_5.out;subst eo11;have p287:0≤(x6_1:Int):=of_decide_eq_true (by first|(with_reducible assumption)|assumption);have q287:x6_1 < (t283.length:Int):=of_decide_eq_true (by first|(with_reducible assumption)|assumption);obtain ⟨ad287,e287,hx287_0,hx287_1,hx287_2,hx287_3,hx287_4,hx287_5⟩:=qkX (Kd.R_reads' HO_5.out).2.2 x6_1 p287 q287
        cases e287
        replace p287:=eq_true p287;replace q287:=eq_true q287;go_wp2
        repeat (go_quiet (fail);try go_wp2)
        go_roundg k1;case measure=>have:=HK1.out;omega
        case rel=>exact ⟨(wrap64 (x6_1+1)),(by first|rfl|(simp;done)|(simp [*];done)),H',⟨by have:=HK1.out;omega⟩,⟨by (with_reducible repeat (first|apply Kd.R_alloc|apply Kd.R_drewN|apply Kd.R_drew));exact HO_5.out⟩,⟨by repeat (first|(with_reducible first|exact HB.out|apply qaA|apply qaB|apply qaD)|exact HB.out)⟩⟩
      ·rw [if_neg c8] at H;exact absurd H (by simp)
     ·rw [if_neg c7] at H;exact absurd H (by simp)
    ·rw [if_neg c6] at H;have c6b0:decide (x6_1 < (l0.length:Int))=false:=decide_eq_false c6;clear c6;obtain rfl:=Option.some.inj H;go_wp2
     repeat (go_quiet (fail);try go_wp2)
     go_ret;exact ⟨by first|rfl|(simp [errW_none,errW_some] <;> rfl)|(simp [*,errW_none,errW_some] <;> rfl),by repeat (first|(with_reducible first|exact HB.out|apply qaA|apply qaB|apply qaD)|exact HB.out)⟩
 ·rw [if_neg c3] at H;have c3b0:((l0.length:Int)==(l1.length:Int))=false:=beq_eq_false_iff_ne.mpr c3;have c3b1:((l0.length:Int) != (l1.length:Int))=true:=bne_iff_ne.mpr c3
  have c3b2:(l0.length==l1.length)=false:=by first|simpa using c3|(simp at c3 ⊢;omega)
  obtain rfl:=Option.some.inj H;go_enter Tryz.func20,Tryz.ntmps20;go_wp2
  repeat (go_quiet (fail);try go_wp2)
  go_ret;exact ⟨by first|rfl|(simp [errW_none,errW_some] <;> rfl)|(simp [*,errW_none,errW_some] <;> rfl),by repeat (first|(with_reducible first|exact HB.out|apply qaA|apply qaB|apply qaD)|exact HB.out)⟩
def pumicelaw01_Same.f (l0:List Int) (l1:List Int):Option (Bool):=some ((strOfNums l0).toList==(strOfNums l1).toList)
theorem pumicelaw01_Same.calls (A0:Option Addr) (c0:Nat) (l0:List Int) (A1:Option Addr) (c1:Nat) (l1:List Int) (r:Bool) (w:World) (hr0:Kd.C (Kd.int .u8) w A0 l0.length l0) (hc0:l0.length≤c0) (hr1:Kd.C (Kd.int .u8) w A1 l1.length l1) (hc1:l1.length≤c1) (h:pumicelaw01_Same.f l0 l1=some r) :
  Calls Tryz.prog 32 #[.slice A0 l0.length c0,.slice A1 l1.length c1] w fun e w'=>e=.returned (.bool r)∧qaY w w':=by
 have HR0:=aM hr0;have HC0:=aM hc0;clear hr0 hc0;have HR1:=aM hr1;have HC1:=aM hc1;clear hr1 hc1;have H:(some ((strOfNums l0).toList==(strOfNums l1).toList))=some r:=h;clear h;obtain rfl:=Option.some.inj H;have hcv3:=Kd.C_string (P:=Tryz.prog) (A:=A0) (c:=c0) Tryz.underlying35 Tryz.underlying5 Tryz.underlying9 HR0.out;have hcv4:=Kd.C_string (P:=Tryz.prog) (A:=A1) (c:=c1) Tryz.underlying35 Tryz.underlying5 Tryz.underlying9 HR1.out;go_enter Tryz.func32,Tryz.ntmps32;go_wp2;go_ret;exact ⟨by first|rfl|(simp;done)|(simp [*];done),by repeat (first|exact qaY.refl _|apply qaY.step)⟩
end
section
attribute [local go_sem] qdS qdQ qeJ qeI qcV qcU qdR qdP   
end
section
attribute [local go_sem] qdS qdQ qeJ qeI qcV qcU qdR qdP   
end
end Go.Proofs.YtdlimghdimkadaaGreatDoor.PAll
namespace Go.Proofs.YtdlimghdimkadaaGreatDoor.Plain
open Go Go.RowKit YtdlimghdimkadaaGreatDoorW.PrintWords
theorem qbQ {n:Int} (h0:-9223372036854775808≤n) (h1:n≤9223372036854775807):wrap64 n=n:=by
 unfold wrap64;omega
theorem qcO {n:Int} (h0:0≤n) (h1:n < 18446744073709551616):IntKind.u64.wrap n=n:=by
 simp [IntKind.wrap,IntKind.signed,IntKind.bits];omega
theorem qlN {n:Int} (h0:0≤n) (h1:n < 4294967296):IntKind.u32.wrap n=n:=by
 simp [IntKind.wrap,IntKind.signed,IntKind.bits];omega
theorem qxN (l:List Int) (h:∀ x ∈ l,0≤x∧x < 256) (i:Int):0≤rd l i∧rd l i < 256:=by
 unfold rd;rw [List.getD_eq_getElem?_getD]
 rcases hx:l[i.toNat]? with _|x
 ·simp
 ·simp;exact h x (List.mem_of_getElem? hx)
theorem qpV (l:List Int) (i:Nat) (h:i < l.length):rd l (i:Int)=l[i]:=by
 unfold rd;simp [h]
theorem qsN (s t:BitVec 32):Go.bits .xor .u32 (s.toNat:Int) (t.toNat:Int)=((s ^^^ t).toNat:Int):=by
 unfold Go.bits;have h:=(s ^^^ t).isLt;simp only [IntKind.bits,BitVec.ofInt_natCast,BitVec.ofNat_toNat,BitVec.setWidth_eq];exact qlN (by omega) (by omega)
theorem veB (s t:BitVec 32):Go.bits .and .u32 (s.toNat:Int) (t.toNat:Int)=((s &&& t).toNat:Int):=by
 unfold Go.bits;have h:=(s &&& t).isLt;simp only [IntKind.bits,BitVec.ofInt_natCast,BitVec.ofNat_toNat,BitVec.setWidth_eq];exact qlN (by omega) (by omega)
theorem qxT (s:BitVec 32):(Go.bits .and .u32 (s.toNat:Int) 1=1)↔s.getLsbD 0=true:=by
 have h:=veB s 1#32;have e:((1#32).toNat:Int)=1:=rfl;rw [e] at h;rw [h,BitVec.toNat_and];simp [BitVec.getLsbD,Nat.testBit,Nat.and_one_is_mod];omega
theorem qrY (s:BitVec 32):(Nat.cast s.toNat:Int) / (2:Int)=(Nat.cast (s >>> 1).toNat:Int):=by
 simp [Nat.shiftRight_eq_div_pow]
theorem qzR (x:Int):x % 4294967296=((BitVec.ofInt 32 x).toNat:Int):=by
 rw [BitVec.toNat_ofInt];simp;omega
theorem qzH:(3988292384:Int)=((0xEDB88320#32).toNat:Int):=rfl
theorem qzJ:(4294967295:Int)=((0xFFFFFFFF#32).toNat:Int):=rfl
def qhJ (s:BitVec 32):BitVec 32:=if s.getLsbD 0 then (s >>> 1) ^^^ 0xEDB88320#32 else s >>> 1
def qxD:Nat→BitVec 32→BitVec 32
 | 0,s=>s
 | n+1,s=>qxD n (qhJ s)
def vcY (s:BitVec 32) (c:Int):BitVec 32:=qxD 8 (s ^^^ BitVec.ofInt 32 c)
def crc (l:List Int):BitVec 32:=0xFFFFFFFF#32 ^^^ l.foldl vcY 0xFFFFFFFF#32
def putL (k:Nat) (n:Int):List Int:=(List.range k).map fun i=>n / 256 ^ i % 256
def qoP (l:List Int):Nat→Int
 | 0=>0
 | k+1=>qoP l k+l.getD k 0*256 ^ k
def qcN (l:List Int):Int:=qoP l (min l.length 8)
def qbN (l:List Int):Prop:=∀ x ∈ l,0≤x∧x < 256
theorem qbN.getD {l:List Int} (h:qbN l) (i:Nat):0≤l.getD i 0∧l.getD i 0 < 256:=by
 have:=qxN l h i
 simpa [rd] using this
theorem qbN.take {l:List Int} (h:qbN l) (n:Nat):qbN (l.take n):=fun x hx=>h x (List.mem_of_mem_take hx)
theorem qbN.drop {l:List Int} (h:qbN l) (n:Nat):qbN (l.drop n):=fun x hx=>h x (List.mem_of_mem_drop hx)
theorem qbN.append {l m:List Int} (h:qbN l) (k:qbN m):qbN (l ++ m):=fun x hx=>(List.mem_append.1 hx).elim (h x) (k x)
theorem qbN.putL (k:Nat) (n:Int):qbN (putL k n):=by
 intro x hx;obtain ⟨i,_,rfl⟩:=List.mem_map.1 hx;omega
theorem qbS (k:Nat) (n:Int):(putL k n).length=k:=by simp [putL]
theorem qvE (k:Nat) (n:Int):putL (k+1) n=putL k n ++ [n / 256 ^ k % 256]:=by simp [putL,List.range_succ]
theorem qnG {l:List Int} (h:qbN l):∀ k,k≤8→0≤qoP l k∧qoP l k < 256 ^ k
 | 0,_=>by simp [qoP]
 | k+1,hk=>by
  obtain ⟨h0,h1⟩:=qnG h k (by omega);obtain ⟨b0,b1⟩:=h.getD k;simp only [qoP];generalize l.getD k 0=x at b0 b1 ⊢;generalize qoP l k=y at h0 h1 ⊢;clear h;have hk2:k=0∨k=1∨k=2∨k=3∨k=4∨k=5∨k=6∨k=7:=by omega
  rcases hk2 with rfl|rfl|rfl|rfl|rfl|rfl|rfl|rfl <;> simp at h1 ⊢ <;> omega
theorem qkQ {l:List Int} (h:qbN l):0≤qcN l∧qcN l < 256 ^ (min l.length 8):=qnG h _ (by omega)
theorem qoO (n:Int) (m:Nat):∀ k,k≤m→k≤8→qoP (putL m n) k=n % 256 ^ k
 | 0,_,_=>by simp [qoP]
 | k+1,hm,hk=>by
  simp only [qoP];rw [qoO n m k (by omega) (by omega)]
  have e:(putL m n).getD k 0=n / 256 ^ k % 256:=by
   have hl:k < (List.range m).length:=by simp;omega
   simp [putL,List.getD_eq_getElem?_getD,List.getElem?_map,List.getElem?_range (show k < m by omega)]
  rw [e];have hk2:k=0∨k=1∨k=2∨k=3∨k=4∨k=5∨k=6∨k=7:=by omega
  rcases hk2 with rfl|rfl|rfl|rfl|rfl|rfl|rfl|rfl <;> simp <;> omega
theorem qgL (n:Int) (k:Nat) (hk:k≤8):qcN (putL k n)=n % 256 ^ k:=by
 unfold qcN;rw [qbS,Nat.min_eq_left hk,qoO n k k (Nat.le_refl _) hk]
theorem vcN:∀ i:Nat,i < 8→(2:Int) ^ (8*i)=256 ^ i:=by
 intro i hi;have hk2:i=0∨i=1∨i=2∨i=3∨i=4∨i=5∨i=6∨i=7:=by omega
 rcases hk2 with rfl|rfl|rfl|rfl|rfl|rfl|rfl|rfl <;> rfl
theorem or64 {a b:Int} (k:Nat) (hk:k < 8) (ha:0≤a∧a < 256 ^ k) (hb:0≤b∧b < 256) :
  Go.bits .or .u64 a (shl .u64 (IntKind.u64.wrap b) (8*(k:Int)))=a+b*256 ^ k:=by
 have e1:IntKind.u64.wrap b=b:=qcO (by omega) (by omega);have e3:min (8*(k:Int)).toNat IntKind.u64.bits=8*k:=by simp only [IntKind.bits];omega
 have e4:(2:Int) ^ (8*k)=256 ^ k:=by
  have hk2:k=0∨k=1∨k=2∨k=3∨k=4∨k=5∨k=6∨k=7:=by omega
  rcases hk2 with rfl|rfl|rfl|rfl|rfl|rfl|rfl|rfl <;> rfl
 have hb2:0≤b*256 ^ k∧b*256 ^ k < 18446744073709551616:=by
  have hk2:k=0∨k=1∨k=2∨k=3∨k=4∨k=5∨k=6∨k=7:=by omega
  rcases hk2 with rfl|rfl|rfl|rfl|rfl|rfl|rfl|rfl <;> simp <;> omega
 have hs:a+b*256 ^ k < 18446744073709551616:=by
  have hk2:k=0∨k=1∨k=2∨k=3∨k=4∨k=5∨k=6∨k=7:=by omega
  rcases hk2 with rfl|rfl|rfl|rfl|rfl|rfl|rfl|rfl <;> simp at ha ⊢ <;> omega
 unfold shl;rw [e1,e3,e4,qcO hb2.1 hb2.2]
 obtain ⟨x,rfl⟩:∃ x:Nat,a=x:=⟨a.toNat,by omega⟩
 obtain ⟨y,rfl⟩:∃ y:Nat,b=y:=⟨b.toNat,by omega⟩
 have hx:x < 2 ^ (8*k):=by
  have h2:=ha.2;have hk2:k=0∨k=1∨k=2∨k=3∨k=4∨k=5∨k=6∨k=7:=by omega
  rcases hk2 with rfl|rfl|rfl|rfl|rfl|rfl|rfl|rfl <;> simp at h2 ⊢ <;> omega
 have hor:x ||| (y*256 ^ k)=x+y*256 ^ k:=by
  have h2:=Nat.shiftLeft_add_eq_or_of_lt hx y
  have e5:(256:Nat) ^ k=2 ^ (8*k):=by
   have hk2:k=0∨k=1∨k=2∨k=3∨k=4∨k=5∨k=6∨k=7:=by omega
   rcases hk2 with rfl|rfl|rfl|rfl|rfl|rfl|rfl|rfl <;> rfl
  rw [Nat.shiftLeft_eq] at h2;rw [e5,Nat.or_comm,← h2,Nat.add_comm]
 have e6:((y:Int)*256 ^ k)=((y*256 ^ k:Nat):Int):=by simp
 rw [e6] at hb2 hs ⊢;show IntKind.u64.wrap (((BitVec.ofInt 64 (x:Int)) ||| (BitVec.ofInt 64 ((y*256 ^ k:Nat):Int))).toNat:Int)=_;rw [BitVec.ofInt_natCast,BitVec.ofInt_natCast,BitVec.toNat_or,BitVec.toNat_ofNat,BitVec.toNat_ofNat,Nat.mod_eq_of_lt (by omega),Nat.mod_eq_of_lt (by omega),hor,qcO (by omega) (by omega)];simp
def qhB (l:List Int):List Int × Int :=
 if l.length=0∨1024 < l.length then ([],22) else (putL 2 l.length ++ putL 4 (crc l).toNat ++ l,0)
def qaZ (l:List Int):List Int × Int × Bool :=
 if l.length < 6 then ([],0,false)
 else if qcN (l.take 2)=0∨1024 < qcN (l.take 2)∨(l.length:Int) - 6 < qcN (l.take 2) then ([],0,false)
 else if ((crc ((l.take (6+qcN (l.take 2)).toNat).drop 6)).toNat:Int)=qcN ((l.take 6).drop 2) then ((l.take (6+qcN (l.take 2)).toNat).drop 6,6+qcN (l.take 2),true)
 else ([],0,false)
theorem qmI (A C p rest:List Int) (hA:A.length=2) (hC:C.length=4) (hn:qcN A=(p.length:Int)) (h0:p.length ≠ 0) (h1:p.length≤1024) :
  qaZ (A ++ C ++ p ++ rest)=if (((crc p).toNat:Nat):Int)=qcN C then (p,6+(p.length:Int),true) else ([],0,false):=by
 have e1:(A ++ C ++ p ++ rest).take 2=A:=by
  rw [List.append_assoc,List.append_assoc,List.take_left' hA]
 have e2:((A ++ C ++ p ++ rest).take 6).drop 2=C:=by
  rw [List.append_assoc,List.take_left' (by rw [List.length_append];omega),List.drop_left' hA]
 have e3:((A ++ C ++ p ++ rest).take (6+(p.length:Int)).toNat).drop 6=p:=by
  rw [List.take_left' (by simp only [List.length_append];omega),List.drop_left' (by rw [List.length_append];omega)]
 unfold qaZ;rw [if_neg (by simp only [List.length_append];omega),e1,hn,e2,e3,if_neg (by simp only [List.length_append];omega)]
theorem qkS {l:List Int} (h0:l.length ≠ 0) (h1:l.length≤1024):qhB l=(putL 2 l.length ++ putL 4 (crc l).toNat ++ l,0):=by
 unfold qhB;rw [if_neg (by omega)]
theorem qyL {n:Nat} (h:n≤1024):qcN (putL 2 (n:Int))=(n:Int):=by
 rw [qgL _ _ (by omega)];omega
theorem qyM (l:List Int):qcN (putL 4 (((crc l).toNat:Nat):Int))=(((crc l).toNat:Nat):Int):=by
 rw [qgL _ _ (by omega)];have:=(crc l).isLt;omega
theorem qmJ {l:List Int} (rest:List Int) (h0:l.length ≠ 0) (h1:l.length≤1024):qaZ ((qhB l).1 ++ rest)=(l,6+(l.length:Int),true):=by
 rw [qkS h0 h1];rw [qmI _ _ l rest (qbS _ _) (qbS _ _) (qyL h1) h0 h1,qyM,if_pos rfl]
def qcZ (l:List Int):Bool:=l.all (·==255)
def qhY (l:List Int) (n:Nat):List Int:=l.take n ++ List.replicate (n - l.length) 255
theorem qjA (l:List Int) (n:Nat):(qhY l n).length=n:=by simp only [qhY,List.length_append,List.length_take,List.length_replicate];omega
theorem qmC (l:List Int) (n:Nat):qhY l (n+1)=qhY l n ++ [if n < l.length then rd l (n:Int) else 255]:=by
 unfold qhY
 by_cases h:n < l.length
 ·rw [if_pos h,qpV l n h,List.take_succ_eq_append_getElem h,show n+1 - l.length=0 by omega,show n - l.length=0 by omega];simp
 ·rw [if_neg h,List.take_of_length_le (by omega),List.take_of_length_le (by omega),show n+1 - l.length=(n - l.length)+1 by omega,List.replicate_succ',List.append_assoc]
end Go.Proofs.YtdlimghdimkadaaGreatDoor.Plain
namespace Go.Proofs.YtdlimghdimkadaaGreatDoor.PAll
open Go Go.RowKit YtdlimghdimkadaaGreatDoorW.PrintWords YtdlimghdimkadaaGreatDoorW.PrintLast YtdlimghdimkadaaGreatDoorW.PrintMore
attribute [local go_sem] qdS qdQ qeJ qeI qcV qcU qdR qdP
section
open Plain
theorem qwR (l:List Int) (n i r:Int):∀ (d:Nat) (s:BitVec 32) (j:Int),j+d=8→0≤j →
  Ev (fun k=>bits_Sum.l0 k ((qxD d s).toNat:Int) l n (wrap64 (i+1))) r→Ev (fun k=>bits_Sum.l1 k (s.toNat:Int) l n i j) r
 | 0,s,j,hd,hj,h=>Ev.step (fun k=>by simp only [bits_Sum.l1];rw [if_neg (by omega)];rfl) h
 | d+1,s,j,hd,hj,h=>by
  have h2:=qwR l n i r d (qhJ s) (j+1) (by omega) (by omega) h;refine Ev.step (fun k=>?_) h2;simp only [bits_Sum.l1];rw [if_pos (by omega),qbQ (by omega) (by omega)]
  by_cases hb:s.getLsbD 0=true
  ·rw [if_pos ((qxT s).2 hb),qrY,qzH,qsN];unfold qhJ;rw [if_pos hb]
  ·rw [if_neg (fun h=>hb ((qxT s).1 h)),qrY];unfold qhJ;rw [if_neg hb]
theorem qwS (l:List Int) (hl:qbN l) (hn:l.length≤9223372036854775806):∀ (d i:Nat) (s:BitVec 32),i+d=l.length →
  Ev (fun k=>bits_Sum.l0 k (s.toNat:Int) l (l.length:Int) (i:Int)) (((0xFFFFFFFF#32 ^^^ (l.drop i).foldl vcY s).toNat:Nat):Int)
 | 0,i,s,hi=>by
  refine Ev.step (f:=fun _=>some _) (fun k=>?_) (Ev.now _);simp only [bits_Sum.l0];rw [if_neg (by omega),qzJ,qsN,List.drop_of_length_le (by omega)];rfl
 | d+1,i,s,hi=>by
  have h2:=qwS l hl hn d (i+1) (vcY s (l[i]'(by omega))) (by omega);rw [← List.foldl_cons,List.getElem_cons_drop] at h2;have hw:wrap64 ((i:Int)+1)=((i+1:Nat):Int):=by rw [qbQ (by omega) (by omega)];simp
  rw [← hw] at h2;have h3:=qwR l (l.length:Int) (i:Int) _ 8 (s ^^^ BitVec.ofInt 32 (l[i]'(by omega))) 0 (by omega) (by omega) h2;refine Ev.step (fun k=>?_) h3;simp only [bits_Sum.l0];rw [if_pos (by omega),if_pos (by omega),if_pos (by omega),qpV l i (by omega),qzR,qsN]
theorem vbW (l:List Int) (hl:qbN l) (hn:l.length≤9223372036854775806):Ev (fun k=>bits_Sum.f k l) (((crc l).toNat:Nat):Int) :=
 qwS l hl hn l.length 0 0xFFFFFFFF#32 (by omega)
theorem quW (l:List Int) (i r:Int):∀ (d:Nat) (s:BitVec 32) (j:Int),j+d=8→0≤j →
  Ev (fun k=>pumiceref01_Sum.l0 k l ((qxD d s).toNat:Int) (wrap64 (i+1))) r→Ev (fun k=>pumiceref01_Sum.l1 k l (s.toNat:Int) i j) r
 | 0,s,j,hd,hj,h=>Ev.step (fun k=>by simp only [pumiceref01_Sum.l1];rw [if_neg (by omega)];rfl) h
 | d+1,s,j,hd,hj,h=>by
  have h2:=quW l i r d (qhJ s) (j+1) (by omega) (by omega) h;refine Ev.step (fun k=>?_) h2;simp only [pumiceref01_Sum.l1];rw [if_pos (by omega),qbQ (by omega) (by omega)]
  by_cases hb:s.getLsbD 0=true
  ·rw [if_pos ((qxT s).2 hb),qrY,qzH,qsN];unfold qhJ;rw [if_pos hb]
  ·rw [if_neg (fun h=>hb ((qxT s).1 h)),qrY];unfold qhJ;rw [if_neg hb]
theorem quX (l:List Int) (hl:qbN l) (hn:l.length≤9223372036854775806):∀ (d i:Nat) (s:BitVec 32),i+d=l.length →
  Ev (fun k=>pumiceref01_Sum.l0 k l (s.toNat:Int) (i:Int)) (((0xFFFFFFFF#32 ^^^ (l.drop i).foldl vcY s).toNat:Nat):Int)
 | 0,i,s,hi=>by
  refine Ev.step (f:=fun _=>some _) (fun k=>?_) (Ev.now _);simp only [pumiceref01_Sum.l0];rw [if_neg (by omega),qzJ,qsN,List.drop_of_length_le (by omega)];rfl
 | d+1,i,s,hi=>by
  have h2:=quX l hl hn d (i+1) (vcY s (l[i]'(by omega))) (by omega);rw [← List.foldl_cons,List.getElem_cons_drop] at h2;have hw:wrap64 ((i:Int)+1)=((i+1:Nat):Int):=by rw [qbQ (by omega) (by omega)];simp
  rw [← hw] at h2;have h3:=quW l (i:Int) _ 8 (s ^^^ BitVec.ofInt 32 (l[i]'(by omega))) 0 (by omega) (by omega) h2;refine Ev.step (fun k=>?_) h3;simp only [pumiceref01_Sum.l0];rw [if_pos (by omega),if_pos (by omega),qpV l i (by omega),qzR,qsN]
theorem quY (l:List Int) (hl:qbN l) (hn:l.length≤9223372036854775806):Ev (fun k=>pumiceref01_Sum.f k l) (((crc l).toNat:Nat):Int) :=
 quX l hl hn l.length 0 0xFFFFFFFF#32 (by omega)
def qjH (b:Int):Nat:=if b < 0 then 0 else if 8 < b then 8 else b.toNat
theorem quZ (n b:Int) (hn:0≤n):∀ (d i:Nat),i+d=qjH b→Ev (fun k=>pumiceref01_Put.l0 k n b (putL i n) (i:Int)) (putL (qjH b) n)
 | 0,i,hi=>by
  refine Ev.step (f:=fun _=>some _) (fun k=>?_) (Ev.now _);have hi2:i=qjH b:=by omega
  simp only [pumiceref01_Put.l0];rw [hi2];unfold qjH
  split
  ·rw [if_neg (by omega)]
  ·split
   ·by_cases h:((8:Nat):Int) < b
    ·rw [if_pos h,if_neg (by omega)]
    ·rw [if_neg h]
   ·rw [if_neg (by omega)]
 | d+1,i,hi=>by
  have h2:=quZ n b hn d (i+1) (by omega)
  have hlt:(i:Int) < b∧(i:Int) < 8:=by
   unfold qjH at hi
   split at hi
   ·omega
   ·split at hi <;> omega
  refine Ev.step (fun k=>?_) h2;simp only [pumiceref01_Put.l0];have e1:wrap64 (8*(i:Int))=8*(i:Int):=qbQ (by omega) (by omega);have e2:IntKind.u64.wrap (8*(i:Int))=8*(i:Int):=qcO (by omega) (by omega);have e3:min (8*(i:Int)).toNat IntKind.u64.bits=8*i:=by simp only [IntKind.bits];omega
  have e5:wrap64 ((i:Int)+1)=((i+1:Nat):Int):=by rw [qbQ (by omega) (by omega)];simp
  have q1:(0:Int)≤8*(i:Int):=by omega
  have q2:(putL i n).length < 140737488355328:=by have:=qbS i n;omega
  simp only [e1,e2,e5,eq_true hlt.1,eq_true hlt.2,eq_true q1,eq_true q2,if_true];rw [qvE];unfold shr;rw [e3,vcN i (by omega)]
theorem qkH (n b:Int) (hn:0≤n):Ev (fun k=>pumiceref01_Put.f k n b) (putL (qjH b) n):=quZ n b hn (qjH b) 0 (by omega)
theorem qwT (l:List Int) (hl:qbN l):∀ (d i:Nat),i+d=min l.length 8→Ev (fun k=>bits_Get.l0 k l (qoP l i) (mn (l.length:Int) 8) (i:Int)) (qcN l)
 | 0,i,hi=>by
  refine Ev.step (f:=fun _=>some _) (fun k=>?_) (Ev.now _);have hi2:i=min l.length 8:=by omega
  simp only [bits_Get.l0];rw [if_neg (by unfold mn;split <;> omega)];unfold qcN;rw [hi2]
 | d+1,i,hi=>by
  have h2:=qwT l hl d (i+1) (by omega);refine Ev.step (fun k=>?_) h2;simp only [bits_Get.l0];have hb:=qxN l hl i;have e1:wrap64 (8*(i:Int))=8*(i:Int):=qbQ (by omega) (by omega);have e5:wrap64 ((i:Int)+1)=((i+1:Nat):Int):=by rw [qbQ (by omega) (by omega)];simp
  rw [if_pos (by unfold mn;split <;> omega),if_pos (by omega),if_pos (by omega),e1,if_pos (by omega),e5,or64 i (by omega) (qnG hl i (by omega)) hb];rfl
theorem qqX (l:List Int) (hl:qbN l):Ev (fun k=>bits_Get.f k l) (qcN l):=qwT l hl (min l.length 8) 0 (by omega)
theorem qvA (l:List Int) (hl:qbN l):∀ (d i:Nat),i+d=min l.length 8→Ev (fun k=>pumiceref01_Get.l0 k l (qoP l i) (i:Int)) (qcN l)
 | 0,i,hi=>by
  refine Ev.step (f:=fun _=>some _) (fun k=>?_) (Ev.now _);have hi2:i=min l.length 8:=by omega
  simp only [pumiceref01_Get.l0];have e:qcN l=qoP l i:=by unfold qcN;rw [hi2]
  rw [e]
  by_cases h:(i:Int) < (l.length:Int)
  ·rw [if_pos h,if_neg (by omega)]
  ·rw [if_neg h]
 | d+1,i,hi=>by
  have h2:=qvA l hl d (i+1) (by omega);refine Ev.step (fun k=>?_) h2;simp only [pumiceref01_Get.l0];have hb:=qxN l hl i;have e1:wrap64 (8*(i:Int))=8*(i:Int):=qbQ (by omega) (by omega);have e2:IntKind.u64.wrap (8*(i:Int))=8*(i:Int):=qcO (by omega) (by omega);have e5:wrap64 ((i:Int)+1)=((i+1:Nat):Int):=by rw [qbQ (by omega) (by omega)];simp
  rw [if_pos (by omega),if_pos (by omega),if_pos (by omega),e1,e2,if_pos (by omega),e5,or64 i (by omega) (qnG hl i (by omega)) hb];rfl
theorem qkI (l:List Int) (hl:qbN l):Ev (fun k=>pumiceref01_Get.f k l) (qcN l):=qvA l hl (min l.length 8) 0 (by omega)
theorem qvB (l:List Int) (hl:qbN l) (hn:l.length≤140737488351232):Ev (fun k=>pumiceref01_Frame.f k l) (qhB l):=by
 have hc2:qjH 2=2:=rfl;have hc4:qjH 4=4:=rfl;obtain ⟨K,hs⟩:=quY l hl (by omega);have hcr:=(crc l).isLt;have hp2:Ev (fun k=>pumiceref01_Put.f k (l.length:Int) 2) (putL 2 (l.length:Int)):=by have h:=qkH (l.length:Int) 2 (by omega);rwa [hc2] at h
 have hp4:Ev (fun k=>pumiceref01_Put.f k (((crc l).toNat:Nat):Int) 4) (putL 4 (((crc l).toNat:Nat):Int)):=by have h:=qkH (((crc l).toNat:Nat):Int) 4 (by omega);rwa [hc4] at h
 unfold qhB
 by_cases h0:l.length=0
 ·rw [if_pos (.inl h0)];refine ⟨1,fun k hk=>?_⟩
  obtain ⟨k,rfl⟩:∃ m,k=m+1:=⟨k - 1,by omega⟩
  show pumiceref01_Frame.f (k+1) l=_;unfold pumiceref01_Frame.f;rw [if_pos (by omega)];simp [pumiceref01_Frame.j0]
 ·by_cases h1:1024 < l.length
  ·rw [if_pos (.inr h1)];refine ⟨1,fun k hk=>?_⟩
   obtain ⟨k,rfl⟩:∃ m,k=m+1:=⟨k - 1,by omega⟩
   show pumiceref01_Frame.f (k+1) l=_;unfold pumiceref01_Frame.f;rw [if_neg (by omega),decide_eq_true (by omega)];simp [pumiceref01_Frame.j0]
  ·rw [if_neg (by omega)];obtain ⟨K2,hp2⟩:=hp2;obtain ⟨K4,hp4⟩:=hp4;refine ⟨K+K2+K4+1,fun k hk=>?_⟩
   obtain ⟨k,rfl⟩:∃ m,k=m+1:=⟨k - 1,by omega⟩
   show pumiceref01_Frame.f (k+1) l=_;unfold pumiceref01_Frame.f;rw [if_neg (by omega),decide_eq_false (by omega)];simp only [pumiceref01_Frame.j0,Bool.false_eq_true,if_false];rw [qcO (by omega) (by omega)];have e1:=hp2 k (by omega);have e2:=hp4 k (by omega);have e3:=hs k (by omega);simp only [] at e1 e2 e3;rw [e1,e3];simp only [Option.bind_some];rw [qcO (by omega) (by omega),e2];simp only [Option.bind_some];rw [if_pos (by simp only [qbS];omega),if_pos (by simp only [List.length_append,qbS];omega)]
theorem qqW (l:List Int) (hl:qbN l) (hn:l.length≤4611686018427387904):Ev (fun k=>bits_Unframe.f k l) (qaZ l):=by
 unfold qaZ
 by_cases h6:l.length < 6
 ·rw [if_pos h6];refine ⟨0,fun k _=>?_⟩;show bits_Unframe.f k l=_;unfold bits_Unframe.f;rw [if_pos (by omega)]
 rw [if_neg h6];obtain ⟨K,hg⟩:=qqX (l.take 2) (hl.take 2);have hlen2:(l.take 2).length=2:=by rw [List.length_take];omega
 have hb:=qkQ (hl.take 2);rw [hlen2] at hb;generalize hn2:qcN (l.take 2)=n at hb hg ⊢;have hb2:0≤n∧n < 65536:=hb;have ew:wrap64 n=n:=qbQ (by omega) (by omega)
 by_cases h0:n=0∨1024 < n∨(l.length:Int) - 6 < n
 ·rw [if_pos h0];refine ⟨K+1,fun k hk=>?_⟩
  obtain ⟨k,rfl⟩:∃ m,k=m+1:=⟨k - 1,by omega⟩
  have e1:=hg (k+1) (by omega);simp only [] at e1;show bits_Unframe.f (k+1) l=_;unfold bits_Unframe.f;rw [if_neg (by omega),if_pos (by omega),e1];simp only [Option.bind_some,ew];have ew2:wrap64 ((l.length:Int) - 6)=(l.length:Int) - 6:=qbQ (by omega) (by omega);rw [ew2]
  by_cases g0:n=0
  ·rw [if_pos g0];simp [bits_Unframe.j0]
  ·by_cases g1:n > 1024
   ·rw [if_neg g0,if_pos g1];simp [bits_Unframe.j0]
   ·rw [if_neg g0,if_neg g1,decide_eq_true (by omega)];simp [bits_Unframe.j0]
 ·rw [if_neg h0];have ew2:wrap64 ((l.length:Int) - 6)=(l.length:Int) - 6:=qbQ (by omega) (by omega);have ew3:wrap64 (6+n)=6+n:=qbQ (by omega) (by omega);obtain ⟨K2,hs⟩:=vbW ((l.take (6+n).toNat).drop 6) ((hl.take _).drop _) (by rw [List.length_drop,List.length_take];omega);obtain ⟨K3,hg2⟩:=qqX ((l.take 6).drop 2) ((hl.take _).drop _);have hcr:=(crc ((l.take (6+n).toNat).drop 6)).isLt;refine ⟨K+K2+K3+1,fun k hk=>?_⟩
  obtain ⟨k,rfl⟩:∃ m,k=m+1:=⟨k - 1,by omega⟩
  have e1:=hg (k+1) (by omega);have e2:=hs k (by omega);have e3:=hg2 k (by omega);simp only [] at e1 e2 e3;show bits_Unframe.f (k+1) l=_;unfold bits_Unframe.f;rw [if_neg (by omega),if_pos (by omega),e1];simp only [Option.bind_some,ew];rw [if_neg (by omega),if_neg (by omega),ew2,decide_eq_false (by omega)];simp only [bits_Unframe.j0,Bool.false_eq_true,if_false,Option.bind_some,List.nil_append,ew3];rw [if_pos (by omega),if_pos (by omega),if_pos (by simp only [List.length_nil,List.length_drop,List.length_take];omega)];rw [e2];simp only [Option.bind_some];rw [if_pos (by omega),if_pos (by omega),e3];simp only [Option.bind_some];rw [qcO (by omega) (by omega)]
  by_cases hc:(((crc ((l.take (6+n).toNat).drop 6)).toNat:Nat):Int)=qcN ((l.take 6).drop 2)
  ·rw [if_pos hc,if_pos hc]
  ·rw [if_neg hc,if_neg hc]
theorem qpX (l:List Int) (hl:qbN l) (hn:l.length≤4611686018427387904):Ev (fun k=>pumiceref01_Unframe.f k l) (qaZ l):=by
 unfold qaZ
 by_cases h6:l.length < 6
 ·rw [if_pos h6];refine ⟨0,fun k _=>?_⟩;show pumiceref01_Unframe.f k l=_;unfold pumiceref01_Unframe.f;rw [if_pos (by omega)]
 rw [if_neg h6];obtain ⟨K,hg⟩:=qkI (l.take 2) (hl.take 2);have hlen2:(l.take 2).length=2:=by rw [List.length_take];omega
 have hb:=qkQ (hl.take 2);rw [hlen2] at hb;generalize hn2:qcN (l.take 2)=n at hb hg ⊢;have hb2:0≤n∧n < 65536:=hb;have ew:wrap64 n=n:=qbQ (by omega) (by omega)
 by_cases h0:n=0∨1024 < n∨(l.length:Int) - 6 < n
 ·rw [if_pos h0];refine ⟨K+1,fun k hk=>?_⟩
  obtain ⟨k,rfl⟩:∃ m,k=m+1:=⟨k - 1,by omega⟩
  have e1:=hg (k+1) (by omega);simp only [] at e1;show pumiceref01_Unframe.f (k+1) l=_;unfold pumiceref01_Unframe.f;rw [if_neg (by omega),if_pos (by omega),e1];simp only [Option.bind_some,ew];have ew2:wrap64 ((l.length:Int) - 6)=(l.length:Int) - 6:=qbQ (by omega) (by omega);rw [ew2]
  by_cases g0:n=0
  ·rw [if_pos g0];simp [pumiceref01_Unframe.j0]
  ·by_cases g1:n > 1024
   ·rw [if_neg g0,if_pos g1];simp [pumiceref01_Unframe.j0]
   ·rw [if_neg g0,if_neg g1,decide_eq_true (by omega)];simp [pumiceref01_Unframe.j0]
 ·rw [if_neg h0];have ew2:wrap64 ((l.length:Int) - 6)=(l.length:Int) - 6:=qbQ (by omega) (by omega);have ew3:wrap64 (6+n)=6+n:=qbQ (by omega) (by omega);obtain ⟨K2,hs⟩:=quY ((l.take (6+n).toNat).drop 6) ((hl.take _).drop _) (by rw [List.length_drop,List.length_take];omega);obtain ⟨K3,hg2⟩:=qkI ((l.take 6).drop 2) ((hl.take _).drop _);have hcr:=(crc ((l.take (6+n).toNat).drop 6)).isLt;refine ⟨K+K2+K3+1,fun k hk=>?_⟩
  obtain ⟨k,rfl⟩:∃ m,k=m+1:=⟨k - 1,by omega⟩
  have e1:=hg (k+1) (by omega);have e2:=hs k (by omega);have e3:=hg2 k (by omega);simp only [] at e1 e2 e3;show pumiceref01_Unframe.f (k+1) l=_;unfold pumiceref01_Unframe.f;rw [if_neg (by omega),if_pos (by omega),e1];simp only [Option.bind_some,ew];rw [if_neg (by omega),if_neg (by omega),ew2,decide_eq_false (by omega)];simp only [pumiceref01_Unframe.j0,Bool.false_eq_true,if_false,Option.bind_some,List.nil_append,ew3];rw [if_pos (by omega),if_pos (by omega),if_pos (by simp only [List.length_nil,List.length_drop,List.length_take];omega)];rw [e2];simp only [Option.bind_some];rw [if_pos (by omega),if_pos (by omega),e3];simp only [Option.bind_some];rw [qcO (by omega) (by omega)]
  by_cases hc:(((crc ((l.take (6+n).toNat).drop 6)).toNat:Nat):Int)=qcN ((l.take 6).drop 2)
  ·rw [if_pos hc,if_pos hc]
  ·rw [if_neg hc,if_neg hc]
theorem qpH (l:List Int) (hn:l.length≤9223372036854775806):∀ (d i:Nat),i+d=l.length→Ev (fun k=>bits_Blank.l0 k l (l.length:Int) (i:Int)) (qcZ (l.drop i))
 | 0,i,hi=>by
  refine Ev.step (f:=fun _=>some _) (fun k=>?_) (Ev.now _);simp only [bits_Blank.l0];rw [if_neg (by omega),List.drop_of_length_le (by omega)];rfl
 | d+1,i,hi=>by
  have h2:=qpH l hn d (i+1) (by omega);have e5:wrap64 ((i:Int)+1)=((i+1:Nat):Int):=by rw [qbQ (by omega) (by omega)];simp
  have ed:l.drop i=l[i]'(by omega) :: l.drop (i+1):=by rw [List.getElem_cons_drop]
  by_cases hc:rd l (i:Int)=255
  ·have e:qcZ (l.drop i)=qcZ (l.drop (i+1)):=by rw [ed];rw [qpV l i (by omega)] at hc;simp [qcZ,hc]
   rw [e];refine Ev.step (fun k=>?_) h2;simp only [bits_Blank.l0];rw [if_pos (by omega),if_pos (by omega),if_pos (by omega),if_pos hc,e5]
  ·have e:qcZ (l.drop i)=false:=by rw [ed];rw [qpV l i (by omega)] at hc;simp only [qcZ,List.all_cons];simp [hc]
   rw [e];refine Ev.step (f:=fun _=>some _) (fun k=>?_) (Ev.now _);simp only [bits_Blank.l0];rw [if_pos (by omega),if_pos (by omega),if_pos (by omega),if_neg hc]
theorem qwU (l:List Int) (hn:l.length≤9223372036854775806):Ev (fun k=>bits_Blank.f k l) (qcZ l):=qpH l hn l.length 0 (by omega)
theorem qnY (l:List Int) (hn:l.length≤9223372036854775806):∀ (d i:Nat),i+d=l.length→Ev (fun k=>pumiceref01_Blank.l0 k l (i:Int)) (qcZ (l.drop i))
 | 0,i,hi=>by
  refine Ev.step (f:=fun _=>some _) (fun k=>?_) (Ev.now _);simp only [pumiceref01_Blank.l0];rw [if_neg (by omega),List.drop_of_length_le (by omega)];rfl
 | d+1,i,hi=>by
  have h2:=qnY l hn d (i+1) (by omega);have e5:wrap64 ((i:Int)+1)=((i+1:Nat):Int):=by rw [qbQ (by omega) (by omega)];simp
  have ed:l.drop i=l[i]'(by omega) :: l.drop (i+1):=by rw [List.getElem_cons_drop]
  by_cases hc:rd l (i:Int)=255
  ·have e:qcZ (l.drop i)=qcZ (l.drop (i+1)):=by rw [ed];rw [qpV l i (by omega)] at hc;simp [qcZ,hc]
   rw [e];refine Ev.step (fun k=>?_) h2;simp only [pumiceref01_Blank.l0];rw [if_pos (by omega),if_pos (by omega),if_pos hc,e5]
  ·have e:qcZ (l.drop i)=false:=by rw [ed];rw [qpV l i (by omega)] at hc;simp only [qcZ,List.all_cons];simp [hc]
   rw [e];refine Ev.step (f:=fun _=>some _) (fun k=>?_) (Ev.now _);simp only [pumiceref01_Blank.l0];rw [if_pos (by omega),if_pos (by omega),if_neg hc]
theorem qvD (l:List Int) (hn:l.length≤9223372036854775806):Ev (fun k=>pumiceref01_Blank.f k l) (qcZ l):=qnY l hn l.length 0 (by omega)
theorem qrK (l:List Int) (n:Nat) (hn:n≤1048576):∀ (d i:Nat),i+d=n→Ev (fun k=>pumiceref01_Fill.l0 k l (n:Int) (qhY l i) (i:Int)) (qhY l n)
 | 0,i,hi=>by
  refine Ev.step (f:=fun _=>some _) (fun k=>?_) (Ev.now _);have hi2:i=n:=by omega
  subst hi2;simp only [pumiceref01_Fill.l0];rw [if_neg (by omega)]
 | d+1,i,hi=>by
  have h2:=qrK l n hn d (i+1) (by omega);refine Ev.step (fun k=>?_) h2;have e:=qjA l i;have e5:wrap64 ((i:Int)+1)=((i+1:Nat):Int):=by rw [qbQ (by omega) (by omega)];simp
  have q1:(i:Int) < (n:Int):=by omega
  have q2:(qhY l i).length < 140737488355328:=by omega
  have q3:(0:Int)≤(i:Int):=by omega
  by_cases hc:i < l.length
  ·have q4:(i:Int) < (l.length:Int):=by omega
   simp only [pumiceref01_Fill.l0,eq_true q1,eq_true q2,eq_true q3,eq_true q4,if_true,e5];rw [qmC,if_pos hc]
  ·have q4:¬ (i:Int) < (l.length:Int):=by omega
   simp only [pumiceref01_Fill.l0,eq_true q1,eq_true q2,eq_false q4,if_true,if_false,e5];rw [qmC,if_neg hc]
theorem qxO (l:List Int) (n:Nat) (hn:n≤1048576):Ev (fun k=>pumiceref01_Fill.f k l (n:Int)) (qhY l n):=by
 have h:=qrK l n hn n 0 (by omega);simp [qhY] at h ⊢;exact h
end
end Go.Proofs.YtdlimghdimkadaaGreatDoor.PAll
namespace Go.Proofs.YtdlimghdimkadaaGreatDoor.Plain
open Go Go.RowKit YtdlimghdimkadaaGreatDoorW.PrintWords
def qeK (p:List Int) (page:Int):List Int:=qhY (qhB p).1 page.toNat
def countP (n:Int):List Int:=69 :: putL 4 n
def qoJ (leb seq pages:Int):List Int:=77 :: putL 2 leb ++ putL 8 seq ++ [pages]
def qmE (n page:Int):List Int × Int:=if n < 0∨2147483647 < n∨page < 64∨512 < page then ([],22) else (qeK (countP n) page,0)
def vcF (leb seq pages page:Int):List Int × Int:=if leb < 0∨256≤leb∨pages < 0∨64 < pages∨page < 64∨512 < page then ([],22) else (qeK (qoJ leb seq pages) page,0)
def qeN (b:List Int) (kind:Int) (n:Nat):Option (List Int) :=
 if b.length < 64∨512 < b.length then none
 else if (qaZ b).2.2=true∧(qaZ b).1.length=n∧(qaZ b).1.getD 0 0=kind∧qcZ (b.drop (qaZ b).2.1.toNat)=true then some (qaZ b).1 else none
def qaX (b:List Int):Int × Bool :=
 match qeN b 69 5 with
 | none=>(0,false)
 | some p=>if 2147483647 < qcN (p.drop 1) then (0,false) else (qcN (p.drop 1),true)
def qbA (b:List Int):(Int × Int × Int) × Bool :=
 match qeN b 77 12 with
 | none=>((0,0,0),false)
 | some p=>if 256≤qcN ((p.drop 1).take 2)∨64 < qcN ((p.drop 11).take 1) then ((0,0,0),false) else ((qcN ((p.drop 1).take 2),qcN ((p.drop 3).take 8),qcN ((p.drop 11).take 1)),true)
theorem qfV {b:List Int} (hb:qbN b):qbN (qaZ b).1:=by
 unfold qaZ
 split
 ·exact fun _ h=>by cases h
 ·split
  ·exact fun _ h=>by cases h
  ·split
   ·exact (hb.take _).drop _
   ·exact fun _ h=>by cases h
theorem qjV {b:List Int} (hb:qbN b):0≤(qaZ b).2.1∧(qaZ b).2.1≤b.length:=by
 unfold qaZ
 split
 ·exact ⟨Int.le_refl _,by simp⟩
 ·rename_i h6
  have h0:=(qkQ (hb.take 2)).1
  split
  ·exact ⟨Int.le_refl _,by simp⟩
  ·rename_i hc
   split
   ·simp only [not_or,Int.not_lt] at hc;exact ⟨by show 0≤6+qcN (b.take 2);omega,by show 6+qcN (b.take 2)≤b.length;omega⟩
   ·exact ⟨Int.le_refl _,by simp⟩
theorem qgR {b p:List Int} {kind:Int} {n:Nat} (hb:qbN b) (h:qeN b kind n=some p):qbN p∧p.length=n∧p.getD 0 0=kind:=by
 unfold qeN at h
 split at h
 ·cases h
 ·split at h
  ·rename_i hc
   cases h
   exact ⟨qfV hb,hc.2.1,hc.2.2.1⟩
  ·cases h
theorem qjB (n:Int):qbN (countP n):=fun x hx=>by
 rcases List.mem_cons.1 hx with rfl|hx
 ·decide
 ·exact qbN.putL 4 n x hx
theorem qeP (n:Int):(countP n).length=5:=by simp [countP,qbS]
theorem qlY (leb seq pages:Int) (hp:0≤pages∧pages < 256):qbN (qoJ leb seq pages):=by
 unfold qoJ;refine qbN.append (qbN.append (fun x hx=>?_) (qbN.putL 8 seq)) (fun x hx=>?_)
 ·rcases List.mem_cons.1 hx with rfl|hx
  ·decide
  ·exact qbN.putL 2 leb x hx
 ·rcases List.mem_singleton.1 hx with rfl
  exact hp
theorem qfX (leb seq pages:Int):(qoJ leb seq pages).length=12:=by simp [qoJ,qbS]
theorem qoT {p:List Int} (h0:p.length ≠ 0) (h1:p.length≤1024):(qhB p).1.length=6+p.length:=by
 rw [qkS h0 h1];simp only [List.length_append,qbS]
theorem qqK {p:List Int} (hp:qbN p):qbN (qhB p).1:=by
 unfold qhB
 split
 ·exact fun _ h=>by cases h
 ·exact ((qbN.putL _ _).append (qbN.putL _ _)).append hp
theorem qtM {l:List Int} (hl:qbN l) (n:Nat):qbN (qhY l n):=by
 unfold qhY;refine (hl.take n).append (fun x hx=>?_);rw [List.eq_of_mem_replicate hx];decide
theorem qkP {p:List Int} (hp:qbN p) (page:Int):qbN (qeK p page):=qtM (qqK hp) _
theorem qgK (p:List Int) (page:Int):(qeK p page).length=page.toNat:=qjA _ _
theorem qkO {p:List Int} (h0:p.length ≠ 0) (h1:p.length≤50) {page:Int} (hp:64≤page):qeK p page=(qhB p).1 ++ List.replicate (page.toNat - (6+p.length)) 255:=by
 have hl:=qoT h0 (by omega);unfold qeK qhY;rw [List.take_of_length_le (by omega),hl]
theorem qwQ (n:Nat):qcZ (List.replicate n 255)=true:=by
 unfold qcZ;rw [List.all_eq_true];intro x hx;rw [List.eq_of_mem_replicate hx];rfl
theorem qnF {p:List Int} (h0:p.length ≠ 0) (h1:p.length≤50) {page:Int} (hp:64≤page):qaZ (qeK p page)=(p,6+(p.length:Int),true):=by
 rw [qkO h0 h1 hp];exact qmJ _ h0 (by omega)
theorem qlZ {p:List Int} (h0:p.length ≠ 0) (h1:p.length≤50) {page:Int} (hp:64≤page) (hq:page≤512) (kind:Int) (n:Nat) :
  qeN (qeK p page) kind n=if p.length=n∧p.getD 0 0=kind then some p else none:=by
 have hd:(qeK p page).drop (6+(p.length:Int)).toNat=List.replicate (page.toNat - (6+p.length)) 255:=by
  rw [qkO h0 h1 hp,List.drop_left' (by rw [qoT h0 (by omega)];omega)]
 unfold qeN;rw [if_neg (by rw [qgK];omega),qnF h0 h1 hp];simp only [hd,qwQ,true_and,and_true]
theorem qpZ {n page:Int} (hn:0≤n∧n≤2147483647) (hp:64≤page∧page≤512):qaX (qeK (countP n) page)=(n,true):=by
 have h1:qcN ((countP n).drop 1)=n:=by
  show qcN (putL 4 n)=n;rw [qgL _ _ (by omega)];omega
 unfold qaX;rw [qlZ (by rw [qeP];decide) (by rw [qeP];decide) hp.1 hp.2,if_pos ⟨qeP n,rfl⟩];show (if 2147483647 < qcN ((countP n).drop 1) then ((0:Int),false) else (qcN ((countP n).drop 1),true))=_;rw [h1,if_neg (by omega)]
theorem qvK {leb seq pages page:Int} (h1:0≤leb∧leb < 256) (h2:0≤seq∧seq < 18446744073709551616) (h3:0≤pages∧pages≤64) (hp:64≤page∧page≤512):qbA (qeK (qoJ leb seq pages) page)=((leb,seq,pages),true):=by
 have e1:((qoJ leb seq pages).drop 1).take 2=putL 2 leb:=by
  show (putL 2 leb ++ putL 8 seq ++ [pages]).take 2=_;rw [List.append_assoc,List.take_left' (qbS _ _)]
 have e2:((qoJ leb seq pages).drop 3).take 8=putL 8 seq:=by
  show ((putL 2 leb ++ putL 8 seq ++ [pages]).drop 2).take 8=_;rw [List.append_assoc,List.drop_left' (qbS _ _),List.take_left' (qbS _ _)]
 have e3:((qoJ leb seq pages).drop 11).take 1=[pages]:=by
  show ((putL 2 leb ++ putL 8 seq ++ [pages]).drop 10).take 1=_;rw [List.drop_left' (by rw [List.length_append,qbS,qbS])];rfl
 have g1:qcN (putL 2 leb)=leb:=by rw [qgL _ _ (by omega)];omega
 have g2:qcN (putL 8 seq)=seq:=by rw [qgL _ _ (by omega)];omega
 have g3:qcN [pages]=pages:=by
  show qoP [pages] 1=pages;simp [qoP]
 unfold qbA;rw [qlZ (by rw [qfX];decide) (by rw [qfX];decide) hp.1 hp.2,if_pos ⟨qfX _ _ _,rfl⟩];show (if 256≤qcN (((qoJ leb seq pages).drop 1).take 2)∨64 < qcN (((qoJ leb seq pages).drop 11).take 1) then (((0:Int),(0:Int),(0:Int)),false) else ((qcN (((qoJ leb seq pages).drop 1).take 2),qcN (((qoJ leb seq pages).drop 3).take 8),qcN (((qoJ leb seq pages).drop 11).take 1)),true))=_;rw [e1,e2,e3,g1,g2,g3,if_neg (by omega)]
end Go.Proofs.YtdlimghdimkadaaGreatDoor.Plain
namespace Go.Proofs.YtdlimghdimkadaaGreatDoor.PAll
open Go Go.RowKit YtdlimghdimkadaaGreatDoorW.PrintWords YtdlimghdimkadaaGreatDoorW.PrintLast YtdlimghdimkadaaGreatDoorW.PrintMore
attribute [local go_sem] qdS qdQ qeJ qeI qcV qcU qdR qdP
section
open Plain
theorem Ev.succ {α:Type} {g:Nat→Option α} {r:α} (h:Ev (fun k=>g (k+1)) r):Ev g r:=Ev.step (fun _=>rfl) h
theorem qnX (p:List Int) (hp:qbN p) (h1:p.length≤50) (page:Int) (hq:0≤page∧page≤512):Ev (fun k=>pumiceref05_image.f k p page) (qeK p page):=by
 unfold pumiceref05_image.f
 obtain ⟨q,rfl⟩:∃ q:Nat,page=(q:Int):=⟨page.toNat,by omega⟩
 refine Ev.bind (qvB p hp (by omega)) ?_;exact Ev.bind (qxO _ q (by omega)) (Ev.now _)
theorem qvC (n page:Int):Ev (fun k=>pumiceref05_Count.f k n page) (qmE n page):=by
 unfold pumiceref05_Count.f qmE
 by_cases h:n < 0∨2147483647 < n∨page < 64∨512 < page
 ·rw [if_pos h];have hj:Ev (fun k=>pumiceref05_Count.j0 k n page true) ([],22):=Ev.succ (by simp only [pumiceref05_Count.j0,if_true];exact Ev.now _)
  by_cases h1:page < 64
  ·simp only [if_pos h1];exact hj
  ·by_cases h2:page > 512
   ·simp only [if_neg h1,if_pos h2];exact hj
   ·by_cases h3:n < 0
    ·simp only [if_neg h1,if_neg h2,if_pos h3];exact hj
    ·simp only [if_neg h1,if_neg h2,if_neg h3,decide_eq_true (show n > 2147483647 by omega)];exact hj
 ·rw [if_neg h];simp only [if_neg (show ¬ (page < 64) by omega),if_neg (show ¬ (page > 512) by omega),if_neg (show ¬ (n < 0) by omega),decide_eq_false (show ¬ (n > 2147483647) by omega)];refine Ev.succ ?_;simp only [pumiceref05_Count.j0,Bool.false_eq_true,if_false];rw [qcO (by omega) (by omega)];simp only [Option.bind_some];have h4:=qkH n 4 (by omega);rw [show qjH 4=4 from rfl] at h4;refine Ev.bind h4 ?_;have hc:=qjB n;have hl:=qeP n;simp only [if_pos (show ([69]:List Int).length+(putL 4 n).length < 140737488355328 by rw [qbS];decide)];exact Ev.bind (qnX (countP n) hc (by omega) page (by omega)) (Ev.now _)
theorem qpY (leb seq pages page:Int) (hs:0≤seq):Ev (fun k=>pumiceref05_Mapping.f k leb seq pages page) (vcF leb seq pages page):=by
 unfold pumiceref05_Mapping.f vcF
 by_cases h:leb < 0∨256≤leb∨pages < 0∨64 < pages∨page < 64∨512 < page
 ·rw [if_pos h];have hj:Ev (fun k=>pumiceref05_Mapping.j0 k page true leb seq pages) ([],22):=Ev.succ (by simp only [pumiceref05_Mapping.j0,if_true];exact Ev.now _)
  by_cases h4:page < 64
  ·simp only [if_pos h4];exact hj
  ·by_cases h5:page > 512
   ·simp only [if_neg h4,if_pos h5];exact hj
   ·by_cases h1:leb < 0
    ·simp only [if_neg h4,if_neg h5,if_pos h1];exact hj
    ·by_cases h2:leb ≥ 256
     ·simp only [if_neg h4,if_neg h5,if_neg h1,if_pos h2];exact hj
     ·by_cases h3:pages < 0
      ·simp only [if_neg h4,if_neg h5,if_neg h1,if_neg h2,if_pos h3];exact hj
      ·simp only [if_neg h4,if_neg h5,if_neg h1,if_neg h2,if_neg h3,decide_eq_true (show pages > 64 by omega)];exact hj
 ·rw [if_neg h];simp only [if_neg (show ¬ (page < 64) by omega),if_neg (show ¬ (page > 512) by omega),if_neg (show ¬ (leb < 0) by omega),if_neg (show ¬ (leb ≥ 256) by omega),if_neg (show ¬ (pages < 0) by omega),decide_eq_false (show ¬ (pages > 64) by omega)];refine Ev.succ ?_;simp only [pumiceref05_Mapping.j0,Bool.false_eq_true,if_false];rw [qcO (by omega) (by omega),show pages % 256=pages by omega];simp only [Option.bind_some];have h2:=qkH leb 2 (by omega);rw [show qjH 2=2 from rfl] at h2;have h8:=qkH seq 8 hs;rw [show qjH 8=8 from rfl] at h8;refine Ev.bind h2 ?_;simp only [if_pos (show ([77]:List Int).length+(putL 2 leb).length < 140737488355328 by rw [qbS];decide)];refine Ev.bind h8 ?_;have hc:=qlY leb seq pages (by omega);have hl:=qfX leb seq pages;simp only [if_pos (show ([77] ++ putL 2 leb:List Int).length+(putL 8 seq).length < 140737488355328 by rw [List.length_append,qbS,qbS];decide),if_pos (show ([77] ++ putL 2 leb ++ putL 8 seq:List Int).length < 140737488355328 by simp only [List.length_append,qbS,List.length_cons,List.length_nil];decide)];exact Ev.bind (qnX (qoJ leb seq pages) hc (by omega) page (by omega)) (Ev.now _)
theorem quU (n page:Int) (w:World):Calls Tryz.prog 56 #[.int .i64 n,.int .i64 page] w fun e w'=>∃ v:Value,e=.returned (.tuple #[v,.int .i64 (qmE n page).2])∧Kd.R (Kd.int .u8) 5 w' w.heap.size (fun _=>True) v (qmE n page).1∧Below w.heap.size w w':=by
 obtain ⟨k,hk⟩:=(qvC n page).rounds;exact pumiceref05_Count.calls k n page _ _ w hk
theorem qpR (leb seq pages page:Int) (hs:0≤seq) (w:World):Calls Tryz.prog 57 #[.agg #[.int .i64 leb,.int .u64 seq,.int .i64 pages],.int .i64 page] w fun e w'=>∃ v:Value,e=.returned (.tuple #[v,.int .i64 (vcF leb seq pages page).2])∧Kd.R (Kd.int .u8) 5 w' w.heap.size (fun _=>True) v (vcF leb seq pages page).1∧Below w.heap.size w w':=by
 obtain ⟨k,hk⟩:=(qpY leb seq pages page hs).rounds;exact pumiceref05_Mapping.calls k leb seq pages page _ _ w hk
section
variable (A:Option Addr) (c:Nat) (l:List Int) (w:World)
theorem qsO (hl:qbN l) (hn:l.length≤1000000) (hr:Kd.C (Kd.int .u8) w A l.length l) (hc:l.length≤c):Calls Tryz.prog 146 #[.slice A l.length c] w fun e w'=>∃ v:Value,e=.returned (.tuple #[v,.int .i64 (qaZ l).2.1,.bool (qaZ l).2.2])∧Kd.R (Kd.int .u8) 5 w' w.heap.size (fun _=>True) v (qaZ l).1∧Below w.heap.size w w':=by
 obtain ⟨k,hk⟩:=(qqW l hl (by omega)).rounds;exact bits_Unframe.calls k A c l _ _ _ w hr hc hk
theorem vcX (hl:qbN l) (hr:Kd.C (Kd.int .u8) w A l.length l) (hc:l.length≤c):Calls Tryz.prog 150 #[.slice A l.length c] w fun e w'=>e=.returned (.int .u64 (qcN l))∧Below w.heap.size w w':=by
 obtain ⟨k,hk⟩:=(qqX l hl).rounds;exact bits_Get.calls k A c l _ w hr hc hk
theorem vaO (hl:qbN l) (hr:Kd.C (Kd.int .u8) w A l.length l) (hc:l.length≤c):Calls Tryz.prog 145 #[.slice A l.length c] w fun e w'=>e=.returned (.int .u64 (qcN l))∧Below w.heap.size w w':=by
 obtain ⟨k,hk⟩:=(qkI l hl).rounds
 exact (pumiceref01_Get.calls k A c l _ w hr hc hk).mono fun e w' h=>⟨h.1,h.2.below⟩
theorem qyZ (hn:l.length≤9223372036854775806) (hr:Kd.C (Kd.int .u8) w A l.length l) (hc:l.length≤c):Calls Tryz.prog 147 #[.slice A l.length c] w fun e w'=>e=.returned (.bool (qcZ l))∧Below w.heap.size w w':=by
 obtain ⟨k,hk⟩:=(qwU l hn).rounds
 exact (bits_Blank.calls k A c l _ w hr hc hk).mono fun e w' h=>⟨h.1,h.2.below⟩
end
end
section
open Plain Go.Extern.Stop Go.Stop Go.Extern
theorem qrU (v:Value) (w:World):(Extern.ReflectliteType.typeOf #[.iface 239 v]).run Tryz.prog w=.ok (.iface 221 (.agg #[typeHandle Tryz.prog 239])) w:=by kernel_rfl
theorem qiY (w:World):(callFunc 195 #[.agg #[typeHandle Tryz.prog 239]]).run Tryz.prog w=.ok (.value (.bool true)) w:=by kernel_rfl
theorem qfF (v:Value) (w:World):(Go.method 371 221 v "Comparable").run Tryz.prog w=.ok (195,v) w:=by kernel_rfl
theorem qzL:(Tryz.prog.info? 239).map (·.comparable)=some true:=by kernel_rfl
theorem qzK:(Tryz.prog.info? 259).map (·.size)=some 1:=by kernel_rfl
theorem vdT (v:Value) (xT:TypeId) (w:World):(Instr.typeAssert (.iface 195 v) xT 223 true).run Tryz.prog w=.ok (.tuple #[.nilIface,.bool false]) w:=run_typeAssert_lacksB Tryz.underlying223 (by kernel_rfl) (by kernel_rfl) v xT w
theorem qtL (v:Value) (xT:TypeId) (w:World):(Instr.typeAssert (.iface 195 v) xT 226 true).run Tryz.prog w=.ok (.tuple #[.iface 195 v,.bool true]) w:=run_typeAssert_hasB Tryz.underlying226 (by kernel_rfl) v xT w
theorem qnB (v:Value) (w:World):(Go.method 371 195 v "Unwrap").run Tryz.prog w=.ok (189,v) w:=by kernel_rfl
abbrev gNone (w:World) (a:Addr):Prop:=w.cell? ⟨0,0,none⟩=some (.iface 239 (.pointer (some a)))
theorem qiW (a:Addr) (w:World) :
  Calls Tryz.prog 129 #[.iface 239 (.pointer (some a)),.iface 239 (.pointer (some a))] w fun e w'=>e=.returned (.bool true)∧Below w.heap.size w w':=by
 obtain ⟨i,hi,hcmp⟩:=Option.map_eq_some_iff.1 qzL;obtain ⟨j,hj,hjs⟩:=Option.map_eq_some_iff.1 qzK;have h8:=@run_callFunc_extern Tryz.prog 148 _ Extern.ReflectliteType.typeOf Tryz.func148 (by kernel_rfl) (by kernel_rfl) (by kernel_rfl) (by kernel_rfl);have tT:=qrU;have cT:=qiY;have mR:=qfF;have heq:=run_eql_iface_ptr_same (P:=Tryz.prog) w a Tryz.underlying132 Tryz.underlying239 hi hcmp hj;go_enter Tryz.func129,Tryz.ntmps129;go_wp2;refine wp_loop_rounds 1 ?_;rw [rounds_succ];go_wp2;go_ret;exact ⟨rfl,Below.refl _ _⟩
theorem qfZ (b:Addr) (w:World) :
  Calls Tryz.prog 129 #[.nilIface,.iface 239 (.pointer (some b))] w fun e w'=>e=.returned (.bool false)∧Below w.heap.size w w':=by
 have hn:=run_eql_iface_nil_left (P:=Tryz.prog) w 239 (.pointer (some b)) Tryz.underlying132;go_enter Tryz.func129,Tryz.ntmps129;go_wp2;go_ret;exact ⟨rfl,Below.refl _ _⟩
theorem qiX (k b:Addr) (w:World) (hg:gNone w b) :
  Calls Tryz.prog 129 #[.iface 195 (.pointer (some k)),.iface 239 (.pointer (some b))] w fun e w'=>e=.returned (.bool true)∧Below w.heap.size w w':=by
 obtain ⟨i,hi,hcmp⟩:=Option.map_eq_some_iff.1 qzL;obtain ⟨j,hj,hjs⟩:=Option.map_eq_some_iff.1 qzK;have h8:=@run_callFunc_extern Tryz.prog 148 _ Extern.ReflectliteType.typeOf Tryz.func148 (by kernel_rfl) (by kernel_rfl) (by kernel_rfl) (by kernel_rfl);have tT:=qrU;have cT:=qiY;have mR:=qfF;have nW:=vdT;have uW:=qtL;have mU:=qnB;have heq:=run_eql_iface_ptr_same (P:=Tryz.prog) w b Tryz.underlying132 Tryz.underlying239 hi hcmp hj;have hty:=run_eql_iface_types (P:=Tryz.prog) 195 239 (.pointer (some k)) (.pointer (some b)) Tryz.underlying132 (by decide) w;have hnn:=fun v=>run_eql_iface_nil_left (P:=Tryz.prog) w 239 v Tryz.underlying132
 go_enter Tryz.func129,Tryz.ntmps129;go_wp2;refine wp_loop_rounds 2 ?_;rw [rounds_succ];go_wp2;rw [rounds_succ];go_wp2;go_ret;exact ⟨rfl,Below.refl _ _⟩
end
section
open Plain
theorem vcW:∃ i,Tryz.prog.info? 5=some i∧i.size=1:=by
 have h:(Tryz.prog.info? 5).map (·.size)=some 1:=by kernel_rfl
 obtain ⟨i,hi,hs⟩:=Option.map_eq_some_iff.1 h;exact ⟨i,hi,hs⟩
theorem qjY (A:Option Addr) (c:Nat) (l:List Int) (j:Int) (h0:0≤j) (hj:j≤l.length) (hc:l.length≤c) :
  ∃ (A':Option Addr) (c':Nat),(∀ W:World,(Instr.slice 35 (.slice A l.length c) (some (.int .i64 j)) none none).run Tryz.prog W=.ok (.slice A' (l.drop j.toNat).length c') W)∧(l.drop j.toNat).length≤c'∧∀ w:World,Kd.C kB w A l.length l→Kd.C kB w A' (l.drop j.toNat).length (l.drop j.toNat):=by
 obtain ⟨i,hi,hs⟩:=vcW;refine ⟨if c=j.toNat then A else A.map (·.add (j.toNat*1)),c - j.toNat,fun W=>?_,by rw [List.length_drop];omega,fun w h=>Kd.C_drop h (by omega) hc⟩;rw [List.length_drop];exact qyU 35 5 .i64 Tryz.underlying35 hi 1 hs A l.length c j h0 hj W
theorem vdQ (A:Option Addr) (c:Nat) (l:List Int) (j:Int) (h0:0≤j) (hj:j≤l.length) (hc:l.length≤c) :
  (∀ W:World,(Instr.slice 35 (.slice A l.length c) none (some (.int .i64 j)) none).run Tryz.prog W=.ok (.slice A (l.take j.toNat).length c) W)∧(l.take j.toNat).length≤c∧∀ w:World,Kd.C kB w A l.length l→Kd.C kB w A (l.take j.toNat).length (l.take j.toNat):=by
 obtain ⟨i,hi,hs⟩:=vcW;refine ⟨fun W=>?_,by rw [List.length_take];omega,fun w h=>Kd.C_take h (by omega)⟩;rw [List.length_take,show min j.toNat l.length=j.toNat by omega];exact vdA 35 5 .i64 Tryz.underlying35 hi A l.length c j h0 hj hc W
theorem qeB {W:World} {q:Addr} {x:Value} (h1:W.cell? q=some x) {g t:Nat} {fr:Nat × Nat} {cs:Array Value} (hx:W.heap[g]?=some (.cells cs t fr)) (hno:∀ k:Nat,cs[k]? ≠ some x) (k:Nat) (v:Value):(W.setCell ⟨g,k,none⟩ v).cell? q=some x:=by
 have hne:q.block ≠ g:=fun e=>by
  unfold World.cell? at h1;rw [e,hx] at h1;simp only at h1
  split at h1
  ·cases h1
  ·exact hno _ h1
 unfold World.cell? at h1 ⊢;rw [Below.heap_setCell W ⟨g,k,none⟩ v _ hne];exact h1
theorem qxA {W:World} {A:Option Addr} {l:List Int} (h:Kd.C kB W A l.length l) {g t:Nat} {fr:Nat × Nat} {cs:Array Value} (hx:W.heap[g]?=some (.cells cs t fr)) (hno:∀ k:Nat,∀ n:Int,cs[k]? ≠ some (.int .u8 n)) (k:Nat) (v:Value):Kd.C kB (W.setCell ⟨g,k,none⟩ v) A l.length l:=by
 refine ⟨h.1,h.2.1,fun hp=>?_⟩;obtain ⟨ad,hA,hr⟩:=h.2.2 hp;refine ⟨ad,hA,fun j x hj=>?_⟩;obtain ⟨cs2,hs,hK,hc⟩:=hr j x hj;refine ⟨cs2,hs,hK,fun i u hu=>?_⟩;have h1:=hc i u hu;have hcs:cs2=[.int .u8 x]:=hK;subst hcs
 have hu2:u=.int .u8 x:=by
  cases i with
  | zero=>simpa using hu.symm
  | succ i=>simp at hu
 subst hu2;exact qeB h1 hx (fun q=>hno q x) k v
def vdK (w w':World) (a:Addr) (v:Value):Option (List Int)→Prop
 | none=>∃ x,v=.tuple #[.pointer none,x]∧(x=.iface 239 (.pointer (some a))∨∃ k:Addr,x=.iface 195 (.pointer (some k)))
 | some p=>∃ (g:Nat) (B:Option Addr) (c:Nat),v=.tuple #[.pointer (some ⟨g,0,none⟩),.nilIface]∧w.heap.size≤g∧w'.heap[g]?=some (.cells #[.slice B (p.drop 1).length c] 199 (0,0))∧(p.drop 1).length≤c∧Kd.C kB w' B (p.drop 1).length (p.drop 1)
theorem qvO (A:Option Addr) (c:Nat) (l:List Int) (a:Addr) (kind:Int) (n:Nat) (w:World) (hn:0 < n) (hl:qbN l) (hr:Kd.C kB w A l.length l) (hc:l.length≤c) (hg:gNone w a) :
  Calls Tryz.prog 128 #[.slice A l.length c,.int .u8 kind,.int .i64 n] w fun e w'=>∃ v,e=.returned v∧vdK w w' a v (qeN l kind n)∧Below w.heap.size w w':=by
 have HR:=aM hr;have HC:=aM hc;have HL:=aM hl;have HG:=aM hg;have HN:=aM hn;clear hr hc hl hg hn
 by_cases h64:l.length < 64∨512 < l.length
 ·have hO:qeN l kind n=none:=by unfold qeN;rw [if_pos h64]
  rw [hO];have HG2:w.cell? ⟨0,0,none⟩=some (.iface 239 (.pointer (some a))):=HG.out
  by_cases h1:l.length < 64
  ·have d0:decide ((l.length:Int) < 64)=true:=decide_eq_true (by omega);have d1:decide (l.length < 64)=true:=decide_eq_true h1;clear h64 h1 hO;go_enter Tryz.func128,Tryz.ntmps128;go_wp2;go_region;go_wp2;go_ret2;exact ⟨_,rfl,⟨_,rfl,.inl rfl⟩,qaW (Below.refl _ _)⟩
  ·have d0:decide ((l.length:Int) < 64)=false:=decide_eq_false (by omega);have d1:decide (l.length < 64)=false:=decide_eq_false h1;have d2:decide (512 < (l.length:Int))=true:=decide_eq_true (by omega);have d3:decide (512 < l.length)=true:=decide_eq_true (by omega);clear h64 h1 hO;go_enter Tryz.func128,Tryz.ntmps128;go_wp2;go_region;go_wp2;go_ret2;exact ⟨_,rfl,⟨_,rfl,.inl rfl⟩,qaW (Below.refl _ _)⟩
 ·have d0:decide ((l.length:Int) < 64)=false:=decide_eq_false (by omega);have d1:decide (l.length < 64)=false:=decide_eq_false (by omega);have d2:decide (512 < (l.length:Int))=false:=decide_eq_false (by omega);have d3:decide (512 < l.length)=false:=decide_eq_false (by omega)
  have hO:qeN l kind n=if (qaZ l).2.2=true∧(qaZ l).1.length=n∧(qaZ l).1.getD 0 0=kind∧qcZ (l.drop (qaZ l).2.1.toNat)=true then some (qaZ l).1 else none:=by
   unfold qeN;rw [if_neg h64]
  have HU:=aM (qsO A c l w HL.out (by omega) HR.out HC.out);have hpb:=qfV HL.out;have hln:(l.drop (qaZ l).2.1.toNat).length≤9223372036854775806:=by rw [List.length_drop];omega
  have hen:=qjV HL.out;rw [hO];clear h64 hO;generalize (qaZ l).1=p at HU hpb ⊢;generalize (qaZ l).2.1=en at HU hen hln ⊢;generalize (qaZ l).2.2=ok at HU ⊢;obtain ⟨A2,c2,hcut,hc2,hC2⟩:=qjY A c l en hen.1 hen.2 HC.out;generalize l.drop en.toNat=dl at hcut hc2 hC2 hln ⊢;have HB2:=aM (fun (w':World) (hb:Below w.heap.size w w')=>qyZ A2 c2 dl w' hln (hC2 w' (Kd.C_below HR.out hb)) hc2);have HE:=aM hen;have hu63:=Tryz.underlying197;have hu65:=Tryz.underlying199;clear hC2 hc2 hen hln
  cases ok with
  | false =>
   rw [if_neg (by rintro ⟨h,_⟩;cases h)];go_enter Tryz.func128,Tryz.ntmps128
   go_upto_region 4 with (first
    | (go_at_call 146;(with_reducible refine HU.out.mono ?_);rintro e w1 ⟨v1,rfl,hr1,hb1⟩;obtain ⟨A1,c1,rfl,hl1,hC1⟩:=Kd.R_reads hr1;have HC1:=aM hC1;have HB1:=aM hb1;have HL1:=aM hl1;have HBL:=aM (HB2.out w1 hb1);clear hr1 hC1 hb1 hl1))
   go_wp2;go_ret2;exact ⟨_,rfl,⟨_,rfl,.inr ⟨_,rfl⟩⟩,qaA HB1.out _⟩
  | true =>
   by_cases hpn:p.length=n
   ·subst hpn;have e1:((p.length:Int)==(p.length:Int))=true:=by simp
    have e2:((p.length:Int) != (p.length:Int))=false:=by simp
    by_cases hk:p.getD 0 0=kind
    ·have e3:(p.getD 0 0==kind)=true:=beq_iff_eq.mpr hk;have e4:(p.getD 0 0 != kind)=false:=bne_eq_false_iff_eq.mpr hk
     cases hbl:qcZ dl with
     | false =>
      rw [if_neg (by rintro ⟨_,_,_,h⟩;cases h)];rw [hbl] at HB2;clear hbl;go_enter Tryz.func128,Tryz.ntmps128
      go_upto_region 4 with (first
       | (go_at_call 146;(with_reducible refine HU.out.mono ?_);rintro e w1 ⟨v1,rfl,hr1,hb1⟩;obtain ⟨A1,c1,rfl,hl1,hC1⟩:=Kd.R_reads hr1;have HC1:=aM hC1;have HB1:=aM hb1;have HL1:=aM hl1;have HBL:=aM (HB2.out w1 hb1);clear hr1 hC1 hb1 hl1))
      have hp0:0 < p.length:=by have:=HN.out;omega
      obtain ⟨ad,hA1,hx0⟩:=Kd.at_int HC1.out 0 (by decide) (by omega);subst hA1;have hx1:w1.cell? ad=some (.int .u8 (p.getD 0 0)):=by simpa [Addr.add,rd] using hx0
      clear hx0;have hq0:((0:Int) < (p.length:Int))=True:=eq_true (by omega);have hq1:(0 < p.length)=True:=eq_true hp0;generalize p.getD 0 0=p0 at hx1 e3 e4 hk;clear hk
      go_wp2_with (first
       | (go_at_call 147;(with_reducible refine HBL.out.mono ?_);rintro e w2 ⟨rfl,hb2⟩;have HB3:=aM (qaF HB1.out hb2);clear hb2))
      go_ret2;exact ⟨_,rfl,⟨_,rfl,.inr ⟨_,rfl⟩⟩,qaA HB3.out _⟩
     | true =>
      rw [if_pos ⟨rfl,rfl,hk,rfl⟩];rw [hbl] at HB2;clear hbl;go_enter Tryz.func128,Tryz.ntmps128
      go_upto_region 4 with (first
       | (go_at_call 146;(with_reducible refine HU.out.mono ?_);rintro e w1 ⟨v1,rfl,hr1,hb1⟩;obtain ⟨A1,c1,rfl,hl1,hC1⟩:=Kd.R_reads hr1;have HC1:=aM hC1;have HB1:=aM hb1;have HL1:=aM hl1;have HBL:=aM (HB2.out w1 hb1);clear hr1 hC1 hb1 hl1))
      have hp0:0 < p.length:=by have:=HN.out;omega
      obtain ⟨ad,hA1,hx0⟩:=Kd.at_int HC1.out 0 (by decide) (by omega);subst hA1;have hx1:w1.cell? ad=some (.int .u8 (p.getD 0 0)):=by simpa [Addr.add,rd] using hx0
      clear hx0;have hq0:((0:Int) < (p.length:Int))=True:=eq_true (by omega);have hq1:(0 < p.length)=True:=eq_true hp0;generalize p.getD 0 0=p0 at hx1 e3 e4 hk;obtain ⟨A5,c5,hcut5,hc5,hC5⟩:=qjY (some ad) c1 p 1 (by decide) (by omega) HL1.out
      obtain ⟨q,hq⟩:∃ q,q=p.drop (1:Int).toNat:=⟨_,rfl⟩
      have HQ:=aM hq;rw [← hq] at hcut5 hc5 hC5;have HC5:=aM (hC5 w1 HC1.out);have HL5:=aM hc5;clear hC5 hc5 hk hq
      go_wp2_with (first
       | (go_at_call 147;(with_reducible refine HBL.out.mono ?_);rintro e w2 ⟨rfl,hb2⟩;have HB3:=aM (qaF HB1.out hb2);have HB4:=aM hb2;clear hb2))
      go_ret2;have hq:=HQ.out;subst hq;exact ⟨_,rfl,⟨_,A5,c5,rfl,qaG HB3.out,qaV _ _ _,HL5.out,Kd.C_below HC5.out (qaA HB4.out _)⟩,qaA HB3.out _⟩
    ·rw [if_neg (by rintro ⟨_,_,h,_⟩;exact hk h)];have e3:(p.getD 0 0==kind)=false:=beq_eq_false_iff_ne.mpr hk;have e4:(p.getD 0 0 != kind)=true:=bne_iff_ne.mpr hk;go_enter Tryz.func128,Tryz.ntmps128
     go_upto_region 4 with (first
      | (go_at_call 146;(with_reducible refine HU.out.mono ?_);rintro e w1 ⟨v1,rfl,hr1,hb1⟩;obtain ⟨A1,c1,rfl,hl1,hC1⟩:=Kd.R_reads hr1;have HC1:=aM hC1;have HB1:=aM hb1;have HL1:=aM hl1;have HBL:=aM (HB2.out w1 hb1);clear hr1 hC1 hb1 hl1))
     have hp0:0 < p.length:=by have:=HN.out;omega
     obtain ⟨ad,hA1,hx0⟩:=Kd.at_int HC1.out 0 (by decide) (by omega);subst hA1;have hx1:w1.cell? ad=some (.int .u8 (p.getD 0 0)):=by simpa [Addr.add,rd] using hx0
     clear hx0;have hq0:((0:Int) < (p.length:Int))=True:=eq_true (by omega);have hq1:(0 < p.length)=True:=eq_true hp0;generalize p.getD 0 0=p0 at hx1 e3 e4 hk;clear hk;go_wp2;go_ret2;exact ⟨_,rfl,⟨_,rfl,.inr ⟨_,rfl⟩⟩,qaA HB1.out _⟩
   ·rw [if_neg (by rintro ⟨_,h,_⟩;exact hpn h)];have e1:((p.length:Int)==(n:Int))=false:=by simp;omega
    have e2:((p.length:Int) != (n:Int))=true:=by simp;omega
    clear hpn;go_enter Tryz.func128,Tryz.ntmps128
    go_upto_region 4 with (first
     | (go_at_call 146;(with_reducible refine HU.out.mono ?_);rintro e w1 ⟨v1,rfl,hr1,hb1⟩;obtain ⟨A1,c1,rfl,hl1,hC1⟩:=Kd.R_reads hr1;have HC1:=aM hC1;have HB1:=aM hb1;have HL1:=aM hl1;have HBL:=aM (HB2.out w1 hb1);clear hr1 hC1 hb1 hl1))
    go_wp2;go_ret2;exact ⟨_,rfl,⟨_,rfl,.inr ⟨_,rfl⟩⟩,qaA HB1.out _⟩
end
end Go.Proofs.YtdlimghdimkadaaGreatDoor.PAll

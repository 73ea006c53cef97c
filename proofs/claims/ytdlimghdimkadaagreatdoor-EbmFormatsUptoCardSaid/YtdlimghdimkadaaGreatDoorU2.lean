/- Part 2 of what the law EbmFormats rests on. -/
import Derived.Test.YtdlimghdimkadaaGreatDoorU1
set_option maxRecDepth 100000
set_option maxHeartbeats 32000000
set_option linter.unusedSimpArgs false
set_option linter.unusedVariables false
namespace Go.Proofs.YtdlimghdimkadaaGreatDoor.PAll
open Go Go.RowKit YtdlimghdimkadaaGreatDoorW.PrintWords YtdlimghdimkadaaGreatDoorW.PrintLast YtdlimghdimkadaaGreatDoorW.PrintMore
attribute [local go_sem] qdG qdE qdY qdX qcJ qcI qdF qdD
section
attribute [local go_sem] qdG qdE qdY qdX qcJ qcI qdF qdD   
def pumicelaw01_Same.f (l0:List Int) (l1:List Int):Option (Bool):=some ((strOfNums l0).toList==(strOfNums l1).toList)
theorem pumicelaw01_Same.calls (A0:Option Addr) (c0:Nat) (l0:List Int) (A1:Option Addr) (c1:Nat) (l1:List Int) (r:Bool) (w:World) (hr0:Kd.C (Kd.int .u8) w A0 l0.length l0) (hc0:l0.length≤c0) (hr1:Kd.C (Kd.int .u8) w A1 l1.length l1) (hc1:l1.length≤c1) (h:pumicelaw01_Same.f l0 l1=some r) :
  Calls Tryz.prog 32 #[.slice A0 l0.length c0,.slice A1 l1.length c1] w fun e w'=>e=.returned (.bool r)∧qbU w w':=by
 have HR0:=aM hr0;have HC0:=aM hc0;clear hr0 hc0;have HR1:=aM hr1;have HC1:=aM hc1;clear hr1 hc1;have H:(some ((strOfNums l0).toList==(strOfNums l1).toList))=some r:=h;clear h;obtain rfl:=Option.some.inj H;have hcv3:=Kd.C_string (P:=Tryz.prog) (A:=A0) (c:=c0) Tryz.underlying35 Tryz.underlying5 Tryz.underlying9 HR0.out;have hcv4:=Kd.C_string (P:=Tryz.prog) (A:=A1) (c:=c1) Tryz.underlying35 Tryz.underlying5 Tryz.underlying9 HR1.out;go_enter Tryz.func32,Tryz.ntmps32;go_wp2;go_ret;exact ⟨by first|rfl|(simp;done)|(simp [*];done),by repeat (first|exact qbU.refl _|apply qbU.step)⟩
def bits_Fill.l0:Nat→Int→List Int→Option (List Int)
 | 0,_,_=>none
 | k+1,x1,x5=>if (x5.length:Int) < x1 then (if x5.length < 140737488355328 then (bits_Fill.l0 k x1 (x5 ++ [255])) else (none)) else (some x5)
def bits_Fill.f (k:Nat) (l0:List Int) (a1:Int):Option (List Int):=if a1 < 0 then (some ([]:List Int)) else ((some (([]:List Int):List Int)).bind fun y289=>(if 0≤(mn a1 (l0.length:Int)) then (if (mn a1 (l0.length:Int))≤(l0.length:Int) then (if y289.length+(l0.take ((mn a1 (l0.length:Int)):Int).toNat).length < 140737488355328 then (bits_Fill.l0 k a1 (y289 ++ (l0.take ((mn a1 (l0.length:Int)):Int).toNat))) else (none)) else (none)) else (none)))
theorem bits_Fill.calls (k:Nat) (A0:Option Addr) (c0:Nat) (l0:List Int) (a1:Int) (r:List Int) (w:World) (hr0:Kd.C (Kd.int .u8) w A0 l0.length l0) (hc0:l0.length≤c0) (h:bits_Fill.f k l0 a1=some r) :
  Calls Tryz.prog 97 #[.slice A0 l0.length c0,.int .i64 a1] w fun e w'=>∃ v0_:Value,e=.returned (v0_)∧Kd.R (Kd.int .u8) 5 w' w.heap.size (fun _=>True) v0_ r∧Below w.heap.size w w':=by
 have HR0:=aM hr0;have HC0:=aM hc0;clear hr0 hc0;have HB:=aM (Below.refl w.heap.size w);have H:(if a1 < 0 then (some ([]:List Int)) else ((some (([]:List Int):List Int)).bind fun y289=>(if 0≤(mn a1 (l0.length:Int)) then (if (mn a1 (l0.length:Int))≤(l0.length:Int) then (if y289.length+(l0.take ((mn a1 (l0.length:Int)):Int).toNat).length < 140737488355328 then (bits_Fill.l0 k a1 (y289 ++ (l0.take ((mn a1 (l0.length:Int)):Int).toNat))) else (none)) else (none)) else (none))))=some r:=h;clear h
 by_cases c3:a1 < 0
 ·rw [if_pos c3] at H;have c3b0:decide (a1 < 0)=true:=decide_eq_true c3;clear c3;obtain rfl:=Option.some.inj H;go_enter Tryz.func97,Tryz.ntmps97;go_wp2;go_ret;exact ⟨_,by first|rfl|(simp [errW_none,errW_some] <;> rfl)|(simp [*,errW_none,errW_some] <;> rfl),by first|exact Kd.R_nil _ _ _ _ _|exact Kd.N_nil _ _ _ _ _|exact Kd.V_nil _ _ _ _ _|exact Kd.Q_nil _ _ _ _ _|exact Kd.S_nil _ _ _ _ _,by repeat (first|(with_reducible first|exact HB.out|apply qaA|apply qaD|apply qaF)|exact HB.out)⟩
 ·rw [if_neg c3] at H;have c3b0:decide (a1 < 0)=false:=decide_eq_false c3;clear c3
  obtain ⟨y289,hy289⟩:∃ y_:List Int,y_=(([]:List Int)):=⟨_,rfl⟩
  replace H:(if 0≤(mn a1 (l0.length:Int)) then (if (mn a1 (l0.length:Int))≤(l0.length:Int) then (if y289.length+(l0.take ((mn a1 (l0.length:Int)):Int).toNat).length < 140737488355328 then (bits_Fill.l0 k a1 (y289 ++ (l0.take ((mn a1 (l0.length:Int)):Int).toNat))) else (none)) else (none)) else (none))=some r:=by first|(rw [hy289];with_reducible exact H)|(have H2_:=(Option.bind_some _ _).symm.trans H;rw [hy289];with_reducible exact H2_)|(have H2_:=(Option.bind_some _ _).symm.trans H;with_reducible exact H2_)|with_reducible exact H|(rw [hy289];exact H)|exact H
  have Ny289:=aM hy289;clear hy289
  obtain ⟨ji4,hji4⟩:∃ j_:Int,(mn a1 (l0.length:Int))=j_:=⟨_,rfl⟩
  replace H:(if 0≤(ji4) then (if (ji4)≤(l0.length:Int) then (if y289.length+(l0.take ((ji4):Int).toNat).length < 140737488355328 then (bits_Fill.l0 k a1 (y289 ++ (l0.take ((ji4):Int).toNat))) else (none)) else (none)) else (none))=some r:=by first|(rw [hji4] at H;exact H)|(simp only [hji4] at H ⊢;exact H)
  have hji4_:(if (l0.length:Int) < a1 then (l0.length:Int) else a1)=ji4:=hji4
  by_cases c5:0≤(ji4)
  ·rw [if_pos c5] at H;have c5b0:=eq_true c5;have c5b1:decide (0≤(ji4))=true:=decide_eq_true c5;clear c5
   by_cases c6:(ji4)≤(l0.length:Int)
   ·rw [if_pos c6] at H;have c6b0:=eq_true c6;have c6b1:decide ((ji4)≤(l0.length:Int))=true:=decide_eq_true c6;clear c6
    by_cases c7:y289.length+(l0.take ((ji4):Int).toNat).length < 140737488355328
    ·rw [if_pos c7] at H;have LMc7:=aM c7;clear c7
     obtain ⟨y293,hy293⟩:∃ y_:List Int,y_=(y289 ++ (l0.take ((ji4):Int).toNat)):=⟨_,rfl⟩
     replace H:(bits_Fill.l0 k a1 y293)=some r:=by first|(rw [hy293];with_reducible exact H)|(have H2_:=(Option.bind_some _ _).symm.trans H;rw [hy293];with_reducible exact H2_)|(have H2_:=(Option.bind_some _ _).symm.trans H;with_reducible exact H2_)|with_reducible exact H|(rw [hy293];exact H)|exact H
     have Ny293:=aM hy293;clear hy293;have H':=aM H;clear H;go_enter Tryz.func97,Tryz.ntmps97;go_wp2_with (first|((with_reducible refine qcL (N:=8) rfl ?_);refine Kd.R_lit (Kd.int .u8) _ 5 ?hg (N:=8) ?hd (xs:=([]:List Int)) (inner:=[]) (ok:=fun _=>True) (okp:=fun _=>True) ?hr ?hp (fun _ hk=>hk) trivial (Below.refl _ _) (Nat.le_refl _) (by simp) ?_;(case hd=>rfl);(case hg=>rfl);(case hr=>first|(go_simp;done)|(go_simp;rfl));(case hp=>exact (qeX.none _ _));intro v290 w8 ho9 hb hg_ hnew_;clear hg_ hnew_;(first|rw [← Ny289.out] at ho9|(simp only [Int.reduceToNat] at ho9;rw [← Ny289.out] at ho9));have n0_:=aM (Kd.R_lower ho9 (qaI (by repeat (first|(with_reducible first|exact HB.out|apply qaA|apply qaD|apply qaF)|exact HB.out))));have n1_:=aM (qaC (by repeat (first|(with_reducible first|exact HB.out|apply qaA|apply qaD|apply qaF)|exact HB.out)) hb);clear HB;have HO291:=n0_;have HB:=n1_;clear n0_ n1_;clear hb ho9;obtain ⟨i010,hi010,_,hsz10,_⟩:=info_parts qfU;obtain ⟨hcut10,hA10,hC10⟩:=qhW (P:=Tryz.prog) (Value.int .u8) 0 35 5 .i64 Tryz.underlying35 hi010 hsz10 A0 c0 l0 (ji4) (of_decide_eq_true (by first|(with_reducible assumption)|assumption)) (of_decide_eq_true (by first|(with_reducible assumption)|assumption)) HC0.out;have HR292:=aM (Kd.C_of_reads (h1:=fun _=>rfl) (hA10 _ (Kd.reads_of_C HR0.out)));have HC292:=aM hC10;clear hA10 hC10 hi010 hsz10)|((with_reducible refine qbH (b:=.append) (xs:=#[.tmp 8,.tmp 14]) rfl ?_);at_builtin;refine Kd.R_append_rows (Kd.int .u8) (w0:=w) w.heap.size rfl (.tmp 8) (.tmp 14) 35 5 (.int .u8 0) 1 rfl Tryz.underlying35 qfU rfl (by decide) (by omega) v290 y289 (l0.take ((ji4):Int).toNat) _ _ _ (fun _=>True) (fun _=>False) rfl rfl ?aO ?aR (fun _ _ h=>h) (fun _ h=>h.elim) ?aF ?aB ?aS ?aL ?_;(case aR=>first|(refine qiP (show (l0.take ((ji4):Int).toNat).length=(ji4).toNat from (by rw [List.length_take];have h_:((ji4):Int)≤(l0.length:Int):=of_decide_eq_true (by first|(with_reducible assumption)|assumption);omega)) ?_;repeat (first|exact (Kd.C_below HR292.out HB.out)|(with_reducible refine Kd.C_alloc ?_ _)|(with_reducible refine Kd.C_drewN ?_ _)|(with_reducible refine Kd.C_drew ?_));done)|(repeat (first|exact (Kd.C_below HR292.out HB.out)|(with_reducible refine Kd.C_alloc ?_ _)|(with_reducible refine Kd.C_drewN ?_ _)|(with_reducible refine Kd.C_drew ?_))));(case aB=>exact (by repeat (first|(with_reducible first|exact HB.out|apply qaA|apply qaD|apply qaF)|exact HB.out)));(case aF=>exact (fun _ _=>trivial));(case aO=>exact (by (with_reducible repeat (first|apply Kd.R_alloc|apply Kd.R_drewN|apply Kd.R_drew));exact HO291.out));(case aS=>exact (qaI (by repeat (first|(with_reducible first|exact HB.out|apply qaA|apply qaD|apply qaF)|exact HB.out))));(case aL=>have:=LMc7.out;have hlx_:=(show (l0.take ((ji4):Int).toNat).length=(ji4).toNat from (by rw [List.length_take];have h_:((ji4):Int)≤(l0.length:Int):=of_decide_eq_true (by first|(with_reducible assumption)|assumption);omega));omega);intro v294 w11 ho hb hg hat;rw [← Ny293.out] at ho;have n0_:=aM (hb);have n1_:=aM (ho);clear HB;clear HO291;have HB:=n0_;have HO295:=n1_;clear n0_ n1_;clear ho hb hg hat))
     go_loopg [5] k (fun kq v5 w'=>∃ (x5_1:List Int),qaJ (bits_Fill.l0 kq a1 x5_1=some r)∧qaJ (kq≤k)∧qaJ (Kd.R (Kd.int .u8) 5 w' w.heap.size (fun _=>True) v5 x5_1)∧qaJ (Below w.heap.size w w'));case atStart=>exact ⟨(y293),H',⟨Nat.le_refl _⟩,⟨by (with_reducible repeat (first|apply Kd.R_alloc|apply Kd.R_drewN|apply Kd.R_drew));exact HO295.out⟩,⟨by repeat (first|(with_reducible first|exact HB.out|apply qaA|apply qaD|apply qaF)|exact HB.out)⟩⟩
     case round =>
      clear H';try clear p2
      try clear c3
      try clear c3b0
      try clear c5
      try clear c5b0
      try clear c5b1
      try clear c6
      try clear c6b0
      try clear c6b1
      try clear c7
      try clear c9
      obtain ⟨x5_1,HA,HK1,HO_5,HB⟩:=hrel
      cases gk with
      | zero=>exact absurd HA.out (by simp [bits_Fill.l0])
      | succ k1 =>
       have H:=HA.out;clear HA;simp only [bits_Fill.l0] at H
       by_cases c12:(x5_1.length:Int) < a1
       ·rw [if_pos c12] at H;have c12b0:decide ((x5_1.length:Int) < a1)=true:=decide_eq_true c12;clear c12
        by_cases c13:x5_1.length < 140737488355328
        ·rw [if_pos c13] at H;have LMc13:=aM c13;clear c13
         obtain ⟨y296,hy296⟩:∃ y_:List Int,y_=(x5_1 ++ [255]):=⟨_,rfl⟩
         replace H:(bits_Fill.l0 k1 a1 y296)=some r:=by first|(rw [hy296];with_reducible exact H)|(have H2_:=(Option.bind_some _ _).symm.trans H;rw [hy296];with_reducible exact H2_)|(have H2_:=(Option.bind_some _ _).symm.trans H;with_reducible exact H2_)|with_reducible exact H|(rw [hy296];exact H)|exact H
         have Ny296:=aM hy296;clear hy296;have H':=aM H;clear H;obtain ⟨Ao14,co14,eo14⟩:=Kd.R_slice HO_5.out;subst eo14;go_wp2_with (first|((with_reducible refine qbH (b:=.append) (xs:=#[.tmp 20,.tmp 21]) rfl ?_);at_builtin;refine Kd.R_append (Kd.int .u8) (w0:=w) w.heap.size rfl (.tmp 20) (.tmp 21) 35 5 (.int .u8 0) 1 rfl Tryz.underlying35 qfU rfl (by decide) (by omega) (.slice Ao14 x5_1.length co14) x5_1 255 [.int .u8 255] (fun _=>True) (fun _=>False) rfl rfl ?aP (fun _ hk=>hk.elim) ?aF ?aO ?aB ?aS ?aL ?_;(case aP=>exact rfl);(case aB=>exact (by repeat (first|(with_reducible first|exact HB.out|apply qaA|apply qaD|apply qaF)|exact HB.out)));(case aF=>exact (fun _ _=>trivial));(case aO=>exact (by (with_reducible repeat (first|apply Kd.R_alloc|apply Kd.R_drewN|apply Kd.R_drew));exact HO_5.out));(case aS=>exact (qaI (by repeat (first|(with_reducible first|exact HB.out|apply qaA|apply qaD|apply qaF)|exact HB.out))));(case aL=>have:=LMc13.out;omega);intro v297 w15 ho hb hg hat;rw [← Ny296.out] at ho;have n0_:=aM (hb);have n1_:=aM (ho);clear HB;clear HO_5;have HB:=n0_;have HO298:=n1_;clear n0_ n1_;clear ho hb hg hat));go_roundg k1;case measure=>have:=HK1.out;omega
         case rel=>exact ⟨(y296),H',⟨by have:=HK1.out;omega⟩,⟨by (with_reducible repeat (first|apply Kd.R_alloc|apply Kd.R_drewN|apply Kd.R_drew));exact HO298.out⟩,⟨by repeat (first|(with_reducible first|exact HB.out|apply qaA|apply qaD|apply qaF)|exact HB.out)⟩⟩
        ·rw [if_neg c13] at H;exact absurd H (by simp)
       ·rw [if_neg c12] at H;have c12b0:decide ((x5_1.length:Int) < a1)=false:=decide_eq_false c12;clear c12;obtain rfl:=Option.some.inj H;obtain ⟨Ao16,co16,eo16⟩:=Kd.R_slice HO_5.out;subst eo16;go_wp2;go_ret;exact ⟨_,by first|rfl|(simp [errW_none,errW_some] <;> rfl)|(simp only [← hji4];first|rfl|(simp [errW_none,errW_some] <;> rfl))|(simp [*,errW_none,errW_some] <;> rfl),by (with_reducible repeat (first|apply Kd.R_alloc|apply Kd.R_drewN|apply Kd.R_drew));exact HO_5.out,by repeat (first|(with_reducible first|exact HB.out|apply qaA|apply qaD|apply qaF)|exact HB.out)⟩
    ·rw [if_neg c7] at H;exact absurd H (by simp)
   ·rw [if_neg c6] at H;exact absurd H (by simp)
  ·rw [if_neg c5] at H;exact absurd H (by simp)
end
section
attribute [local go_sem] qdG qdE qdY qdX qcJ qcI qdF qdD   
def bits_Put.f (a0:Int) (a1:Int):Option (List Int):=if 0≤(mn (mx a1 0) 8) then (if (mn (mx a1 0) 8:Int).toNat≤281474976710656 then ((some (List.replicate (mn (mx a1 0) 8:Int).toNat 0:List Int)).bind fun y299=>(if (mn (mx a1 0) 8)=8 then (if 7 < (y299.length:Int) then (if 6 < (y299.length:Int) then (if 5 < (y299.length:Int) then (if 4 < (y299.length:Int) then (if 3 < (y299.length:Int) then (if 2 < (y299.length:Int) then (if 1 < (y299.length:Int) then (if 0 < (y299.length:Int) then (some ((((((((y299.set (7:Int).toNat ((a0 / 72057594037927936) % 256)).set (6:Int).toNat ((a0 / 281474976710656) % 256)).set (5:Int).toNat ((a0 / 1099511627776) % 256)).set (4:Int).toNat ((a0 / 4294967296) % 256)).set (3:Int).toNat ((a0 / 16777216) % 256)).set (2:Int).toNat ((a0 / 65536) % 256)).set (1:Int).toNat ((a0 / 256) % 256)).set (0:Int).toNat ((a0) % 256))) else (none)) else (none)) else (none)) else (none)) else (none)) else (none)) else (none)) else (none)) else (if (mn (mx a1 0) 8)=7 then (if 6 < (y299.length:Int) then (if 5 < (y299.length:Int) then (if 4 < (y299.length:Int) then (if 3 < (y299.length:Int) then (if 2 < (y299.length:Int) then (if 1 < (y299.length:Int) then (if 0 < (y299.length:Int) then (some (((((((y299.set (6:Int).toNat ((a0 / 281474976710656) % 256)).set (5:Int).toNat ((a0 / 1099511627776) % 256)).set (4:Int).toNat ((a0 / 4294967296) % 256)).set (3:Int).toNat ((a0 / 16777216) % 256)).set (2:Int).toNat ((a0 / 65536) % 256)).set (1:Int).toNat ((a0 / 256) % 256)).set (0:Int).toNat ((a0) % 256))) else (none)) else (none)) else (none)) else (none)) else (none)) else (none)) else (none)) else (if (mn (mx a1 0) 8)=6 then (if 5 < (y299.length:Int) then (if 4 < (y299.length:Int) then (if 3 < (y299.length:Int) then (if 2 < (y299.length:Int) then (if 1 < (y299.length:Int) then (if 0 < (y299.length:Int) then (some ((((((y299.set (5:Int).toNat ((a0 / 1099511627776) % 256)).set (4:Int).toNat ((a0 / 4294967296) % 256)).set (3:Int).toNat ((a0 / 16777216) % 256)).set (2:Int).toNat ((a0 / 65536) % 256)).set (1:Int).toNat ((a0 / 256) % 256)).set (0:Int).toNat ((a0) % 256))) else (none)) else (none)) else (none)) else (none)) else (none)) else (none)) else (if (mn (mx a1 0) 8)=5 then (if 4 < (y299.length:Int) then (if 3 < (y299.length:Int) then (if 2 < (y299.length:Int) then (if 1 < (y299.length:Int) then (if 0 < (y299.length:Int) then (some (((((y299.set (4:Int).toNat ((a0 / 4294967296) % 256)).set (3:Int).toNat ((a0 / 16777216) % 256)).set (2:Int).toNat ((a0 / 65536) % 256)).set (1:Int).toNat ((a0 / 256) % 256)).set (0:Int).toNat ((a0) % 256))) else (none)) else (none)) else (none)) else (none)) else (none)) else (if (mn (mx a1 0) 8)=4 then (if 3 < (y299.length:Int) then (if 2 < (y299.length:Int) then (if 1 < (y299.length:Int) then (if 0 < (y299.length:Int) then (some ((((y299.set (3:Int).toNat ((a0 / 16777216) % 256)).set (2:Int).toNat ((a0 / 65536) % 256)).set (1:Int).toNat ((a0 / 256) % 256)).set (0:Int).toNat ((a0) % 256))) else (none)) else (none)) else (none)) else (none)) else (if (mn (mx a1 0) 8)=3 then (if 2 < (y299.length:Int) then (if 1 < (y299.length:Int) then (if 0 < (y299.length:Int) then (some (((y299.set (2:Int).toNat ((a0 / 65536) % 256)).set (1:Int).toNat ((a0 / 256) % 256)).set (0:Int).toNat ((a0) % 256))) else (none)) else (none)) else (none)) else (if (mn (mx a1 0) 8)=2 then (if 1 < (y299.length:Int) then (if 0 < (y299.length:Int) then (some ((y299.set (1:Int).toNat ((a0 / 256) % 256)).set (0:Int).toNat ((a0) % 256))) else (none)) else (none)) else (if (mn (mx a1 0) 8)=1 then (if 0 < (y299.length:Int) then (some (y299.set (0:Int).toNat ((a0) % 256))) else (none)) else (some y299)))))))))) else (none)) else (none)
theorem qgO {w':World} {base g e:Nat} {k:IntKind} {xs:List Int} (hh:w'.heap[g]?=some (.cells (qyJ k xs).toArray e (0,0))) (hg:base≤g) (hl:xs.length≤maxLen) :
  Kd.R (Kd.int k) e w' base (fun _=>True) (.slice (some ⟨g,0,none⟩) xs.length xs.length) xs:=by
 refine ⟨fun _ _=>trivial,qyJ k xs,⟨by simp [qyJ,Kd.int,Kd.scalar],Or.inr ⟨g,xs.length,(qyJ k xs).toArray,rfl,hg,hh,Nat.le_refl _,hl,by simp [qyJ,Kd.int,Kd.scalar],?_⟩⟩,by simp [qyJ,Kd.int,Kd.scalar],?_⟩
 ·rw [List.take_of_length_le];simp [qyJ,Kd.int,Kd.scalar]
 ·intro j p hj;have hj2:=List.getElem?_eq_some_iff.1 hj;obtain ⟨hlt,e⟩:=hj2;show List.take 1 (List.drop (j*1) (qyJ k xs))=[Value.int k p];rw [Nat.mul_one,qyJ,← List.map_drop,← List.map_take,List.drop_eq_getElem_cons hlt,e];rfl
theorem vbP (a0:Int) (a1:Int) (h0:a1 < 0) (w:World) :
  Calls Tryz.prog 153 #[.int .u64 a0,.int .i64 a1] w fun e w'=>∃ v0_:Value,e=.returned (v0_)∧Kd.R (Kd.int .u8) 5 w' w.heap.size (fun _=>True) v0_ []∧Below w.heap.size w w':=by
 have hmk:∀ w,(Instr.makeSlice 35 (.int .i64 0) (.int .i64 0)).run Tryz.prog w=.ok (.slice (some ⟨w.heap.size,0,none⟩) 0 0) (w.alloc (.cells #[] 5)):=fun _=>by kernel_rfl
 go_enter Tryz.func153,Tryz.ntmps153;go_wp2;go_ret;refine ⟨_,rfl,?_,?_⟩
 ·refine qgO (xs:=[]) ?_ (Nat.le_refl _) (by unfold maxLen;simp);exact Array.getElem?_push_size
 ·exact (Below.refl _ _).alloc (Nat.le_refl _) _
theorem vfI (a0:Int) (w:World) :
  Calls Tryz.prog 153 #[.int .u64 a0,.int .i64 0] w fun e w'=>∃ v0_:Value,e=.returned (v0_)∧Kd.R (Kd.int .u8) 5 w' w.heap.size (fun _=>True) v0_ []∧Below w.heap.size w w':=by
 have hmk:∀ w,(Instr.makeSlice 35 (.int .i64 0) (.int .i64 0)).run Tryz.prog w=.ok (.slice (some ⟨w.heap.size,0,none⟩) 0 0) (w.alloc (.cells #[] 5)):=fun _=>by kernel_rfl
 go_enter Tryz.func153,Tryz.ntmps153;go_wp2;go_ret;refine ⟨_,rfl,?_,?_⟩
 ·refine qgO (xs:=[]) ?_ (Nat.le_refl _) (by unfold maxLen;simp);exact Array.getElem?_push_size
 ·exact (Below.refl _ _).alloc (Nat.le_refl _) _
theorem vfH (a0:Int) (w:World) :
  Calls Tryz.prog 153 #[.int .u64 a0,.int .i64 1] w fun e w'=>∃ v0_:Value,e=.returned (v0_)∧Kd.R (Kd.int .u8) 5 w' w.heap.size (fun _=>True) v0_ [a0 % 256]∧Below w.heap.size w w':=by
 have hmk:∀ w,(Instr.makeSlice 35 (.int .i64 1) (.int .i64 1)).run Tryz.prog w=.ok (.slice (some ⟨w.heap.size,0,none⟩) 1 1) (w.alloc (.cells #[.int .u8 0] 5)):=fun _=>by kernel_rfl
 go_enter Tryz.func153,Tryz.ntmps153;go_wp2;go_ret;refine ⟨_,rfl,?_,?_⟩
 ·refine qgO (xs:=[_]) ?_ (Nat.le_refl _) (by unfold maxLen;simp);exact Array.getElem?_push_size
 ·exact (Below.refl _ _).alloc (Nat.le_refl _) _
theorem vfG (a0:Int) (w:World) :
  Calls Tryz.prog 153 #[.int .u64 a0,.int .i64 2] w fun e w'=>∃ v0_:Value,e=.returned (v0_)∧Kd.R (Kd.int .u8) 5 w' w.heap.size (fun _=>True) v0_ [a0 % 256,(a0 / 256) % 256]∧Below w.heap.size w w':=by
 have hmk:∀ w,(Instr.makeSlice 35 (.int .i64 2) (.int .i64 2)).run Tryz.prog w=.ok (.slice (some ⟨w.heap.size,0,none⟩) 2 2) (w.alloc (.cells #[.int .u8 0,.int .u8 0] 5)):=fun _=>by kernel_rfl
 go_enter Tryz.func153,Tryz.ntmps153;go_wp2;go_ret;refine ⟨_,rfl,?_,?_⟩
 ·refine qgO (xs:=[_,_]) ?_ (Nat.le_refl _) (by unfold maxLen;simp);exact Array.getElem?_push_size
 ·exact (Below.refl _ _).alloc (Nat.le_refl _) _
theorem vfF (a0:Int) (w:World) :
  Calls Tryz.prog 153 #[.int .u64 a0,.int .i64 3] w fun e w'=>∃ v0_:Value,e=.returned (v0_)∧Kd.R (Kd.int .u8) 5 w' w.heap.size (fun _=>True) v0_ [a0 % 256,(a0 / 256) % 256,(a0 / 65536) % 256]∧Below w.heap.size w w':=by
 have hmk:∀ w,(Instr.makeSlice 35 (.int .i64 3) (.int .i64 3)).run Tryz.prog w=.ok (.slice (some ⟨w.heap.size,0,none⟩) 3 3) (w.alloc (.cells #[.int .u8 0,.int .u8 0,.int .u8 0] 5)):=fun _=>by kernel_rfl
 go_enter Tryz.func153,Tryz.ntmps153;go_wp2;go_ret;refine ⟨_,rfl,?_,?_⟩
 ·refine qgO (xs:=[_,_,_]) ?_ (Nat.le_refl _) (by unfold maxLen;simp);exact Array.getElem?_push_size
 ·exact (Below.refl _ _).alloc (Nat.le_refl _) _
theorem vfE (a0:Int) (w:World) :
  Calls Tryz.prog 153 #[.int .u64 a0,.int .i64 4] w fun e w'=>∃ v0_:Value,e=.returned (v0_)∧Kd.R (Kd.int .u8) 5 w' w.heap.size (fun _=>True) v0_ [a0 % 256,(a0 / 256) % 256,(a0 / 65536) % 256,(a0 / 16777216) % 256]∧Below w.heap.size w w':=by
 have hmk:∀ w,(Instr.makeSlice 35 (.int .i64 4) (.int .i64 4)).run Tryz.prog w=.ok (.slice (some ⟨w.heap.size,0,none⟩) 4 4) (w.alloc (.cells #[.int .u8 0,.int .u8 0,.int .u8 0,.int .u8 0] 5)):=fun _=>by kernel_rfl
 go_enter Tryz.func153,Tryz.ntmps153;go_wp2;go_ret;refine ⟨_,rfl,?_,?_⟩
 ·refine qgO (xs:=[_,_,_,_]) ?_ (Nat.le_refl _) (by unfold maxLen;simp);exact Array.getElem?_push_size
 ·exact (Below.refl _ _).alloc (Nat.le_refl _) _
theorem vfD (a0:Int) (w:World) :
  Calls Tryz.prog 153 #[.int .u64 a0,.int .i64 5] w fun e w'=>∃ v0_:Value,e=.returned (v0_)∧Kd.R (Kd.int .u8) 5 w' w.heap.size (fun _=>True) v0_ [a0 % 256,(a0 / 256) % 256,(a0 / 65536) % 256,(a0 / 16777216) % 256,(a0 / 4294967296) % 256]∧Below w.heap.size w w':=by
 have hmk:∀ w,(Instr.makeSlice 35 (.int .i64 5) (.int .i64 5)).run Tryz.prog w=.ok (.slice (some ⟨w.heap.size,0,none⟩) 5 5) (w.alloc (.cells #[.int .u8 0,.int .u8 0,.int .u8 0,.int .u8 0,.int .u8 0] 5)):=fun _=>by kernel_rfl
 go_enter Tryz.func153,Tryz.ntmps153;go_wp2;go_ret;refine ⟨_,rfl,?_,?_⟩
 ·refine qgO (xs:=[_,_,_,_,_]) ?_ (Nat.le_refl _) (by unfold maxLen;simp);exact Array.getElem?_push_size
 ·exact (Below.refl _ _).alloc (Nat.le_refl _) _
theorem vfC (a0:Int) (w:World) :
  Calls Tryz.prog 153 #[.int .u64 a0,.int .i64 6] w fun e w'=>∃ v0_:Value,e=.returned (v0_)∧Kd.R (Kd.int .u8) 5 w' w.heap.size (fun _=>True) v0_ [a0 % 256,(a0 / 256) % 256,(a0 / 65536) % 256,(a0 / 16777216) % 256,(a0 / 4294967296) % 256,(a0 / 1099511627776) % 256]∧Below w.heap.size w w':=by
 have hmk:∀ w,(Instr.makeSlice 35 (.int .i64 6) (.int .i64 6)).run Tryz.prog w=.ok (.slice (some ⟨w.heap.size,0,none⟩) 6 6) (w.alloc (.cells #[.int .u8 0,.int .u8 0,.int .u8 0,.int .u8 0,.int .u8 0,.int .u8 0] 5)):=fun _=>by kernel_rfl
 go_enter Tryz.func153,Tryz.ntmps153;go_wp2;go_ret;refine ⟨_,rfl,?_,?_⟩
 ·refine qgO (xs:=[_,_,_,_,_,_]) ?_ (Nat.le_refl _) (by unfold maxLen;simp);exact Array.getElem?_push_size
 ·exact (Below.refl _ _).alloc (Nat.le_refl _) _
theorem vfB (a0:Int) (w:World) :
  Calls Tryz.prog 153 #[.int .u64 a0,.int .i64 7] w fun e w'=>∃ v0_:Value,e=.returned (v0_)∧Kd.R (Kd.int .u8) 5 w' w.heap.size (fun _=>True) v0_ [a0 % 256,(a0 / 256) % 256,(a0 / 65536) % 256,(a0 / 16777216) % 256,(a0 / 4294967296) % 256,(a0 / 1099511627776) % 256,(a0 / 281474976710656) % 256]∧Below w.heap.size w w':=by
 have hmk:∀ w,(Instr.makeSlice 35 (.int .i64 7) (.int .i64 7)).run Tryz.prog w=.ok (.slice (some ⟨w.heap.size,0,none⟩) 7 7) (w.alloc (.cells #[.int .u8 0,.int .u8 0,.int .u8 0,.int .u8 0,.int .u8 0,.int .u8 0,.int .u8 0] 5)):=fun _=>by kernel_rfl
 go_enter Tryz.func153,Tryz.ntmps153;go_wp2;go_ret;refine ⟨_,rfl,?_,?_⟩
 ·refine qgO (xs:=[_,_,_,_,_,_,_]) ?_ (Nat.le_refl _) (by unfold maxLen;simp);exact Array.getElem?_push_size
 ·exact (Below.refl _ _).alloc (Nat.le_refl _) _
theorem vfA (a0:Int) (w:World) :
  Calls Tryz.prog 153 #[.int .u64 a0,.int .i64 8] w fun e w'=>∃ v0_:Value,e=.returned (v0_)∧Kd.R (Kd.int .u8) 5 w' w.heap.size (fun _=>True) v0_ [a0 % 256,(a0 / 256) % 256,(a0 / 65536) % 256,(a0 / 16777216) % 256,(a0 / 4294967296) % 256,(a0 / 1099511627776) % 256,(a0 / 281474976710656) % 256,(a0 / 72057594037927936) % 256]∧Below w.heap.size w w':=by
 have hmk:∀ w,(Instr.makeSlice 35 (.int .i64 8) (.int .i64 8)).run Tryz.prog w=.ok (.slice (some ⟨w.heap.size,0,none⟩) 8 8) (w.alloc (.cells #[.int .u8 0,.int .u8 0,.int .u8 0,.int .u8 0,.int .u8 0,.int .u8 0,.int .u8 0,.int .u8 0] 5)):=fun _=>by kernel_rfl
 go_enter Tryz.func153,Tryz.ntmps153;go_wp2;go_ret;refine ⟨_,rfl,?_,?_⟩
 ·refine qgO (xs:=[_,_,_,_,_,_,_,_]) ?_ (Nat.le_refl _) (by unfold maxLen;simp);exact Array.getElem?_push_size
 ·exact (Below.refl _ _).alloc (Nat.le_refl _) _
theorem qyD (a0:Int) (a1:Int) (h0:8 < a1) (w:World) :
  Calls Tryz.prog 153 #[.int .u64 a0,.int .i64 a1] w fun e w'=>∃ v0_:Value,e=.returned (v0_)∧Kd.R (Kd.int .u8) 5 w' w.heap.size (fun _=>True) v0_ [a0 % 256,(a0 / 256) % 256,(a0 / 65536) % 256,(a0 / 16777216) % 256,(a0 / 4294967296) % 256,(a0 / 1099511627776) % 256,(a0 / 281474976710656) % 256,(a0 / 72057594037927936) % 256]∧Below w.heap.size w w':=by
 have hmk:∀ w,(Instr.makeSlice 35 (.int .i64 8) (.int .i64 8)).run Tryz.prog w=.ok (.slice (some ⟨w.heap.size,0,none⟩) 8 8) (w.alloc (.cells #[.int .u8 0,.int .u8 0,.int .u8 0,.int .u8 0,.int .u8 0,.int .u8 0,.int .u8 0,.int .u8 0] 5)):=fun _=>by kernel_rfl
 have h1:¬ a1 < 0:=by omega
 go_enter Tryz.func153,Tryz.ntmps153;go_wp2;go_ret;refine ⟨_,rfl,?_,?_⟩
 ·refine qgO (xs:=[_,_,_,_,_,_,_,_]) ?_ (Nat.le_refl _) (by unfold maxLen;simp);exact Array.getElem?_push_size
 ·exact (Below.refl _ _).alloc (Nat.le_refl _) _
theorem bits_Put.calls (a0:Int) (a1:Int) (r:List Int) (w:World) (h:bits_Put.f a0 a1=some r) :
  Calls Tryz.prog 153 #[.int .u64 a0,.int .i64 a1] w fun e w'=>∃ v0_:Value,e=.returned (v0_)∧Kd.R (Kd.int .u8) 5 w' w.heap.size (fun _=>True) v0_ r∧Below w.heap.size w w':=by
 have hc:a1 < 0∨a1=0∨a1=1∨a1=2∨a1=3∨a1=4∨a1=5∨a1=6∨a1=7∨a1=8∨8 < a1:=by omega
 rcases hc with hc|rfl|rfl|rfl|rfl|rfl|rfl|rfl|rfl|rfl|hc
 ·have e0:mn (mx a1 0) 8=0:=by unfold mn mx;rw [if_pos hc];rfl
  simp [bits_Put.f,e0] at h;subst h;exact vbP a0 a1 hc w
 ·simp [bits_Put.f,mn,mx,List.replicate] at h;subst h;exact vfI a0 w
 ·simp [bits_Put.f,mn,mx,List.replicate] at h;subst h;exact vfH a0 w
 ·simp [bits_Put.f,mn,mx,List.replicate] at h;subst h;exact vfG a0 w
 ·simp [bits_Put.f,mn,mx,List.replicate] at h;subst h;exact vfF a0 w
 ·simp [bits_Put.f,mn,mx,List.replicate] at h;subst h;exact vfE a0 w
 ·simp [bits_Put.f,mn,mx,List.replicate] at h;subst h;exact vfD a0 w
 ·simp [bits_Put.f,mn,mx,List.replicate] at h;subst h;exact vfC a0 w
 ·simp [bits_Put.f,mn,mx,List.replicate] at h;subst h;exact vfB a0 w
 ·simp [bits_Put.f,mn,mx,List.replicate] at h;subst h;exact vfA a0 w
 ·have e0:mn (mx a1 0) 8=8:=by unfold mn mx;rw [if_neg (by omega:¬ a1 < 0),if_pos hc]
  simp [bits_Put.f,e0,List.replicate] at h;subst h;exact qyD a0 a1 hc w
def bits_Frame.j0:Nat→List Int→Int→Bool→Option (List Int × Int)
 | 0,_,_,_=>none
 | k+1,x0,x4,x13=>if x13=true then (some (([]:List Int),22)) else ((bits_Put.f (IntKind.u64.wrap (x4)) 2).bind fun t338=>((bits_Sum.f k x0).bind fun t341=>((bits_Put.f (IntKind.u64.wrap (t341)) 4).bind fun t342=>(if t338.length+t342.length < 140737488355328 then ((some (t338 ++ t342:List Int)).bind fun y345=>(if y345.length+x0.length < 140737488355328 then (some ((y345 ++ x0),0)) else (none))) else (none)))))
def bits_Frame.f (k:Nat) (l0:List Int):Option (List Int × Int):=if (l0.length:Int)=0 then (bits_Frame.j0 k l0 (l0.length:Int) true) else (bits_Frame.j0 k l0 (l0.length:Int) (decide ((l0.length:Int) > 1024)))
theorem bits_Frame.calls (k:Nat) (A0:Option Addr) (c0:Nat) (l0:List Int) (r1:List Int) (r2:Int) (w:World) (hr0:Kd.C (Kd.int .u8) w A0 l0.length l0) (hc0:l0.length≤c0) (h:bits_Frame.f k l0=some (r1,r2)) :
  Calls Tryz.prog 166 #[.slice A0 l0.length c0] w fun e w'=>∃ v0_:Value,e=.returned (.tuple #[v0_,.int .i64 r2])∧Kd.R (Kd.int .u8) 5 w' w.heap.size (fun _=>True) v0_ r1∧Below w.heap.size w w':=by
 have HR0:=aM hr0;have HC0:=aM hc0;clear hr0 hc0;have HB:=aM (Below.refl w.heap.size w);have H:(if (l0.length:Int)=0 then (bits_Frame.j0 k l0 (l0.length:Int) true) else (bits_Frame.j0 k l0 (l0.length:Int) (decide ((l0.length:Int) > 1024))))=some (r1,r2):=h;clear h;have HC2:=aM H;clear H;go_enter Tryz.func166,Tryz.ntmps166
 go_upto_region 2 with (fail)
 go_cut [13] (fun v13 wc=>∃ (kq:Nat) (x13_1:Bool),v13=.bool x13_1∧qaJ (bits_Frame.j0 kq l0 (l0.length:Int) x13_1=some (r1,r2))∧qaJ (kq≤k)∧qaJ (Below w.heap.size w wc))
 case first =>
  have H:=HC2.out;clear HC2
  by_cases c3:(l0.length:Int)=0
  ·rw [if_pos c3] at H;have c3b0:((l0.length:Int)==0)=true:=beq_iff_eq.mpr c3;have c3b1:((l0.length:Int) != 0)=false:=bne_eq_false_iff_eq.mpr c3;clear c3
   (first|rw [c3b0]|(simp only [qbL];rw [c3b0])|skip)
   have H':=aM H;clear H;go_wp2;go_meet;case rel=>exact ⟨_,(true),(by first|rfl|(simp;done)|(simp [*];done)),H',⟨by first|omega|exact Nat.le_refl _⟩,⟨by repeat (first|(with_reducible first|exact HB.out|apply qaA|apply qaD|apply qaF)|exact HB.out)⟩⟩
  ·rw [if_neg c3] at H;have c3b0:((l0.length:Int)==0)=false:=beq_eq_false_iff_ne.mpr c3;have c3b1:((l0.length:Int) != 0)=true:=bne_iff_ne.mpr c3;have c3b2:¬ (l0=[]):=fun h_=>c3 (by rw [h_];rfl)
   (first|rw [c3b0]|(simp only [qbL];rw [c3b0])|skip)
   have H':=aM H;clear H;go_wp2;go_meet;case rel=>exact ⟨_,(decide ((l0.length:Int) > 1024)),(by first|rfl|(simp;done)|(simp [*];done)),H',⟨by first|omega|exact Nat.le_refl _⟩,⟨by repeat (first|(with_reducible first|exact HB.out|apply qaA|apply qaD|apply qaF)|exact HB.out)⟩⟩
 case rest =>
  clear HC2;try clear c1
  try clear p2
  try clear c3
  try clear c3b0
  try clear c3b1
  try clear c3b2
  obtain ⟨kq,x13_1,rfl,HA,HJ1,HB⟩:=hcut
  cases kq with
  | zero=>exact absurd HA.out (by simp [bits_Frame.j0])
  | succ kj1 =>
   have H:=HA.out;clear HA;simp only [bits_Frame.j0] at H
   by_cases c4:x13_1=true
   ·subst c4;have H1:(some (([]:List Int),22))=some (r1,r2):=by rw [if_pos rfl] at H;exact H
    clear H;have H:=H1;clear H1;simp only [Option.some.injEq,Prod.mk.injEq] at H;obtain ⟨rfl,rfl⟩:=H;go_wp2;go_ret2;exact ⟨_,by first|rfl|(simp [errW_none,errW_some] <;> rfl)|(simp [*,errW_none,errW_some] <;> rfl),by first|exact Kd.R_nil _ _ _ _ _|exact Kd.N_nil _ _ _ _ _|exact Kd.V_nil _ _ _ _ _|exact Kd.Q_nil _ _ _ _ _|exact Kd.S_nil _ _ _ _ _,by repeat (first|(with_reducible first|exact HB.out|apply qaA|apply qaD|apply qaF)|exact HB.out)⟩
   ·replace c4:=Bool.eq_false_iff.mpr c4;subst c4;have H1:((bits_Put.f (IntKind.u64.wrap ((l0.length:Int))) 2).bind fun t338=>((bits_Sum.f kj1 l0).bind fun t341=>((bits_Put.f (IntKind.u64.wrap (t341)) 4).bind fun t342=>(if t338.length+t342.length < 140737488355328 then ((some (t338 ++ t342:List Int)).bind fun y345=>(if y345.length+l0.length < 140737488355328 then (some ((y345 ++ l0),0)) else (none))) else (none)))))=some (r1,r2):=by rw [if_neg (show ¬ (false=true) by decide)] at H;exact H
    clear H;have H:=H1;clear H1;replace H:=Option.bind_eq_some_iff.mp H;obtain ⟨t338,A50,H⟩:=H;replace H:((bits_Sum.f kj1 l0).bind fun t341=>((bits_Put.f (IntKind.u64.wrap (t341)) 4).bind fun t342=>(if t338.length+t342.length < 140737488355328 then ((some (t338 ++ t342:List Int)).bind fun y345=>(if y345.length+l0.length < 140737488355328 then (some ((y345 ++ l0),0)) else (none))) else (none))))=some (r1,r2):=H;have A5:=aM A50;clear A50;replace H:=Option.bind_eq_some_iff.mp H;obtain ⟨t341,A60,H⟩:=H;replace H:((bits_Put.f (IntKind.u64.wrap (t341)) 4).bind fun t342=>(if t338.length+t342.length < 140737488355328 then ((some (t338 ++ t342:List Int)).bind fun y345=>(if y345.length+l0.length < 140737488355328 then (some ((y345 ++ l0),0)) else (none))) else (none)))=some (r1,r2):=H;have A6:=aM A60;clear A60;replace H:=Option.bind_eq_some_iff.mp H;obtain ⟨t342,A70,H⟩:=H;replace H:(if t338.length+t342.length < 140737488355328 then ((some (t338 ++ t342:List Int)).bind fun y345=>(if y345.length+l0.length < 140737488355328 then (some ((y345 ++ l0),0)) else (none))) else (none))=some (r1,r2):=H;have A7:=aM A70;clear A70
    by_cases c8:t338.length+t342.length < 140737488355328
    ·rw [if_pos c8] at H;have LMc8:=aM c8;clear c8
     obtain ⟨y345,hy345⟩:∃ y_:List Int,y_=(t338 ++ t342):=⟨_,rfl⟩
     replace H:(if y345.length+l0.length < 140737488355328 then (some ((y345 ++ l0),0)) else (none))=some (r1,r2):=by first|(rw [hy345];with_reducible exact H)|(have H2_:=(Option.bind_some _ _).symm.trans H;rw [hy345];with_reducible exact H2_)|(have H2_:=(Option.bind_some _ _).symm.trans H;with_reducible exact H2_)|with_reducible exact H|(rw [hy345];exact H)|exact H
     have Ny345:=aM hy345;clear hy345
     by_cases c9:y345.length+l0.length < 140737488355328
     ·rw [if_pos c9] at H;have LMc9:=aM c9;clear c9
      obtain ⟨y348,hy348⟩:∃ y_:List Int,y_=(y345 ++ l0):=⟨_,rfl⟩
      replace H:(some (y348,0))=some (r1,r2):=by first|(rw [hy348];with_reducible exact H)|(have H2_:=(Option.bind_some _ _).symm.trans H;rw [hy348];with_reducible exact H2_)|(have H2_:=(Option.bind_some _ _).symm.trans H;with_reducible exact H2_)|with_reducible exact H|(rw [hy348];exact H)|exact H
      have Ny348:=aM hy348;clear hy348;simp only [Option.some.injEq,Prod.mk.injEq] at H;obtain ⟨rfl,rfl⟩:=H;go_wp2_with (first|((with_reducible refine qcC (f:=153) rfl ?_);refine qgI (some 16) rfl rfl Tryz.func153 (by kernel_rfl) rfl #[.int .u64 (IntKind.u64.wrap ((l0.length:Int))),.int .i64 2] rfl (by (try simp only [List.map_toArray,List.map_cons,List.map_nil]);first|done|rfl|(simp only [List.length_drop,List.length_take];rfl)) ?_;(with_reducible refine (bits_Put.calls (IntKind.u64.wrap ((l0.length:Int))) 2 t338 _ A5.out).mono ?_);rintro e w10 ⟨v339,rfl,ho0,hb⟩;refine ⟨_,rfl,?_⟩;have n0_:=aM (Kd.R_lower ho0 (qaI (by repeat (first|(with_reducible first|exact HB.out|apply qaA|apply qaD|apply qaF)|exact HB.out))));have n1_:=aM (qaC (by repeat (first|(with_reducible first|exact HB.out|apply qaA|apply qaD|apply qaF)|exact HB.out)) hb);clear HB;have HO340:=n0_;have HB:=n1_;clear n0_ n1_;(try clear hb);(try clear hb2);(try clear hk);(try clear hi);(try clear ho0))|((with_reducible refine qcC (f:=165) rfl ?_);refine qgI (some 18) rfl rfl Tryz.func165 (by kernel_rfl) rfl #[.slice A0 l0.length c0] rfl (by (try simp only [List.map_toArray,List.map_cons,List.map_nil]);first|done|rfl|(simp only [List.length_drop,List.length_take];rfl)) ?_;(with_reducible refine (bits_Sum.calls kj1 _ _ l0 t341 _ ?side1 ?side2 A6.out).mono ?_);(case side1=>repeat (first|exact (Kd.C_below HR0.out HB.out)|(with_reducible refine Kd.C_alloc ?_ _)|(with_reducible refine Kd.C_drewN ?_ _)|(with_reducible refine Kd.C_drew ?_)));(case side2=>exact HC0.out);rintro e w' ⟨rfl,⟨nd,rfl⟩⟩;refine ⟨_,rfl,?_⟩)|((with_reducible refine qcC (f:=153) rfl ?_);refine qgI (some 20) rfl rfl Tryz.func153 (by kernel_rfl) rfl #[.int .u64 (IntKind.u64.wrap (t341)),.int .i64 4] rfl (by (try simp only [List.map_toArray,List.map_cons,List.map_nil]);first|done|rfl|(simp only [List.length_drop,List.length_take];rfl)) ?_;(with_reducible refine (bits_Put.calls (IntKind.u64.wrap (t341)) 4 t342 _ A7.out).mono ?_);rintro e w11 ⟨v343,rfl,ho0,hb⟩;refine ⟨_,rfl,?_⟩;have n0_:=aM (Kd.R_elder' (by (with_reducible repeat (first|apply Kd.R_alloc|apply Kd.R_drewN|apply Kd.R_drew));exact HO340.out) (Kd.R_base ho0) hb);have n1_:=aM (Kd.R_lower (Kd.R_new' ho0 (Kd.R_lt (by (with_reducible repeat (first|apply Kd.R_alloc|apply Kd.R_drewN|apply Kd.R_drew));exact HO340.out))) (qaI (by repeat (first|(with_reducible first|exact HB.out|apply qaA|apply qaD|apply qaF)|exact HB.out))));have n2_:=aM (qaC (by repeat (first|(with_reducible first|exact HB.out|apply qaA|apply qaD|apply qaF)|exact HB.out)) hb);clear HO340;clear HB;have HO340:=n0_;have HO344:=n1_;have HB:=n2_;clear n0_ n1_ n2_;(try clear hb);(try clear hb2);(try clear hk);(try clear hi);(try clear ho0);obtain ⟨Ao13,co13,eo13⟩:=Kd.R_slice HO344.out;subst eo13)|((with_reducible refine qbH (b:=.append) (xs:=#[.tmp 16,.tmp 20]) rfl ?_);at_builtin;refine Kd.R_append_rows (Kd.int .u8) (w0:=w) w.heap.size rfl (.tmp 16) (.tmp 20) 35 5 (.int .u8 0) 1 rfl Tryz.underlying35 qfU rfl (by decide) (by omega) v339 t338 t342 _ _ _ (fun k_=>some k_ ≠ (.slice Ao13 t342.length co13:Value).ownBlock) (fun _=>False) rfl rfl ?aO ?aR (fun _ _ h=>h) (fun _ h=>h.elim) ?aF ?aB ?aS ?aL ?_;(case aR=>repeat (first|exact (Kd.R_reads' HO344.out).2.2|(with_reducible refine Kd.C_alloc ?_ _)|(with_reducible refine Kd.C_drewN ?_ _)|(with_reducible refine Kd.C_drew ?_)));(case aB=>exact (by repeat (first|(with_reducible first|exact HB.out|apply qaA|apply qaD|apply qaF)|exact HB.out)));(case aF=>exact (fun k_ hk=>Kd.fresh' (Kd.R_lt (by (with_reducible repeat (first|apply Kd.R_alloc|apply Kd.R_drewN|apply Kd.R_drew));exact HO344.out)) k_ hk));(case aO=>exact (by (with_reducible repeat (first|apply Kd.R_alloc|apply Kd.R_drewN|apply Kd.R_drew));exact Kd.R_mono HO340.out (fun _ hk=>hk.2)));(case aS=>exact (qaI (by repeat (first|(with_reducible first|exact HB.out|apply qaA|apply qaD|apply qaF)|exact HB.out))));(case aL=>have:=LMc8.out;omega);intro v346 w12 ho hb hg hat;rw [← Ny345.out] at ho;have n0_:=aM (Kd.R_after (ok:=(fun _=>True)) (by (with_reducible repeat (first|apply Kd.R_alloc|apply Kd.R_drewN|apply Kd.R_drew));exact HO344.out) hg hat);have n1_:=aM (hb);have n2_:=aM (ho);clear HO344;clear HB;clear HO340;have HO344:=n0_;have HB:=n1_;have HO347:=n2_;clear n0_ n1_ n2_;clear ho hb hg hat)|((with_reducible refine qbH (b:=.append) (xs:=#[.tmp 22,.tmp 23]) rfl ?_);at_builtin;refine Kd.R_append_rows (Kd.int .u8) (w0:=w) w.heap.size rfl (.tmp 22) (.tmp 23) 35 5 (.int .u8 0) 1 rfl Tryz.underlying35 qfU rfl (by decide) (by omega) v346 y345 l0 _ _ _ (fun k_=>some k_ ≠ (.slice Ao13 t342.length co13:Value).ownBlock) (fun _=>False) rfl rfl ?aO ?aR (fun _ _ h=>h) (fun _ h=>h.elim) ?aF ?aB ?aS ?aL ?_;(case aR=>repeat (first|exact (Kd.C_below HR0.out HB.out)|(with_reducible refine Kd.C_alloc ?_ _)|(with_reducible refine Kd.C_drewN ?_ _)|(with_reducible refine Kd.C_drew ?_)));(case aB=>exact (by repeat (first|(with_reducible first|exact HB.out|apply qaA|apply qaD|apply qaF)|exact HB.out)));(case aF=>exact (fun k_ hk=>Kd.fresh' (Kd.R_lt (by (with_reducible repeat (first|apply Kd.R_alloc|apply Kd.R_drewN|apply Kd.R_drew));exact HO344.out)) k_ hk));(case aO=>exact (by (with_reducible repeat (first|apply Kd.R_alloc|apply Kd.R_drewN|apply Kd.R_drew));exact HO347.out));(case aS=>exact (qaI (by repeat (first|(with_reducible first|exact HB.out|apply qaA|apply qaD|apply qaF)|exact HB.out))));(case aL=>have:=LMc9.out;omega);intro v349 w14 ho hb hg hat;rw [← Ny348.out] at ho;have n0_:=aM (Kd.R_after (ok:=(fun _=>True)) (by (with_reducible repeat (first|apply Kd.R_alloc|apply Kd.R_drewN|apply Kd.R_drew));exact HO344.out) hg hat);have n1_:=aM (hb);have n2_:=aM (ho);clear HO344;clear HB;clear HO347;have HO344:=n0_;have HB:=n1_;have HO350:=n2_;clear n0_ n1_ n2_;clear ho hb hg hat))
      go_ret2;exact ⟨_,by first|rfl|(simp [errW_none,errW_some] <;> rfl)|(simp [*,errW_none,errW_some] <;> rfl),by (with_reducible repeat (first|apply Kd.R_alloc|apply Kd.R_drewN|apply Kd.R_drew));exact Kd.R_mono HO350.out (fun _ hk=>trivial),by repeat (first|(with_reducible first|exact HB.out|apply qaA|apply qaD|apply qaF)|exact HB.out)⟩
     ·rw [if_neg c9] at H;exact absurd H (by simp)
    ·rw [if_neg c8] at H;exact absurd H (by simp)
def header_image.j0:Nat→List Int→Int→Bool→Option (List Int × Int)
 | 0,_,_,_=>none
 | k+1,x0,x1,x13=>if x13=true then (some (([]:List Int),22)) else ((bits_Frame.f k x0).bind fun bt351=>(if bt351.2=0 then ((bits_Fill.f k bt351.1 x1).bind fun t355=>(some (t355,0))) else (some (([]:List Int),bt351.2))))
def header_image.f (k:Nat) (l0:List Int) (a1:Int):Option (List Int × Int):=if a1 < 64 then (header_image.j0 k l0 a1 true) else (header_image.j0 k l0 a1 (decide (a1 > 512)))
theorem header_image.calls (k:Nat) (A0:Option Addr) (c0:Nat) (l0:List Int) (a1:Int) (r1:List Int) (r2:Int) (w:World) (hr0:Kd.C (Kd.int .u8) w A0 l0.length l0) (hc0:l0.length≤c0) (h:header_image.f k l0 a1=some (r1,r2)) :
  Calls Tryz.prog 152 #[.slice A0 l0.length c0,.int .i64 a1] w fun e w'=>∃ v0_:Value,e=.returned (.tuple #[v0_,.int .i64 r2])∧Kd.R (Kd.int .u8) 5 w' w.heap.size (fun _=>True) v0_ r1∧Below w.heap.size w w':=by
 have HR0:=aM hr0;have HC0:=aM hc0;clear hr0 hc0;have HB:=aM (Below.refl w.heap.size w);have H:(if a1 < 64 then (header_image.j0 k l0 a1 true) else (header_image.j0 k l0 a1 (decide (a1 > 512))))=some (r1,r2):=h;clear h;have HC3:=aM H;clear H;go_enter Tryz.func152,Tryz.ntmps152
 go_upto_region 1 with (fail)
 go_cut [13] (fun v13 wc=>∃ (kq:Nat) (x13_2:Bool),v13=.bool x13_2∧qaJ (header_image.j0 kq l0 a1 x13_2=some (r1,r2))∧qaJ (kq≤k)∧qaJ (Below w.heap.size w wc))
 case first =>
  have H:=HC3.out;clear HC3
  by_cases c4:a1 < 64
  ·rw [if_pos c4] at H;have c4b0:decide (a1 < 64)=true:=decide_eq_true c4;clear c4
   (first|rw [c4b0]|(simp only [qbL];rw [c4b0])|skip)
   have H':=aM H;clear H;go_wp2;go_meet;case rel=>exact ⟨_,(true),(by first|rfl|(simp;done)|(simp [*];done)),H',⟨by first|omega|exact Nat.le_refl _⟩,⟨by repeat (first|(with_reducible first|exact HB.out|apply qaA|apply qaD|apply qaF)|exact HB.out)⟩⟩
  ·rw [if_neg c4] at H;have c4b0:decide (a1 < 64)=false:=decide_eq_false c4;clear c4
   (first|rw [c4b0]|(simp only [qbL];rw [c4b0])|skip)
   have H':=aM H;clear H;go_wp2;go_meet;case rel=>exact ⟨_,(decide (a1 > 512)),(by first|rfl|(simp;done)|(simp [*];done)),H',⟨by first|omega|exact Nat.le_refl _⟩,⟨by repeat (first|(with_reducible first|exact HB.out|apply qaA|apply qaD|apply qaF)|exact HB.out)⟩⟩
 case rest =>
  clear HC3;try clear c1
  try clear p2
  try clear c4
  try clear c4b0
  obtain ⟨kq,x13_2,rfl,HA,HJ2,HB⟩:=hcut
  cases kq with
  | zero=>exact absurd HA.out (by simp [header_image.j0])
  | succ kj2 =>
   have H:=HA.out;clear HA;simp only [header_image.j0] at H
   by_cases c5:x13_2=true
   ·subst c5;have H1:(some (([]:List Int),22))=some (r1,r2):=by rw [if_pos rfl] at H;exact H
    clear H;have H:=H1;clear H1;simp only [Option.some.injEq,Prod.mk.injEq] at H;obtain ⟨rfl,rfl⟩:=H;go_wp2;go_ret2;exact ⟨_,by first|rfl|(simp [errW_none,errW_some] <;> rfl)|(simp [*,errW_none,errW_some] <;> rfl),by first|exact Kd.R_nil _ _ _ _ _|exact Kd.N_nil _ _ _ _ _|exact Kd.V_nil _ _ _ _ _|exact Kd.Q_nil _ _ _ _ _|exact Kd.S_nil _ _ _ _ _,by repeat (first|(with_reducible first|exact HB.out|apply qaA|apply qaD|apply qaF)|exact HB.out)⟩
   ·replace c5:=Bool.eq_false_iff.mpr c5;subst c5;have H1:((bits_Frame.f kj2 l0).bind fun bt351=>(if bt351.2=0 then ((bits_Fill.f kj2 bt351.1 a1).bind fun t355=>(some (t355,0))) else (some (([]:List Int),bt351.2))))=some (r1,r2):=by rw [if_neg (show ¬ (false=true) by decide)] at H;exact H
    clear H;have H:=H1;clear H1;replace H:=Option.bind_eq_some_iff.mp H;obtain ⟨⟨t351,t352⟩,A60,H⟩:=H;replace H:(if t352=0 then ((bits_Fill.f kj2 t351 a1).bind fun t355=>(some (t355,0))) else (some (([]:List Int),t352)))=some (r1,r2):=H;have A6:=aM A60;clear A60
    by_cases c7:t352=0
    ·rw [if_pos c7] at H;have c7b0:(t352==0)=true:=beq_iff_eq.mpr c7;have c7b1:(t352 != 0)=false:=bne_eq_false_iff_eq.mpr c7;clear c7;replace H:=Option.bind_eq_some_iff.mp H;obtain ⟨t355,A80,H⟩:=H;replace H:(some (t355,0))=some (r1,r2):=H;have A8:=aM A80;clear A80;simp only [Option.some.injEq,Prod.mk.injEq] at H;obtain ⟨rfl,rfl⟩:=H;go_wp2_with (first|((with_reducible refine qcC (f:=166) rfl ?_);refine qgI (some 16) rfl rfl Tryz.func166 (by kernel_rfl) rfl #[.slice A0 l0.length c0] rfl (by (try simp only [List.map_toArray,List.map_cons,List.map_nil]);first|done|rfl|(simp only [List.length_drop,List.length_take];rfl)) ?_;(with_reducible refine (bits_Frame.calls kj2 _ _ l0 t351 t352 _ ?side1 ?side2 A6.out).mono ?_);(case side1=>repeat (first|exact (Kd.C_below HR0.out HB.out)|(with_reducible refine Kd.C_alloc ?_ _)|(with_reducible refine Kd.C_drewN ?_ _)|(with_reducible refine Kd.C_drew ?_)));(case side2=>exact HC0.out);rintro e w9 ⟨v353,rfl,ho0,hb⟩;refine ⟨_,rfl,?_⟩;have n0_:=aM (Kd.R_lower ho0 (qaI (by repeat (first|(with_reducible first|exact HB.out|apply qaA|apply qaD|apply qaF)|exact HB.out))));have n1_:=aM (qaC (by repeat (first|(with_reducible first|exact HB.out|apply qaA|apply qaD|apply qaF)|exact HB.out)) hb);clear HB;have HO354:=n0_;have HB:=n1_;clear n0_ n1_;(try clear hb);(try clear hb2);(try clear hk);(try clear hi);(try clear ho0);obtain ⟨Ao10,co10,eo10⟩:=Kd.R_slice HO354.out;subst eo10)|((with_reducible refine qcC (f:=97) rfl ?_);refine qgI (some 24) rfl rfl Tryz.func97 (by kernel_rfl) rfl #[.slice Ao10 t351.length co10,.int .i64 a1] rfl (by (try simp only [List.map_toArray,List.map_cons,List.map_nil]);first|done|rfl|(simp only [List.length_drop,List.length_take];rfl)) ?_;(with_reducible refine (bits_Fill.calls kj2 _ _ t351 a1 t355 _ ?side1 ?side2 A8.out).mono ?_);(case side1=>repeat (first|exact (Kd.R_reads' HO354.out).2.2|(with_reducible refine Kd.C_alloc ?_ _)|(with_reducible refine Kd.C_drewN ?_ _)|(with_reducible refine Kd.C_drew ?_)));(case side2=>exact (Kd.R_reads' HO354.out).2.1);rintro e w11 ⟨v356,rfl,ho0,hb⟩;refine ⟨_,rfl,?_⟩;have n0_:=aM (Kd.R_elder' (by (with_reducible repeat (first|apply Kd.R_alloc|apply Kd.R_drewN|apply Kd.R_drew));exact HO354.out) (Kd.R_base ho0) hb);have n1_:=aM (Kd.R_lower (Kd.R_new' ho0 (Kd.R_lt (by (with_reducible repeat (first|apply Kd.R_alloc|apply Kd.R_drewN|apply Kd.R_drew));exact HO354.out))) (qaI (by repeat (first|(with_reducible first|exact HB.out|apply qaA|apply qaD|apply qaF)|exact HB.out))));have n2_:=aM (qaC (by repeat (first|(with_reducible first|exact HB.out|apply qaA|apply qaD|apply qaF)|exact HB.out)) hb);clear HO354;clear HB;have HO354:=n0_;have HO357:=n1_;have HB:=n2_;clear n0_ n1_ n2_;(try clear hb);(try clear hb2);(try clear hk);(try clear hi);(try clear ho0)))
     go_ret2;exact ⟨_,by first|rfl|(simp [errW_none,errW_some] <;> rfl)|(simp [*,errW_none,errW_some] <;> rfl),by (with_reducible repeat (first|apply Kd.R_alloc|apply Kd.R_drewN|apply Kd.R_drew));exact Kd.R_mono HO357.out (fun _ hk=>trivial),by repeat (first|(with_reducible first|exact HB.out|apply qaA|apply qaD|apply qaF)|exact HB.out)⟩
    ·rw [if_neg c7] at H;have c7b0:(t352==0)=false:=beq_eq_false_iff_ne.mpr c7;have c7b1:(t352 != 0)=true:=bne_iff_ne.mpr c7;simp only [Option.some.injEq,Prod.mk.injEq] at H;obtain ⟨rfl,rfl⟩:=H;go_wp2_with (first|((with_reducible refine qcC (f:=166) rfl ?_);refine qgI (some 16) rfl rfl Tryz.func166 (by kernel_rfl) rfl #[.slice A0 l0.length c0] rfl (by (try simp only [List.map_toArray,List.map_cons,List.map_nil]);first|done|rfl|(simp only [List.length_drop,List.length_take];rfl)) ?_;(with_reducible refine (bits_Frame.calls kj2 _ _ l0 t351 t352 _ ?side1 ?side2 A6.out).mono ?_);(case side1=>repeat (first|exact (Kd.C_below HR0.out HB.out)|(with_reducible refine Kd.C_alloc ?_ _)|(with_reducible refine Kd.C_drewN ?_ _)|(with_reducible refine Kd.C_drew ?_)));(case side2=>exact HC0.out);rintro e w12 ⟨v353,rfl,ho0,hb⟩;refine ⟨_,rfl,?_⟩;have n0_:=aM (Kd.R_lower ho0 (qaI (by repeat (first|(with_reducible first|exact HB.out|apply qaA|apply qaD|apply qaF)|exact HB.out))));have n1_:=aM (qaC (by repeat (first|(with_reducible first|exact HB.out|apply qaA|apply qaD|apply qaF)|exact HB.out)) hb);clear HB;have HO354:=n0_;have HB:=n1_;clear n0_ n1_;(try clear hb);(try clear hb2);(try clear hk);(try clear hi);(try clear ho0)));go_ret2;exact ⟨_,by first|rfl|(simp [errW_none,errW_some] <;> rfl)|(simp [*,errW_none,errW_some] <;> rfl),by first|exact Kd.R_nil _ _ _ _ _|exact Kd.N_nil _ _ _ _ _|exact Kd.V_nil _ _ _ _ _|exact Kd.Q_nil _ _ _ _ _|exact Kd.S_nil _ _ _ _ _,by repeat (first|(with_reducible first|exact HB.out|apply qaA|apply qaD|apply qaF)|exact HB.out)⟩
end
end Go.Proofs.YtdlimghdimkadaaGreatDoor.PAll

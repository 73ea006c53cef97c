/- Part 3 of what the law EbmFormats rests on. -/
import Derived.Test.YtdlimghdimkadaaGreatDoorU1
import Derived.Test.YtdlimghdimkadaaGreatDoorU2
import Derived.RowKit
set_option maxRecDepth 100000
set_option maxHeartbeats 32000000
set_option linter.unusedSimpArgs false
set_option linter.unusedVariables false
namespace Go.Proofs.YtdlimghdimkadaaGreatDoor.PAll
open Go Go.RowKit YtdlimghdimkadaaGreatDoorW.PrintWords YtdlimghdimkadaaGreatDoorW.PrintLast YtdlimghdimkadaaGreatDoorW.PrintMore
attribute [local go_sem] qdG qdE qdY qdX qcJ qcI qdF qdD
section
attribute [local go_sem] qdG qdE qdY qdX qcJ qcI qdF qdD   
def header_Count.j0:Nat→Int→Int→Bool→Option (List Int × Int)
 | 0,_,_,_=>none
 | k+1,x0,x1,x11=>if x11=true then (some (([]:List Int),22)) else ((some (([69]:List Int):List Int)).bind fun y358=>((bits_Put.f (IntKind.u64.wrap (x0)) 4).bind fun t361=>(if y358.length+t361.length < 140737488355328 then ((header_image.f k (y358 ++ t361) x1).bind fun bt367=>(some (bt367.1,bt367.2))) else (none))))
def header_Count.f (k:Nat) (a0:Int) (a1:Int):Option (List Int × Int):=if a0 < 0 then (header_Count.j0 k a0 a1 true) else (header_Count.j0 k a0 a1 (decide (a0 > 2147483647)))
theorem header_Count.calls (k:Nat) (a0:Int) (a1:Int) (r1:List Int) (r2:Int) (w:World) (h:header_Count.f k a0 a1=some (r1,r2)) :
  Calls Tryz.prog 132 #[.int .i64 a0,.int .i64 a1] w fun e w'=>∃ v0_:Value,e=.returned (.tuple #[v0_,.int .i64 r2])∧Kd.R (Kd.int .u8) 5 w' w.heap.size (fun _=>True) v0_ r1∧Below w.heap.size w w':=by
 have HB:=aM (Below.refl w.heap.size w);have H:(if a0 < 0 then (header_Count.j0 k a0 a1 true) else (header_Count.j0 k a0 a1 (decide (a0 > 2147483647))))=some (r1,r2):=h;clear h;have HC3:=aM H;clear H;go_enter Tryz.func132,Tryz.ntmps132
 go_upto_region 1 with (fail)
 go_cut [11] (fun v11 wc=>∃ (kq:Nat) (x11_2:Bool),v11=.bool x11_2∧qaJ (header_Count.j0 kq a0 a1 x11_2=some (r1,r2))∧qaJ (kq≤k)∧qaJ (Below w.heap.size w wc))
 case first =>
  have H:=HC3.out;clear HC3
  by_cases c4:a0 < 0
  ·rw [if_pos c4] at H;have c4b0:decide (a0 < 0)=true:=decide_eq_true c4;clear c4
   (first|rw [c4b0]|(simp only [qbL];rw [c4b0])|skip)
   have H':=aM H;clear H;go_wp2;go_meet;case rel=>exact ⟨_,(true),(by first|rfl|(simp;done)|(simp [*];done)),H',⟨by first|omega|exact Nat.le_refl _⟩,⟨by repeat (first|(with_reducible first|exact HB.out|apply qaA|apply qaD|apply qaF)|exact HB.out)⟩⟩
  ·rw [if_neg c4] at H;have c4b0:decide (a0 < 0)=false:=decide_eq_false c4;clear c4
   (first|rw [c4b0]|(simp only [qbL];rw [c4b0])|skip)
   have H':=aM H;clear H;go_wp2;go_meet;case rel=>exact ⟨_,(decide (a0 > 2147483647)),(by first|rfl|(simp;done)|(simp [*];done)),H',⟨by first|omega|exact Nat.le_refl _⟩,⟨by repeat (first|(with_reducible first|exact HB.out|apply qaA|apply qaD|apply qaF)|exact HB.out)⟩⟩
 case rest =>
  clear HC3;try clear c1
  try clear p2
  try clear c4
  try clear c4b0
  obtain ⟨kq,x11_2,rfl,HA,HJ2,HB⟩:=hcut
  cases kq with
  | zero=>exact absurd HA.out (by simp [header_Count.j0])
  | succ kj2 =>
   have H:=HA.out;clear HA;simp only [header_Count.j0] at H
   by_cases c5:x11_2=true
   ·subst c5;have H1:(some (([]:List Int),22))=some (r1,r2):=by rw [if_pos rfl] at H;exact H
    clear H;have H:=H1;clear H1;simp only [Option.some.injEq,Prod.mk.injEq] at H;obtain ⟨rfl,rfl⟩:=H;go_wp2;go_ret2;exact ⟨_,by first|rfl|(simp [errW_none,errW_some] <;> rfl)|(simp [*,errW_none,errW_some] <;> rfl),by first|exact Kd.R_nil _ _ _ _ _|exact Kd.N_nil _ _ _ _ _|exact Kd.V_nil _ _ _ _ _|exact Kd.Q_nil _ _ _ _ _|exact Kd.S_nil _ _ _ _ _,by repeat (first|(with_reducible first|exact HB.out|apply qaA|apply qaD|apply qaF)|exact HB.out)⟩
   ·replace c5:=Bool.eq_false_iff.mpr c5;subst c5;have H1:((some (([69]:List Int):List Int)).bind fun y358=>((bits_Put.f (IntKind.u64.wrap (a0)) 4).bind fun t361=>(if y358.length+t361.length < 140737488355328 then ((header_image.f kj2 (y358 ++ t361) a1).bind fun bt367=>(some (bt367.1,bt367.2))) else (none))))=some (r1,r2):=by rw [if_neg (show ¬ (false=true) by decide)] at H;exact H
    clear H;have H:=H1;clear H1
    obtain ⟨y358,hy358⟩:∃ y_:List Int,y_=(([69]:List Int)):=⟨_,rfl⟩
    replace H:((bits_Put.f (IntKind.u64.wrap (a0)) 4).bind fun t361=>(if y358.length+t361.length < 140737488355328 then ((header_image.f kj2 (y358 ++ t361) a1).bind fun bt367=>(some (bt367.1,bt367.2))) else (none)))=some (r1,r2):=by first|(rw [hy358];with_reducible exact H)|(have H2_:=(Option.bind_some _ _).symm.trans H;rw [hy358];with_reducible exact H2_)|(have H2_:=(Option.bind_some _ _).symm.trans H;with_reducible exact H2_)|with_reducible exact H|(rw [hy358];exact H)|exact H
    have Ny358:=aM hy358;clear hy358;replace H:=Option.bind_eq_some_iff.mp H;obtain ⟨t361,A60,H⟩:=H;replace H:(if y358.length+t361.length < 140737488355328 then ((header_image.f kj2 (y358 ++ t361) a1).bind fun bt367=>(some (bt367.1,bt367.2))) else (none))=some (r1,r2):=H;have A6:=aM A60;clear A60
    by_cases c7:y358.length+t361.length < 140737488355328
    ·rw [if_pos c7] at H;have LMc7:=aM c7;clear c7
     obtain ⟨y364,hy364⟩:∃ y_:List Int,y_=(y358 ++ t361):=⟨_,rfl⟩
     replace H:((header_image.f kj2 y364 a1).bind fun bt367=>(some (bt367.1,bt367.2)))=some (r1,r2):=by first|(rw [hy364];with_reducible exact H)|(have H2_:=(Option.bind_some _ _).symm.trans H;rw [hy364];with_reducible exact H2_)|(have H2_:=(Option.bind_some _ _).symm.trans H;with_reducible exact H2_)|with_reducible exact H|(rw [hy364];exact H)|exact H
     have Ny364:=aM hy364;clear hy364;replace H:=Option.bind_eq_some_iff.mp H;obtain ⟨⟨t367,t368⟩,A80,H⟩:=H;replace H:(some (t367,t368))=some (r1,r2):=H;have A8:=aM A80;clear A80;simp only [Option.some.injEq,Prod.mk.injEq] at H;obtain ⟨rfl,rfl⟩:=H;go_wp2_with (first|((with_reducible refine qcL (N:=12) rfl ?_);refine Kd.R_lit (Kd.int .u8) _ 5 ?hg (N:=12) ?hd (xs:=([69]:List Int)) (inner:=[.int .u8 69]) (ok:=fun _=>True) (okp:=fun _=>True) ?hr ?hp (fun _ hk=>hk) trivial (Below.refl _ _) (Nat.le_refl _) (by simp) ?_;(case hd=>rfl);(case hg=>rfl);(case hr=>first|(go_simp;done)|(go_simp;rfl));(case hp=>exact (qeX.one (show Kd.M (Kd.int .u8) _ _ _ 69 [.int .u8 69] from rfl) (qeX.none _ _)));intro v359 w9 ho10 hb hg_ hnew_;clear hg_ hnew_;(first|rw [← Ny358.out] at ho10|(simp only [Int.reduceToNat] at ho10;rw [← Ny358.out] at ho10));have n0_:=aM (Kd.R_lower ho10 (qaI (by repeat (first|(with_reducible first|exact HB.out|apply qaA|apply qaD|apply qaF)|exact HB.out))));have n1_:=aM (qaC (by repeat (first|(with_reducible first|exact HB.out|apply qaA|apply qaD|apply qaF)|exact HB.out)) hb);clear HB;have HO360:=n0_;have HB:=n1_;clear n0_ n1_;clear hb ho10)|((with_reducible refine qcC (f:=153) rfl ?_);refine qgI (some 15) rfl rfl Tryz.func153 (by kernel_rfl) rfl #[.int .u64 (IntKind.u64.wrap (a0)),.int .i64 4] rfl (by (try simp only [List.map_toArray,List.map_cons,List.map_nil]);first|done|rfl|(simp only [List.length_drop,List.length_take];rfl)) ?_;(with_reducible refine (bits_Put.calls (IntKind.u64.wrap (a0)) 4 t361 _ A6.out).mono ?_);rintro e w11 ⟨v362,rfl,ho0,hb⟩;refine ⟨_,rfl,?_⟩;have n0_:=aM (Kd.R_elder' (by (with_reducible repeat (first|apply Kd.R_alloc|apply Kd.R_drewN|apply Kd.R_drew));exact HO360.out) (Kd.R_base ho0) hb);have n1_:=aM (Kd.R_lower (Kd.R_new' ho0 (Kd.R_lt (by (with_reducible repeat (first|apply Kd.R_alloc|apply Kd.R_drewN|apply Kd.R_drew));exact HO360.out))) (qaI (by repeat (first|(with_reducible first|exact HB.out|apply qaA|apply qaD|apply qaF)|exact HB.out))));have n2_:=aM (qaC (by repeat (first|(with_reducible first|exact HB.out|apply qaA|apply qaD|apply qaF)|exact HB.out)) hb);clear HO360;clear HB;have HO360:=n0_;have HO363:=n1_;have HB:=n2_;clear n0_ n1_ n2_;(try clear hb);(try clear hb2);(try clear hk);(try clear hi);(try clear ho0);obtain ⟨Ao13,co13,eo13⟩:=Kd.R_slice HO363.out;subst eo13)|((with_reducible refine qbH (b:=.append) (xs:=#[.tmp 12,.tmp 15]) rfl ?_);at_builtin;refine Kd.R_append_rows (Kd.int .u8) (w0:=w) w.heap.size rfl (.tmp 12) (.tmp 15) 35 5 (.int .u8 0) 1 rfl Tryz.underlying35 qfU rfl (by decide) (by omega) v359 y358 t361 _ _ _ (fun k_=>some k_ ≠ (.slice Ao13 t361.length co13:Value).ownBlock) (fun _=>False) rfl rfl ?aO ?aR (fun _ _ h=>h) (fun _ h=>h.elim) ?aF ?aB ?aS ?aL ?_;(case aR=>repeat (first|exact (Kd.R_reads' HO363.out).2.2|(with_reducible refine Kd.C_alloc ?_ _)|(with_reducible refine Kd.C_drewN ?_ _)|(with_reducible refine Kd.C_drew ?_)));(case aB=>exact (by repeat (first|(with_reducible first|exact HB.out|apply qaA|apply qaD|apply qaF)|exact HB.out)));(case aF=>exact (fun k_ hk=>Kd.fresh' (Kd.R_lt (by (with_reducible repeat (first|apply Kd.R_alloc|apply Kd.R_drewN|apply Kd.R_drew));exact HO363.out)) k_ hk));(case aO=>exact (by (with_reducible repeat (first|apply Kd.R_alloc|apply Kd.R_drewN|apply Kd.R_drew));exact Kd.R_mono HO360.out (fun _ hk=>hk.2)));(case aS=>exact (qaI (by repeat (first|(with_reducible first|exact HB.out|apply qaA|apply qaD|apply qaF)|exact HB.out))));(case aL=>have:=LMc7.out;omega);intro v365 w12 ho hb hg hat;rw [← Ny364.out] at ho;have n0_:=aM (Kd.R_after (ok:=(fun _=>True)) (by (with_reducible repeat (first|apply Kd.R_alloc|apply Kd.R_drewN|apply Kd.R_drew));exact HO363.out) hg hat);have n1_:=aM (hb);have n2_:=aM (ho);clear HO363;clear HB;clear HO360;have HO363:=n0_;have HB:=n1_;have HO366:=n2_;clear n0_ n1_ n2_;clear ho hb hg hat;obtain ⟨Ao14,co14,eo14⟩:=Kd.R_slice HO366.out;subst eo14)|((with_reducible refine qcC (f:=152) rfl ?_);refine qgI (some 18) rfl rfl Tryz.func152 (by kernel_rfl) rfl #[.slice Ao14 y364.length co14,.int .i64 a1] rfl (by (try simp only [List.map_toArray,List.map_cons,List.map_nil]);first|done|rfl|(simp only [List.length_drop,List.length_take];rfl)) ?_;(with_reducible refine (header_image.calls kj2 _ _ y364 a1 t367 t368 _ ?side1 ?side2 A8.out).mono ?_);(case side1=>repeat (first|exact (Kd.R_reads' HO366.out).2.2|(with_reducible refine Kd.C_alloc ?_ _)|(with_reducible refine Kd.C_drewN ?_ _)|(with_reducible refine Kd.C_drew ?_)));(case side2=>exact (Kd.R_reads' HO366.out).2.1);rintro e w15 ⟨v369,rfl,ho0,hb⟩;refine ⟨_,rfl,?_⟩;have n0_:=aM (Kd.R_elder' (by (with_reducible repeat (first|apply Kd.R_alloc|apply Kd.R_drewN|apply Kd.R_drew));exact HO363.out) (Kd.R_base ho0) hb);have n1_:=aM (Kd.R_elder' (by (with_reducible repeat (first|apply Kd.R_alloc|apply Kd.R_drewN|apply Kd.R_drew));exact HO366.out) (Kd.R_base ho0) hb);have n2_:=aM (Kd.R_lower (Kd.R_new' (Kd.R_new' ho0 (Kd.R_lt (by (with_reducible repeat (first|apply Kd.R_alloc|apply Kd.R_drewN|apply Kd.R_drew));exact HO363.out))) (Kd.R_lt (by (with_reducible repeat (first|apply Kd.R_alloc|apply Kd.R_drewN|apply Kd.R_drew));exact HO366.out))) (qaI (by repeat (first|(with_reducible first|exact HB.out|apply qaA|apply qaD|apply qaF)|exact HB.out))));have n3_:=aM (qaC (by repeat (first|(with_reducible first|exact HB.out|apply qaA|apply qaD|apply qaF)|exact HB.out)) hb);clear HO363;clear HO366;clear HB;have HO363:=n0_;have HO366:=n1_;have HO370:=n2_;have HB:=n3_;clear n0_ n1_ n2_ n3_;(try clear hb);(try clear hb2);(try clear hk);(try clear hi);(try clear ho0)))
     go_ret2;exact ⟨_,by first|rfl|(simp [errW_none,errW_some] <;> rfl)|(simp [*,errW_none,errW_some] <;> rfl),by (with_reducible repeat (first|apply Kd.R_alloc|apply Kd.R_drewN|apply Kd.R_drew));exact Kd.R_mono HO370.out (fun _ hk=>trivial),by repeat (first|(with_reducible first|exact HB.out|apply qaA|apply qaD|apply qaF)|exact HB.out)⟩
    ·rw [if_neg c7] at H;exact absurd H (by simp)
def header_Mapping.j0:Nat→Int→Bool→Int→Int→Int→Option (List Int × Int)
 | 0,_,_,_,_,_=>none
 | k+1,x1,x24,x372000,x372001,x372002=>if x24=true then (some (([]:List Int),22)) else ((some (([77]:List Int):List Int)).bind fun y372=>((bits_Put.f (IntKind.u64.wrap (x372000)) 2).bind fun t375=>(if y372.length+t375.length < 140737488355328 then ((some (y372 ++ t375:List Int)).bind fun y378=>((bits_Put.f x372001 8).bind fun t381=>(if y378.length+t381.length < 140737488355328 then ((some (y378 ++ t381:List Int)).bind fun y384=>((some (([(x372002) % 256]:List Int):List Int)).bind fun y387=>(if y384.length+y387.length < 140737488355328 then ((header_image.f k (y384 ++ y387) x1).bind fun bt393=>(some (bt393.1,bt393.2))) else (none)))) else (none)))) else (none))))
def header_Mapping.f (k:Nat) (a0_0:Int) (a0_1:Int) (a0_2:Int) (a1:Int):Option (List Int × Int):=if a0_0 < 0 then (header_Mapping.j0 k a1 true a0_0 a0_1 a0_2) else (if a0_0 ≥ 256 then (header_Mapping.j0 k a1 true a0_0 a0_1 a0_2) else (if a0_2 < 0 then (header_Mapping.j0 k a1 true a0_0 a0_1 a0_2) else (header_Mapping.j0 k a1 (decide (a0_2 > 64)) a0_0 a0_1 a0_2)))
def header_Mapping.T4:Bool × List (List Nat × List Nat):=(true,[([],[]),([],[]),([1],[1]),([2],[2]),([0,3,3],[0,3]),([],[]),([5],[5]),([6],[6]),([7],[7]),([4,8,4],[4,8]),([9,9,0,1,2,3,4,5,6,7,8,9],[0,9])])
def header_Mapping.B4:List Nat:=[0,0,2,6,15,0,32,96,224,511,1023]
theorem header_Mapping.tab4:qeN .any (vfJ Tryz.f169 4)=header_Mapping.T4:=by kernel_rfl
theorem header_Mapping.bits4:qdQ header_Mapping.T4.2 header_Mapping.B4=true:=by kernel_rfl
theorem header_Mapping.calls (k:Nat) (a0_0:Int) (a0_1:Int) (a0_2:Int) (a1:Int) (r1:List Int) (r2:Int) (w:World) (h:header_Mapping.f k a0_0 a0_1 a0_2 a1=some (r1,r2)) :
  Calls Tryz.prog 169 #[.agg #[.int .i64 a0_0,.int .u64 a0_1,.int .i64 a0_2],.int .i64 a1] w fun e w'=>∃ v0_:Value,e=.returned (.tuple #[v0_,.int .i64 r2])∧Kd.R (Kd.int .u8) 5 w' w.heap.size (fun _=>True) v0_ r1∧Below w.heap.size w w':=by
 have hu168:=Tryz.underlying168;have HB:=aM (Below.refl w.heap.size w);have H:(if a0_0 < 0 then (header_Mapping.j0 k a1 true a0_0 a0_1 a0_2) else (if a0_0 ≥ 256 then (header_Mapping.j0 k a1 true a0_0 a0_1 a0_2) else (if a0_2 < 0 then (header_Mapping.j0 k a1 true a0_0 a0_1 a0_2) else (header_Mapping.j0 k a1 (decide (a0_2 > 64)) a0_0 a0_1 a0_2))))=some (r1,r2):=h;clear h;have HC3:=aM H;clear H;go_enter Tryz.func169,Tryz.ntmps169
 go_upto_region 1 with (first|((with_reducible refine qcL (N:=2) rfl ?_);refine qiJ ?hg (N:=2) ?hd (cs:=#[.int .i64 a0_0,.int .u64 a0_1,.int .i64 a0_2]) (t:=168) ?hr ?_;(case hd=>rfl);(case hg=>rfl);(case hr=>first|(go_simp;done)|(go_simp;rfl));intro gb371 hg w4 hbox hb;have n0_:=aM (qaC (by repeat (first|(with_reducible first|exact HB.out|apply qaA|apply qaD|apply qaF)|exact HB.out)) hb);have n1_:=aM (hbox);have n2_:=aM ((by rw [hg];exact (qaI (by repeat (first|(with_reducible first|exact HB.out|apply qaA|apply qaD|apply qaF)|exact HB.out))):w.heap.size≤gb371));have n3_:=aM ((by rw [hg];exact (qaI (by repeat (first|(with_reducible first|exact HB.out|apply qaA|apply qaD|apply qaF)|exact HB.out))):w.heap.size≤gb371));clear HB;have HB:=n0_;have BK371:=n1_;have GW371:=n2_;have GE371:=n3_;clear n0_ n1_ n2_ n3_;clear hb hbox hg))
 (try simp only [Act.put,List.setIfInBounds_toArray,List.set_cons_zero,List.set_cons_succ])
 go_cut [24] (fun v24 wc=>∃ (kq:Nat) (x24_2:Bool),v24=.bool x24_2∧qaJ (header_Mapping.j0 kq a1 x24_2 a0_0 a0_1 a0_2=some (r1,r2))∧qaJ (kq≤k)∧qaJ (wc.heap[gb371]?=some (.cells #[.int .i64 a0_0,.int .u64 a0_1,.int .i64 a0_2] 168 (0,0)))∧qaJ (Below w.heap.size w wc))
 case first =>
  have H:=HC3.out;clear HC3
  by_cases c5:a0_0 < 0
  ·rw [if_pos c5] at H;have c5b0:decide (a0_0 < 0)=true:=decide_eq_true c5;clear c5
   (first|rw [c5b0]|(simp only [qbL];rw [c5b0])|skip)
   have H':=aM H;clear H;have hcz6_0:w4.cell? ⟨gb371,0,none⟩=some (.int .i64 a0_0):=(qaP BK371.out 0).trans rfl;have hcz6_1:w4.cell? ⟨gb371,1,none⟩=some (.int .u64 a0_1):=(qaP BK371.out 1).trans rfl;have hcz6_2:w4.cell? ⟨gb371,2,none⟩=some (.int .i64 a0_2):=(qaP BK371.out 2).trans rfl;have hfz6_0:=qaE BK371.out 0;have hfz6_1:=qaE BK371.out 1;have hfz6_2:=qaE BK371.out 2;go_wp2;go_meet;case rel=>exact ⟨_,(true),(by first|rfl|(simp;done)|(simp [*];done)),H',⟨by first|omega|exact Nat.le_refl _⟩,⟨by (with_reducible repeat (first|refine blk_drewN ?_ _|refine qbI ?_|refine qaS ?_ _));exact BK371.out⟩,⟨by repeat (first|(with_reducible first|exact HB.out|apply qaA|apply qaD|apply qaF|refine qaK ?_ GE371.out)|exact HB.out)⟩⟩
  ·rw [if_neg c5] at H;have c5b0:decide (a0_0 < 0)=false:=decide_eq_false c5;clear c5
   (first|rw [c5b0]|(simp only [qbL];rw [c5b0])|skip)
   by_cases c7:a0_0 ≥ 256
   ·rw [if_pos c7] at H;have c7b0:decide (256≤a0_0)=true:=decide_eq_true c7;clear c7;have H':=aM H;clear H;have hcz8_0:w4.cell? ⟨gb371,0,none⟩=some (.int .i64 a0_0):=(qaP BK371.out 0).trans rfl;have hcz8_1:w4.cell? ⟨gb371,1,none⟩=some (.int .u64 a0_1):=(qaP BK371.out 1).trans rfl;have hcz8_2:w4.cell? ⟨gb371,2,none⟩=some (.int .i64 a0_2):=(qaP BK371.out 2).trans rfl;have hfz8_0:=qaE BK371.out 0;have hfz8_1:=qaE BK371.out 1;have hfz8_2:=qaE BK371.out 2;go_wp2;go_meet;case rel=>exact ⟨_,(true),(by first|rfl|(simp;done)|(simp [*];done)),H',⟨by first|omega|exact Nat.le_refl _⟩,⟨by (with_reducible repeat (first|refine blk_drewN ?_ _|refine qbI ?_|refine qaS ?_ _));exact BK371.out⟩,⟨by repeat (first|(with_reducible first|exact HB.out|apply qaA|apply qaD|apply qaF|refine qaK ?_ GE371.out)|exact HB.out)⟩⟩
   ·rw [if_neg c7] at H;have c7b0:decide (256≤a0_0)=false:=decide_eq_false c7;clear c7
    by_cases c9:a0_2 < 0
    ·rw [if_pos c9] at H;have c9b0:decide (a0_2 < 0)=true:=decide_eq_true c9;clear c9;have H':=aM H;clear H;have hcz10_0:w4.cell? ⟨gb371,0,none⟩=some (.int .i64 a0_0):=(qaP BK371.out 0).trans rfl;have hcz10_1:w4.cell? ⟨gb371,1,none⟩=some (.int .u64 a0_1):=(qaP BK371.out 1).trans rfl;have hcz10_2:w4.cell? ⟨gb371,2,none⟩=some (.int .i64 a0_2):=(qaP BK371.out 2).trans rfl;have hfz10_0:=qaE BK371.out 0;have hfz10_1:=qaE BK371.out 1;have hfz10_2:=qaE BK371.out 2;go_wp2;go_meet;case rel=>exact ⟨_,(true),(by first|rfl|(simp;done)|(simp [*];done)),H',⟨by first|omega|exact Nat.le_refl _⟩,⟨by (with_reducible repeat (first|refine blk_drewN ?_ _|refine qbI ?_|refine qaS ?_ _));exact BK371.out⟩,⟨by repeat (first|(with_reducible first|exact HB.out|apply qaA|apply qaD|apply qaF|refine qaK ?_ GE371.out)|exact HB.out)⟩⟩
    ·rw [if_neg c9] at H;have c9b0:decide (a0_2 < 0)=false:=decide_eq_false c9;clear c9;have H':=aM H;clear H;have hcz11_0:w4.cell? ⟨gb371,0,none⟩=some (.int .i64 a0_0):=(qaP BK371.out 0).trans rfl;have hcz11_1:w4.cell? ⟨gb371,1,none⟩=some (.int .u64 a0_1):=(qaP BK371.out 1).trans rfl;have hcz11_2:w4.cell? ⟨gb371,2,none⟩=some (.int .i64 a0_2):=(qaP BK371.out 2).trans rfl;have hfz11_0:=qaE BK371.out 0;have hfz11_1:=qaE BK371.out 1;have hfz11_2:=qaE BK371.out 2;go_wp2;go_meet;case rel=>exact ⟨_,(decide (a0_2 > 64)),(by first|rfl|(simp;done)|(simp [*];done)),H',⟨by first|omega|exact Nat.le_refl _⟩,⟨by (with_reducible repeat (first|refine blk_drewN ?_ _|refine qbI ?_|refine qaS ?_ _));exact BK371.out⟩,⟨by repeat (first|(with_reducible first|exact HB.out|apply qaA|apply qaD|apply qaF|refine qaK ?_ GE371.out)|exact HB.out)⟩⟩
 case rest =>
  clear HC3;try clear c1
  try clear p2
  try clear c5
  try clear c5b0
  try clear c7
  try clear c7b0
  try clear c9
  try clear c9b0
  try clear hcz10_0
  try clear hcz10_1
  try clear hcz10_2
  try clear hcz11_0
  try clear hcz11_1
  try clear hcz11_2
  try clear hcz6_0
  try clear hcz6_1
  try clear hcz6_2
  try clear hcz8_0
  try clear hcz8_1
  try clear hcz8_2
  try clear hfz10_0
  try clear hfz10_1
  try clear hfz10_2
  try clear hfz11_0
  try clear hfz11_1
  try clear hfz11_2
  try clear hfz6_0
  try clear hfz6_1
  try clear hfz6_2
  try clear hfz8_0
  try clear hfz8_1
  try clear hfz8_2
  obtain ⟨kq,x24_2,rfl,HA,HJ2,BK371,HB⟩:=hcut
  cases kq with
  | zero=>exact absurd HA.out (by simp [header_Mapping.j0])
  | succ kj2 =>
   have H:=HA.out;clear HA;simp only [header_Mapping.j0] at H
   by_cases c12:x24_2=true
   ·subst c12;have H1:(some (([]:List Int),22))=some (r1,r2):=by rw [if_pos rfl] at H;exact H
    clear H;have H:=H1;clear H1;simp only [Option.some.injEq,Prod.mk.injEq] at H;obtain ⟨rfl,rfl⟩:=H;go_wp2;go_ret2;exact ⟨_,by first|rfl|(simp [errW_none,errW_some] <;> rfl)|(simp [*,errW_none,errW_some] <;> rfl),by first|exact Kd.R_nil _ _ _ _ _|exact Kd.N_nil _ _ _ _ _|exact Kd.V_nil _ _ _ _ _|exact Kd.Q_nil _ _ _ _ _|exact Kd.S_nil _ _ _ _ _,by repeat (first|(with_reducible first|exact HB.out|apply qaA|apply qaD|apply qaF|refine qaK ?_ GE371.out)|exact HB.out)⟩
   ·replace c12:=Bool.eq_false_iff.mpr c12;subst c12;have H1:((some (([77]:List Int):List Int)).bind fun y372=>((bits_Put.f (IntKind.u64.wrap (a0_0)) 2).bind fun t375=>(if y372.length+t375.length < 140737488355328 then ((some (y372 ++ t375:List Int)).bind fun y378=>((bits_Put.f a0_1 8).bind fun t381=>(if y378.length+t381.length < 140737488355328 then ((some (y378 ++ t381:List Int)).bind fun y384=>((some (([(a0_2) % 256]:List Int):List Int)).bind fun y387=>(if y384.length+y387.length < 140737488355328 then ((header_image.f kj2 (y384 ++ y387) a1).bind fun bt393=>(some (bt393.1,bt393.2))) else (none)))) else (none)))) else (none))))=some (r1,r2):=by rw [if_neg (show ¬ (false=true) by decide)] at H;exact H
    clear H;have H:=H1;clear H1
    obtain ⟨y372,hy372⟩:∃ y_:List Int,y_=(([77]:List Int)):=⟨_,rfl⟩
    replace H:((bits_Put.f (IntKind.u64.wrap (a0_0)) 2).bind fun t375=>(if y372.length+t375.length < 140737488355328 then ((some (y372 ++ t375:List Int)).bind fun y378=>((bits_Put.f a0_1 8).bind fun t381=>(if y378.length+t381.length < 140737488355328 then ((some (y378 ++ t381:List Int)).bind fun y384=>((some (([(a0_2) % 256]:List Int):List Int)).bind fun y387=>(if y384.length+y387.length < 140737488355328 then ((header_image.f kj2 (y384 ++ y387) a1).bind fun bt393=>(some (bt393.1,bt393.2))) else (none)))) else (none)))) else (none)))=some (r1,r2):=by first|(rw [hy372];with_reducible exact H)|(have H2_:=(Option.bind_some _ _).symm.trans H;rw [hy372];with_reducible exact H2_)|(have H2_:=(Option.bind_some _ _).symm.trans H;with_reducible exact H2_)|with_reducible exact H|(rw [hy372];exact H)|exact H
    have Ny372:=aM hy372;clear hy372;replace H:=Option.bind_eq_some_iff.mp H;obtain ⟨t375,A130,H⟩:=H;replace H:(if y372.length+t375.length < 140737488355328 then ((some (y372 ++ t375:List Int)).bind fun y378=>((bits_Put.f a0_1 8).bind fun t381=>(if y378.length+t381.length < 140737488355328 then ((some (y378 ++ t381:List Int)).bind fun y384=>((some (([(a0_2) % 256]:List Int):List Int)).bind fun y387=>(if y384.length+y387.length < 140737488355328 then ((header_image.f kj2 (y384 ++ y387) a1).bind fun bt393=>(some (bt393.1,bt393.2))) else (none)))) else (none)))) else (none))=some (r1,r2):=H;have A13:=aM A130;clear A130
    by_cases c14:y372.length+t375.length < 140737488355328
    ·rw [if_pos c14] at H;have LMc14:=aM c14;clear c14
     obtain ⟨y378,hy378⟩:∃ y_:List Int,y_=(y372 ++ t375):=⟨_,rfl⟩
     replace H:((bits_Put.f a0_1 8).bind fun t381=>(if y378.length+t381.length < 140737488355328 then ((some (y378 ++ t381:List Int)).bind fun y384=>((some (([(a0_2) % 256]:List Int):List Int)).bind fun y387=>(if y384.length+y387.length < 140737488355328 then ((header_image.f kj2 (y384 ++ y387) a1).bind fun bt393=>(some (bt393.1,bt393.2))) else (none)))) else (none)))=some (r1,r2):=by first|(rw [hy378];with_reducible exact H)|(have H2_:=(Option.bind_some _ _).symm.trans H;rw [hy378];with_reducible exact H2_)|(have H2_:=(Option.bind_some _ _).symm.trans H;with_reducible exact H2_)|with_reducible exact H|(rw [hy378];exact H)|exact H
     have Ny378:=aM hy378;clear hy378;replace H:=Option.bind_eq_some_iff.mp H;obtain ⟨t381,A150,H⟩:=H;replace H:(if y378.length+t381.length < 140737488355328 then ((some (y378 ++ t381:List Int)).bind fun y384=>((some (([(a0_2) % 256]:List Int):List Int)).bind fun y387=>(if y384.length+y387.length < 140737488355328 then ((header_image.f kj2 (y384 ++ y387) a1).bind fun bt393=>(some (bt393.1,bt393.2))) else (none)))) else (none))=some (r1,r2):=H;have A15:=aM A150;clear A150
     by_cases c16:y378.length+t381.length < 140737488355328
     ·rw [if_pos c16] at H;have LMc16:=aM c16;clear c16
      obtain ⟨y384,hy384⟩:∃ y_:List Int,y_=(y378 ++ t381):=⟨_,rfl⟩
      replace H:((some (([(a0_2) % 256]:List Int):List Int)).bind fun y387=>(if y384.length+y387.length < 140737488355328 then ((header_image.f kj2 (y384 ++ y387) a1).bind fun bt393=>(some (bt393.1,bt393.2))) else (none)))=some (r1,r2):=by first|(rw [hy384];with_reducible exact H)|(have H2_:=(Option.bind_some _ _).symm.trans H;rw [hy384];with_reducible exact H2_)|(have H2_:=(Option.bind_some _ _).symm.trans H;with_reducible exact H2_)|with_reducible exact H|(rw [hy384];exact H)|exact H
      have Ny384:=aM hy384;clear hy384
      obtain ⟨y387,hy387⟩:∃ y_:List Int,y_=(([(a0_2) % 256]:List Int)):=⟨_,rfl⟩
      replace H:(if y384.length+y387.length < 140737488355328 then ((header_image.f kj2 (y384 ++ y387) a1).bind fun bt393=>(some (bt393.1,bt393.2))) else (none))=some (r1,r2):=by first|(rw [hy387];with_reducible exact H)|(have H2_:=(Option.bind_some _ _).symm.trans H;rw [hy387];with_reducible exact H2_)|(have H2_:=(Option.bind_some _ _).symm.trans H;with_reducible exact H2_)|with_reducible exact H|(rw [hy387];exact H)|exact H
      have Ny387:=aM hy387;clear hy387
      by_cases c17:y384.length+y387.length < 140737488355328
      ·rw [if_pos c17] at H;have LMc17:=aM c17;clear c17
       obtain ⟨y390,hy390⟩:∃ y_:List Int,y_=(y384 ++ y387):=⟨_,rfl⟩
       replace H:((header_image.f kj2 y390 a1).bind fun bt393=>(some (bt393.1,bt393.2)))=some (r1,r2):=by first|(rw [hy390];with_reducible exact H)|(have H2_:=(Option.bind_some _ _).symm.trans H;rw [hy390];with_reducible exact H2_)|(have H2_:=(Option.bind_some _ _).symm.trans H;with_reducible exact H2_)|with_reducible exact H|(rw [hy390];exact H)|exact H
       have Ny390:=aM hy390;clear hy390;replace H:=Option.bind_eq_some_iff.mp H;obtain ⟨⟨t393,t394⟩,A180,H⟩:=H;replace H:(some (t393,t394))=some (r1,r2):=H;have A18:=aM A180;clear A180;simp only [Option.some.injEq,Prod.mk.injEq] at H;obtain ⟨rfl,rfl⟩:=H;try go_wp2_with (first|((with_reducible refine qcL (N:=25) rfl ?_);refine Kd.R_lit (Kd.int .u8) _ 5 ?hg (N:=25) ?hd (xs:=([77]:List Int)) (inner:=[.int .u8 77]) (ok:=fun _=>True) (okp:=fun _=>True) ?hr ?hp (fun _ hk=>hk) trivial (Below.refl _ _) (Nat.le_refl _) (by simp) ?_;(case hd=>rfl);(case hg=>rfl);(case hr=>first|(go_simp;done)|(go_simp;rfl));(case hp=>exact (qeX.one (show Kd.M (Kd.int .u8) _ _ _ 77 [.int .u8 77] from rfl) (qeX.none _ _)));intro v373 w19 ho20 hb hg_ hnew_;clear hg_ hnew_;(first|rw [← Ny372.out] at ho20|(simp only [Int.reduceToNat] at ho20;rw [← Ny372.out] at ho20));have n0_:=aM (Kd.R_lower ho20 (qaI (by repeat (first|(with_reducible first|exact HB.out|apply qaA|apply qaD|apply qaF|refine qaK ?_ GE371.out)|exact HB.out))));have n1_:=aM (qdV (g:=gb371) (o:=.cells #[.int .i64 a0_0,.int .u64 a0_1,.int .i64 a0_2] 168 (0,0)) (by (with_reducible repeat (first|refine blk_drewN ?_ _|refine qbI ?_|refine qaS ?_ _));exact BK371.out) hb);have n2_:=aM (qaC (by repeat (first|(with_reducible first|exact HB.out|apply qaA|apply qaD|apply qaF|refine qaK ?_ GE371.out)|exact HB.out)) hb);clear BK371;clear HB;have HO374:=n0_;have BK371:=n1_;have HB:=n2_;clear n0_ n1_ n2_;clear hb ho20;have hcz21_0:w19.cell? ⟨gb371,0,none⟩=some (.int .i64 a0_0):=(qaP BK371.out 0).trans rfl;have hcz21_1:w19.cell? ⟨gb371,1,none⟩=some (.int .u64 a0_1):=(qaP BK371.out 1).trans rfl;have hcz21_2:w19.cell? ⟨gb371,2,none⟩=some (.int .i64 a0_2):=(qaP BK371.out 2).trans rfl;have hfz21_0:=qaE BK371.out 0;have hfz21_1:=qaE BK371.out 1;have hfz21_2:=qaE BK371.out 2)|((with_reducible refine qcC (f:=153) rfl ?_);refine qgI (some 29) rfl rfl Tryz.func153 (by kernel_rfl) rfl #[.int .u64 (IntKind.u64.wrap (a0_0)),.int .i64 2] rfl (by (try simp only [List.map_toArray,List.map_cons,List.map_nil]);first|done|rfl|(simp only [List.length_drop,List.length_take];rfl)) ?_;(with_reducible refine (bits_Put.calls (IntKind.u64.wrap (a0_0)) 2 t375 _ A13.out).mono ?_);rintro e w22 ⟨v376,rfl,ho0,hb⟩;refine ⟨_,rfl,?_⟩;have n0_:=aM (Kd.R_elder' (by (with_reducible repeat (first|apply Kd.R_alloc|apply Kd.R_drewN|apply Kd.R_drew));exact HO374.out) (Kd.R_base ho0) hb);have n1_:=aM (Kd.R_lower (Kd.R_new' ho0 (Kd.R_lt (by (with_reducible repeat (first|apply Kd.R_alloc|apply Kd.R_drewN|apply Kd.R_drew));exact HO374.out))) (qaI (by repeat (first|(with_reducible first|exact HB.out|apply qaA|apply qaD|apply qaF|refine qaK ?_ GE371.out)|exact HB.out))));have n2_:=aM (qdV (g:=gb371) (o:=.cells #[.int .i64 a0_0,.int .u64 a0_1,.int .i64 a0_2] 168 (0,0)) (by (with_reducible repeat (first|refine blk_drewN ?_ _|refine qbI ?_|refine qaS ?_ _));exact BK371.out) hb);have n3_:=aM (qaC (by repeat (first|(with_reducible first|exact HB.out|apply qaA|apply qaD|apply qaF|refine qaK ?_ GE371.out)|exact HB.out)) hb);clear HO374;clear BK371;clear HB;have HO374:=n0_;have HO377:=n1_;have BK371:=n2_;have HB:=n3_;clear n0_ n1_ n2_ n3_;(try clear hb);(try clear hb2);(try clear hk);(try clear hi);(try clear ho0);obtain ⟨Ao24,co24,eo24⟩:=Kd.R_slice HO377.out;subst eo24)|((with_reducible refine qbH (b:=.append) (xs:=#[.tmp 25,.tmp 29]) rfl ?_);at_builtin;refine Kd.R_append_rows (Kd.int .u8) (w0:=w) w.heap.size rfl (.tmp 25) (.tmp 29) 35 5 (.int .u8 0) 1 rfl Tryz.underlying35 qfU rfl (by decide) (by omega) v373 y372 t375 _ _ _ (fun k_=>some k_ ≠ (.slice Ao24 t375.length co24:Value).ownBlock) (fun _=>False) rfl rfl ?aO ?aR (fun _ _ h=>h) (fun _ h=>h.elim) ?aF ?aB ?aS ?aL ?_;(case aR=>repeat (first|exact (Kd.R_reads' HO377.out).2.2|(with_reducible refine Kd.C_alloc ?_ _)|(with_reducible refine Kd.C_drewN ?_ _)|(with_reducible refine Kd.C_drew ?_)));(case aB=>exact (by repeat (first|(with_reducible first|exact HB.out|apply qaA|apply qaD|apply qaF|refine qaK ?_ GE371.out)|exact HB.out)));(case aF=>exact (fun k_ hk=>Kd.fresh' (Kd.R_lt (by (with_reducible repeat (first|apply Kd.R_alloc|apply Kd.R_drewN|apply Kd.R_drew));exact HO377.out)) k_ hk));(case aO=>exact (by (with_reducible repeat (first|apply Kd.R_alloc|apply Kd.R_drewN|apply Kd.R_drew));exact Kd.R_mono HO374.out (fun _ hk=>hk.2)));(case aS=>exact (qaI (by repeat (first|(with_reducible first|exact HB.out|apply qaA|apply qaD|apply qaF|refine qaK ?_ GE371.out)|exact HB.out))));(case aL=>have:=LMc14.out;omega);intro v379 w23 ho hb hg hat;rw [← Ny378.out] at ho;have n0_:=aM (qcQ (g:=gb371) (o:=.cells #[.int .i64 a0_0,.int .u64 a0_1,.int .i64 a0_2] 168 (0,0)) (by (with_reducible repeat (first|refine blk_drewN ?_ _|refine qbI ?_|refine qaS ?_ _));exact BK371.out) hg (Kd.R_ne HO374.out BK371.out (by decide)));have n1_:=aM (Kd.R_after (ok:=(fun _=>True)) (by (with_reducible repeat (first|apply Kd.R_alloc|apply Kd.R_drewN|apply Kd.R_drew));exact HO377.out) hg hat);have n2_:=aM (hb);have n3_:=aM (ho);clear BK371;clear HO377;clear HB;clear HO374;have BK371:=n0_;have HO377:=n1_;have HB:=n2_;have HO380:=n3_;clear n0_ n1_ n2_ n3_;clear ho hb hg hat;obtain ⟨Ao25,co25,eo25⟩:=Kd.R_slice HO380.out;subst eo25))
       have n0_:=aM (Kd.R_drew HO377.out);have n1_:=aM (Kd.R_drew HO380.out);have n2_:=aM (qbI BK371.out);have n3_:=aM (qaF HB.out);clear HO377;clear HO380;clear BK371;clear HB;have HO377:=n0_;have HO380:=n1_;have BK371:=n2_;have HB:=n3_;clear n0_ n1_ n2_ n3_;refine qlX (n:=11) (S:=fun w'=>w'.cell? ⟨gb371,0,none⟩=some (.int .i64 a0_0)∧w'.cell? ⟨gb371,1,none⟩=some (.int .u64 a0_1)∧w'.cell? ⟨gb371,2,none⟩=some (.int .i64 a0_2)) (ds:=[]) #[false,false,false,false,false,false,false,false,false,false,false] (by kernel_rfl) rfl rfl ⟨(qaP BK371.out 0).trans rfl,(qaP BK371.out 1).trans rfl,(qaP BK371.out 2).trans rfl⟩ (fun hHeld=>?_);refine quN header_Mapping.tab4 header_Mapping.bits4 (fun HT_ HW_=>?_);generalize w23.drew=w26 at HO377 HO380 BK371 HB hHeld ⊢;refine qhE (i:=0) (N:=some 31) (v:=?_) (a':=?_) #[true,false,false,false,false,false,false,false,false,false,false] rfl rfl (qpL HT_.out (by kernel_rfl)) (fun _ _ _ h=>h) (Or.inl ⟨by rfl,?_⟩) ?_ ?_;rotate_left
       ·intro w';go_simp
        with_reducible rfl
       rotate_left
       ·simp only [Act.put,List.setIfInBounds_toArray,List.set_cons_zero,List.set_cons_succ,qbL];rfl
       refine qhE (i:=1) (N:=some 32) (v:=?_) (a':=?_) #[true,true,false,false,false,false,false,false,false,false,false] rfl rfl (qpL HT_.out (by kernel_rfl)) (fun _ _ _ h=>h) (Or.inl ⟨by rfl,?_⟩) ?_ ?_;rotate_left
       ·intro w';go_simp
        with_reducible rfl
       rotate_left
       ·simp only [Act.put,List.setIfInBounds_toArray,List.set_cons_zero,List.set_cons_succ,qbL];rfl
       refine qhE (i:=5) (N:=some 36) (v:=?_) (a':=?_) #[true,true,false,false,false,true,false,false,false,false,false] rfl rfl (qpL HT_.out (by kernel_rfl)) (fun _ _ _ h=>h) (Or.inl ⟨by rfl,?_⟩) ?_ ?_;rotate_left
       ·intro w';go_simp
        with_reducible rfl
       rotate_left
       ·simp only [Act.put,List.setIfInBounds_toArray,List.set_cons_zero,List.set_cons_succ,qbL];rfl
       refine take_ (i:=2) (N:=some 33) (v:=?_) (a':=?_) #[true,true,true,false,false,true,false,false,false,false,false] rfl rfl (qqZ HT_.out HW_.out (by kernel_rfl)) (fun _ _ _ h=>h) (Or.inl ⟨by rfl,?_⟩) hHeld ?_ ?_;rotate_left
       ·rintro w' ⟨s0,s1,s2⟩;go_simp
        with_reducible rfl
       rotate_left
       ·simp only [Act.put,List.setIfInBounds_toArray,List.set_cons_zero,List.set_cons_succ,qbL];rfl
       refine take_ (i:=6) (N:=some 37) (v:=?_) (a':=?_) #[true,true,true,false,false,true,true,false,false,false,false] rfl rfl (qqZ HT_.out HW_.out (by kernel_rfl)) (fun _ _ _ h=>h) (Or.inl ⟨by rfl,?_⟩) hHeld ?_ ?_;rotate_left
       ·rintro w' ⟨s0,s1,s2⟩;go_simp
        with_reducible rfl
       rotate_left
       ·simp only [Act.put,List.setIfInBounds_toArray,List.set_cons_zero,List.set_cons_succ,qbL];rfl
       refine qhE (i:=7) (N:=some 38) (v:=?_) (a':=?_) #[true,true,true,false,false,true,true,true,false,false,false] rfl rfl (qpL HT_.out (by kernel_rfl)) (fun _ _ _ h=>h) (Or.inl ⟨by rfl,?_⟩) ?_ ?_;rotate_left
       ·intro w';go_simp
        with_reducible rfl
       rotate_left
       ·simp only [Act.put,List.setIfInBounds_toArray,List.set_cons_zero,List.set_cons_succ,qbL];rfl
       refine vfN (σ:=Value × Value × Value) 2 #[true,true,true,true,true,true,true,true,true,false,false] (fun s_=>[(34,s_.1),(35,s_.2.1),(39,s_.2.2)]) (fun s_ w'=>(w'.cell? ⟨gb371,0,none⟩=some (.int .i64 a0_0)∧w'.cell? ⟨gb371,1,none⟩=some (.int .u64 a0_1)∧w'.cell? ⟨gb371,2,none⟩=some (.int .i64 a0_2))∧(Kd.R (Kd.int .u8) 5 w' w.heap.size (fun k_=>some k_ ≠ (s_.1:Value).ownBlock∧some k_ ≠ (s_.2.1:Value).ownBlock∧some k_ ≠ (s_.2.2:Value).ownBlock) (.slice Ao24 t375.length co24) t375)∧(Kd.R (Kd.int .u8) 5 w' w.heap.size (fun k_=>some k_ ≠ (.slice Ao24 t375.length co24:Value).ownBlock∧some k_ ≠ (s_.2.1:Value).ownBlock∧some k_ ≠ (s_.2.2:Value).ownBlock) s_.1 t381)∧(Kd.R (Kd.int .u8) 5 w' w.heap.size (fun k_=>some k_ ≠ (.slice Ao24 t375.length co24:Value).ownBlock∧some k_ ≠ (s_.1:Value).ownBlock∧some k_ ≠ (s_.2.2:Value).ownBlock) s_.2.1 y384)∧(Kd.R (Kd.int .u8) 5 w' w.heap.size (fun k_=>some k_ ≠ (.slice Ao24 t375.length co24:Value).ownBlock∧some k_ ≠ (s_.1:Value).ownBlock∧some k_ ≠ (s_.2.1:Value).ownBlock) s_.2.2 y387)∧(w'.heap[gb371]?=some (.cells #[.int .i64 a0_0,.int .u64 a0_1,.int .i64 a0_2] 168 (0,0)))∧(Below w.heap.size w w')) ?_ ?_;rotate_left
       ·intro hCont;refine two_ (i:=3) (j:=8) (Ni:=some 34) (Nj:=some 39) #[true,true,true,true,false,true,true,true,false,false,false] #[true,true,true,false,false,true,true,true,true,false,false] rfl rfl rfl rfl (vaD HT_.out (by kernel_rfl)) (by decide) (by decide) (fun K hK=>?_) (fun K hK=>?_)
        ·skip
         refine qtK Tryz.func153 (by kernel_rfl) rfl #[.int .u64 a0_1,.int .i64 8] (by rfl) rfl rfl (by (try simp only [List.map_toArray,List.map_cons,List.map_nil]);first|done|rfl|(simp only [List.length_drop,List.length_take];rfl)) ?_
         with_reducible refine (bits_Put.calls a0_1 8 t381 _ A15.out).mono ?_
         rintro e w27 ⟨v382,rfl,ho0,hb⟩;refine ⟨_,rfl,?_⟩;have n0_:=aM (Kd.R_elder' (by (with_reducible repeat (first|apply Kd.R_alloc|apply Kd.R_drewN|apply Kd.R_drew));exact HO377.out) (Kd.R_base ho0) hb);have n1_:=aM (Kd.R_elder' (by (with_reducible repeat (first|apply Kd.R_alloc|apply Kd.R_drewN|apply Kd.R_drew));exact HO380.out) (Kd.R_base ho0) hb);have n2_:=aM (Kd.R_lower (Kd.R_new' (Kd.R_new' ho0 (Kd.R_lt (by (with_reducible repeat (first|apply Kd.R_alloc|apply Kd.R_drewN|apply Kd.R_drew));exact HO377.out))) (Kd.R_lt (by (with_reducible repeat (first|apply Kd.R_alloc|apply Kd.R_drewN|apply Kd.R_drew));exact HO380.out))) (qaI (by repeat (first|(with_reducible first|exact HB.out|apply qaA|apply qaD|apply qaF|refine qaK ?_ GE371.out)|exact HB.out))));have n3_:=aM (qdV (g:=gb371) (o:=.cells #[.int .i64 a0_0,.int .u64 a0_1,.int .i64 a0_2] 168 (0,0)) (by (with_reducible repeat (first|refine blk_drewN ?_ _|refine qbI ?_|refine qaS ?_ _));exact BK371.out) hb);have n4_:=aM (qaC (by repeat (first|(with_reducible first|exact HB.out|apply qaA|apply qaD|apply qaF|refine qaK ?_ GE371.out)|exact HB.out)) hb);clear HO377;clear HO380;clear BK371;clear HB;have HO377:=n0_;have HO380:=n1_;have HO383:=n2_;have BK371:=n3_;have HB:=n4_;clear n0_ n1_ n2_ n3_ n4_
         (try clear hb)
         (try clear hb2)
         (try clear hk)
         (try clear hi)
         (try clear ho0)
         obtain ⟨Ao29,co29,eo29⟩:=Kd.R_slice HO383.out
         (first|subst eo29|(injection eo29 with f1_ f2_ f3_;have f4_:=f1_.symm;have f5_:=f3_.symm;clear f1_ f2_ f3_;subst f4_;subst f5_))
         refine hK.out _ _ ⟨(qaP BK371.out 0).trans rfl,(qaP BK371.out 1).trans rfl,(qaP BK371.out 2).trans rfl⟩ (fun hHeld=>?_);clear hK K;refine qgG (a':=?_) ?_ ?_;rotate_left
         ·show Act.put _ (some 34) _=_;simp only [Act.put,List.setIfInBounds_toArray,List.set_cons_zero,List.set_cons_succ,qbL];rfl
         refine two_ (i:=4) (j:=8) (Ni:=some 35) (Nj:=some 39) #[true,true,true,true,true,true,true,true,false,false,false] #[true,true,true,true,false,true,true,true,true,false,false] rfl rfl rfl rfl (vaD HT_.out (by kernel_rfl)) (by decide) (by decide) (fun K hK=>?_) (fun K hK=>?_)
         ·skip
          refine Kd.R_append_rows_step (Kd.int .u8) (w0:=w) w.heap.size (by rfl) (.tmp 31) (.tmp 34) 35 5 (.int .u8 0) 1 rfl Tryz.underlying35 qfU rfl (by decide) (by omega) (.slice Ao25 y378.length co25) y378 t381 _ _ _ (fun k_=>some k_ ≠ (.slice Ao24 t375.length co24:Value).ownBlock∧some k_ ≠ (.slice Ao29 t381.length co29:Value).ownBlock) (fun _=>False) rfl rfl ?aO ?aR (fun _ _ h=>h) (fun _ h=>h.elim) ?aF ?aB ?aS ?aL ?_
          (case aR=>repeat (first|exact (Kd.R_reads' HO383.out).2.2|(with_reducible refine Kd.C_alloc ?_ _)|(with_reducible refine Kd.C_drewN ?_ _)|(with_reducible refine Kd.C_drew ?_)))
          (case aB=>exact (by repeat (first|(with_reducible first|exact HB.out|apply qaA|apply qaD|apply qaF|refine qaK ?_ GE371.out)|exact HB.out)))
          (case aF=>exact (fun k_ hk=>⟨Kd.fresh' (Kd.R_lt (by (with_reducible repeat (first|apply Kd.R_alloc|apply Kd.R_drewN|apply Kd.R_drew));exact HO377.out)) k_ hk,Kd.fresh' (Kd.R_lt (by (with_reducible repeat (first|apply Kd.R_alloc|apply Kd.R_drewN|apply Kd.R_drew));exact HO383.out)) k_ hk⟩))
          (case aO=>exact (by (with_reducible repeat (first|apply Kd.R_alloc|apply Kd.R_drewN|apply Kd.R_drew));exact HO380.out))
          (case aS=>exact (qaI (by repeat (first|(with_reducible first|exact HB.out|apply qaA|apply qaD|apply qaF|refine qaK ?_ GE371.out)|exact HB.out))))
          (case aL=>have:=LMc16.out;omega)
          intro v385 w28 ho hb hg hat;rw [← Ny384.out] at ho;have n0_:=aM (qcQ (g:=gb371) (o:=.cells #[.int .i64 a0_0,.int .u64 a0_1,.int .i64 a0_2] 168 (0,0)) (by (with_reducible repeat (first|refine blk_drewN ?_ _|refine qbI ?_|refine qaS ?_ _));exact BK371.out) hg (Kd.R_ne HO380.out BK371.out (by decide)));have n1_:=aM (Kd.R_after (ok:=(fun k_=>some k_ ≠ (.slice Ao29 t381.length co29:Value).ownBlock)) (by (with_reducible repeat (first|apply Kd.R_alloc|apply Kd.R_drewN|apply Kd.R_drew));exact Kd.R_mono HO377.out (fun _ hk=>⟨hk.2,hk.1.2⟩)) hg hat);have n2_:=aM (Kd.R_after (ok:=(fun k_=>some k_ ≠ (.slice Ao24 t375.length co24:Value).ownBlock)) (by (with_reducible repeat (first|apply Kd.R_alloc|apply Kd.R_drewN|apply Kd.R_drew));exact Kd.R_mono HO383.out (fun _ hk=>⟨hk.1.2,hk.2⟩)) hg hat);have n3_:=aM (hb);have n4_:=aM (ho);clear BK371;clear HO377;clear HO383;clear HB;clear HO380;have BK371:=n0_;have HO377:=n1_;have HO383:=n2_;have HB:=n3_;have HO386:=n4_;clear n0_ n1_ n2_ n3_ n4_;clear ho hb hg hat;refine hK.out _ _ ⟨(qaP BK371.out 0).trans rfl,(qaP BK371.out 1).trans rfl,(qaP BK371.out 2).trans rfl⟩ (fun hHeld=>?_);clear hK K;refine qgG (a':=?_) ?_ ?_;rotate_left
          ·show Act.put _ (some 35) _=_;simp only [Act.put,List.setIfInBounds_toArray,List.set_cons_zero,List.set_cons_succ,qbL];rfl
          refine qyI (i:=8) (N:=some 39) #[true,true,true,true,true,true,true,true,true,false,false] rfl rfl (qoG HT_.out (by kernel_rfl)) (by decide) (fun K hK=>?_)
          refine Kd.R_lit_step (Kd.int .u8) _ 5 ?hg (N:=39) ?hd (xs:=([(a0_2) % 256]:List Int)) (inner:=[.int .u8 ((a0_2) % 256)]) (ok:=fun _=>True) (okp:=fun _=>True) ?hr ?hp (fun _ hk=>hk) trivial (Below.refl _ _) (Nat.le_refl _) (by simp) ?_;(case hd=>rfl);(case hg=>rfl);(case hr=>first|(go_simp;done)|(go_simp;rfl));(case hp=>exact (qeX.one (show Kd.M (Kd.int .u8) _ _ _ ((a0_2) % 256) [.int .u8 ((a0_2) % 256)] from rfl) (qeX.none _ _)))
          intro v388 w30 ho31 hb hg_ hnew_;clear hg_ hnew_
          (first|rw [← Ny387.out] at ho31|(simp only [Int.reduceToNat] at ho31;rw [← Ny387.out] at ho31))
          have n0_:=aM (Kd.R_elder' (by (with_reducible repeat (first|apply Kd.R_alloc|apply Kd.R_drewN|apply Kd.R_drew));exact HO377.out) (Kd.R_base ho31) hb);have n1_:=aM (Kd.R_elder' (by (with_reducible repeat (first|apply Kd.R_alloc|apply Kd.R_drewN|apply Kd.R_drew));exact HO383.out) (Kd.R_base ho31) hb);have n2_:=aM (Kd.R_elder' (by (with_reducible repeat (first|apply Kd.R_alloc|apply Kd.R_drewN|apply Kd.R_drew));exact HO386.out) (Kd.R_base ho31) hb);have n3_:=aM (Kd.R_lower (Kd.R_new' (Kd.R_new' (Kd.R_new' ho31 (Kd.R_lt (by (with_reducible repeat (first|apply Kd.R_alloc|apply Kd.R_drewN|apply Kd.R_drew));exact HO377.out))) (Kd.R_lt (by (with_reducible repeat (first|apply Kd.R_alloc|apply Kd.R_drewN|apply Kd.R_drew));exact HO383.out))) (Kd.R_lt (by (with_reducible repeat (first|apply Kd.R_alloc|apply Kd.R_drewN|apply Kd.R_drew));exact HO386.out))) (qaI (by repeat (first|(with_reducible first|exact HB.out|apply qaA|apply qaD|apply qaF|refine qaK ?_ GE371.out)|exact HB.out))));have n4_:=aM (qdV (g:=gb371) (o:=.cells #[.int .i64 a0_0,.int .u64 a0_1,.int .i64 a0_2] 168 (0,0)) (by (with_reducible repeat (first|refine blk_drewN ?_ _|refine qbI ?_|refine qaS ?_ _));exact BK371.out) hb);have n5_:=aM (qaC (by repeat (first|(with_reducible first|exact HB.out|apply qaA|apply qaD|apply qaF|refine qaK ?_ GE371.out)|exact HB.out)) hb)
          clear HO377;clear HO383;clear HO386;clear BK371;clear HB;have HO377:=n0_;have HO383:=n1_;have HO386:=n2_;have HO389:=n3_;have BK371:=n4_;have HB:=n5_;clear n0_ n1_ n2_ n3_ n4_ n5_;clear hb ho31;refine hK.out _ _ ⟨(qaP BK371.out 0).trans rfl,(qaP BK371.out 1).trans rfl,(qaP BK371.out 2).trans rfl⟩ (fun hHeld=>?_);clear hK K;refine qgG (a':=?_) ?_ ?_;rotate_left
          ·show Act.put _ (some 39) _=_;simp only [Act.put,List.setIfInBounds_toArray,List.set_cons_zero,List.set_cons_succ,qbL];rfl
          exact qgG (by simp only [qkB,Act.put,List.setIfInBounds_toArray,List.set_cons_zero,List.set_cons_succ]) (hCont (.slice Ao29 t381.length co29,v385,v388) _ ⟨hHeld,(by (with_reducible repeat (first|apply Kd.R_alloc|apply Kd.R_drewN|apply Kd.R_drew));exact Kd.R_mono HO377.out (fun _ hk=>⟨hk.1.1,⟨hk.1.2,hk.2⟩⟩)),(by (with_reducible repeat (first|apply Kd.R_alloc|apply Kd.R_drewN|apply Kd.R_drew));exact Kd.R_mono HO383.out (fun _ hk=>⟨hk.1.1,⟨hk.1.2,hk.2⟩⟩)),(by (with_reducible repeat (first|apply Kd.R_alloc|apply Kd.R_drewN|apply Kd.R_drew));exact Kd.R_mono HO386.out (fun _ hk=>⟨hk.1.1,⟨hk.1.2,hk.2⟩⟩)),(by (with_reducible repeat (first|apply Kd.R_alloc|apply Kd.R_drewN|apply Kd.R_drew));exact Kd.R_mono HO389.out (fun _ hk=>⟨hk.1.1.2,⟨hk.1.2,hk.2⟩⟩)),(by (with_reducible repeat (first|refine blk_drewN ?_ _|refine qbI ?_|refine qaS ?_ _));exact BK371.out),(by repeat (first|(with_reducible first|exact HB.out|apply qaA|apply qaD|apply qaF|refine qaK ?_ GE371.out)|exact HB.out))⟩)
         ·skip
          refine Kd.R_lit_step (Kd.int .u8) _ 5 ?hg (N:=39) ?hd (xs:=([(a0_2) % 256]:List Int)) (inner:=[.int .u8 ((a0_2) % 256)]) (ok:=fun _=>True) (okp:=fun _=>True) ?hr ?hp (fun _ hk=>hk) trivial (Below.refl _ _) (Nat.le_refl _) (by simp) ?_;(case hd=>rfl);(case hg=>rfl);(case hr=>first|(go_simp;done)|(go_simp;rfl));(case hp=>exact (qeX.one (show Kd.M (Kd.int .u8) _ _ _ ((a0_2) % 256) [.int .u8 ((a0_2) % 256)] from rfl) (qeX.none _ _)))
          intro v388 w28 ho29 hb hg_ hnew_;clear hg_ hnew_
          (first|rw [← Ny387.out] at ho29|(simp only [Int.reduceToNat] at ho29;rw [← Ny387.out] at ho29))
          have n0_:=aM (Kd.R_elder' (by (with_reducible repeat (first|apply Kd.R_alloc|apply Kd.R_drewN|apply Kd.R_drew));exact HO377.out) (Kd.R_base ho29) hb);have n1_:=aM (Kd.R_elder' (by (with_reducible repeat (first|apply Kd.R_alloc|apply Kd.R_drewN|apply Kd.R_drew));exact HO380.out) (Kd.R_base ho29) hb);have n2_:=aM (Kd.R_elder' (by (with_reducible repeat (first|apply Kd.R_alloc|apply Kd.R_drewN|apply Kd.R_drew));exact HO383.out) (Kd.R_base ho29) hb);have n3_:=aM (Kd.R_lower (Kd.R_new' (Kd.R_new' (Kd.R_new' ho29 (Kd.R_lt (by (with_reducible repeat (first|apply Kd.R_alloc|apply Kd.R_drewN|apply Kd.R_drew));exact HO377.out))) (Kd.R_lt (by (with_reducible repeat (first|apply Kd.R_alloc|apply Kd.R_drewN|apply Kd.R_drew));exact HO380.out))) (Kd.R_lt (by (with_reducible repeat (first|apply Kd.R_alloc|apply Kd.R_drewN|apply Kd.R_drew));exact HO383.out))) (qaI (by repeat (first|(with_reducible first|exact HB.out|apply qaA|apply qaD|apply qaF|refine qaK ?_ GE371.out)|exact HB.out))));have n4_:=aM (qdV (g:=gb371) (o:=.cells #[.int .i64 a0_0,.int .u64 a0_1,.int .i64 a0_2] 168 (0,0)) (by (with_reducible repeat (first|refine blk_drewN ?_ _|refine qbI ?_|refine qaS ?_ _));exact BK371.out) hb);have n5_:=aM (qaC (by repeat (first|(with_reducible first|exact HB.out|apply qaA|apply qaD|apply qaF|refine qaK ?_ GE371.out)|exact HB.out)) hb)
          clear HO377;clear HO380;clear HO383;clear BK371;clear HB;have HO377:=n0_;have HO380:=n1_;have HO383:=n2_;have HO389:=n3_;have BK371:=n4_;have HB:=n5_;clear n0_ n1_ n2_ n3_ n4_ n5_;clear hb ho29;obtain ⟨Ao31,co31,eo31⟩:=Kd.R_slice HO383.out
          (first|subst eo31|(injection eo31 with f1_ f2_ f3_;have f4_:=f1_.symm;have f5_:=f3_.symm;clear f1_ f2_ f3_;subst f4_;subst f5_))
          refine hK.out _ _ ⟨(qaP BK371.out 0).trans rfl,(qaP BK371.out 1).trans rfl,(qaP BK371.out 2).trans rfl⟩ (fun hHeld=>?_);clear hK K;refine qgG (a':=?_) ?_ ?_;rotate_left
          ·show Act.put _ (some 39) _=_;simp only [Act.put,List.setIfInBounds_toArray,List.set_cons_zero,List.set_cons_succ,qbL];rfl
          refine qyI (i:=4) (N:=some 35) #[true,true,true,true,true,true,true,true,true,false,false] rfl rfl (qoG HT_.out (by kernel_rfl)) (by decide) (fun K hK=>?_);refine Kd.R_append_rows_step (Kd.int .u8) (w0:=w) w.heap.size (by rfl) (.tmp 31) (.tmp 34) 35 5 (.int .u8 0) 1 rfl Tryz.underlying35 qfU rfl (by decide) (by omega) (.slice Ao25 y378.length co25) y378 t381 _ _ _ (fun k_=>some k_ ≠ (.slice Ao24 t375.length co24:Value).ownBlock∧some k_ ≠ (.slice Ao31 t381.length co31:Value).ownBlock∧some k_ ≠ (v388:Value).ownBlock) (fun _=>False) rfl rfl ?aO ?aR (fun _ _ h=>h) (fun _ h=>h.elim) ?aF ?aB ?aS ?aL ?_
          (case aR=>repeat (first|exact (Kd.R_reads' HO383.out).2.2|(with_reducible refine Kd.C_alloc ?_ _)|(with_reducible refine Kd.C_drewN ?_ _)|(with_reducible refine Kd.C_drew ?_)))
          (case aB=>exact (by repeat (first|(with_reducible first|exact HB.out|apply qaA|apply qaD|apply qaF|refine qaK ?_ GE371.out)|exact HB.out)))
          (case aF=>exact (fun k_ hk=>⟨Kd.fresh' (Kd.R_lt (by (with_reducible repeat (first|apply Kd.R_alloc|apply Kd.R_drewN|apply Kd.R_drew));exact HO377.out)) k_ hk,Kd.fresh' (Kd.R_lt (by (with_reducible repeat (first|apply Kd.R_alloc|apply Kd.R_drewN|apply Kd.R_drew));exact HO383.out)) k_ hk,Kd.fresh' (Kd.R_lt (by (with_reducible repeat (first|apply Kd.R_alloc|apply Kd.R_drewN|apply Kd.R_drew));exact HO389.out)) k_ hk⟩))
          (case aO=>exact (by (with_reducible repeat (first|apply Kd.R_alloc|apply Kd.R_drewN|apply Kd.R_drew));exact Kd.R_mono HO380.out (fun _ hk=>⟨hk.1.1,⟨hk.1.2,hk.2⟩⟩)))
          (case aS=>exact (qaI (by repeat (first|(with_reducible first|exact HB.out|apply qaA|apply qaD|apply qaF|refine qaK ?_ GE371.out)|exact HB.out))))
          (case aL=>have:=LMc16.out;omega)
          intro v385 w30 ho hb hg hat;rw [← Ny384.out] at ho;have n0_:=aM (qcQ (g:=gb371) (o:=.cells #[.int .i64 a0_0,.int .u64 a0_1,.int .i64 a0_2] 168 (0,0)) (by (with_reducible repeat (first|refine blk_drewN ?_ _|refine qbI ?_|refine qaS ?_ _));exact BK371.out) hg (Kd.R_ne HO380.out BK371.out (by decide)));have n1_:=aM (Kd.R_after (ok:=(fun k_=>some k_ ≠ (.slice Ao31 t381.length co31:Value).ownBlock∧some k_ ≠ (v388:Value).ownBlock)) (by (with_reducible repeat (first|apply Kd.R_alloc|apply Kd.R_drewN|apply Kd.R_drew));exact Kd.R_mono HO377.out (fun _ hk=>⟨⟨hk.1.2,hk.2⟩,hk.1.1.2⟩)) hg hat);have n2_:=aM (Kd.R_after (ok:=(fun k_=>some k_ ≠ (.slice Ao24 t375.length co24:Value).ownBlock∧some k_ ≠ (v388:Value).ownBlock)) (by (with_reducible repeat (first|apply Kd.R_alloc|apply Kd.R_drewN|apply Kd.R_drew));exact Kd.R_mono HO383.out (fun _ hk=>⟨⟨hk.1.1.2,hk.2⟩,hk.1.2⟩)) hg hat);have n3_:=aM (Kd.R_after (ok:=(fun k_=>some k_ ≠ (.slice Ao24 t375.length co24:Value).ownBlock∧some k_ ≠ (.slice Ao31 t381.length co31:Value).ownBlock)) (by (with_reducible repeat (first|apply Kd.R_alloc|apply Kd.R_drewN|apply Kd.R_drew));exact Kd.R_mono HO389.out (fun _ hk=>⟨⟨hk.1.1.2,hk.2⟩,hk.1.2⟩)) hg hat);have n4_:=aM (hb);have n5_:=aM (ho);clear BK371;clear HO377;clear HO383;clear HO389;clear HB;clear HO380;have BK371:=n0_;have HO377:=n1_;have HO383:=n2_
          have HO389:=n3_;have HB:=n4_;have HO386:=n5_;clear n0_ n1_ n2_ n3_ n4_ n5_;clear ho hb hg hat;refine hK.out _ _ ⟨(qaP BK371.out 0).trans rfl,(qaP BK371.out 1).trans rfl,(qaP BK371.out 2).trans rfl⟩ (fun hHeld=>?_);clear hK K;refine qgG (a':=?_) ?_ ?_;rotate_left
          ·show Act.put _ (some 35) _=_;simp only [Act.put,List.setIfInBounds_toArray,List.set_cons_zero,List.set_cons_succ,qbL];rfl
          exact qgG (by simp only [qkB,Act.put,List.setIfInBounds_toArray,List.set_cons_zero,List.set_cons_succ]) (hCont (.slice Ao31 t381.length co31,v385,v388) _ ⟨hHeld,(by (with_reducible repeat (first|apply Kd.R_alloc|apply Kd.R_drewN|apply Kd.R_drew));exact Kd.R_mono HO377.out (fun _ hk=>⟨hk.1.1,⟨hk.2,hk.1.2⟩⟩)),(by (with_reducible repeat (first|apply Kd.R_alloc|apply Kd.R_drewN|apply Kd.R_drew));exact Kd.R_mono HO383.out (fun _ hk=>⟨hk.1.1,⟨hk.2,hk.1.2⟩⟩)),(by (with_reducible repeat (first|apply Kd.R_alloc|apply Kd.R_drewN|apply Kd.R_drew));exact HO386.out),(by (with_reducible repeat (first|apply Kd.R_alloc|apply Kd.R_drewN|apply Kd.R_drew));exact Kd.R_mono HO389.out (fun _ hk=>⟨hk.1.1,⟨hk.1.2,hk.2⟩⟩)),(by (with_reducible repeat (first|refine blk_drewN ?_ _|refine qbI ?_|refine qaS ?_ _));exact BK371.out),(by repeat (first|(with_reducible first|exact HB.out|apply qaA|apply qaD|apply qaF|refine qaK ?_ GE371.out)|exact HB.out))⟩)
        ·skip
         refine Kd.R_lit_step (Kd.int .u8) _ 5 ?hg (N:=39) ?hd (xs:=([(a0_2) % 256]:List Int)) (inner:=[.int .u8 ((a0_2) % 256)]) (ok:=fun _=>True) (okp:=fun _=>True) ?hr ?hp (fun _ hk=>hk) trivial (Below.refl _ _) (Nat.le_refl _) (by simp) ?_;(case hd=>rfl);(case hg=>rfl);(case hr=>first|(go_simp;done)|(go_simp;rfl));(case hp=>exact (qeX.one (show Kd.M (Kd.int .u8) _ _ _ ((a0_2) % 256) [.int .u8 ((a0_2) % 256)] from rfl) (qeX.none _ _)))
         intro v388 w27 ho28 hb hg_ hnew_;clear hg_ hnew_
         (first|rw [← Ny387.out] at ho28|(simp only [Int.reduceToNat] at ho28;rw [← Ny387.out] at ho28))
         have n0_:=aM (Kd.R_elder' (by (with_reducible repeat (first|apply Kd.R_alloc|apply Kd.R_drewN|apply Kd.R_drew));exact HO377.out) (Kd.R_base ho28) hb);have n1_:=aM (Kd.R_elder' (by (with_reducible repeat (first|apply Kd.R_alloc|apply Kd.R_drewN|apply Kd.R_drew));exact HO380.out) (Kd.R_base ho28) hb);have n2_:=aM (Kd.R_lower (Kd.R_new' (Kd.R_new' ho28 (Kd.R_lt (by (with_reducible repeat (first|apply Kd.R_alloc|apply Kd.R_drewN|apply Kd.R_drew));exact HO377.out))) (Kd.R_lt (by (with_reducible repeat (first|apply Kd.R_alloc|apply Kd.R_drewN|apply Kd.R_drew));exact HO380.out))) (qaI (by repeat (first|(with_reducible first|exact HB.out|apply qaA|apply qaD|apply qaF|refine qaK ?_ GE371.out)|exact HB.out))));have n3_:=aM (qdV (g:=gb371) (o:=.cells #[.int .i64 a0_0,.int .u64 a0_1,.int .i64 a0_2] 168 (0,0)) (by (with_reducible repeat (first|refine blk_drewN ?_ _|refine qbI ?_|refine qaS ?_ _));exact BK371.out) hb);have n4_:=aM (qaC (by repeat (first|(with_reducible first|exact HB.out|apply qaA|apply qaD|apply qaF|refine qaK ?_ GE371.out)|exact HB.out)) hb);clear HO377;clear HO380;clear BK371;clear HB;have HO377:=n0_;have HO380:=n1_;have HO389:=n2_;have BK371:=n3_;have HB:=n4_;clear n0_ n1_ n2_ n3_ n4_;clear hb ho28;refine hK.out _ _ ⟨(qaP BK371.out 0).trans rfl,(qaP BK371.out 1).trans rfl,(qaP BK371.out 2).trans rfl⟩ (fun hHeld=>?_)
         clear hK K;refine qgG (a':=?_) ?_ ?_;rotate_left
         ·show Act.put _ (some 39) _=_;simp only [Act.put,List.setIfInBounds_toArray,List.set_cons_zero,List.set_cons_succ,qbL];rfl
         refine qyI (i:=3) (N:=some 34) #[true,true,true,true,false,true,true,true,true,false,false] rfl rfl (qoG HT_.out (by kernel_rfl)) (by decide) (fun K hK=>?_);refine qtK Tryz.func153 (by kernel_rfl) rfl #[.int .u64 a0_1,.int .i64 8] (by rfl) rfl rfl (by (try simp only [List.map_toArray,List.map_cons,List.map_nil]);first|done|rfl|(simp only [List.length_drop,List.length_take];rfl)) ?_
         with_reducible refine (bits_Put.calls a0_1 8 t381 _ A15.out).mono ?_
         rintro e w29 ⟨v382,rfl,ho0,hb⟩;refine ⟨_,rfl,?_⟩;have n0_:=aM (Kd.R_elder' (by (with_reducible repeat (first|apply Kd.R_alloc|apply Kd.R_drewN|apply Kd.R_drew));exact HO377.out) (Kd.R_base ho0) hb);have n1_:=aM (Kd.R_elder' (by (with_reducible repeat (first|apply Kd.R_alloc|apply Kd.R_drewN|apply Kd.R_drew));exact HO380.out) (Kd.R_base ho0) hb);have n2_:=aM (Kd.R_elder' (by (with_reducible repeat (first|apply Kd.R_alloc|apply Kd.R_drewN|apply Kd.R_drew));exact HO389.out) (Kd.R_base ho0) hb);have n3_:=aM (Kd.R_lower (Kd.R_new' (Kd.R_new' (Kd.R_new' ho0 (Kd.R_lt (by (with_reducible repeat (first|apply Kd.R_alloc|apply Kd.R_drewN|apply Kd.R_drew));exact HO377.out))) (Kd.R_lt (by (with_reducible repeat (first|apply Kd.R_alloc|apply Kd.R_drewN|apply Kd.R_drew));exact HO380.out))) (Kd.R_lt (by (with_reducible repeat (first|apply Kd.R_alloc|apply Kd.R_drewN|apply Kd.R_drew));exact HO389.out))) (qaI (by repeat (first|(with_reducible first|exact HB.out|apply qaA|apply qaD|apply qaF|refine qaK ?_ GE371.out)|exact HB.out))));have n4_:=aM (qdV (g:=gb371) (o:=.cells #[.int .i64 a0_0,.int .u64 a0_1,.int .i64 a0_2] 168 (0,0)) (by (with_reducible repeat (first|refine blk_drewN ?_ _|refine qbI ?_|refine qaS ?_ _));exact BK371.out) hb);have n5_:=aM (qaC (by repeat (first|(with_reducible first|exact HB.out|apply qaA|apply qaD|apply qaF|refine qaK ?_ GE371.out)|exact HB.out)) hb)
         clear HO377;clear HO380;clear HO389;clear BK371;clear HB;have HO377:=n0_;have HO380:=n1_;have HO389:=n2_;have HO383:=n3_;have BK371:=n4_;have HB:=n5_;clear n0_ n1_ n2_ n3_ n4_ n5_
         (try clear hb)
         (try clear hb2)
         (try clear hk)
         (try clear hi)
         (try clear ho0)
         obtain ⟨Ao31,co31,eo31⟩:=Kd.R_slice HO383.out
         (first|subst eo31|(injection eo31 with f1_ f2_ f3_;have f4_:=f1_.symm;have f5_:=f3_.symm;clear f1_ f2_ f3_;subst f4_;subst f5_))
         refine hK.out _ _ ⟨(qaP BK371.out 0).trans rfl,(qaP BK371.out 1).trans rfl,(qaP BK371.out 2).trans rfl⟩ (fun hHeld=>?_);clear hK K;refine qgG (a':=?_) ?_ ?_;rotate_left
         ·show Act.put _ (some 34) _=_;simp only [Act.put,List.setIfInBounds_toArray,List.set_cons_zero,List.set_cons_succ,qbL];rfl
         refine qyI (i:=4) (N:=some 35) #[true,true,true,true,true,true,true,true,true,false,false] rfl rfl (qoG HT_.out (by kernel_rfl)) (by decide) (fun K hK=>?_);refine Kd.R_append_rows_step (Kd.int .u8) (w0:=w) w.heap.size (by rfl) (.tmp 31) (.tmp 34) 35 5 (.int .u8 0) 1 rfl Tryz.underlying35 qfU rfl (by decide) (by omega) (.slice Ao25 y378.length co25) y378 t381 _ _ _ (fun k_=>some k_ ≠ (.slice Ao24 t375.length co24:Value).ownBlock∧some k_ ≠ (v388:Value).ownBlock∧some k_ ≠ (.slice Ao31 t381.length co31:Value).ownBlock) (fun _=>False) rfl rfl ?aO ?aR (fun _ _ h=>h) (fun _ h=>h.elim) ?aF ?aB ?aS ?aL ?_
         (case aR=>repeat (first|exact (Kd.R_reads' HO383.out).2.2|(with_reducible refine Kd.C_alloc ?_ _)|(with_reducible refine Kd.C_drewN ?_ _)|(with_reducible refine Kd.C_drew ?_)))
         (case aB=>exact (by repeat (first|(with_reducible first|exact HB.out|apply qaA|apply qaD|apply qaF|refine qaK ?_ GE371.out)|exact HB.out)))
         (case aF=>exact (fun k_ hk=>⟨Kd.fresh' (Kd.R_lt (by (with_reducible repeat (first|apply Kd.R_alloc|apply Kd.R_drewN|apply Kd.R_drew));exact HO377.out)) k_ hk,Kd.fresh' (Kd.R_lt (by (with_reducible repeat (first|apply Kd.R_alloc|apply Kd.R_drewN|apply Kd.R_drew));exact HO389.out)) k_ hk,Kd.fresh' (Kd.R_lt (by (with_reducible repeat (first|apply Kd.R_alloc|apply Kd.R_drewN|apply Kd.R_drew));exact HO383.out)) k_ hk⟩))
         (case aO=>exact (by (with_reducible repeat (first|apply Kd.R_alloc|apply Kd.R_drewN|apply Kd.R_drew));exact Kd.R_mono HO380.out (fun _ hk=>⟨hk.1.1,⟨hk.1.2,hk.2⟩⟩)))
         (case aS=>exact (qaI (by repeat (first|(with_reducible first|exact HB.out|apply qaA|apply qaD|apply qaF|refine qaK ?_ GE371.out)|exact HB.out))))
         (case aL=>have:=LMc16.out;omega)
         intro v385 w30 ho hb hg hat;rw [← Ny384.out] at ho;have n0_:=aM (qcQ (g:=gb371) (o:=.cells #[.int .i64 a0_0,.int .u64 a0_1,.int .i64 a0_2] 168 (0,0)) (by (with_reducible repeat (first|refine blk_drewN ?_ _|refine qbI ?_|refine qaS ?_ _));exact BK371.out) hg (Kd.R_ne HO380.out BK371.out (by decide)));have n1_:=aM (Kd.R_after (ok:=(fun k_=>some k_ ≠ (v388:Value).ownBlock∧some k_ ≠ (.slice Ao31 t381.length co31:Value).ownBlock)) (by (with_reducible repeat (first|apply Kd.R_alloc|apply Kd.R_drewN|apply Kd.R_drew));exact Kd.R_mono HO377.out (fun _ hk=>⟨⟨hk.1.2,hk.2⟩,hk.1.1.2⟩)) hg hat);have n2_:=aM (Kd.R_after (ok:=(fun k_=>some k_ ≠ (.slice Ao24 t375.length co24:Value).ownBlock∧some k_ ≠ (.slice Ao31 t381.length co31:Value).ownBlock)) (by (with_reducible repeat (first|apply Kd.R_alloc|apply Kd.R_drewN|apply Kd.R_drew));exact Kd.R_mono HO389.out (fun _ hk=>⟨⟨hk.1.1.2,hk.2⟩,hk.1.2⟩)) hg hat);have n3_:=aM (Kd.R_after (ok:=(fun k_=>some k_ ≠ (.slice Ao24 t375.length co24:Value).ownBlock∧some k_ ≠ (v388:Value).ownBlock)) (by (with_reducible repeat (first|apply Kd.R_alloc|apply Kd.R_drewN|apply Kd.R_drew));exact Kd.R_mono HO383.out (fun _ hk=>⟨⟨hk.1.1.2,hk.2⟩,hk.1.2⟩)) hg hat);have n4_:=aM (hb);have n5_:=aM (ho);clear BK371;clear HO377;clear HO389;clear HO383;clear HB;clear HO380;have BK371:=n0_;have HO377:=n1_;have HO389:=n2_
         have HO383:=n3_;have HB:=n4_;have HO386:=n5_;clear n0_ n1_ n2_ n3_ n4_ n5_;clear ho hb hg hat;refine hK.out _ _ ⟨(qaP BK371.out 0).trans rfl,(qaP BK371.out 1).trans rfl,(qaP BK371.out 2).trans rfl⟩ (fun hHeld=>?_);clear hK K;refine qgG (a':=?_) ?_ ?_;rotate_left
         ·show Act.put _ (some 35) _=_;simp only [Act.put,List.setIfInBounds_toArray,List.set_cons_zero,List.set_cons_succ,qbL];rfl
         exact qgG (by simp only [qkB,Act.put,List.setIfInBounds_toArray,List.set_cons_zero,List.set_cons_succ]) (hCont (.slice Ao31 t381.length co31,v385,v388) _ ⟨hHeld,(by (with_reducible repeat (first|apply Kd.R_alloc|apply Kd.R_drewN|apply Kd.R_drew));exact Kd.R_mono HO377.out (fun _ hk=>⟨hk.1.2,⟨hk.2,hk.1.1⟩⟩)),(by (with_reducible repeat (first|apply Kd.R_alloc|apply Kd.R_drewN|apply Kd.R_drew));exact Kd.R_mono HO383.out (fun _ hk=>⟨hk.1.1,⟨hk.2,hk.1.2⟩⟩)),(by (with_reducible repeat (first|apply Kd.R_alloc|apply Kd.R_drewN|apply Kd.R_drew));exact Kd.R_mono HO386.out (fun _ hk=>⟨hk.1,⟨hk.2.2,hk.2.1⟩⟩)),(by (with_reducible repeat (first|apply Kd.R_alloc|apply Kd.R_drewN|apply Kd.R_drew));exact Kd.R_mono HO389.out (fun _ hk=>⟨hk.1.1,⟨hk.1.2,hk.2⟩⟩)),(by (with_reducible repeat (first|refine blk_drewN ?_ _|refine qbI ?_|refine qaS ?_ _));exact BK371.out),(by repeat (first|(with_reducible first|exact HB.out|apply qaA|apply qaD|apply qaF|refine qaK ?_ GE371.out)|exact HB.out))⟩)
       rintro ⟨v382,v385,v388⟩ w32 ⟨hS_,h0_,h1_,h2_,h3_,h4_,h5_⟩
       have n0_:qaJ (Kd.R (Kd.int .u8) 5 w32 w.heap.size (fun k_=>some k_ ≠ (v382:Value).ownBlock∧some k_ ≠ (v385:Value).ownBlock∧some k_ ≠ (v388:Value).ownBlock) (.slice Ao24 t375.length co24) t375):=⟨h0_⟩
       have n1_:qaJ (Kd.R (Kd.int .u8) 5 w32 w.heap.size (fun k_=>some k_ ≠ (.slice Ao24 t375.length co24:Value).ownBlock∧some k_ ≠ (v385:Value).ownBlock∧some k_ ≠ (v388:Value).ownBlock) v382 t381):=⟨h1_⟩
       have n2_:qaJ (Kd.R (Kd.int .u8) 5 w32 w.heap.size (fun k_=>some k_ ≠ (.slice Ao24 t375.length co24:Value).ownBlock∧some k_ ≠ (v382:Value).ownBlock∧some k_ ≠ (v388:Value).ownBlock) v385 y384):=⟨h2_⟩
       have n3_:qaJ (Kd.R (Kd.int .u8) 5 w32 w.heap.size (fun k_=>some k_ ≠ (.slice Ao24 t375.length co24:Value).ownBlock∧some k_ ≠ (v382:Value).ownBlock∧some k_ ≠ (v385:Value).ownBlock) v388 y387):=⟨h3_⟩
       have n4_:qaJ (w32.heap[gb371]?=some (.cells #[.int .i64 a0_0,.int .u64 a0_1,.int .i64 a0_2] 168 (0,0))):=⟨h4_⟩
       have n5_:qaJ (Below w.heap.size w w32):=⟨h5_⟩
       clear HO377;clear HO380;clear BK371;clear HB;clear h0_ h1_ h2_ h3_ h4_ h5_;have HO377:=n0_;have HO383:=n1_;have HO386:=n2_;have HO389:=n3_;have BK371:=n4_;have HB:=n5_;clear n0_ n1_ n2_ n3_ n4_ n5_;have hHeld:w32.cell? ⟨gb371,0,none⟩=some (.int .i64 a0_0)∧w32.cell? ⟨gb371,1,none⟩=some (.int .u64 a0_1)∧w32.cell? ⟨gb371,2,none⟩=some (.int .i64 a0_2):=hS_;obtain ⟨Ao34,co34,eo34⟩:=Kd.R_slice HO389.out
       (first|subst eo34|(injection eo34 with f1_ f2_ f3_;have f4_:=f1_.symm;have f5_:=f3_.symm;clear f1_ f2_ f3_;subst f4_;subst f5_))
       refine qgG (a':=?_) ?_ ?_;rotate_left
       ·simp only [qkB,Act.put,List.setIfInBounds_toArray,List.set_cons_zero,List.set_cons_succ];rfl
       refine qyI (i:=9) (N:=some 40) #[true,true,true,true,true,true,true,true,true,true,false] rfl rfl (qoG HT_.out (by kernel_rfl)) (by decide) (fun K hK=>?_);refine Kd.R_append_rows_step (Kd.int .u8) (w0:=w) w.heap.size (by rfl) (.tmp 35) (.tmp 39) 35 5 (.int .u8 0) 1 rfl Tryz.underlying35 qfU rfl (by decide) (by omega) v385 y384 y387 _ _ _ (fun k_=>some k_ ≠ (.slice Ao24 t375.length co24:Value).ownBlock∧some k_ ≠ (v382:Value).ownBlock∧some k_ ≠ (.slice Ao34 y387.length co34:Value).ownBlock) (fun _=>False) rfl rfl ?aO ?aR (fun _ _ h=>h) (fun _ h=>h.elim) ?aF ?aB ?aS ?aL ?_
       (case aR=>repeat (first|exact (Kd.R_reads' HO389.out).2.2|(with_reducible refine Kd.C_alloc ?_ _)|(with_reducible refine Kd.C_drewN ?_ _)|(with_reducible refine Kd.C_drew ?_)))
       (case aB=>exact (by repeat (first|(with_reducible first|exact HB.out|apply qaA|apply qaD|apply qaF|refine qaK ?_ GE371.out)|exact HB.out)))
       (case aF=>exact (fun k_ hk=>⟨Kd.fresh' (Kd.R_lt (by (with_reducible repeat (first|apply Kd.R_alloc|apply Kd.R_drewN|apply Kd.R_drew));exact HO377.out)) k_ hk,Kd.fresh' (Kd.R_lt (by (with_reducible repeat (first|apply Kd.R_alloc|apply Kd.R_drewN|apply Kd.R_drew));exact HO383.out)) k_ hk,Kd.fresh' (Kd.R_lt (by (with_reducible repeat (first|apply Kd.R_alloc|apply Kd.R_drewN|apply Kd.R_drew));exact HO389.out)) k_ hk⟩))
       (case aO=>exact (by (with_reducible repeat (first|apply Kd.R_alloc|apply Kd.R_drewN|apply Kd.R_drew));exact HO386.out))
       (case aS=>exact (qaI (by repeat (first|(with_reducible first|exact HB.out|apply qaA|apply qaD|apply qaF|refine qaK ?_ GE371.out)|exact HB.out))))
       (case aL=>have:=LMc17.out;omega)
       intro v391 w33 ho hb hg hat;rw [← Ny390.out] at ho;have n0_:=aM (qcQ (g:=gb371) (o:=.cells #[.int .i64 a0_0,.int .u64 a0_1,.int .i64 a0_2] 168 (0,0)) (by (with_reducible repeat (first|refine blk_drewN ?_ _|refine qbI ?_|refine qaS ?_ _));exact BK371.out) hg (Kd.R_ne HO386.out BK371.out (by decide)));have n1_:=aM (Kd.R_after (ok:=(fun k_=>some k_ ≠ (v382:Value).ownBlock∧some k_ ≠ (.slice Ao34 y387.length co34:Value).ownBlock)) (by (with_reducible repeat (first|apply Kd.R_alloc|apply Kd.R_drewN|apply Kd.R_drew));exact Kd.R_mono HO377.out (fun _ hk=>⟨⟨hk.1,hk.2.2⟩,hk.2.1⟩)) hg hat);have n2_:=aM (Kd.R_after (ok:=(fun k_=>some k_ ≠ (.slice Ao24 t375.length co24:Value).ownBlock∧some k_ ≠ (.slice Ao34 y387.length co34:Value).ownBlock)) (by (with_reducible repeat (first|apply Kd.R_alloc|apply Kd.R_drewN|apply Kd.R_drew));exact Kd.R_mono HO383.out (fun _ hk=>⟨⟨hk.1,hk.2.2⟩,hk.2.1⟩)) hg hat);have n3_:=aM (Kd.R_after (ok:=(fun k_=>some k_ ≠ (.slice Ao24 t375.length co24:Value).ownBlock∧some k_ ≠ (v382:Value).ownBlock)) (by (with_reducible repeat (first|apply Kd.R_alloc|apply Kd.R_drewN|apply Kd.R_drew));exact Kd.R_mono HO389.out (fun _ hk=>⟨⟨hk.1,hk.2.1⟩,hk.2.2⟩)) hg hat);have n4_:=aM (hb);have n5_:=aM (ho);clear BK371;clear HO377;clear HO383;clear HO389;clear HB;clear HO386;have BK371:=n0_;have HO377:=n1_;have HO383:=n2_
       have HO389:=n3_;have HB:=n4_;have HO392:=n5_;clear n0_ n1_ n2_ n3_ n4_ n5_;clear ho hb hg hat;refine hK.out _ _ ⟨(qaP BK371.out 0).trans rfl,(qaP BK371.out 1).trans rfl,(qaP BK371.out 2).trans rfl⟩ (fun hHeld=>?_);clear hK K;refine qgG (a':=?_) ?_ ?_;rotate_left
       ·show Act.put _ (some 40) _=_;simp only [Act.put,List.setIfInBounds_toArray,List.set_cons_zero,List.set_cons_succ,qbL];rfl
       refine qhE (i:=10) (N:=some 6) (v:=?_) (a':=?_) #[true,true,true,true,true,true,true,true,true,true,true] rfl rfl (qpL HT_.out (by kernel_rfl)) (fun _ _ _ h=>h) (Or.inl ⟨by rfl,?_⟩) ?_ ?_;rotate_left
       ·intro w';go_simp
        with_reducible rfl
       rotate_left
       ·simp only [Act.put,List.setIfInBounds_toArray,List.set_cons_zero,List.set_cons_succ,qbL];rfl
       refine vcM (vcL HT_.out (by kernel_rfl)) ?_;obtain ⟨Ao35,co35,eo35⟩:=Kd.R_slice HO392.out;subst eo35;try go_wp2_with (first|((with_reducible refine qcC (f:=152) rfl ?_);refine qgI (some 43) rfl rfl Tryz.func152 (by kernel_rfl) rfl #[.slice Ao35 y390.length co35,.int .i64 a1] rfl (by (try simp only [List.map_toArray,List.map_cons,List.map_nil]);first|done|rfl|(simp only [List.length_drop,List.length_take];rfl)) ?_;(with_reducible refine (header_image.calls kj2 _ _ y390 a1 t393 t394 _ ?side1 ?side2 A18.out).mono ?_);(case side1=>repeat (first|exact (Kd.R_reads' HO392.out).2.2|(with_reducible refine Kd.C_alloc ?_ _)|(with_reducible refine Kd.C_drewN ?_ _)|(with_reducible refine Kd.C_drew ?_)));(case side2=>exact (Kd.R_reads' HO392.out).2.1);rintro e w36 ⟨v395,rfl,ho0,hb⟩;refine ⟨_,rfl,?_⟩;have n0_:=aM (Kd.R_elder' (by (with_reducible repeat (first|apply Kd.R_alloc|apply Kd.R_drewN|apply Kd.R_drew));exact HO377.out) (Kd.R_base ho0) hb);have n1_:=aM (Kd.R_elder' (by (with_reducible repeat (first|apply Kd.R_alloc|apply Kd.R_drewN|apply Kd.R_drew));exact HO383.out) (Kd.R_base ho0) hb);have n2_:=aM (Kd.R_elder' (by (with_reducible repeat (first|apply Kd.R_alloc|apply Kd.R_drewN|apply Kd.R_drew));exact HO389.out) (Kd.R_base ho0) hb);have n3_:=aM (Kd.R_elder' (by (with_reducible repeat (first|apply Kd.R_alloc|apply Kd.R_drewN|apply Kd.R_drew));exact HO392.out) (Kd.R_base ho0) hb);have n4_:=aM (Kd.R_lower (Kd.R_new' (Kd.R_new' (Kd.R_new' (Kd.R_new' ho0 (Kd.R_lt (by (with_reducible repeat (first|apply Kd.R_alloc|apply Kd.R_drewN|apply Kd.R_drew));exact HO377.out))) (Kd.R_lt (by (with_reducible repeat (first|apply Kd.R_alloc|apply Kd.R_drewN|apply Kd.R_drew));exact HO383.out))) (Kd.R_lt (by (with_reducible repeat (first|apply Kd.R_alloc|apply Kd.R_drewN|apply Kd.R_drew));exact HO389.out))) (Kd.R_lt (by (with_reducible repeat (first|apply Kd.R_alloc|apply Kd.R_drewN|apply Kd.R_drew));exact HO392.out))) (qaI (by repeat (first|(with_reducible first|exact HB.out|apply qaA|apply qaD|apply qaF|refine qaK ?_ GE371.out)|exact HB.out))));have n5_:=aM (qdV (g:=gb371) (o:=.cells #[.int .i64 a0_0,.int .u64 a0_1,.int .i64 a0_2] 168 (0,0)) (by (with_reducible repeat (first|refine blk_drewN ?_ _|refine qbI ?_|refine qaS ?_ _));exact BK371.out) hb);have n6_:=aM (qaC (by repeat (first|(with_reducible first|exact HB.out|apply qaA|apply qaD|apply qaF|refine qaK ?_ GE371.out)|exact HB.out)) hb);clear HO377;clear HO383;clear HO389;clear HO392;clear BK371;clear HB;have HO377:=n0_;have HO383:=n1_;have HO389:=n2_;have HO392:=n3_;have HO396:=n4_;have BK371:=n5_;have HB:=n6_;clear n0_ n1_ n2_ n3_ n4_ n5_ n6_;(try clear hb);(try clear hb2);(try clear hk);(try clear hi);(try clear ho0)))
       go_ret2;exact ⟨_,by first|rfl|(simp [errW_none,errW_some] <;> rfl)|(simp [*,errW_none,errW_some] <;> rfl),by (with_reducible repeat (first|apply Kd.R_alloc|apply Kd.R_drewN|apply Kd.R_drew));exact Kd.R_mono HO396.out (fun _ hk=>trivial),by repeat (first|(with_reducible first|exact HB.out|apply qaA|apply qaD|apply qaF|refine qaK ?_ GE371.out)|exact HB.out)⟩
      ·rw [if_neg c17] at H;exact absurd H (by simp)
     ·rw [if_neg c16] at H;exact absurd H (by simp)
    ·rw [if_neg c14] at H;exact absurd H (by simp)
end
end Go.Proofs.YtdlimghdimkadaaGreatDoor.PAll
namespace Go.Proofs.YtdlimghdimkadaaGreatDoor.Plain
open Go Go.RowKit YtdlimghdimkadaaGreatDoorW.PrintWords
theorem qcH {n:Int} (h0:-9223372036854775808≤n) (h1:n≤9223372036854775807):wrap64 n=n:=by
 unfold wrap64;omega
theorem qdM {n:Int} (h0:0≤n) (h1:n < 18446744073709551616):IntKind.u64.wrap n=n:=by
 simp [IntKind.wrap,IntKind.signed,IntKind.bits];omega
theorem qlU {n:Int} (h0:0≤n) (h1:n < 4294967296):IntKind.u32.wrap n=n:=by
 simp [IntKind.wrap,IntKind.signed,IntKind.bits];omega
theorem vdN (l:List Int) (h:∀ x ∈ l,0≤x∧x < 256) (i:Int):0≤rd l i∧rd l i < 256:=by
 unfold rd;rw [List.getD_eq_getElem?_getD]
 rcases hx:l[i.toNat]? with _|x
 ·simp
 ·simp;exact h x (List.mem_of_getElem? hx)
theorem qyC (l:List Int) (i:Nat) (h:i < l.length):rd l (i:Int)=l[i]:=by
 unfold rd;simp [h]
theorem vaT (s t:BitVec 32):Go.bits .xor .u32 (s.toNat:Int) (t.toNat:Int)=((s ^^^ t).toNat:Int):=by
 unfold Go.bits;have h:=(s ^^^ t).isLt;simp only [IntKind.bits,BitVec.ofInt_natCast,BitVec.ofNat_toNat,BitVec.setWidth_eq];exact qlU (by omega) (by omega)
theorem vfX (s t:BitVec 32):Go.bits .and .u32 (s.toNat:Int) (t.toNat:Int)=((s &&& t).toNat:Int):=by
 unfold Go.bits;have h:=(s &&& t).isLt;simp only [IntKind.bits,BitVec.ofInt_natCast,BitVec.ofNat_toNat,BitVec.setWidth_eq];exact qlU (by omega) (by omega)
theorem vdR (s:BitVec 32):(Go.bits .and .u32 (s.toNat:Int) 1=1)↔s.getLsbD 0=true:=by
 have h:=vfX s 1#32;have e:((1#32).toNat:Int)=1:=rfl;rw [e] at h;rw [h,BitVec.toNat_and];simp [BitVec.getLsbD,Nat.testBit,Nat.and_one_is_mod];omega
theorem vaH (s:BitVec 32):(Nat.cast s.toNat:Int) / (2:Int)=(Nat.cast (s >>> 1).toNat:Int):=by
 simp [Nat.shiftRight_eq_div_pow]
theorem veL (x:Int):x % 4294967296=((BitVec.ofInt 32 x).toNat:Int):=by
 rw [BitVec.toNat_ofInt];simp;omega
theorem vdO:(3988292384:Int)=((0xEDB88320#32).toNat:Int):=rfl
theorem vdQ:(4294967295:Int)=((0xFFFFFFFF#32).toNat:Int):=rfl
def qnO (s:BitVec 32):BitVec 32:=if s.getLsbD 0 then (s >>> 1) ^^^ 0xEDB88320#32 else s >>> 1
def vbD:Nat→BitVec 32→BitVec 32
 | 0,s=>s
 | n+1,s=>vbD n (qnO s)
def vfP (s:BitVec 32) (c:Int):BitVec 32:=vbD 8 (s ^^^ BitVec.ofInt 32 c)
def crc (l:List Int):BitVec 32:=0xFFFFFFFF#32 ^^^ l.foldl vfP 0xFFFFFFFF#32
def putL (k:Nat) (n:Int):List Int:=(List.range k).map fun i=>n / 256 ^ i % 256
def qtL (l:List Int):Nat→Int
 | 0=>0
 | k+1=>qtL l k+l.getD k 0*256 ^ k
def qcT (l:List Int):Int:=qtL l (min l.length 8)
def qbA (l:List Int):Prop:=∀ x ∈ l,0≤x∧x < 256
theorem qbA.getD {l:List Int} (h:qbA l) (i:Nat):0≤l.getD i 0∧l.getD i 0 < 256:=by
 have:=vdN l h i
 simpa [rd] using this
theorem qbA.take {l:List Int} (h:qbA l) (n:Nat):qbA (l.take n):=fun x hx=>h x (List.mem_of_mem_take hx)
theorem qbA.drop {l:List Int} (h:qbA l) (n:Nat):qbA (l.drop n):=fun x hx=>h x (List.mem_of_mem_drop hx)
theorem qbA.append {l m:List Int} (h:qbA l) (k:qbA m):qbA (l ++ m):=fun x hx=>(List.mem_append.1 hx).elim (h x) (k x)
theorem qbA.putL (k:Nat) (n:Int):qbA (putL k n):=by
 intro x hx;obtain ⟨i,_,rfl⟩:=List.mem_map.1 hx;omega
theorem qbD (k:Nat) (n:Int):(putL k n).length=k:=by simp [putL]
theorem qqI {l:List Int} (h:qbA l):∀ k,k≤8→0≤qtL l k∧qtL l k < 256 ^ k
 | 0,_=>by simp [qtL]
 | k+1,hk=>by
  obtain ⟨h0,h1⟩:=qqI h k (by omega);obtain ⟨b0,b1⟩:=h.getD k;simp only [qtL];generalize l.getD k 0=x at b0 b1 ⊢;generalize qtL l k=y at h0 h1 ⊢;clear h;have hk2:k=0∨k=1∨k=2∨k=3∨k=4∨k=5∨k=6∨k=7:=by omega
  rcases hk2 with rfl|rfl|rfl|rfl|rfl|rfl|rfl|rfl <;> simp at h1 ⊢ <;> omega
theorem qnG {l:List Int} (h:qbA l):0≤qcT l∧qcT l < 256 ^ (min l.length 8):=qqI h _ (by omega)
theorem qoQ (n:Int) (m:Nat):∀ k,k≤m→k≤8→qtL (putL m n) k=n % 256 ^ k
 | 0,_,_=>by simp [qtL]
 | k+1,hm,hk=>by
  simp only [qtL];rw [qoQ n m k (by omega) (by omega)]
  have e:(putL m n).getD k 0=n / 256 ^ k % 256:=by
   have hl:k < (List.range m).length:=by simp;omega
   simp [putL,List.getD_eq_getElem?_getD,List.getElem?_map,List.getElem?_range (show k < m by omega)]
  rw [e];have hk2:k=0∨k=1∨k=2∨k=3∨k=4∨k=5∨k=6∨k=7:=by omega
  rcases hk2 with rfl|rfl|rfl|rfl|rfl|rfl|rfl|rfl <;> simp <;> omega
theorem qgJ (n:Int) (k:Nat) (hk:k≤8):qcT (putL k n)=n % 256 ^ k:=by
 unfold qcT;rw [qbD,Nat.min_eq_left hk,qoQ n k k (Nat.le_refl _) hk]
theorem or64 {a b:Int} (k:Nat) (hk:k < 8) (ha:0≤a∧a < 256 ^ k) (hb:0≤b∧b < 256) :
  Go.bits .or .u64 a (shl .u64 (IntKind.u64.wrap b) (8*(k:Int)))=a+b*256 ^ k:=by
 have e1:IntKind.u64.wrap b=b:=qdM (by omega) (by omega);have e3:min (8*(k:Int)).toNat IntKind.u64.bits=8*k:=by simp only [IntKind.bits];omega
 have e4:(2:Int) ^ (8*k)=256 ^ k:=by
  have hk2:k=0∨k=1∨k=2∨k=3∨k=4∨k=5∨k=6∨k=7:=by omega
  rcases hk2 with rfl|rfl|rfl|rfl|rfl|rfl|rfl|rfl <;> rfl
 have hb2:0≤b*256 ^ k∧b*256 ^ k < 18446744073709551616:=by
  have hk2:k=0∨k=1∨k=2∨k=3∨k=4∨k=5∨k=6∨k=7:=by omega
  rcases hk2 with rfl|rfl|rfl|rfl|rfl|rfl|rfl|rfl <;> simp <;> omega
 have hs:a+b*256 ^ k < 18446744073709551616:=by
  have hk2:k=0∨k=1∨k=2∨k=3∨k=4∨k=5∨k=6∨k=7:=by omega
  rcases hk2 with rfl|rfl|rfl|rfl|rfl|rfl|rfl|rfl <;> simp at ha ⊢ <;> omega
 unfold shl;rw [e1,e3,e4,qdM hb2.1 hb2.2]
 obtain ⟨x,rfl⟩:∃ x:Nat,a=x:=⟨a.toNat,by omega⟩
 obtain ⟨y,rfl⟩:∃ y:Nat,b=y:=⟨b.toNat,by omega⟩
 have hx:x < 2 ^ (8*k):=by
  have h2:=ha.2;have hk2:k=0∨k=1∨k=2∨k=3∨k=4∨k=5∨k=6∨k=7:=by omega
  rcases hk2 with rfl|rfl|rfl|rfl|rfl|rfl|rfl|rfl <;> simp at h2 ⊢ <;> omega
 have hor:x ||| (y*256 ^ k)=x+y*256 ^ k:=by
  have h2:=Nat.shiftLeft_add_eq_or_of_lt hx y
  have e5:(256:Nat) ^ k=2 ^ (8*k):=by
   have hk2:k=0∨k=1∨k=2∨k=3∨k=4∨k=5∨k=6∨k=7:=by omega
   rcases hk2 with rfl|rfl|rfl|rfl|rfl|rfl|rfl|rfl <;> rfl
  rw [Nat.shiftLeft_eq] at h2;rw [e5,Nat.or_comm,← h2,Nat.add_comm]
 have e6:((y:Int)*256 ^ k)=((y*256 ^ k:Nat):Int):=by simp
 rw [e6] at hb2 hs ⊢;show IntKind.u64.wrap (((BitVec.ofInt 64 (x:Int)) ||| (BitVec.ofInt 64 ((y*256 ^ k:Nat):Int))).toNat:Int)=_;rw [BitVec.ofInt_natCast,BitVec.ofInt_natCast,BitVec.toNat_or,BitVec.toNat_ofNat,BitVec.toNat_ofNat,Nat.mod_eq_of_lt (by omega),Nat.mod_eq_of_lt (by omega),hor,qdM (by omega) (by omega)];simp
def qgK (l:List Int):List Int × Int :=
 if l.length=0∨1024 < l.length then ([],22) else (putL 2 l.length ++ putL 4 (crc l).toNat ++ l,0)
def qbB (l:List Int):List Int × Int × Bool :=
 if l.length < 6 then ([],0,false)
 else if qcT (l.take 2)=0∨1024 < qcT (l.take 2)∨(l.length:Int) - 6 < qcT (l.take 2) then ([],0,false)
 else if ((crc ((l.take (6+qcT (l.take 2)).toNat).drop 6)).toNat:Int)=qcT ((l.take 6).drop 2) then ((l.take (6+qcT (l.take 2)).toNat).drop 6,6+qcT (l.take 2),true)
 else ([],0,false)
theorem qmM (A C p rest:List Int) (hA:A.length=2) (hC:C.length=4) (hn:qcT A=(p.length:Int)) (h0:p.length ≠ 0) (h1:p.length≤1024) :
  qbB (A ++ C ++ p ++ rest)=if (((crc p).toNat:Nat):Int)=qcT C then (p,6+(p.length:Int),true) else ([],0,false):=by
 have e1:(A ++ C ++ p ++ rest).take 2=A:=by
  rw [List.append_assoc,List.append_assoc,List.take_left' hA]
 have e2:((A ++ C ++ p ++ rest).take 6).drop 2=C:=by
  rw [List.append_assoc,List.take_left' (by rw [List.length_append];omega),List.drop_left' hA]
 have e3:((A ++ C ++ p ++ rest).take (6+(p.length:Int)).toNat).drop 6=p:=by
  rw [List.take_left' (by simp only [List.length_append];omega),List.drop_left' (by rw [List.length_append];omega)]
 unfold qbB;rw [if_neg (by simp only [List.length_append];omega),e1,hn,e2,e3,if_neg (by simp only [List.length_append];omega)]
theorem qhK {l:List Int} (h0:l.length ≠ 0) (h1:l.length≤1024):qgK l=(putL 2 l.length ++ putL 4 (crc l).toNat ++ l,0):=by
 unfold qgK;rw [if_neg (by omega)]
theorem qzE {n:Nat} (h:n≤1024):qcT (putL 2 (n:Int))=(n:Int):=by
 rw [qgJ _ _ (by omega)];omega
theorem qzF (l:List Int):qcT (putL 4 (((crc l).toNat:Nat):Int))=(((crc l).toNat:Nat):Int):=by
 rw [qgJ _ _ (by omega)];have:=(crc l).isLt;omega
theorem qmN {l:List Int} (rest:List Int) (h0:l.length ≠ 0) (h1:l.length≤1024):qbB ((qgK l).1 ++ rest)=(l,6+(l.length:Int),true):=by
 rw [qhK h0 h1];rw [qmM _ _ l rest (qbD _ _) (qbD _ _) (qzE h1) h0 h1,qzF,if_pos rfl]
def qfD (l:List Int):Bool:=l.all (·==255)
def qfC (l:List Int) (n:Nat):List Int:=l.take n ++ List.replicate (n - l.length) 255
theorem qeT (l:List Int) (n:Nat):(qfC l n).length=n:=by simp only [qfC,List.length_append,List.length_take,List.length_replicate];omega
theorem qtP (l:List Int) (n:Nat):qfC l (n+1)=qfC l n ++ [if n < l.length then rd l (n:Int) else 255]:=by
 unfold qfC
 by_cases h:n < l.length
 ·rw [if_pos h,qyC l n h,List.take_succ_eq_append_getElem h,show n+1 - l.length=0 by omega,show n - l.length=0 by omega];simp
 ·rw [if_neg h,List.take_of_length_le (by omega),List.take_of_length_le (by omega),show n+1 - l.length=(n - l.length)+1 by omega,List.replicate_succ',List.append_assoc]
end Go.Proofs.YtdlimghdimkadaaGreatDoor.Plain
namespace Go.Proofs.YtdlimghdimkadaaGreatDoor.PAll
open Go Go.RowKit YtdlimghdimkadaaGreatDoorW.PrintWords YtdlimghdimkadaaGreatDoorW.PrintLast YtdlimghdimkadaaGreatDoorW.PrintMore
attribute [local go_sem] qdG qdE qdY qdX qcJ qcI qdF qdD
section
open Plain
theorem qwY (l:List Int) (n i r:Int):∀ (d:Nat) (s:BitVec 32) (j:Int),j+d=8→0≤j →
  Ev (fun k=>bits_Sum.l0 k ((vbD d s).toNat:Int) l n (wrap64 (i+1))) r→Ev (fun k=>bits_Sum.l1 k (s.toNat:Int) l n i j) r
 | 0,s,j,hd,hj,h=>Ev.step (fun k=>by simp only [bits_Sum.l1];rw [if_neg (by omega)];rfl) h
 | d+1,s,j,hd,hj,h=>by
  have h2:=qwY l n i r d (qnO s) (j+1) (by omega) (by omega) h;refine Ev.step (fun k=>?_) h2;simp only [bits_Sum.l1];rw [if_pos (by omega),qcH (by omega) (by omega)]
  by_cases hb:s.getLsbD 0=true
  ·rw [if_pos ((vdR s).2 hb),vaH,vdO,vaT];unfold qnO;rw [if_pos hb]
  ·rw [if_neg (fun h=>hb ((vdR s).1 h)),vaH];unfold qnO;rw [if_neg hb]
theorem qwZ (l:List Int) (hl:qbA l) (hn:l.length≤9223372036854775806):∀ (d i:Nat) (s:BitVec 32),i+d=l.length →
  Ev (fun k=>bits_Sum.l0 k (s.toNat:Int) l (l.length:Int) (i:Int)) (((0xFFFFFFFF#32 ^^^ (l.drop i).foldl vfP s).toNat:Nat):Int)
 | 0,i,s,hi=>by
  refine Ev.step (f:=fun _=>some _) (fun k=>?_) (Ev.now _);simp only [bits_Sum.l0];rw [if_neg (by omega),vdQ,vaT,List.drop_of_length_le (by omega)];rfl
 | d+1,i,s,hi=>by
  have h2:=qwZ l hl hn d (i+1) (vfP s (l[i]'(by omega))) (by omega);rw [← List.foldl_cons,List.getElem_cons_drop] at h2;have hw:wrap64 ((i:Int)+1)=((i+1:Nat):Int):=by rw [qcH (by omega) (by omega)];simp
  rw [← hw] at h2;have h3:=qwY l (l.length:Int) (i:Int) _ 8 (s ^^^ BitVec.ofInt 32 (l[i]'(by omega))) 0 (by omega) (by omega) h2;refine Ev.step (fun k=>?_) h3;simp only [bits_Sum.l0];rw [if_pos (by omega),if_pos (by omega),if_pos (by omega),qyC l i (by omega),veL,vaT]
theorem qxA (l:List Int) (hl:qbA l) (hn:l.length≤9223372036854775806):Ev (fun k=>bits_Sum.f k l) (((crc l).toNat:Nat):Int) :=
 qwZ l hl hn l.length 0 0xFFFFFFFF#32 (by omega)
def qfW (b:Int):Nat:=if b < 0 then 0 else if 8 < b then 8 else b.toNat
theorem qlF (n b:Int) (hn:0≤n):bits_Put.f n b=some (putL (qfW b) n):=by
 have hc:b < 0∨b=0∨b=1∨b=2∨b=3∨b=4∨b=5∨b=6∨b=7∨b=8∨8 < b:=by omega
 rcases hc with hc|rfl|rfl|rfl|rfl|rfl|rfl|rfl|rfl|rfl|hc
 ·have e0:mn (mx b 0) 8=0:=by unfold mn mx;rw [if_pos hc];rfl
  simp [bits_Put.f,e0,qfW,hc,putL]
 ·simp [bits_Put.f,mn,mx,qfW,putL]
 ·simp [bits_Put.f,mn,mx,qfW,putL,List.range_succ]
 ·simp [bits_Put.f,mn,mx,qfW,putL,List.range_succ,List.replicate]
 ·simp [bits_Put.f,mn,mx,qfW,putL,List.range_succ,List.replicate]
 ·simp [bits_Put.f,mn,mx,qfW,putL,List.range_succ,List.replicate]
 ·simp [bits_Put.f,mn,mx,qfW,putL,List.range_succ,List.replicate]
 ·simp [bits_Put.f,mn,mx,qfW,putL,List.range_succ,List.replicate]
 ·simp [bits_Put.f,mn,mx,qfW,putL,List.range_succ,List.replicate]
 ·simp [bits_Put.f,mn,mx,qfW,putL,List.range_succ,List.replicate]
 ·have e0:mn (mx b 0) 8=8:=by unfold mn mx;rw [if_neg (by omega:¬ b < 0),if_pos hc]
  have e1:qfW b=8:=by unfold qfW;rw [if_neg (by omega),if_pos hc]
  rw [e1];simp [bits_Put.f,e0,putL,List.range_succ,List.replicate]
theorem qxB (l:List Int) (hl:qbA l):∀ (d i:Nat),i+d=min l.length 8→Ev (fun k=>bits_Get.l0 k l (qtL l i) (mn (l.length:Int) 8) (i:Int)) (qcT l)
 | 0,i,hi=>by
  refine Ev.step (f:=fun _=>some _) (fun k=>?_) (Ev.now _);have hi2:i=min l.length 8:=by omega
  simp only [bits_Get.l0];rw [if_neg (by unfold mn;split <;> omega)];unfold qcT;rw [hi2]
 | d+1,i,hi=>by
  have h2:=qxB l hl d (i+1) (by omega);refine Ev.step (fun k=>?_) h2;simp only [bits_Get.l0];have hb:=vdN l hl i;have e1:wrap64 (8*(i:Int))=8*(i:Int):=qcH (by omega) (by omega);have e5:wrap64 ((i:Int)+1)=((i+1:Nat):Int):=by rw [qcH (by omega) (by omega)];simp
  rw [if_pos (by unfold mn;split <;> omega),if_pos (by omega),if_pos (by omega),e1,if_pos (by omega),e5,or64 i (by omega) (qqI hl i (by omega)) hb];rfl
theorem qqV (l:List Int) (hl:qbA l):Ev (fun k=>bits_Get.f k l) (qcT l):=qxB l hl (min l.length 8) 0 (by omega)
theorem qxC (l:List Int) (hl:qbA l) (hn:l.length≤140737488351232):Ev (fun k=>bits_Frame.f k l) (qgK l):=by
 have hc2:qfW 2=2:=rfl;have hc4:qfW 4=4:=rfl;obtain ⟨K,hs⟩:=qxA l hl (by omega);have hcr:=(crc l).isLt;have hp2:Ev (fun _=>bits_Put.f (l.length:Int) 2) (putL 2 (l.length:Int)):=by simp only [qlF (l.length:Int) 2 (by omega),hc2];exact Ev.now _
 have hp4:Ev (fun _=>bits_Put.f (((crc l).toNat:Nat):Int) 4) (putL 4 (((crc l).toNat:Nat):Int)):=by simp only [qlF (((crc l).toNat:Nat):Int) 4 (by omega),hc4];exact Ev.now _
 unfold qgK
 by_cases h0:l.length=0
 ·rw [if_pos (.inl h0)];refine ⟨1,fun k hk=>?_⟩
  obtain ⟨k,rfl⟩:∃ m,k=m+1:=⟨k - 1,by omega⟩
  show bits_Frame.f (k+1) l=_;unfold bits_Frame.f;rw [if_pos (by omega)];simp [bits_Frame.j0]
 ·by_cases h1:1024 < l.length
  ·rw [if_pos (.inr h1)];refine ⟨1,fun k hk=>?_⟩
   obtain ⟨k,rfl⟩:∃ m,k=m+1:=⟨k - 1,by omega⟩
   show bits_Frame.f (k+1) l=_;unfold bits_Frame.f;rw [if_neg (by omega),decide_eq_true (by omega)];simp [bits_Frame.j0]
  ·rw [if_neg (by omega)];obtain ⟨K2,hp2⟩:=hp2;obtain ⟨K4,hp4⟩:=hp4;refine ⟨K+K2+K4+1,fun k hk=>?_⟩
   obtain ⟨k,rfl⟩:∃ m,k=m+1:=⟨k - 1,by omega⟩
   show bits_Frame.f (k+1) l=_;unfold bits_Frame.f;rw [if_neg (by omega),decide_eq_false (by omega)];simp only [bits_Frame.j0,Bool.false_eq_true,if_false];rw [qdM (by omega) (by omega)];have e1:=hp2 k (by omega);have e2:=hp4 k (by omega);have e3:=hs k (by omega);simp only [] at e1 e2 e3;rw [e1,e3];simp only [Option.bind_some];rw [qdM (by omega) (by omega),e2];simp only [Option.bind_some];rw [if_pos (by simp only [qbD];omega),if_pos (by simp only [List.length_append,qbD];omega)]
theorem qqU (l:List Int) (hl:qbA l) (hn:l.length≤4611686018427387904):Ev (fun k=>bits_Unframe.f k l) (qbB l):=by
 unfold qbB
 by_cases h6:l.length < 6
 ·rw [if_pos h6];refine ⟨0,fun k _=>?_⟩;show bits_Unframe.f k l=_;unfold bits_Unframe.f;rw [if_pos (by omega)]
 rw [if_neg h6];obtain ⟨K,hg⟩:=qqV (l.take 2) (hl.take 2);have hlen2:(l.take 2).length=2:=by rw [List.length_take];omega
 have hb:=qnG (hl.take 2);rw [hlen2] at hb;generalize hn2:qcT (l.take 2)=n at hb hg ⊢;have hb2:0≤n∧n < 65536:=hb;have ew:wrap64 n=n:=qcH (by omega) (by omega)
 by_cases h0:n=0∨1024 < n∨(l.length:Int) - 6 < n
 ·rw [if_pos h0];refine ⟨K+1,fun k hk=>?_⟩
  obtain ⟨k,rfl⟩:∃ m,k=m+1:=⟨k - 1,by omega⟩
  have e1:=hg (k+1) (by omega);simp only [] at e1;show bits_Unframe.f (k+1) l=_;unfold bits_Unframe.f;rw [if_neg (by omega),if_pos (by omega),e1];simp only [Option.bind_some,ew];have ew2:wrap64 ((l.length:Int) - 6)=(l.length:Int) - 6:=qcH (by omega) (by omega);rw [ew2]
  by_cases g0:n=0
  ·rw [if_pos g0];simp [bits_Unframe.j0]
  ·by_cases g1:n > 1024
   ·rw [if_neg g0,if_pos g1];simp [bits_Unframe.j0]
   ·rw [if_neg g0,if_neg g1,decide_eq_true (by omega)];simp [bits_Unframe.j0]
 ·rw [if_neg h0];have ew2:wrap64 ((l.length:Int) - 6)=(l.length:Int) - 6:=qcH (by omega) (by omega);have ew3:wrap64 (6+n)=6+n:=qcH (by omega) (by omega);obtain ⟨K2,hs⟩:=qxA ((l.take (6+n).toNat).drop 6) ((hl.take _).drop _) (by rw [List.length_drop,List.length_take];omega);obtain ⟨K3,hg2⟩:=qqV ((l.take 6).drop 2) ((hl.take _).drop _);have hcr:=(crc ((l.take (6+n).toNat).drop 6)).isLt;refine ⟨K+K2+K3+1,fun k hk=>?_⟩
  obtain ⟨k,rfl⟩:∃ m,k=m+1:=⟨k - 1,by omega⟩
  have e1:=hg (k+1) (by omega);have e2:=hs k (by omega);have e3:=hg2 k (by omega);simp only [] at e1 e2 e3;show bits_Unframe.f (k+1) l=_;unfold bits_Unframe.f;rw [if_neg (by omega),if_pos (by omega),e1];simp only [Option.bind_some,ew];rw [if_neg (by omega),if_neg (by omega),ew2,decide_eq_false (by omega)];simp only [bits_Unframe.j0,Bool.false_eq_true,if_false,Option.bind_some,List.nil_append,ew3];rw [if_pos (by omega),if_pos (by omega),if_pos (by simp only [List.length_nil,List.length_drop,List.length_take];omega)];rw [e2];simp only [Option.bind_some];rw [if_pos (by omega),if_pos (by omega),e3];simp only [Option.bind_some];rw [qdM (by omega) (by omega)]
  by_cases hc:(((crc ((l.take (6+n).toNat).drop 6)).toNat:Nat):Int)=qcT ((l.take 6).drop 2)
  ·rw [if_pos hc,if_pos hc]
  ·rw [if_neg hc,if_neg hc]
theorem qpI (l:List Int) (hn:l.length≤9223372036854775806):∀ (d i:Nat),i+d=l.length→Ev (fun k=>bits_Blank.l0 k l (l.length:Int) (i:Int)) (qfD (l.drop i))
 | 0,i,hi=>by
  refine Ev.step (f:=fun _=>some _) (fun k=>?_) (Ev.now _);simp only [bits_Blank.l0];rw [if_neg (by omega),List.drop_of_length_le (by omega)];rfl
 | d+1,i,hi=>by
  have h2:=qpI l hn d (i+1) (by omega);have e5:wrap64 ((i:Int)+1)=((i+1:Nat):Int):=by rw [qcH (by omega) (by omega)];simp
  have ed:l.drop i=l[i]'(by omega) :: l.drop (i+1):=by rw [List.getElem_cons_drop]
  by_cases hc:rd l (i:Int)=255
  ·have e:qfD (l.drop i)=qfD (l.drop (i+1)):=by rw [ed];rw [qyC l i (by omega)] at hc;simp [qfD,hc]
   rw [e];refine Ev.step (fun k=>?_) h2;simp only [bits_Blank.l0];rw [if_pos (by omega),if_pos (by omega),if_pos (by omega),if_pos hc,e5]
  ·have e:qfD (l.drop i)=false:=by rw [ed];rw [qyC l i (by omega)] at hc;simp only [qfD,List.all_cons];simp [hc]
   rw [e];refine Ev.step (f:=fun _=>some _) (fun k=>?_) (Ev.now _);simp only [bits_Blank.l0];rw [if_pos (by omega),if_pos (by omega),if_pos (by omega),if_neg hc]
theorem qxD (l:List Int) (hn:l.length≤9223372036854775806):Ev (fun k=>bits_Blank.f k l) (qfD l):=qpI l hn l.length 0 (by omega)
theorem qsC (l:List Int) (n:Nat) (hn:n≤1048576):∀ (d i:Nat),i+d=n→min n l.length≤i→Ev (fun k=>bits_Fill.l0 k (n:Int) (qfC l i)) (qfC l n)
 | 0,i,hi,_=>by
  refine Ev.step (f:=fun _=>some _) (fun k=>?_) (Ev.now _);have hi2:i=n:=by omega
  subst hi2;have e:=qeT l i;simp only [bits_Fill.l0];rw [if_neg (by omega)]
 | d+1,i,hi,hm=>by
  have h2:=qsC l n hn d (i+1) (by omega) (by omega);refine Ev.step (fun k=>?_) h2;have e:=qeT l i;have q1:((qfC l i).length:Int) < (n:Int):=by omega
  have q2:(qfC l i).length < 140737488355328:=by omega
  simp only [bits_Fill.l0,eq_true q1,eq_true q2,if_true];rw [qtP,if_neg (by omega)]
theorem qsD (l:List Int) (n:Nat) (hn:n≤1048576):Ev (fun k=>bits_Fill.f k l (n:Int)) (qfC l n):=by
 obtain ⟨K,h⟩:=qsC l n hn (n - min n l.length) (min n l.length) (by omega) (Nat.le_refl _);refine ⟨K,fun k hk=>?_⟩;have e1:=h k hk;simp only [] at e1;have em:mn (n:Int) (l.length:Int)=((min n l.length:Nat):Int):=by unfold mn;split <;> omega
 have et:l.take (min n l.length)=qfC l (min n l.length):=by
  unfold qfC;rw [show min n l.length - l.length=0 by omega];simp
 show bits_Fill.f k l (n:Int)=_;unfold bits_Fill.f;have q1:¬ (n:Int) < 0:=by omega
 have q2:(0:Int)≤((min n l.length:Nat):Int):=by omega
 have q3:((min n l.length:Nat):Int)≤(l.length:Int):=by omega
 have q4:(qfC l (min n l.length)).length < 140737488355328:=by have:=qeT l (min n l.length);omega
 simp only [Option.bind_some,em,eq_false q1,eq_true q2,eq_true q3,if_true,if_false,Int.toNat_natCast,List.length_nil,Nat.zero_add,List.nil_append,et,eq_true q4,e1]
end
end Go.Proofs.YtdlimghdimkadaaGreatDoor.PAll
namespace Go.Proofs.YtdlimghdimkadaaGreatDoor.Plain
open Go Go.RowKit YtdlimghdimkadaaGreatDoorW.PrintWords
def qbE (p:List Int) (page:Int):List Int:=qfC (qgK p).1 page.toNat
def countP (n:Int):List Int:=69 :: putL 4 n
def qhM (leb seq pages:Int):List Int:=77 :: putL 2 leb ++ putL 8 seq ++ [pages]
def qdN (n page:Int):List Int × Int:=if n < 0∨2147483647 < n∨page < 64∨512 < page then ([],22) else (qbE (countP n) page,0)
def qoL (leb seq pages page:Int):List Int × Int:=if leb < 0∨256≤leb∨pages < 0∨64 < pages∨page < 64∨512 < page then ([],22) else (qbE (qhM leb seq pages) page,0)
def qgE (b:List Int) (kind:Int) (n:Nat):Option (List Int) :=
 if b.length < 64∨512 < b.length then none
 else if (qbB b).2.2=true∧(qbB b).1.length=n∧(qbB b).1.getD 0 0=kind∧qfD (b.drop (qbB b).2.1.toNat)=true then some (qbB b).1 else none
def qaQ (b:List Int):Int × Bool :=
 match qgE b 69 5 with
 | none=>(0,false)
 | some p=>if 2147483647 < qcT (p.drop 1) then (0,false) else (qcT (p.drop 1),true)
def qbT (b:List Int):(Int × Int × Int) × Bool :=
 match qgE b 77 12 with
 | none=>((0,0,0),false)
 | some p=>if 256≤qcT ((p.drop 1).take 2)∨64 < qcT ((p.drop 11).take 1) then ((0,0,0),false) else ((qcT ((p.drop 1).take 2),qcT ((p.drop 3).take 8),qcT ((p.drop 11).take 1)),true)
theorem qfH {b:List Int} (hb:qbA b):qbA (qbB b).1:=by
 unfold qbB
 split
 ·exact fun _ h=>by cases h
 ·split
  ·exact fun _ h=>by cases h
  ·split
   ·exact (hb.take _).drop _
   ·exact fun _ h=>by cases h
theorem qpU {b:List Int} (hb:qbA b):0≤(qbB b).2.1∧(qbB b).2.1≤b.length:=by
 unfold qbB
 split
 ·exact ⟨Int.le_refl _,by simp⟩
 ·rename_i h6
  have h0:=(qnG (hb.take 2)).1
  split
  ·exact ⟨Int.le_refl _,by simp⟩
  ·rename_i hc
   split
   ·simp only [not_or,Int.not_lt] at hc;exact ⟨by show 0≤6+qcT (b.take 2);omega,by show 6+qcT (b.take 2)≤b.length;omega⟩
   ·exact ⟨Int.le_refl _,by simp⟩
theorem qmC {b p:List Int} {kind:Int} {n:Nat} (hb:qbA b) (h:qgE b kind n=some p):qbA p∧p.length=n∧p.getD 0 0=kind:=by
 unfold qgE at h
 split at h
 ·cases h
 ·split at h
  ·rename_i hc
   cases h
   exact ⟨qfH hb,hc.2.1,hc.2.2.1⟩
  ·cases h
theorem qgM (n:Int):qbA (countP n):=fun x hx=>by
 rcases List.mem_cons.1 hx with rfl|hx
 ·decide
 ·exact qbA.putL 4 n x hx
theorem qeA (n:Int):(countP n).length=5:=by simp [countP,qbD]
theorem qmE (leb seq pages:Int) (hp:0≤pages∧pages < 256):qbA (qhM leb seq pages):=by
 unfold qhM;refine qbA.append (qbA.append (fun x hx=>?_) (qbA.putL 8 seq)) (fun x hx=>?_)
 ·rcases List.mem_cons.1 hx with rfl|hx
  ·decide
  ·exact qbA.putL 2 leb x hx
 ·rcases List.mem_singleton.1 hx with rfl
  exact hp
theorem qfL (leb seq pages:Int):(qhM leb seq pages).length=12:=by simp [qhM,qbD]
theorem qoU {p:List Int} (h0:p.length ≠ 0) (h1:p.length≤1024):(qgK p).1.length=6+p.length:=by
 rw [qhK h0 h1];simp only [List.length_append,qbD]
theorem qqK {p:List Int} (hp:qbA p):qbA (qgK p).1:=by
 unfold qgK
 split
 ·exact fun _ h=>by cases h
 ·exact ((qbA.putL _ _).append (qbA.putL _ _)).append hp
theorem qtO {l:List Int} (hl:qbA l) (n:Nat):qbA (qfC l n):=by
 unfold qfC;refine (hl.take n).append (fun x hx=>?_);rw [List.eq_of_mem_replicate hx];decide
theorem qhJ {p:List Int} (hp:qbA p) (page:Int):qbA (qbE p page):=qtO (qqK hp) _
theorem qcP (p:List Int) (page:Int):(qbE p page).length=page.toNat:=qeT _ _
theorem qkR {p:List Int} (h0:p.length ≠ 0) (h1:p.length≤50) {page:Int} (hp:64≤page):qbE p page=(qgK p).1 ++ List.replicate (page.toNat - (6+p.length)) 255:=by
 have hl:=qoU h0 (by omega);unfold qbE qfC;rw [List.take_of_length_le (by omega),hl]
theorem qwX (n:Nat):qfD (List.replicate n 255)=true:=by
 unfold qfD;rw [List.all_eq_true];intro x hx;rw [List.eq_of_mem_replicate hx];rfl
theorem qnE {p:List Int} (h0:p.length ≠ 0) (h1:p.length≤50) {page:Int} (hp:64≤page):qbB (qbE p page)=(p,6+(p.length:Int),true):=by
 rw [qkR h0 h1 hp];exact qmN _ h0 (by omega)
theorem qmF {p:List Int} (h0:p.length ≠ 0) (h1:p.length≤50) {page:Int} (hp:64≤page) (hq:page≤512) (kind:Int) (n:Nat) :
  qgE (qbE p page) kind n=if p.length=n∧p.getD 0 0=kind then some p else none:=by
 have hd:(qbE p page).drop (6+(p.length:Int)).toNat=List.replicate (page.toNat - (6+p.length)) 255:=by
  rw [qkR h0 h1 hp,List.drop_left' (by rw [qoU h0 (by omega)];omega)]
 unfold qgE;rw [if_neg (by rw [qcP];omega),qnE h0 h1 hp];simp only [hd,qwX,true_and,and_true]
theorem qhF {n page:Int} (hn:0≤n∧n≤2147483647) (hp:64≤page∧page≤512):qaQ (qbE (countP n) page)=(n,true):=by
 have h1:qcT ((countP n).drop 1)=n:=by
  show qcT (putL 4 n)=n;rw [qgJ _ _ (by omega)];omega
 unfold qaQ;rw [qmF (by rw [qeA];decide) (by rw [qeA];decide) hp.1 hp.2,if_pos ⟨qeA n,rfl⟩];show (if 2147483647 < qcT ((countP n).drop 1) then ((0:Int),false) else (qcT ((countP n).drop 1),true))=_;rw [h1,if_neg (by omega)]
theorem qvK {leb seq pages page:Int} (h1:0≤leb∧leb < 256) (h2:0≤seq∧seq < 18446744073709551616) (h3:0≤pages∧pages≤64) (hp:64≤page∧page≤512):qbT (qbE (qhM leb seq pages) page)=((leb,seq,pages),true):=by
 have e1:((qhM leb seq pages).drop 1).take 2=putL 2 leb:=by
  show (putL 2 leb ++ putL 8 seq ++ [pages]).take 2=_;rw [List.append_assoc,List.take_left' (qbD _ _)]
 have e2:((qhM leb seq pages).drop 3).take 8=putL 8 seq:=by
  show ((putL 2 leb ++ putL 8 seq ++ [pages]).drop 2).take 8=_;rw [List.append_assoc,List.drop_left' (qbD _ _),List.take_left' (qbD _ _)]
 have e3:((qhM leb seq pages).drop 11).take 1=[pages]:=by
  show ((putL 2 leb ++ putL 8 seq ++ [pages]).drop 10).take 1=_;rw [List.drop_left' (by rw [List.length_append,qbD,qbD])];rfl
 have g1:qcT (putL 2 leb)=leb:=by rw [qgJ _ _ (by omega)];omega
 have g2:qcT (putL 8 seq)=seq:=by rw [qgJ _ _ (by omega)];omega
 have g3:qcT [pages]=pages:=by
  show qtL [pages] 1=pages;simp [qtL]
 unfold qbT;rw [qmF (by rw [qfL];decide) (by rw [qfL];decide) hp.1 hp.2,if_pos ⟨qfL _ _ _,rfl⟩];show (if 256≤qcT (((qhM leb seq pages).drop 1).take 2)∨64 < qcT (((qhM leb seq pages).drop 11).take 1) then (((0:Int),(0:Int),(0:Int)),false) else ((qcT (((qhM leb seq pages).drop 1).take 2),qcT (((qhM leb seq pages).drop 3).take 8),qcT (((qhM leb seq pages).drop 11).take 1)),true))=_;rw [e1,e2,e3,g1,g2,g3,if_neg (by omega)]
end Go.Proofs.YtdlimghdimkadaaGreatDoor.Plain

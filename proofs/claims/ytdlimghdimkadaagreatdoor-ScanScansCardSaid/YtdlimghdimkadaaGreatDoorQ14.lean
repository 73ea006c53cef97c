/- Part 14 of what the law ScanScans rests on. -/
import Derived.Test.YtdlimghdimkadaaGreatDoorQ13
import Derived.Test.YtdlimghdimkadaaGreatDoorQ12
set_option maxRecDepth 100000
set_option maxHeartbeats 32000000
set_option linter.unusedSimpArgs false
set_option linter.unusedVariables false
namespace Go.Proofs.YtdlimghdimkadaaGreatDoor.PAll
open Go Go.RowKit YtdlimghdimkadaaGreatDoorW.PrintWords YtdlimghdimkadaaGreatDoorW.PrintLast YtdlimghdimkadaaGreatDoorW.PrintMore
attribute [local go_sem] qdS qdQ qeJ qeI qcV qcU qdR qdP
section
open Go.Shelf Plain
attribute [local go_sem] Oper.semAt_some
variable {w0 W:World} {gc:Nat} {a:AC}
theorem qlP:Tryz.prog.underlying 114=some (.slice 4):=by kernel_rfl
theorem qrW:(Tryz.prog.info? 4).map (fun i=>(i.zero,i.size,i.bytes))=some (some (.bool false),1,1):=by kernel_rfl
theorem qmF (A:Option Addr) (len cap:Nat) (st:Int) (w:World):Calls Tryz.prog 71 #[.slice A len cap,.int .i64 st] w fun e w'=>e=.returned (.func (.func 125) #[] #[.pointer (some ⟨w.heap.size,0,none⟩),.pointer (some ⟨w.heap.size+1,0,none⟩)])∧w'=(w.alloc (.cells #[.slice A len cap] 40)).alloc (.cells #[.int .i64 st] 3) :=
 (callsIn_wide (n:=3)).1 (qkW Fence.wide 3 trivial rfl A len cap st w)
theorem qgN {α:Type} {d:Kd α} {e base:Nat} {ok:Nat→Prop} {W w1:World} {v vl:Value} {xs:List α} {b e' s' n':Nat} {cs:List Value} (h:d.R e W base ok v xs) (hl:W.ownsRow b e' s' vl n' cs) (ht:∀ q,q ∈ e :: d.E→q ≠ e') (hg:W.grownBy w1 vl.ownBlock):d.R e w1 base ok v xs :=
 Kd.R_mono (Kd.R_grown (Kd.R_bound h) hg (fun k hk he=>by
  obtain ⟨_,_,_,q,hq,cells,hc⟩:=hk;obtain ⟨cells',hc'⟩:=qhV hl k he.symm;rw [hc] at hc';simp only [Option.some.injEq,Obj.cells.injEq] at hc'
  exact ht q hq hc'.2.1)) (fun k hk=>hk.1)
theorem qvR {xs:List Blk} (pre:List (Ent xs)) (x:Ent xs):qiH (pre ++ [x])=vaX (qiH pre) x:=by simp [qiH,List.foldl_append]
theorem vaY {xs:List Blk} (pre:List (Ent xs)):∀ l k,qiH pre l=some k→k < xs.length:=by
 have key:∀ (n:Nat) (ys:List (Ent xs)),ys.length=n→∀ l k,qiH ys l=some k→k < xs.length:=by
  intro n
  induction n with
  | zero =>
   intro ys hy l k h;obtain rfl:=List.eq_nil_of_length_eq_zero hy
   cases h
  | succ n ih =>
   intro ys hy l k h
   obtain ⟨ys',x,rfl⟩:∃ ys' x,ys=ys' ++ [x]:=⟨ys.dropLast,ys.getLast (fun e=>by rw [e] at hy;cases hy),(List.dropLast_concat_getLast _).symm⟩
   rw [qvR] at h;unfold vaX at h;have ih':=ih ys' (by simpa using hy)
   split at h
   ·split at h
    ·cases h;exact x.2.1
    ·rename_i k' hk'
     split at h
     ·cases h;exact x.2.1
     ·cases h;exact ih' _ _ hk'
   ·exact ih' _ _ h
 exact key _ pre rfl
def vcH (W:World) (gm gk gl B cl:Nat) (xs:List Blk) (pre:List (Ent xs)) (W':World):Prop :=
 (∃ n D,W'.ownsMap Tryz.prog 3 (plainElem (H:=Unit) Tryz.prog 3) gm n D∧(n=pre.length∧qlK D (qiH pre)))∧((Boxed W' (gm+1+1) 40 (.slice (some ⟨gl,0,none⟩) B cl)∧Boxed W' (gm+1+1+1) 3 (.int .i64 4))∧(Boxed W' (gm+1) 117 (.map (some gm))∧Boxed W' (gk+1) 40 (.slice (some ⟨gl,0,none⟩) B cl)))∧(Rows W' gl xs∧Below W.heap.size W W')
theorem qyI {W:World} {gm gk gl B cl b:Nat} {xs:List Blk} (h1:gm < b) (h2:W.heap.size≤b):OwnFrom b (vcH W gm gk gl B cl xs) :=
 OwnFrom.and (qqC h1 _) (OwnFrom.and (OwnFrom.and (OwnFrom.and (Own.from (boxed_own _ _ _) _) (Own.from (boxed_own _ _ _) _)) (OwnFrom.and (Own.from (boxed_own _ _ _) _) (Own.from (boxed_own _ _ _) _))) (OwnFrom.and (Own.from (Rows.own gl (fun _=>xs)) _) (ownFrom_below (Nat.le_refl _) h2)))
theorem qwA {W:World} {gm gk gl B cl b:Nat} {xs:List Blk} {pre:List (Ent xs)} {x:Ent xs} {W8 wz:World} (h:vcH W gm gk gl B cl xs pre W8) (hh:wz.heap=W8.heap) (hb:Below W8.heap.size W8 wz) (he:qiH (pre ++ [x])=qiH pre):KeepsFrom b W8 wz∧vcH W gm gk gl B cl xs (pre ++ [x]) wz:=by
 obtain ⟨⟨n,D,hm,hn,hD⟩,⟨⟨bS,bT⟩,⟨bN,bL⟩⟩,⟨hR,hB⟩⟩:=h;exact ⟨(qgT hh).from _,⟨n+1,D,(qgJ hh hm).mono (Nat.le_succ n),by rw [hn];simp,by rw [he];exact hD⟩,⟨⟨qbX hh bS,qbX hh bT⟩,⟨qbX hh bN,qbX hh bL⟩⟩,⟨qjZ hh hR,qaF hB hb⟩⟩
theorem qrV {W:World} {gm gk gl B cl b n:Nat} {D:DataW Unit} {xs:List Blk} {pre:List (Ent xs)} {x:Ent xs} {W8 wz w1:World} (h:vcH W gm gk gl B cl xs pre W8) (hh:wz.heap=W8.heap) (hb:Below W8.heap.size W8 wz)
  (hm:w1.ownsMap Tryz.prog 3 (plainElem (H:=Unit) Tryz.prog 3) gm (n+1) (D.put (.int .i64 x.1.2.f2) (.lit (.int .i64 (x.1.1:Int))))) (hg:wz.grownBy w1 (some gm)) (hn:n=pre.length) (hD:qlK D (qiH pre)) (hgb:gm < b) (hgk:gk+1 < gm) (hgl:gl < gm) (hgW:W.heap.size≤gm)
  (he:qiH (pre ++ [x])=fun l=>if l=x.1.2.f2 then some x.1.1 else qiH pre l):KeepsFrom b W8 w1∧vcH W gm gk gl B cl xs (pre ++ [x]) w1:=by
 obtain ⟨-,⟨⟨bS,bT⟩,⟨bN,bL⟩⟩,⟨hR,hB⟩⟩:=h;have ne:∀ q,q ≠ gm→some q ≠ some gm:=fun q hq e=>hq (by injection e)
 refine ⟨((qgT hh).from _).trans (KeepsFrom.of_grownBy hg (fun j e=>by injection e with e;omega)),⟨n+1,_,hm,by rw [hn];simp,by rw [he];exact hD.put _ _⟩,⟨⟨(qbX hh bS).kept hg (ne _ (by omega)),(qbX hh bT).kept hg (ne _ (by omega))⟩,⟨(qbX hh bN).kept hg (ne _ (by omega)),(qbX hh bL).kept hg (ne _ (by omega))⟩⟩,⟨(qjZ hh hR).keep (hg.block gl (qjZ hh hR).lt (ne _ (by omega))),(qaF hB hb).grown hg (qaG (qaF hB hb)) (fun k e=>by injection e with e;omega)⟩⟩
def vcG (W:World) (gm gk gl gb B cl D1 n:Nat) (D:DataW Unit) (nw:Int→Option Nat) (xs:List Blk) (pre:List (Ent xs)) (W':World):Prop :=
 (W'.ownsMap Tryz.prog 3 (plainElem (H:=Unit) Tryz.prog 3) gm n D∧W'.heap[D1]?=some (.deferred (some [])))∧((Boxed W' gb 40 (.slice (some ⟨gl,0,none⟩) B cl)∧Boxed W' (gb+1) 3 (.int .i64 4))∧(Boxed W' (gm+1) 117 (.map (some gm))∧Boxed W' (gk+1) 40 (.slice (some ⟨gl,0,none⟩) B cl)))∧(Rows W' gl (qnJ nw pre)∧Below W.heap.size W W')
theorem qyH {W:World} {gm gk gl gb B cl D1 n b:Nat} {D:DataW Unit} {nw:Int→Option Nat} {xs:List Blk} (h1:gm < b) (h3:D1 < b) (h2:W.heap.size≤b):OwnFrom b (vcG W gm gk gl gb B cl D1 n D nw xs) :=
 OwnFrom.and (OwnFrom.and (fun s X Y row hs hg hr=>hs.kept hg (fun e=>by have:=(hr gm e.symm).1;omega)) (fun s X Y row hs hg hr=>(hg.block D1 (Array.getElem?_eq_some_iff.1 hs).1 (fun e=>by have:=(hr D1 e.symm).1;omega)).trans hs)) (OwnFrom.and (OwnFrom.and (OwnFrom.and (Own.from (boxed_own _ _ _) _) (Own.from (boxed_own _ _ _) _)) (OwnFrom.and (Own.from (boxed_own _ _ _) _) (Own.from (boxed_own _ _ _) _))) (OwnFrom.and (Own.from (Rows.own gl (fun pre=>qnJ nw pre)) _) (ownFrom_below (Nat.le_refl _) h2)))
abbrev vcE (W:World) (g o:Nat) (x:Blk):World:=(((((W.setCell ⟨g,o,none⟩ (.int .i64 x.f0)).setCell ⟨g,o+1,none⟩ (.int .i64 x.f1)).setCell ⟨g,o+2,none⟩ (.int .i64 x.f2)).setCell ⟨g,o+3,none⟩ (.int .i64 x.f3)).setCell ⟨g,o+4,none⟩ (.int .u64 x.f4)).setCell ⟨g,o+5,none⟩ (.bool x.f5)
theorem qmQ (W:World) (g o:Nat) (x:Blk) {q:Nat} (h:q ≠ g):(vcE W g o x).heap[q]?=W.heap[q]?:=by
 unfold vcE;rw [Below.heap_setCell _ _ _ _ h,Below.heap_setCell _ _ _ _ h,Below.heap_setCell _ _ _ _ h,Below.heap_setCell _ _ _ _ h,Below.heap_setCell _ _ _ _ h,Below.heap_setCell _ _ _ _ h]
theorem qsY (W:World) (g o:Nat) (x:Blk):KeepsOthers W (vcE W g o x) :=
 ((((((KeepsOthers.setCell _ _ _).trans (KeepsOthers.setCell _ _ _)).trans (KeepsOthers.setCell _ _ _)).trans (KeepsOthers.setCell _ _ _)).trans (KeepsOthers.setCell _ _ _)).trans (KeepsOthers.setCell _ _ _))
theorem qvZ {W:World} {gm gk gl gb B cl D1 n b:Nat} {D:DataW Unit} {nw:Int→Option Nat} {xs:List Blk} {pre:List (Ent xs)} {x:Ent xs} {W8:World} (h:vcG W gm gk gl gb B cl D1 n D nw xs pre W8) (hq:(nw x.1.2.f2).getD 0=x.1.1):KeepsFrom b W8 W8∧vcG W gm gk gl gb B cl D1 n D nw xs (pre ++ [x]) W8:=by
 refine ⟨KeepsFrom.refl _ _,h.1,h.2.1,?_,h.2.2.2⟩;rw [qkT,vbQ,if_pos hq];exact h.2.2.1
theorem qyG {W:World} {gm gk gl gb B cl D1 n b:Nat} {D:DataW Unit} {nw:Int→Option Nat} {xs:List Blk} {pre:List (Ent xs)} {x:Ent xs} {W8:World} (h:vcG W gm gk gl gb B cl D1 n D nw xs pre W8) (hq:¬ (nw x.1.2.f2).getD 0=x.1.1) (h1:gl < gm) (h2:gm < D1) (h3:D1 < gb) (h4:gk+1 ≠ gl) (h5:W.heap.size≤gl) :
  KeepsFrom b W8 (vcE W8 gl (x.1.1*6) (qjX x.1.2))∧vcG W gm gk gl gb B cl D1 n D nw xs (pre ++ [x]) (vcE W8 gl (x.1.1*6) (qjX x.1.2)):=by
 obtain ⟨⟨hm,hd⟩,⟨⟨bS,bT⟩,⟨bN,bL⟩⟩,⟨hR,hB⟩⟩:=h;have hx:x.1.1 < (qnJ nw pre).length:=by rw [qsD];exact x.2.1
 have bx:∀ {q:Nat} {t:TypeId} {v:Value},q ≠ gl→Boxed W8 q t v→Boxed (vcE W8 gl (x.1.1*6) (qjX x.1.2)) q t v:=fun hq hb=>(qmQ _ _ _ _ hq).trans hb
 refine ⟨(qsY _ _ _ _).from _,⟨?_,(qmQ _ _ _ _ (by omega)).trans hd⟩,⟨⟨bx (by omega) bS,bx (by omega) bT⟩,⟨bx (by omega) bN,bx h4 bL⟩⟩,?_,qaH (qaH (qaH (qaH (qaH (qaH hB h5) h5) h5) h5) h5) h5⟩
 ·obtain ⟨es,clock,hb,h6⟩:=hm;exact ⟨es,clock,(qmQ _ _ _ _ (by omega)).trans hb,h6⟩
 ·rw [qkT,vbQ,if_neg hq];exact hR.put x.1.1 hx (qjX x.1.2)
theorem qwY (h:qdG w0 W gc a) (hby:qdH a) (aE:Addr) (hgE:gNone W aE) (hon:a.off=false) :
  Calls Tryz.prog 18 #[cp gc] W fun e w'=>∃ (g c:Nat),e=.returned (.tuple #[.slice (some ⟨g,0,none⟩) (qgF a).length c,.int .i64 0])∧(qgF a).length≤c∧Rows w' g (qgF a)∧Below W.heap.size W w':=by
 have H:=aM h;have HBY:=aM hby;have HGE:=aM hgE;have hgok:=h.gok;have HON:=aM (h.on);rw [hon] at HON;have HG:=aM (fun (w1:World) (hb:Below W.heap.size W w1)=>(H.out.grow hb).geometry);have hu92:=Tryz.underlying113;have hu37:=Tryz.underlying23;have hu49:=Tryz.underlying68;clear h hby hgE hon;refine (callsIn_wide (n:=4)).1 (callsIn_of_wp_marks Tryz.func18 rfl trivial (wpIn_wide.2 ?_));simp only [Tryz.ntmps18,List.size_toArray,List.length_cons,List.length_nil,Nat.reduceAdd,Nat.reduceSub,Array.replicate_succ,Array.replicate_zero,List.push_toArray,List.append_toArray,List.nil_append,List.cons_append]
 go_upto_region 5 with (first
  | (go_at_call 48;(with_reducible refine HON.out.mono ?_);rintro e w1 ⟨rfl,hb1⟩;have HB1:=aM hb1;clear hb1))
 go_upto_region 6 with (first
  | (go_at_call 69;(with_reducible refine (HG.out _ HB1.out).mono ?_);rintro e w2 ⟨rfl,hb2⟩;have HB2:=aM (qaF HB1.out hb2);clear hb2))
 go_upto_region 9 with (fail)
 obtain ⟨gk,hgk⟩:∃ gk,gk=w2.heap.size:=⟨_,rfl⟩
 generalize hW:(w2.alloc (.cells #[cp gc,.int .i64 a.g.B,.int .i64 a.g.P,.int .i64 a.g.Z,.int .i64 a.g.R] 113)).alloc (.cells #[.slice none 0 0] 40)=W3;have HB3:=aM (show Below W.heap.size W W3 by rw [← hW];exact qaA (qaA HB2.out _) _);have HK3:=aM (show W3.heap[gk]?=some (.cells (lkC gc a.g) 113 (0,0)) by rw [← hW,hgk];exact qaI (qaV _ _ _) _);have HL3:=aM (show W3.heap[gk+1]?=some (.cells #[.slice none 0 0] 40 (0,0)) by rw [← hW,hgk];have:=qaV (w2.alloc (.cells #[cp gc,.int .i64 a.g.B,.int .i64 a.g.P,.int .i64 a.g.Z,.int .i64 a.g.R] 113)) #[.slice none 0 0] 40;rwa [World.size_alloc] at this);have HGK:=aM (show W.heap.size≤gk by rw [hgk];exact qaG HB2.out);rw [← hgk];clear hW hgk;have yB:=jC HK3.out 1;obtain ⟨⟨hB1,hB2⟩,-,-,-⟩:=hgok
 go_upto_region 17 with (fail)
 have HBLK:=aM (fun (w1:World) (hb:Below W.heap.size W w1) (hk:w1.heap[gk]?=some (.cells (lkC gc a.g) 113 (0,0))) (n:Int)=>qyY (H.out.grow hb) HBY.out aE (qbI HGE.out hb) gk hk n);go_loopw [6,7,8,36] (fun v6 v7 v8 v36 wr=>∃ i:Nat,i≤a.g.B∧v36=.int .i64 i∧v7=.int .i64 (qdC (qbB a i)).1∧v8=.int .i64 (qdC (qbB a i)).2∧qaN (Kd.R Kd.bool 4 wr W.heap.size (fun _=>True) v6 ((qbB a i).map (·.2)))∧qaN (∃ vl,wr.heap[gk+1]?=some (.cells #[vl] 40 (0,0))∧Kd.R qtJ 68 wr W.heap.size (fun _=>True) vl ((qbB a i).map (·.1)))∧qaN (wr.heap[gk]?=some (.cells (lkC gc a.g) 113 (0,0)))∧qaN (Below W.heap.size W wr)) (fun _ _ _ i _=>a.g.B - (intOf i).toNat);case atStart=>exact ⟨0,Nat.zero_le _,rfl,rfl,rfl,⟨Kd.R_nil _ _ _ _ _⟩,⟨_,HL3.out,Kd.R_nil _ _ _ _ _⟩,HK3,HB3⟩
 case round =>
  obtain ⟨i,hi,rfl,rfl,rfl,HT,⟨vl,hl1,hl2⟩,HKr,HBr⟩:=hrel;have HL1:=aM hl1;have HL2:=aM hl2;clear hl1 hl2 HB3 HK3 HL3 yB
  by_cases hlt:i < a.g.B
  ·have d0:decide ((i:Int) < (a.g.B:Int))=true:=decide_eq_true (by omega);have HS:=aM (show qdC (qbB a (i+1))=qxE (qdC (qbB a i)) (qcQ a (i:Int)) by rw [qfY];simp [qdC,List.foldl_append]);have HC:=aM (HBLK.out _ HBr.out HKr.out (i:Int));have HLS:=aM (qfY a i);generalize hbi:qcQ a (i:Int)=bi at HS HC HLS;clear hbi;obtain ⟨b,is⟩:=bi;generalize qdC (qbB a i)=sm at HS ⊢
   go_upto_region 13 with (first
    | (go_at_call 70;(with_reducible refine HC.out.mono ?_);rintro e w4 ⟨rfl,hb4⟩;have HB4:=aM (qaF HBr.out hb4);have HK4:=aM (qaE HKr.out hb4);have HT4:=aM (Kd.R_below HT.out hb4);have HL4:=aM (qaE HL1.out hb4);have HV4:=aM (Kd.R_below HL2.out hb4);clear hb4))
   have HL5:=aM (qaI HL4.out (.cells (bC b) 68));have HK5:=aM (qaI HK4.out (.cells (bC b) 68));have HX5:=aM (qaV w4 (bC b) 68);have HB5:=aM (qaA HB4.out (.cells (bC b) 68));have HV5:=aM (Kd.R_alloc HV4.out (.cells (bC b) 68));have HT5:=aM (Kd.R_alloc HT4.out (.cells (bC b) 68))
   have HNE:=aM (show some w4.heap.size ≠ vl.ownBlock by
    obtain ⟨inner,ho4⟩:=Kd.R_own HV4.out;intro e;have:=qrN ho4 _ e.symm
    omega)
   have HLN:qaN (((qbB a i).map (·.1)).length=i∧((qbB a i).map (·.2)).length=i):=⟨by simp [qdE]⟩
   have HL':=aM (show (qbB a (i+1)).map (·.1)=(qbB a i).map (·.1) ++ [b]∧(qbB a (i+1)).map (·.2)=(qbB a i).map (·.2) ++ [is] by rw [HLS.out];simp);generalize (qbB a i).map (·.1)=L1 at HV5 HLN HL' HV4 HL2;generalize (qbB a i).map (·.2)=T1 at HT5 HLN HL' HT4 HT;generalize hW:w4.alloc (.cells (bC b) 68)=W5 at HL5 HK5 HX5 HB5 HV5 HT5 ⊢
   obtain ⟨gx,hgx⟩:∃ gx,gx=w4.heap.size:=⟨_,rfl⟩
   rw [← hgx] at HX5 HNE ⊢;clear hW hgx;have x0:=jC HX5.out 0;have x1:=jC HX5.out 1;have x2:=jC HX5.out 2;have x3:=jC HX5.out 3;have x4:=jC HX5.out 4;have x5:=jC HX5.out 5;have yl:=jC HL5.out 0
   go_upto_region 14 with (first
    | ((with_reducible refine qbC (b:=.append) (xs:=#[.tmp 45,.tmp 47]) rfl ?_);at_builtin;refine Kd.R_append qtJ (w0:=W) W.heap.size rfl (.tmp 45) (.tmp 47) 40 68 (.agg #[.int .i64 0,.int .i64 0,.int .i64 0,.int .i64 0,.int .u64 0,.bool false]) 48 rfl Tryz.underlying40 qzM rfl (by decide) (by omega) vl L1 b [.int .i64 b.f0,.int .i64 b.f1,.int .i64 b.f2,.int .i64 b.f3,.int .u64 b.f4,.bool b.f5] (fun _=>True) (fun _=>False) rfl (by first|(go_simp;done)|(go_simp;rfl)) ?aP (fun _ hk=>hk.elim) ?aF ?aO ?aB ?aS ?aL ?_;(case aP=>exact qqG _ _ _ b);(case aF=>exact (fun _ _=>trivial));(case aO=>exact HV5.out);(case aB=>exact HB5.out);(case aS=>exact qaG HB5.out);(case aL=>rw [HLN.out.1];omega);intro v7 w7 ho hb hg hat;obtain ⟨A7,c7,rfl⟩:∃ A c,v7=.slice A (i+1) c:=(by obtain ⟨A7,c7,e7⟩:=Kd.R_slice ho;exact ⟨A7,c7,by rw [e7];simp [HLN.out.1]⟩);have HV7:=aM ho;have HB7:=aM hb;have HT7:=aM (by obtain ⟨inner,hown⟩:=Kd.R_own HV5.out;exact qgN HT5.out hown (by decide) hg);have HK7:=aM (by obtain ⟨inner,hown⟩:=Kd.R_own HV5.out;exact qcX HK5.out hg (qlV hown HK5.out (by decide)));have HL7:=aM (by obtain ⟨inner,hown⟩:=Kd.R_own HV5.out;exact qcX HL5.out hg (qlV hown HL5.out (by decide)));have HX7:=aM (qcX HX5.out hg HNE.out);clear ho hb hg hat x0 x1 x2 x3 x4 x5 yl)
    | ((with_reducible refine qbC (b:=.append) (xs:=#[.tmp 49,.tmp 51]) rfl ?_);at_builtin;refine Kd.R_append Kd.bool (w0:=W) W.heap.size rfl (.tmp 49) (.tmp 51) 114 4 (.bool false) 1 rfl qlP qrW rfl (by decide) (by omega) u6 T1 is [.bool is] (fun _=>True) (fun _=>False) rfl (by first|(go_simp;done)|(go_simp;rfl)) ?aP (fun _ hk=>hk.elim) ?aF ?aO ?aB ?aS ?aL ?_;(case aP=>exact (rfl:[Value.bool is]=[Value.bool is]));(case aF=>exact (fun _ _=>trivial));(case aO=>exact HT7.out);(case aB=>exact HB7.out);(case aS=>exact qaG HB7.out);(case aL=>rw [HLN.out.2];omega);intro v8 w8 ho hb hg hat;have HT8:=aM ho;have HB8:=aM hb;have HV8:=aM (by obtain ⟨inner,hown⟩:=Kd.R_own HT7.out;exact qgN HV7.out hown (by decide) hg);have HK8:=aM (by obtain ⟨inner,hown⟩:=Kd.R_own HT7.out;exact qcX HK7.out hg (qlV hown HK7.out (by decide)));have hl8:w8.heap[gk+1]?=some (.cells #[vl] 40 (0,0)):=(by obtain ⟨inner,hown⟩:=Kd.R_own HT7.out;exact qcX HL7.out hg (qlV hown HL7.out (by decide)));have HX8:=aM (by obtain ⟨inner,hown⟩:=Kd.R_own HT7.out;exact qcX HX7.out hg (qlV hown HX7.out (by decide)));have HL8:=aM hl8;have yb:=jC hl8 0;have fb:=qaC hl8 0;clear ho hb hg hat hl8))
   generalize hW9:w8.setCell ⟨gk+1,0,none⟩ (.slice A7 (i+1) c7)=W9;have HB9:=aM (show Below W.heap.size W W9 by rw [← hW9];exact qaH HB8.out (by have:=HGK.out;omega));have HL9:=aM (show W9.heap[gk+1]?=some (.cells #[.slice A7 (i+1) c7] 40 (0,0)) by rw [← hW9];exact qaU HL8.out 0 _ rfl);have HK9:=aM (show W9.heap[gk]?=some (.cells (lkC gc a.g) 113 (0,0)) by rw [← hW9];exact qaR HK8.out (by simp) _);have HV9:=aM (show Kd.R qtJ 68 W9 W.heap.size (fun _=>True) (.slice A7 (i+1) c7) (L1 ++ [b]) by rw [← hW9];exact Kd.R_set HV8.out HL8.out (by decide) _ _);have HT9:=aM (show Kd.R Kd.bool 4 W9 W.heap.size (fun _=>True) v8 (T1 ++ [is]) by rw [← hW9];exact Kd.R_set HT8.out HL8.out (by decide) _ _);have HX9:=aM (show W9.heap[gx]?=some (.cells (bC b) 68 (0,0)) by rw [← hW9];exact qaR HX8.out (qbE HX8.out HL8.out (by decide)) _);clear hW9 yb fb
   cases is with
   | true =>
    have HS2:=aM (show qdC (qbB a (i+1))=(wrap64 (sm.1+b.f1),wrap64 (sm.2+1)) from HS.out);have x1:=jC HX9.out 1;go_wp2;go_roundw;case rel=>exact ⟨i+1,by omega,by push_cast;rfl,by rw [HS2.out],by rw [HS2.out],⟨by rw [HL'.out.2];exact HT9.out⟩,⟨_,HL9.out,by rw [HL'.out.1];exact HV9.out⟩,HK9,HB9⟩
    case measure=>simp [intOf];omega
   | false =>
    have HS2:=aM (show qdC (qbB a (i+1))=sm from HS.out);go_wp2;go_roundw;case rel=>exact ⟨i+1,by omega,by push_cast;rfl,by rw [HS2.out],by rw [HS2.out],⟨by rw [HL'.out.2];exact HT9.out⟩,⟨_,HL9.out,by rw [HL'.out.1];exact HV9.out⟩,HK9,HB9⟩
    case measure=>simp [intOf];omega
  ·obtain rfl:i=a.g.B:=by omega
   have d0:decide ((a.g.B:Int) < (a.g.B:Int))=false:=decide_eq_false (by omega)
   have HLN:qaN (((qbB a a.g.B).map (·.1)).length=a.g.B∧((qbB a a.g.B).map (·.2)).length=a.g.B):=⟨by simp [qdE]⟩
   obtain ⟨gl,cl,rfl,hgl,hcl,HRows⟩:=Rows.of_R HL2.out (by rw [HLN.out.1];omega);obtain ⟨gt,ct,rfl,hgt,hglt,tcells,hgtc⟩:=Kd.R_form HT.out (by rw [HLN.out.2];omega);have HGL:=aM hgl;have HCL:=aM hcl;have HRW:=aM HRows;have HTC:=aM hgtc;have yl:=jC HL1.out 0;clear hgl hcl HRows hgt hglt hgtc;simp only [HLN.out.1,HLN.out.2] at yl HL1 HCL ⊢;have HLL:=aM (qdE a a.g.B)
   have HTD:=aM (fun (j:Nat) (hj:j < (qbB a a.g.B).length)=>(show tcells[j]?=some (.bool (qbB a a.g.B)[j].2) by
    have h1:=qnO HT.out j (by rw [HLN.out.2];rw [HLL.out] at hj;exact hj);rw [jC HTC.out] at h1
    simpa using h1))
   have HSC:=aM (show qgF a=qoM ((qbB a a.g.B).map (qdJ (qdC (qbB a a.g.B)))) from rfl);have HLW:=aM (qtF HBY.out a.g.B);generalize qdC (qbB a a.g.B)=sm at HSC ⊢;generalize qbB a a.g.B=L at HLL HTD HSC HRW HLW;clear HT HL2 HLN HBLK
   go_upto_region 18 with (fail)
   go_loopw [63] (fun v63 w'=>∃ j:Nat,j≤L.length∧v63=.int .i64 j∧qaN (Rows w' gl (qkZ sm L j))∧qaN (w'.heap[gk+1]?=some (.cells #[.slice (some ⟨gl,0,none⟩) a.g.B cl] 40 (0,0)))∧qaN (w'.heap[gt]?=some (.cells tcells 4 (0,0)))∧qaN (Below W.heap.size W w')) (fun j _=>L.length - (intOf j).toNat);case atStart=>exact ⟨0,Nat.zero_le _,rfl,⟨by rw [qvT];exact HRW.out⟩,HL1,HTC,HBr⟩
   case round =>
    clear HL1 HTC HBr HRW yl;obtain ⟨j,hj,rfl,HRW,HL1,HTC,HBr⟩:=hrel
    by_cases hlt:j < L.length
    ·have d1:decide ((j:Int) < (a.g.B:Int))=true:=decide_eq_true (by rw [HLL.out] at hlt;omega);have hq:(j < a.g.B)=True:=eq_true (by rw [HLL.out] at hlt;exact hlt);have hqi:((j:Int) < (a.g.B:Int))=True:=eq_true (by rw [HLL.out] at hlt;omega);have HMS:=aM (qoI sm L j hlt);have HME:=aM (qvU sm L j hlt);have HMQ:=aM (qnA sm L j hlt);have HTV:=aM (HTD.out j hlt);obtain ⟨hml,hmg⟩:=List.getElem?_eq_some_iff.1 (qnA sm L j hlt);have hcs:=HRW.out.cell j hml;rw [hmg] at hcs;obtain ⟨z0,z1,z2,z3,z4,z5⟩:=hcs
     have HCN:=aM (fun v:Int=>(show Rows (wr.setCell ⟨gl,j*6+1,none⟩ (.int .i64 v)) gl ((qkZ sm L j).set j { L[j].1 with f1:=v }) by
      have:=HRW.out.count j hml v;rw [hmg] at this
      exact this))
     have HJ:=aM hlt;clear hmg hml;generalize L[j]=x at HMS HME HMQ HTV HCN z0 z1 z2 z3 z4 z5;clear hj hlt;obtain ⟨b,is⟩:=x;simp only at HMS HME HMQ HTV HCN z0 z1 z2 z3 z4 z5;have yt:=(jC HTC.out j).trans HTV.out
     go_upto_region 20 with (fail)
     have HX5:=aM (qaV wr (bC b) 68);have HL5:=aM (qaI HL1.out (.cells (bC b) 68));have HT5:=aM (qaI HTC.out (.cells (bC b) 68));have HB5:=aM (qaA HBr.out (.cells (bC b) 68))
     have hrk:∀ (o:Obj),(wr.alloc o).heap[gl]?=wr.heap[gl]?:=fun o=>by
      have h1:=HRW.out.lt;exact Below.heap_alloc wr o gl h1
     have HR5:=aM (HRW.out.keep (hrk (.cells (bC b) 68)))
     have HCN5:=aM (fun (W':World) (hW':W'.heap[gl]?=wr.heap[gl]?) (v:Int)=>(show Rows (W'.setCell ⟨gl,j*6+1,none⟩ (.int .i64 v)) gl ((qkZ sm L j).set j { b with f1:=v }) by
      have h1:=HCN.out v;obtain ⟨cells,h2,h3⟩:=HRW.out;obtain ⟨cells',h4,h5⟩:=h1;have h6:=qaU h2 (j*6+1) (.int .i64 v) rfl;rw [h6] at h4;simp only [Option.some.injEq,Obj.cells.injEq] at h4
      exact ⟨_,(qaU (hW'.trans h2) (j*6+1) (.int .i64 v) rfl).trans (by rw [h4.1]),h5⟩))
     have HRK:=aM (hrk (.cells (bC b) 68));clear hrk z0 z1 z2 z3 z4 z5 yt;generalize hW:wr.alloc (.cells (bC b) 68)=W5 at HX5 HL5 HT5 HB5 HR5 HRK ⊢;have x0:=jC HX5.out 0;have yt:=(jC HT5.out j).trans HTV.out
     have hjB:j < 256:=by
      have:=HJ.out;have:=HLL.out;omega
     clear hW
     by_cases hb0:b.f0=1
     ·have e0:(b.f0==1)=true:=by simp only [beq_iff_eq];exact hb0
      have e0n:(b.f0 != 1)=false:=by rw [bne,e0];rfl
      have HE:=aM (HME.out (by unfold qdJ;rw [if_neg (fun h=>h.1 hb0)]));clear hb0;go_wp2;go_roundw;case rel=>exact ⟨j+1,HJ.out,by push_cast;rfl,⟨by rw [HE.out];exact HR5.out⟩,HL5,HT5,HB5⟩
      case measure=>simp [intOf];have:=HJ.out;omega
     ·have e0:(b.f0==1)=false:=by simp only [beq_eq_false_iff_ne];exact hb0
      have e0n:(b.f0 != 1)=true:=by rw [bne,e0];rfl
      cases is with
      | true =>
       have HE:=aM (HME.out (by unfold qdJ;rw [if_neg (fun h=>by cases h.2.1)]));clear hb0;go_wp2;go_roundw;case rel=>exact ⟨j+1,HJ.out,by push_cast;rfl,⟨by rw [HE.out];exact HR5.out⟩,HL5,HT5,HB5⟩
       case measure=>simp [intOf];have:=HJ.out;omega
      | false =>
       by_cases hm0:0 < sm.2
       ·have e2:decide (0 < sm.2)=true:=decide_eq_true hm0;have HE:=aM (HMS.out.trans (by unfold qdJ;rw [if_pos ⟨hb0,rfl,hm0⟩]));clear hb0
        go_upto_region 21 with (fail)
        have yl5:=jC HL5.out 0;have hf5:=HR5.out.frozen (j*6+1);obtain ⟨hml,hmg⟩:=List.getElem?_eq_some_iff.1 (show (qkZ sm L j)[j]?=some _ from HMQ.out);have z1:=(HR5.out.cell j hml).2.1;rw [hmg] at z1;have hne:(sm.2==0)=false:=by simp only [beq_eq_false_iff_ne];omega
        have hne2:¬ sm.2=0:=by omega
        clear hmg hml;go_region;generalize hW9:(W5.setCell ⟨gl,j*6+1,none⟩ (.int .i64 (wrap64 (sm.1.tdiv sm.2)))).drew=W9
        have HR9:=aM (show Rows W9 gl (qkZ sm L (j+1)) by
         rw [← hW9,HE.out]
         exact (HCN5.out W5 HRK.out _).keep rfl)
        have hne9:∀ {q:Nat} {cs:Array Value} {t:TypeId},W5.heap[q]?=some (.cells cs t (0,0))→t ≠ 68→q ≠ gl:=fun hq ht e=>by
         obtain ⟨cells,h1,-⟩:=HR5.out;rw [e,h1] at hq;simp only [Option.some.injEq,Obj.cells.injEq] at hq;exact ht hq.2.1.symm
        have HL9:=aM (show W9.heap[gk+1]?=some (.cells #[.slice (some ⟨gl,0,none⟩) a.g.B cl] 40 (0,0)) by
         rw [← hW9]
         exact qaR HL5.out (hne9 HL5.out (by decide)) _)
        have HT9:=aM (show W9.heap[gt]?=some (.cells tcells 4 (0,0)) by
         rw [← hW9]
         exact qaR HT5.out (hne9 HT5.out (by decide)) _)
        have HB9:=aM (show Below W.heap.size W W9 by
         rw [← hW9]
         exact qaW (qaH HB5.out HGL.out))
        clear hW9 hne9 yl5 hf5 z1 hne hne2;go_wp2;go_roundw;case rel=>exact ⟨j+1,HJ.out,by push_cast;rfl,HR9,HL9,HT9,HB9⟩
        case measure=>simp [intOf];have:=HJ.out;omega
       ·have e2:decide (0 < sm.2)=false:=decide_eq_false hm0;have HE:=aM (HME.out (by unfold qdJ;rw [if_neg (fun h=>hm0 h.2.2)]));clear hb0 hm0;go_wp2;go_roundw;case rel=>exact ⟨j+1,HJ.out,by push_cast;rfl,⟨by rw [HE.out];exact HR5.out⟩,HL5,HT5,HB5⟩
        case measure=>simp [intOf];have:=HJ.out;omega
    ·obtain rfl:j=a.g.B:=by have:=HLL.out;omega
     have d1:decide ((a.g.B:Int) < (a.g.B:Int))=false:=decide_eq_false (by omega);have HSC2:=aM (show qgF a=qoM (qkZ sm L a.g.B) by rw [← HLL.out,qxX];exact HSC.out);have HXL:=aM (show (qkZ sm L a.g.B).length=a.g.B by rw [qxV _ _ _ (by rw [HLL.out];exact Nat.le_refl _),HLL.out]);have HLEB:=aM (qxW (s:=sm) HLW.out a.g.B);generalize qkZ sm L a.g.B=xs at HSC2 HXL HRW HLEB;have hmm:=@run_makeMap Tryz.prog;clear hj hlt
     go_upto_region 24 with (fail)
     obtain ⟨gm,hgm⟩:∃ gm,gm=wr.heap.size:=⟨_,rfl⟩
     generalize hW:(wr.alloc (.map #[] 0)).alloc (.cells #[.map (some wr.heap.size)] 117)=W6;have HM6:=aM (show W6.ownsMap Tryz.prog 3 (plainElem (H:=Unit) Tryz.prog 3) gm 0 (.map []) by rw [← hW,hgm];exact (World.ownsMap_made wr _ _ _).alloc _)
     have HN6:=aM (show W6.heap[gm+1]?=some (.cells #[.map (some gm)] 117 (0,0)) by
      have:=qaV (wr.alloc (.map #[] 0)) #[.map (some wr.heap.size)] 117;rw [World.size_alloc] at this;rw [← hW,hgm]
      exact this)
     have HL6:=aM (show W6.heap[gk+1]?=some (.cells #[.slice (some ⟨gl,0,none⟩) a.g.B cl] 40 (0,0)) by rw [← hW];exact qaI (qaI HL1.out _) _)
     have HR6:=aM (show Rows W6 gl xs by
      have hl:=HRW.out.lt;refine HRW.out.keep ?_
      rw [← hW,Below.heap_alloc _ _ _ (by simp;omega),Below.heap_alloc _ _ _ hl])
     have HB6:=aM (show Below W.heap.size W W6 by rw [← hW];exact qaA (qaA HBr.out _) _);have hsz6:W6.heap.size=gm+1+1:=by rw [← hW,hgm];simp
     have HGN:=aM (show gk+1 ≠ gl by
      obtain ⟨cells,h1,-⟩:=HR6.out;intro e;have h2:=HL6.out;rw [e,h1] at h2;simp only [Option.some.injEq,Obj.cells.injEq] at h2
      exact absurd h2.2.1 (by decide))
     have HGM:=aM (show W.heap.size≤gm∧gk+1 < gm∧gl < gm by
      have h1:=qaG HBr.out;have h2:=qbR HL1.out;have h3:=HRW.out.lt
      omega)
     rw [← hgm];clear hW hgm hmm;have yl6:=jC HL6.out 0
     go_upto_region 25 with (first
      | (go_at_call 71;(with_reducible refine (qmF _ _ _ _ _).mono ?_);rintro e w7 ⟨rfl,rfl⟩))
     have HSC3:=HSC2;have bS:=(Boxed.new W6 40 (.slice (some ⟨gl,0,none⟩) a.g.B cl)).alloc (.cells #[.int .i64 4] 3);have bT:=Boxed.new (W6.alloc (.cells #[.slice (some ⟨gl,0,none⟩) a.g.B cl] 40)) 3 (.int .i64 4);simp only [World.size_alloc,hsz6] at bS bT;generalize hW:(W6.alloc (.cells #[.slice (some ⟨gl,0,none⟩) a.g.B cl] 40)).alloc (.cells #[.int .i64 4] 3)=W7 at bS bT ⊢;have HM7:=aM (show W7.ownsMap Tryz.prog 3 (plainElem (H:=Unit) Tryz.prog 3) gm 0 (.map []) by rw [← hW];exact (HM6.out.alloc _).alloc _);have HN7:=aM (show Boxed W7 (gm+1) 117 (.map (some gm)) by rw [← hW];exact qaI (qaI HN6.out _) _);have HL7:=aM (show Boxed W7 (gk+1) 40 (.slice (some ⟨gl,0,none⟩) a.g.B cl) by rw [← hW];exact qaI (qaI HL6.out _) _)
     have HR7:=aM (show Rows W7 gl xs by
      have hl:=HR6.out.lt;refine HR6.out.keep ?_
      rw [← hW,Below.heap_alloc _ _ _ (by simp;omega),Below.heap_alloc _ _ _ hl])
     have HB7:=aM (show Below W.heap.size W W7 by rw [← hW];exact qaA (qaA HB6.out _) _);have hsz7:W7.heap.size=gm+1+1+1+1:=by rw [← hW];simp [hsz6]
     clear hW HM6 HN6 HL6 HR6 HB6 hsz6 yl6
     refine wpIn_wide.1 (qfC (F:=Fence.wide) (n:=4) rfl (by omega) trivial (gm+1+1) (gm+1+1+1) 4 (some ⟨gl,0,none⟩) cl xs rfl rfl (by rw [HXL.out];omega)
      (vcH W gm gk gl a.g.B cl xs)
      (fun pre W'=>False)
      (qyI (by omega) (by have:=HGM.out;omega))
      (ownFrom_pure _ _)
      (fun pre W' h=>by rw [HXL.out];exact h.2.1.1.1.cell) (fun pre W' h=>h.2.1.1.2.cell) (fun k W' h hi=>hi.2.2.1.entry k h)
      ⟨⟨0,_,HM7.out,rfl,qlK.empty⟩,⟨⟨bS,bT⟩,⟨HN7.out,HL7.out⟩⟩,⟨HR7.out,HB7.out⟩⟩
      (fun x a' W'=>∃ Bx,gm+4≤Bx∧W'.heap[Bx]?=some (.cells (bC x.1.2) 68 (0,0))∧a'={ tmps:=#[cp gc,undef,.slice none 0 0,.int .i64 0,.pointer (some ⟨gk,0,none⟩),.pointer (some ⟨gk+1,0,none⟩),.slice (some ⟨gt,0,none⟩) a.g.B ct,.int .i64 sm.1,.int .i64 sm.2,u9,u10,u11,u12,u13,.pointer (some ⟨gm+1,0,none⟩),.int .i64 (x.1.1:Int),.pointer (some ⟨Bx,0,none⟩),undef,undef,undef,undef,cp gc,.bool false,cp gc,.bool true,.bool false,cp gc,cp gc,gV a.g.B a.g.P a.g.Z a.g.R,.agg #[cp gc,.int .i64 a.g.B,.int .i64 a.g.P,.int .i64 a.g.Z,.int .i64 a.g.R],.pointer (some ⟨gk,0,none⟩),.pointer (some ⟨gk,0,none⟩),.pointer (some ⟨gk,0,none⟩),.pointer (some ⟨gk,1,none⟩),.pointer (some ⟨gk,1,none⟩),.int .i64 a.g.B,.int .i64 a.g.B,.bool false,u38,u39,u40,u41,u42,u43,u44,u45,u46,u47,u48,u49,u50,u51,u52,u53,u54,u55,u56,u57,u58,u59,u60,.slice (some ⟨gl,0,none⟩) a.g.B cl,.int .i64 a.g.B,.int .i64 a.g.B,.bool false,u65,u66,u67,u68,u69,u70,u71,u72,u73,u74,u75,u76,u77,u78,u79,u80,u81,u82,u83,u84,u85,u86,u87,u88,u89,.map (some gm),.slice (some ⟨gl,0,none⟩) a.g.B cl,.func (.func 125) #[] #[.pointer (some ⟨gm+1+1,0,none⟩),.pointer (some ⟨gm+1+1+1,0,none⟩)],.int .i64 (x.1.1:Int),.agg (bC x.1.2),undef,undef,undef,undef,undef,undef,undef,undef,undef,undef,undef,undef,undef,undef,undef,undef,undef,undef,undef,undef,undef,undef,undef,undef,undef,undef,undef,undef,undef,undef,undef,undef,undef,undef,undef,undef,undef,undef,undef,undef],defers:=[] })
      (fun x a' _ X Y row hs hg hrow=>by obtain ⟨Bx,h1,h2,h3⟩:=hs;exact ⟨Bx,h1,qiC (β:=Unit) Bx 68 (bC x.1.2) () X Y row h2 hg (fun r e=>(hrow r e).2),h3⟩)
      ?assign ?body ?done ?stop)
     case stop=>rintro k hk W' hs h hK;exact h.elim
     case assign =>
      rintro l pre x W8 K ⟨⟨n,D,hm,hn,hD⟩,⟨⟨bS1,bT1⟩,⟨bN1,bL1⟩⟩,⟨hR1,hB1⟩⟩ hK;have hs1:gm+1+1+1 < W8.heap.size:=(Array.getElem?_eq_some_iff.1 (show W8.heap[gm+1+1+1]?=_ from bT1)).1;have HI:=aM hK;have HM1:=aM hm;have HR1:=aM hR1;clear hK hm hR1;simp only [qzO]
      gi_wp2
      exact HI.out _ _ ((KeepsOthers.alloc _ _).from _) ⟨⟨n,D,HM1.out.alloc _,hn,hD⟩,⟨⟨bS1.alloc _,bT1.alloc _⟩,⟨bN1.alloc _,bL1.alloc _⟩⟩,⟨HR1.out.keep (Below.heap_alloc _ _ _ HR1.out.lt),qaA hB1 _⟩⟩ ⟨W8.heap.size,by omega,World.alloc_heap_new W8 _,rfl⟩
     case body =>
      rintro l pre x a' W8 hinv ⟨Bx,hBx,bX,rfl⟩ hlt;have HINV:=aM hinv;obtain ⟨⟨n,D,hm,hn,hD⟩,⟨⟨bS1,bT1⟩,⟨bN1,bL1⟩⟩,⟨hR1,hB1⟩⟩:=hinv;have HM1:=aM hm;have HR1:=aM hR1;have HD1:=aM hD;have HB1:=aM hB1;have HBX:=aM bX;have HBN:=aM bN1;have HBL:=aM bL1;have HBS:=aM bS1;have HBT:=aM bT1;have HXI:=aM x.2.1;have cX2:=jC bX 2;have cX:W8.cell? ⟨Bx,4,none⟩=some (.int .u64 x.1.2.f4):=jC bX 4;have cN:=bN1.cell;have cS:=bL1.cell;have hlb:0≤x.1.2.f2∧x.1.2.f2 < 256:=HLEB.out _ (List.mem_of_getElem? x.2.2);have HWF:=aM (qzF hlb);have hn2:n < 256:=by have:=HXL.out;omega
      have HNE:=aM (show qiH (pre ++ [x])=vaX (qiH pre) x by simp [qiH,List.foldl_append]);have HHAS:=aM (hD.2 x.1.2.f2).1;have HAT:=aM (hD.2 x.1.2.f2).2;have HN:=aM hn;have HWI:=aM (show (Lit.int .i64 (x.1.1:Int)).wf=true from WalkArith.wf_i64 (by have:=x.2.1;have:=HXL.out;omega))
      have HKL:qaN (∀ l k,qiH pre l=some k→k < xs.length):=⟨vaY pre⟩
      clear hm hR1 hD hB1 bX bN1 bL1 bS1 bT1
      cases hf:qiH pre x.1.2.f2 with
      | none =>
       rw [hf] at HHAS
       have HNE2:=aM (show qiH (pre ++ [x])=fun l=>if l=x.1.2.f2 then some x.1.1 else qiH pre l by
        rw [HNE.out];funext l;unfold vaX
        by_cases h:l=x.1.2.f2
        ·rw [if_pos h,if_pos h,h,hf]
        ·rw [if_neg h,if_neg h])
       clear hf HAT HNE
       gi_wp2_with (first|(gi_at_lookup;refine wpListIn_lookup_own_ok_int _ rfl _ _ 117 rfl 3 3 .i64 qkM (by kernel_rfl) Tryz.underlying3 (qjS _) gm n D rfl HM1.out _ _ rfl (Maps.keyOf_int_mk Tryz.underlying3 HWF.out) ?_;intro c hat hwc;rw [HHAS.out];clear hat hwc))
       refine Reg.detIn [(0,102,?r1v0),(1,103,?r1v1),(2,104,?r1v2),(3,105,undef),(4,106,undef),(5,107,undef),(6,108,undef),(7,109,undef),(8,110,undef),(9,111,undef),(10,112,undef),(11,113,?r1v11)] (fun w'=>w'.heap=W8.heap∧Below W8.heap.size W8 w') (by rfl) rfl (by rfl) (by rintro ⟨_,_,h⟩;exact h) (by kernel_rfl) ?r1S ?r1steps ?r1okv ?r1hlt ?r1fin;case r1S=>exact ⟨rfl,qaW (Below.refl _ _)⟩
       case r1steps =>
        refine Reg.fS 0 rfl rfl (fun a w hS hK K hC=>?_) ?_
        ·refine Reg.sO ?_;have e18:=hK.off 18 _ rfl rfl;clear hK;go_simp;exact hC _ hS
        refine Reg.fS 1 rfl rfl (fun a w hS hK K hC=>?_) ?_
        ·refine Reg.sO ?_;have e102:=hK.sl 0 rfl;clear hK;go_simp;exact hC _ hS
        refine Reg.fS 2 rfl rfl (fun a w hS hK K hC=>?_) ?_
        ·refine Reg.sO ?_;have e103:=hK.sl 1 rfl;clear hK;go_simp;exact hC _ hS
        refine Reg.fS 3 rfl rfl (fun a w hS hK K hC=>?_) ?_
        ·refine Reg.step_off (qaO (g:=2) rfl rfl rfl (hK.sl 2 rfl)) ?_;exact hC _ hS
        refine Reg.fS 4 rfl rfl (fun a w hS hK K hC=>?_) ?_
        ·refine Reg.step_off (qaO (g:=2) rfl rfl rfl (hK.sl 2 rfl)) ?_;exact hC _ hS
        refine Reg.fS 5 rfl rfl (fun a w hS hK K hC=>?_) ?_
        ·refine Reg.step_off (qaO (g:=2) rfl rfl rfl (hK.sl 2 rfl)) ?_;exact hC _ hS
        refine Reg.fS 6 rfl rfl (fun a w hS hK K hC=>?_) ?_
        ·refine Reg.step_off (qaO (g:=2) rfl rfl rfl (hK.sl 2 rfl)) ?_;exact hC _ hS
        refine Reg.fS 7 rfl rfl (fun a w hS hK K hC=>?_) ?_
        ·refine Reg.step_off (qaO (g:=2) rfl rfl rfl (hK.sl 2 rfl)) ?_;exact hC _ hS
        refine Reg.fS 8 rfl rfl (fun a w hS hK K hC=>?_) ?_
        ·refine Reg.step_off (qaO (g:=2) rfl rfl rfl (hK.sl 2 rfl)) ?_;exact hC _ hS
        refine Reg.fS 9 rfl rfl (fun a w hS hK K hC=>?_) ?_
        ·refine Reg.step_off (qaO (g:=2) rfl rfl rfl (hK.sl 2 rfl)) ?_;exact hC _ hS
        refine Reg.fS 10 rfl rfl (fun a w hS hK K hC=>?_) ?_
        ·refine Reg.step_off (qaO (g:=2) rfl rfl rfl (hK.sl 2 rfl)) ?_;exact hC _ hS
        refine Reg.fS 11 rfl rfl (fun a w hS hK K hC=>?_) ?_
        ·refine Reg.sO ?_;have e104:=hK.sl 2 rfl;have e112:=hK.sl 10 rfl;clear hK;go_simp;exact hC _ hS
        exact Reg.from_nil
       case r1okv=>rfl
       case r1hlt=>rfl
       case r1fin =>
        intro wz hS;simp only [Reg.putV,List.foldl_cons,List.foldl_nil,Act.put,List.setIfInBounds_toArray,List.set_cons_zero,List.set_cons_succ];have HS1:=aM hS.1;have HS2:=aM hS.2;have zN:=(qaS hS.1 _).trans cN;have zX:=(qaS hS.1 _).trans cX2;have HMz:=aM (qgJ hS.1 HM1.out);clear hS
        gi_wp2_with (first|(gi_at_mapUpdate;refine wpListIn_mapUpdate_own _ rfl _ _ _ 117 rfl 3 3 qkM (by kernel_rfl) (plainElem (H:=Unit) Tryz.prog 3) gm n D rfl HMz.out (by unfold maxLen;omega) _ _ _ rfl rfl (Maps.keyOf_int_mk Tryz.underlying3 HWF.out) _ [] (plainElem_int Tryz.underlying3 HWI.out) ?_;intro w1 hown1 hgrow1;have HO1:=aM hown1;have HG1:=aM hgrow1;clear hown1 hgrow1))
        exact qrV HINV.out HS1.out HS2.out HO1.out HG1.out HN.out HD1.out (by omega) HGM.out.2.1 HGM.out.2.2 HGM.out.1 HNE2.out
      | some k =>
       rw [hf] at HHAS;have HCK:=aM (HAT.out k hf);have hk:k < xs.length:=HKL.out _ _ hf;obtain ⟨-,-,-,-,cK,-⟩:=HR1.out.cell k hk;have hqk:(k < a.g.B)=True:=eq_true (by have:=HXL.out;omega);have hqki:((k:Int) < (a.g.B:Int))=True:=eq_true (by have:=HXL.out;omega);have HXK:=aM (qkR (xs:=xs) hk)
       have HNS:=aM (show qiH (pre ++ [x])=fun l=>if l=x.1.2.f2 then (if xs[k].f4 < x.1.2.f4 then some x.1.1 else some k) else qiH pre l by
        rw [HNE.out];funext l;unfold vaX
        by_cases h:l=x.1.2.f2
        ·rw [if_pos h,if_pos h,h,hf,← HXK.out]
        ·rw [if_neg h,if_neg h])
       have HSM:=aM (show (fun l=>if l=x.1.2.f2 then some k else qiH pre l)=qiH pre by
        funext l
        by_cases h:l=x.1.2.f2
        ·rw [if_pos h,h,hf]
        ·rw [if_neg h])
       generalize xs[k].f4=fk at cK HNS;clear hf HAT HNE HXK
       by_cases hnw:fk < x.1.2.f4
       ·have d2:decide (fk < x.1.2.f4)=true:=decide_eq_true hnw;have HNE2:=aM (show qiH (pre ++ [x])=fun l=>if l=x.1.2.f2 then some x.1.1 else qiH pre l by rw [HNS.out];simp only [if_pos hnw]);clear hnw HNS
        gi_wp2_with (first|(gi_at_lookup;refine wpListIn_lookup_own_ok_int _ rfl _ _ 117 rfl 3 3 .i64 qkM (by kernel_rfl) Tryz.underlying3 (qjS _) gm n D rfl HM1.out _ _ rfl (Maps.keyOf_int_mk Tryz.underlying3 HWF.out) ?_;intro c hat hwc;obtain rfl:c=(k:Int):=(by have:=hat.symm.trans HCK.out;simpa using this);rw [HHAS.out];clear hat hwc))
        refine Reg.detIn [(0,102,?r2v0),(1,103,?r2v1),(2,104,?r2v2),(3,105,?r2v3),(4,106,?r2v4),(5,107,?r2v5),(6,108,?r2v6),(7,109,?r2v7),(8,110,?r2v8),(9,111,?r2v9),(10,112,?r2v10),(11,113,?r2v11)] (fun w'=>w'.heap=W8.heap∧Below W8.heap.size W8 w') (by rfl) rfl (by rfl) (by rintro ⟨_,_,h⟩;exact h) (by kernel_rfl) ?r2S ?r2steps ?r2okv ?r2hlt ?r2fin;case r2S=>exact ⟨rfl,qaW (Below.refl _ _)⟩
        case r2steps =>
         refine Reg.fS 0 rfl rfl (fun a w hS hK K hC=>?_) ?_
         ·refine Reg.sO ?_;have e18:=hK.off 18 _ rfl rfl;clear hK;go_simp;exact hC _ hS
         refine Reg.fS 1 rfl rfl (fun a w hS hK K hC=>?_) ?_
         ·refine Reg.sO ?_;have e102:=hK.sl 0 rfl;clear hK;go_simp;exact hC _ hS
         refine Reg.fS 2 rfl rfl (fun a w hS hK K hC=>?_) ?_
         ·refine Reg.sO ?_;have e103:=hK.sl 1 rfl;clear hK;go_simp;exact hC _ hS
         refine Reg.fS 3 rfl rfl (fun a w hS hK K hC=>?_) ?_
         ·refine Reg.step_on (qaL (g:=2) rfl rfl rfl (hK.sl 2 rfl)) ?_;have e16:=hK.off 16 _ rfl rfl;clear hK;go_simp;exact hC _ hS
         refine Reg.fS 4 rfl rfl (fun a w hS hK K hC=>?_) ?_
         ·refine Reg.step_on (qaL (g:=2) rfl rfl rfl (hK.sl 2 rfl)) ?_;have e105:=hK.sl 3 rfl;have zs:=(qaS hS.1 _).trans cS;have zx:=(qaS hS.1 _).trans cX;have zk:=(qaS hS.1 _).trans cK;clear hK;go_simp;exact hC _ hS
         refine Reg.fS 5 rfl rfl (fun a w hS hK K hC=>?_) ?_
         ·refine Reg.step_on (qaL (g:=2) rfl rfl rfl (hK.sl 2 rfl)) ?_;have e5:=hK.off 5 _ rfl rfl;have zs:=(qaS hS.1 _).trans cS;have zx:=(qaS hS.1 _).trans cX;have zk:=(qaS hS.1 _).trans cK;clear hK;go_simp;exact hC _ hS
         refine Reg.fS 6 rfl rfl (fun a w hS hK K hC=>?_) ?_
         ·refine Reg.step_on (qaL (g:=2) rfl rfl rfl (hK.sl 2 rfl)) ?_;have e17:=hK.off 17 _ rfl rfl;clear hK;go_simp;exact hC _ hS
         refine Reg.fS 7 rfl rfl (fun a w hS hK K hC=>?_) ?_
         ·refine Reg.step_on (qaL (g:=2) rfl rfl rfl (hK.sl 2 rfl)) ?_;have e107:=hK.sl 5 rfl;have e108:=hK.sl 6 rfl;clear hK;go_simp;exact hC _ hS
         refine Reg.fS 8 rfl rfl (fun a w hS hK K hC=>?_) ?_
         ·refine Reg.step_on (qaL (g:=2) rfl rfl rfl (hK.sl 2 rfl)) ?_;have e109:=hK.sl 7 rfl;clear hK;go_simp;exact hC _ hS
         refine Reg.fS 9 rfl rfl (fun a w hS hK K hC=>?_) ?_
         ·refine Reg.step_on (qaL (g:=2) rfl rfl rfl (hK.sl 2 rfl)) ?_;have e110:=hK.sl 8 rfl;have zs:=(qaS hS.1 _).trans cS;have zx:=(qaS hS.1 _).trans cX;have zk:=(qaS hS.1 _).trans cK;clear hK;go_simp;exact hC _ hS
         refine Reg.fS 10 rfl rfl (fun a w hS hK K hC=>?_) ?_
         ·refine Reg.step_on (qaL (g:=2) rfl rfl rfl (hK.sl 2 rfl)) ?_;have e106:=hK.sl 4 rfl;have e111:=hK.sl 9 rfl;clear hK;go_simp;exact hC _ hS
         refine Reg.fS 11 rfl rfl (fun a w hS hK K hC=>?_) ?_
         ·refine Reg.sO ?_;have e104:=hK.sl 2 rfl;have e112:=hK.sl 10 rfl;clear hK;go_simp;exact hC _ hS
         exact Reg.from_nil
        case r2okv=>rfl
        case r2hlt=>rfl
        case r2fin =>
         intro wz hS;simp only [Reg.putV,List.foldl_cons,List.foldl_nil,Act.put,List.setIfInBounds_toArray,List.set_cons_zero,List.set_cons_succ];have HS1:=aM hS.1;have HS2:=aM hS.2;have zN:=(qaS hS.1 _).trans cN;have zX:=(qaS hS.1 _).trans cX2;have HMz:=aM (qgJ hS.1 HM1.out);clear hS
         gi_wp2_with (first|(gi_at_mapUpdate;refine wpListIn_mapUpdate_own _ rfl _ _ _ 117 rfl 3 3 qkM (by kernel_rfl) (plainElem (H:=Unit) Tryz.prog 3) gm n D rfl HMz.out (by unfold maxLen;omega) _ _ _ rfl rfl (Maps.keyOf_int_mk Tryz.underlying3 HWF.out) _ [] (plainElem_int Tryz.underlying3 HWI.out) ?_;intro w1 hown1 hgrow1;have HO1:=aM hown1;have HG1:=aM hgrow1;clear hown1 hgrow1))
         exact qrV HINV.out HS1.out HS2.out HO1.out HG1.out HN.out HD1.out (by omega) HGM.out.2.1 HGM.out.2.2 HGM.out.1 HNE2.out
       ·have d2:decide (fk < x.1.2.f4)=false:=decide_eq_false hnw;have HNE2:=aM (show qiH (pre ++ [x])=qiH pre by rw [HNS.out];simp only [if_neg hnw];exact HSM.out);clear hnw HNS
        gi_wp2_with (first|(gi_at_lookup;refine wpListIn_lookup_own_ok_int _ rfl _ _ 117 rfl 3 3 .i64 qkM (by kernel_rfl) Tryz.underlying3 (qjS _) gm n D rfl HM1.out _ _ rfl (Maps.keyOf_int_mk Tryz.underlying3 HWF.out) ?_;intro c hat hwc;obtain rfl:c=(k:Int):=(by have:=hat.symm.trans HCK.out;simpa using this);rw [HHAS.out];clear hat hwc))
        refine Reg.detIn [(0,102,?r3v0),(1,103,?r3v1),(2,104,?r3v2),(3,105,?r3v3),(4,106,?r3v4),(5,107,?r3v5),(6,108,?r3v6),(7,109,?r3v7),(8,110,?r3v8),(9,111,?r3v9),(10,112,?r3v10),(11,113,?r3v11)] (fun w'=>w'.heap=W8.heap∧Below W8.heap.size W8 w') (by rfl) rfl (by rfl) (by rintro ⟨_,_,h⟩;exact h) (by kernel_rfl) ?r3S ?r3steps ?r3okv ?r3hlt ?r3fin;case r3S=>exact ⟨rfl,qaW (Below.refl _ _)⟩
        case r3steps =>
         refine Reg.fS 0 rfl rfl (fun a w hS hK K hC=>?_) ?_
         ·refine Reg.sO ?_;have e18:=hK.off 18 _ rfl rfl;clear hK;go_simp;exact hC _ hS
         refine Reg.fS 1 rfl rfl (fun a w hS hK K hC=>?_) ?_
         ·refine Reg.sO ?_;have e102:=hK.sl 0 rfl;clear hK;go_simp;exact hC _ hS
         refine Reg.fS 2 rfl rfl (fun a w hS hK K hC=>?_) ?_
         ·refine Reg.sO ?_;have e103:=hK.sl 1 rfl;clear hK;go_simp;exact hC _ hS
         refine Reg.fS 3 rfl rfl (fun a w hS hK K hC=>?_) ?_
         ·refine Reg.step_on (qaL (g:=2) rfl rfl rfl (hK.sl 2 rfl)) ?_;have e16:=hK.off 16 _ rfl rfl;clear hK;go_simp;exact hC _ hS
         refine Reg.fS 4 rfl rfl (fun a w hS hK K hC=>?_) ?_
         ·refine Reg.step_on (qaL (g:=2) rfl rfl rfl (hK.sl 2 rfl)) ?_;have e105:=hK.sl 3 rfl;have zs:=(qaS hS.1 _).trans cS;have zx:=(qaS hS.1 _).trans cX;have zk:=(qaS hS.1 _).trans cK;clear hK;go_simp;exact hC _ hS
         refine Reg.fS 5 rfl rfl (fun a w hS hK K hC=>?_) ?_
         ·refine Reg.step_on (qaL (g:=2) rfl rfl rfl (hK.sl 2 rfl)) ?_;have e5:=hK.off 5 _ rfl rfl;have zs:=(qaS hS.1 _).trans cS;have zx:=(qaS hS.1 _).trans cX;have zk:=(qaS hS.1 _).trans cK;clear hK;go_simp;exact hC _ hS
         refine Reg.fS 6 rfl rfl (fun a w hS hK K hC=>?_) ?_
         ·refine Reg.step_on (qaL (g:=2) rfl rfl rfl (hK.sl 2 rfl)) ?_;have e17:=hK.off 17 _ rfl rfl;clear hK;go_simp;exact hC _ hS
         refine Reg.fS 7 rfl rfl (fun a w hS hK K hC=>?_) ?_
         ·refine Reg.step_on (qaL (g:=2) rfl rfl rfl (hK.sl 2 rfl)) ?_;have e107:=hK.sl 5 rfl;have e108:=hK.sl 6 rfl;clear hK;go_simp;exact hC _ hS
         refine Reg.fS 8 rfl rfl (fun a w hS hK K hC=>?_) ?_
         ·refine Reg.step_on (qaL (g:=2) rfl rfl rfl (hK.sl 2 rfl)) ?_;have e109:=hK.sl 7 rfl;clear hK;go_simp;exact hC _ hS
         refine Reg.fS 9 rfl rfl (fun a w hS hK K hC=>?_) ?_
         ·refine Reg.step_on (qaL (g:=2) rfl rfl rfl (hK.sl 2 rfl)) ?_;have e110:=hK.sl 8 rfl;have zs:=(qaS hS.1 _).trans cS;have zx:=(qaS hS.1 _).trans cX;have zk:=(qaS hS.1 _).trans cK;clear hK;go_simp;exact hC _ hS
         refine Reg.fS 10 rfl rfl (fun a w hS hK K hC=>?_) ?_
         ·refine Reg.step_on (qaL (g:=2) rfl rfl rfl (hK.sl 2 rfl)) ?_;have e106:=hK.sl 4 rfl;have e111:=hK.sl 9 rfl;clear hK;go_simp;exact hC _ hS
         refine Reg.fS 11 rfl rfl (fun a w hS hK K hC=>?_) ?_
         ·refine Reg.sO ?_;have e104:=hK.sl 2 rfl;have e112:=hK.sl 10 rfl;clear hK;go_simp;exact hC _ hS
         exact Reg.from_nil
        case r3okv=>rfl
        case r3hlt=>rfl
        case r3fin =>
         intro wz hS;simp only [Reg.putV,List.foldl_cons,List.foldl_nil,Act.put,List.setIfInBounds_toArray,List.set_cons_zero,List.set_cons_succ];have HS1:=aM hS.1;have HS2:=aM hS.2;clear hS
         gi_wp2
         exact qwA HINV.out HS1.out HS2.out HNE2.out
     case done =>
      rintro W8 ⟨⟨n,D,hm,hn,hD⟩,⟨⟨bS1,bT1⟩,⟨bN1,bL1⟩⟩,⟨hR1,hB1⟩⟩ hK;rw [qrQ xs xs.length (Nat.le_refl _)] at hD
      obtain ⟨nw,hnw⟩:∃ nw,nw=qiM xs xs.length:=⟨_,rfl⟩
      rw [← hnw] at hD;have HNW:=aM hnw;clear hnw;have HM8:=aM hm;have HD8:=aM hD;have HN8:=aM bN1;have HL8:=aM bL1;have HR8:=aM hR1;have HB8:=aM hB1;have HK8:=aM hK
      have HSZ8:=aM (show gm+1+1+1+1 < W8.heap.size by
       have:=(Array.getElem?_eq_some_iff.1 hK).1
       omega)
      have yl8:=bL1.cell;clear hm hn hD bS1 bT1 bN1 bL1 hR1 hB1 hK
      go_upto_region 31 with (first
       | (go_at_call 71;(with_reducible refine (qmF _ _ _ _ _).mono ?_);rintro e w9 ⟨rfl,rfl⟩))
      obtain ⟨gb,hgb⟩:∃ gb,gb=W8.heap.size:=⟨_,rfl⟩
      have bS:=(Boxed.new W8 40 (.slice (some ⟨gl,0,none⟩) a.g.B cl)).alloc (.cells #[.int .i64 4] 3);have bT:=Boxed.new (W8.alloc (.cells #[.slice (some ⟨gl,0,none⟩) a.g.B cl] 40)) 3 (.int .i64 4);simp only [World.size_alloc,← hgb] at bS bT;generalize hW:(W8.alloc (.cells #[.slice (some ⟨gl,0,none⟩) a.g.B cl] 40)).alloc (.cells #[.int .i64 4] 3)=W9 at bS bT ⊢;have HM9:=aM (show W9.ownsMap Tryz.prog 3 (plainElem (H:=Unit) Tryz.prog 3) gm n D by rw [← hW];exact (HM8.out.alloc _).alloc _);have HN9:=aM (show Boxed W9 (gm+1) 117 (.map (some gm)) by rw [← hW];exact (HN8.out.alloc _).alloc _);have HL9:=aM (show Boxed W9 (gk+1) 40 (.slice (some ⟨gl,0,none⟩) a.g.B cl) by rw [← hW];exact (HL8.out.alloc _).alloc _)
      have HR9:=aM (show Rows W9 gl xs by
       have hl:=HR8.out.lt;refine HR8.out.keep ?_
       rw [← hW,Below.heap_alloc _ _ _ (by simp;omega),Below.heap_alloc _ _ _ hl])
      have HK9:=aM (show W9.heap[W7.heap.size]?=some (.deferred (some [])) by
       have hl:=(Array.getElem?_eq_some_iff.1 HK8.out).1;rw [← hW,Below.heap_alloc _ _ _ (by simp;omega),Below.heap_alloc _ _ _ hl]
       exact HK8.out)
      have HB9:=aM (show Below W.heap.size W W9 by rw [← hW];exact qaA (qaA HB8.out _) _);have hsz9:W9.heap.size=gb+1+1:=by rw [← hW,hgb];simp
      have HGB:=aM (show gm+1+1+1+1 < gb by rw [hgb];exact HSZ8.out);rw [← hgb];clear hW hgb yl8 HM8 HN8 HL8 HR8 HK8 HB8 HSZ8
      refine wpIn_wide.1 (qfC (F:=Fence.wide) (n:=4) rfl (by omega) trivial gb (gb+1) 4 (some ⟨gl,0,none⟩) cl xs rfl rfl (by rw [HXL.out];omega)
       (vcG W gm gk gl gb a.g.B cl W7.heap.size n D nw xs)
       (fun pre W'=>False)
       (qyH (by have:=HGB.out;omega) (by have:=HGB.out;omega) (by have:=HGM.out;have:=HGB.out;omega))
       (ownFrom_pure _ _)
       (fun pre W' h=>by rw [HXL.out];exact h.2.1.1.1.cell) (fun pre W' h=>h.2.1.1.2.cell) (fun k W' h hi=>by
        obtain ⟨hl,he⟩:=List.getElem?_eq_some_iff.1 (quB nw xs k h);have:=hi.2.2.1.entry k hl;rw [he] at this
        exact this)
       ⟨⟨HM9.out,HK9.out⟩,⟨⟨bS,bT⟩,⟨HN9.out,HL9.out⟩⟩,⟨HR9.out,HB9.out⟩⟩
       (fun x a' W'=>∃ Bx,gb+2≤Bx∧W'.heap[Bx]?=some (.cells (bC x.1.2) 68 (0,0))∧a'={ tmps:=#[cp gc,undef,.slice none 0 0,.int .i64 0,.pointer (some ⟨gk,0,none⟩),.pointer (some ⟨gk+1,0,none⟩),.slice (some ⟨gt,0,none⟩) a.g.B ct,.int .i64 sm.1,.int .i64 sm.2,u9,u10,u11,u12,u13,.pointer (some ⟨gm+1,0,none⟩),undef,undef,undef,undef,.int .i64 (x.1.1:Int),.pointer (some ⟨Bx,0,none⟩),cp gc,.bool false,cp gc,.bool true,.bool false,cp gc,cp gc,gV a.g.B a.g.P a.g.Z a.g.R,.agg #[cp gc,.int .i64 a.g.B,.int .i64 a.g.P,.int .i64 a.g.Z,.int .i64 a.g.R],.pointer (some ⟨gk,0,none⟩),.pointer (some ⟨gk,0,none⟩),.pointer (some ⟨gk,0,none⟩),.pointer (some ⟨gk,1,none⟩),.pointer (some ⟨gk,1,none⟩),.int .i64 a.g.B,.int .i64 a.g.B,.bool false,u38,u39,u40,u41,u42,u43,u44,u45,u46,u47,u48,u49,u50,u51,u52,u53,u54,u55,u56,u57,u58,u59,u60,.slice (some ⟨gl,0,none⟩) a.g.B cl,.int .i64 a.g.B,.int .i64 a.g.B,.bool false,u65,u66,u67,u68,u69,u70,u71,u72,u73,u74,u75,u76,u77,u78,u79,u80,u81,u82,u83,u84,u85,u86,u87,u88,u89,.map (some gm),.slice (some ⟨gl,0,none⟩) a.g.B cl,.func (.func 125) #[] #[.pointer (some ⟨gm+1+1,0,none⟩),.pointer (some ⟨gm+1+1+1,0,none⟩)],undef,undef,undef,undef,undef,undef,undef,undef,undef,undef,undef,undef,undef,undef,undef,undef,undef,undef,undef,undef,undef,undef,undef,undef,undef,.slice (some ⟨gl,0,none⟩) a.g.B cl,.func (.func 125) #[] #[.pointer (some ⟨gb,0,none⟩),.pointer (some ⟨gb+1,0,none⟩)],.int .i64 (x.1.1:Int),.agg (bC x.1.2),undef,undef,undef,undef,undef,undef,undef,undef,undef,undef,undef,undef,undef],defers:=[] })
       (fun x a' _ X Y row hs hg hrow=>by obtain ⟨Bx,h1,h2,h3⟩:=hs;exact ⟨Bx,h1,qiC (β:=Unit) Bx 68 (bC x.1.2) () X Y row h2 hg (fun r e=>(hrow r e).2),h3⟩)
       ?assign ?body ?done ?stop)
      case stop=>rintro k hk W' hs h hK;exact h.elim
      case assign =>
       rintro l pre x W8 K hinv hK;have HINV:=aM hinv;have hs1:gb+1 < W8.heap.size:=(Array.getElem?_eq_some_iff.1 (show W8.heap[gb+1]?=_ from hinv.2.1.1.2)).1;have HI:=aM hK;clear hK hinv;simp only [qzO]
       gi_wp2
       obtain ⟨⟨hm,hd⟩,⟨⟨bS1,bT1⟩,⟨bN1,bL1⟩⟩,⟨hR1,hB1⟩⟩:=HINV.out;exact HI.out _ _ ((KeepsOthers.alloc _ _).from _) ⟨⟨hm.alloc _,(Below.heap_alloc _ _ _ (Array.getElem?_eq_some_iff.1 hd).1).trans hd⟩,⟨⟨bS1.alloc _,bT1.alloc _⟩,⟨bN1.alloc _,bL1.alloc _⟩⟩,⟨hR1.keep (Below.heap_alloc _ _ _ hR1.lt),qaA hB1 _⟩⟩ ⟨W8.heap.size,by omega,World.alloc_heap_new W8 _,rfl⟩
      case body =>
       rintro l pre x a' W8 hinv ⟨Bx,hBx,bX,rfl⟩ hlt;have HINV:=aM hinv;have HM1:=aM hinv.1.1;have cX2:=jC bX 2;have cX1:=jC bX 1;have cN:=hinv.2.1.2.1.cell;have cS:=hinv.2.1.2.2.cell;have hlb:0≤x.1.2.f2∧x.1.2.f2 < 256:=HLEB.out _ (List.mem_of_getElem? x.2.2);have HWF:=aM (qzF hlb);have HGD:=aM (HD8.out.getD x.1.2.f2);have hx:x.1.1 < (qnJ nw pre).length:=by rw [qsD];exact x.2.1
       obtain ⟨z0,z1,z2,z3,z4,z5⟩:=hinv.2.2.1.cell x.1.1 hx;have fz:=hinv.2.2.1.frozen;have fr0:=fz (x.1.1*6);have fr1:=fz (x.1.1*6+1);have fr2:=fz (x.1.1*6+2);have fr3:=fz (x.1.1*6+3);have fr4:=fz (x.1.1*6+4);have fr5:=fz (x.1.1*6+5);have hqk:(x.1.1 < a.g.B)=True:=eq_true (by have:=HXL.out;have:=x.2.1;omega);have hqki:((x.1.1:Int) < (a.g.B:Int))=True:=eq_true (by have:=HXL.out;have:=x.2.1;omega);generalize (qnJ nw pre)[x.1.1]=y at z0 z1 z2 z3 z4 z5;clear hinv bX fz hx hlb
       by_cases hq:(nw x.1.2.f2).getD 0=x.1.1
       ·have HQ:=aM hq;have en:(((((nw x.1.2.f2).getD 0:Nat):Int)) != (x.1.1:Int))=false:=by rw [hq];simp
        have HEN:=aM en;clear en hq
        gi_wp2_with (first|(gi_at_lookup;refine wpListIn_lookup_own_int _ rfl _ _ 117 rfl 3 3 .i64 qkM (by kernel_rfl) Tryz.underlying3 (qjS _) gm n D rfl HM1.out _ _ rfl (Maps.keyOf_int_mk Tryz.underlying3 HWF.out) ?_;intro c hat hwc;obtain rfl:c=(((nw x.1.2.f2).getD 0:Nat):Int):=(by have:=hat.symm.trans HGD.out;simpa using this);have en:=HEN.out;clear hat hwc))
        exact qvZ HINV.out HQ.out
       ·have HQ:=aM hq;have en:(((((nw x.1.2.f2).getD 0:Nat):Int)) != (x.1.1:Int))=true:=by simp only [bne_iff_ne];omega
        have HEN:=aM en;clear en hq
        gi_wp2_with (first|(gi_at_lookup;refine wpListIn_lookup_own_int _ rfl _ _ 117 rfl 3 3 .i64 qkM (by kernel_rfl) Tryz.underlying3 (qjS _) gm n D rfl HM1.out _ _ rfl (Maps.keyOf_int_mk Tryz.underlying3 HWF.out) ?_;intro c hat hwc;obtain rfl:c=(((nw x.1.2.f2).getD 0:Nat):Int):=(by have:=hat.symm.trans HGD.out;simpa using this);have en:=HEN.out;clear hat hwc))
        exact qyG HINV.out HQ.out HGM.out.2.2 (by omega) (by have:=HGB.out;omega) HGN.out HGL.out
      case done =>
       rintro W10 ⟨⟨hm,hd⟩,⟨⟨bS1,bT1⟩,⟨bN1,bL1⟩⟩,⟨hR1,hB1⟩⟩ hK2;have HD10:=aM hd;have HR10:=aM hR1;have HB10:=aM hB1;have HK10:=aM hK2;have yl:=bL1.cell;clear hm hd bS1 bT1 bN1 bL1 hR1 hB1 hK2;go_wp2;have hne:W9.heap.size ≠ gm+1+1+1+1:=by have:=HGB.out;omega
       have hd2:(W10.putObj W9.heap.size (.deferred none)).heap[gm+1+1+1+1]?=some (.deferred (some [])):=by
        rw [World.putObj_heap_other hne.symm,← hsz7];exact HD10.out
       have hB1:=HB10.out.trans (belowK_b (w:=W) (n₀:=W.heap.size) (Nat.le_refl _) _ W9.heap.size _ (.deferred none) (by have:=HGB.out;have:=HGM.out;omega) HK10.out rfl rfl);have hB2:=hB1.trans (belowK_b (w:=W) (n₀:=W.heap.size) (Nat.le_refl _) _ (gm+1+1+1+1) _ (.deferred none) (by have:=HGB.out;have:=HGM.out;omega) hd2 rfl rfl);refine ⟨by simp,.inl ⟨_,_,rfl,run_takeDeferred HK10.out,?_⟩⟩;refine ⟨by simp,.inl ⟨_,_,rfl,run_takeDeferred hd2,?_⟩⟩;refine ⟨.tuple #[.slice (some ⟨gl,0,none⟩) a.g.B cl,.int .i64 0],?_,gl,cl,?_,?_,?_,hB2⟩
       ·simp [results,Tryz.f18,go_sem]
       ·rw [qhM]
       ·rw [qhM];exact HCL.out
       ·have e:qgF a=qnJ nw (fil xs 4 xs.length):=by rw [HSC2.out,HNW.out];rfl
        rw [e];have h1:=HGM.out;have h2:=HGB.out;refine HR10.out.keep ?_;rw [World.putObj_heap_other (by omega),World.putObj_heap_other (by omega)]
end
section
open Plain
end
section
open Plain
theorem qrI {a:AC} {i p:Nat} (ho:a.off=false) (hi:i < a.g.B) (hp:p < a.g.P):qbV a (i:Int) (p:Int)=if ((a.bk i).pg p).st=2 then ([],5) else if ((a.bk i).pg p).st=1 then (((a.bk i).pg p).d ++ List.replicate (a.g.Z - ((a.bk i).pg p).d.length) 255,0) else (List.replicate a.g.Z 255,0):=by
 unfold qbV;rw [if_neg (by rw [ho];decide),if_neg (by omega),if_neg (by omega),Int.toNat_natCast,Int.toNat_natCast]
theorem qkE {a:AC} {i p:Nat} (ho:a.off=false) (hi:i < a.g.B) (hp:p < a.g.P):(qbV a (i:Int) (p:Int)).2=0∨qbV a (i:Int) (p:Int)=([],5):=by
 rw [qrI ho hi hp]
 split
 ·exact .inr rfl
 split <;> exact .inl rfl
theorem qrP {a:AC} {i:Nat} (hi:i < a.g.B):qdY a (i:Int)=(a.bk i).nx:=by
 unfold qdY;rw [if_neg (by omega),Int.toNat_natCast]
theorem qkG {a:AC} (h:AWF a) {i p:Nat} (ho:a.off=false) (hi:i < a.g.B) (hp:p < a.g.P) (hn:qdY a (i:Int)≤(p:Int)):qbV a (i:Int) (p:Int)=(List.replicate a.g.Z 255,0):=by
 rw [qrP hi] at hn;have:=((h.2 i).2.2 p).1 hn;rw [qrI ho hi hp,this,if_neg (of_decide_eq_true rfl),if_neg (of_decide_eq_true rfl)]
theorem qmK (n:Nat) (h:6≤n):(qaZ (List.replicate n 255)).2.2=false:=by
 unfold qaZ
 have e:(List.replicate n (255:Int)).take 2=[255,255]:=by
  rw [List.take_replicate,Nat.min_eq_left (by omega)];rfl
 have e2:qcN [255,255]=65535:=by decide
 rw [if_neg (by rw [List.length_replicate];omega),if_pos (by rw [e,e2];right;left;decide)]
theorem qtB (n:Nat) (k:Int) (m:Nat):qeN (List.replicate n 255) k m=none:=by
 unfold qeN;rw [List.length_replicate]
 split
 ·rfl
 ·rw [if_neg (fun h=>by rw [qmK n (by omega)] at h;exact absurd h.1 (by decide))]
theorem qxR (n:Nat):qaX (List.replicate n 255)=(0,false):=by unfold qaX;rw [qtB]
def qgZ (a:AC) (b:Int):Nat→Nat→Nat × Bool
 | 0,n=>(n,false)
 | k+1,n=>if qdY a b≤(n:Int)+2 then (n,false) else if (qbV a b ((n:Int)+2)).2=0 then qgZ a b k (n+1) else (n,true)
theorem qrF {a:AC} (h:AWF a) (ho:a.off=false) {i:Nat} (hi:i < a.g.B):∀ k n,n+k=a.g.P - 2→qgZ a (i:Int) k n=qhE a (i:Int) k n
 | 0,n,_=>rfl
 | k+1,n,hk=>by
  have hP:=h.1.2.1;unfold qgZ qhE qdI;have e2:((n:Int)+2)=((n+2:Nat):Int):=by push_cast;rfl
  by_cases hn:qdY a (i:Int)≤(n:Int)+2
  ·rw [if_pos hn,if_pos hn,if_neg (by decide),e2,qkG h ho hi (by omega) (by rw [← e2];exact hn)];rfl
  ·rw [if_neg hn,if_neg hn];rw [e2]
   rcases qkE (a:=a) (i:=i) (p:=n+2) ho hi (by omega) with h0|h5
   ·rw [if_pos h0,if_pos (by rw [h0];rfl)];exact qrF h ho hi k (n+1) (by omega)
   ·rw [h5,if_neg (of_decide_eq_true rfl),if_neg (by decide)];rfl
def qtG (a:AC) (n:Int):Blk × Bool :=
 if qpN a n=true then (⟨1,0,0,0,0,false⟩,false)
 else if (qaX (qbV a n 0).1).2=false then (⟨3,(qaX (qbV a n 0).1).1,0,0,0,false⟩,false)
 else if qdY a n=1 then (⟨2,(qaX (qbV a n 0).1).1,0,0,0,false⟩,true)
 else if (qbA (qbV a n 1).1).2=false∨qfP a.g.B a.g.P a.g.Z a.g.R≤(qbA (qbV a n 1).1).1.1∨(a.g.P:Int) - 2 < (qbA (qbV a n 1).1).1.2.2 then (⟨3,(qaX (qbV a n 0).1).1,0,0,0,false⟩,true)
 else if (qbA (qbV a n 1).1).1.2.2≤((qgZ a n (a.g.P - 2) 0).1:Int) then (⟨4,(qaX (qbV a n 0).1).1,(qbA (qbV a n 1).1).1.1,(qgZ a n (a.g.P - 2) 0).1,(qbA (qbV a n 1).1).1.2.1,(qgZ a n (a.g.P - 2) 0).2⟩,true)
 else (⟨3,(qaX (qbV a n 0).1).1,0,0,0,false⟩,true)
theorem vbC {a:AC} (h:AWF a) (ho:a.off=false) {i:Nat} (hi:i < a.g.B):qtG a (i:Int)=qcQ a (i:Int):=by
 have hP:=h.1.2.1;have hnx:=(h.2 i).1;rw [← qrP hi] at hnx;unfold qtG qcQ
 by_cases hb:qpN a (i:Int)=true
 ·rw [if_pos hb,if_pos hb]
 rw [if_neg hb,if_neg hb];have e0:(qbV a (i:Int) 0)=qbV a (i:Int) ((0:Nat):Int):=rfl;have e1:(qbV a (i:Int) 1)=qbV a (i:Int) ((1:Nat):Int):=rfl
 by_cases h0:qdY a (i:Int)≤0
 ·have hp0:qdI a (i:Int) 0=([],false):=if_pos h0;rw [e0,qkG h ho hi (by omega) (by simpa using h0),qxR,if_pos rfl,hp0,if_pos rfl]
 have hp0:qdI a (i:Int) 0=((qbV a (i:Int) 0).1,(qbV a (i:Int) 0).2==0):=if_neg h0
 rcases (qkE (a:=a) (i:=i) (p:=0) ho hi (by omega)).symm with r5|r0
 ·rw [hp0,e0,r5,if_pos (show (qaX (([]:List Int),(5:Int)).1).2=false from rfl),if_pos (show ((([]:List Int),(5:Int)).1,(([]:List Int),(5:Int)).2==0).2=false from rfl)];rfl
 rw [← e0] at r0;rw [hp0,if_neg (c:=((qbV a (i:Int) 0).1,(qbV a (i:Int) 0).2==0).2=false) (by rw [r0];exact fun h=>absurd (show true=false from h) (by decide))];show (if (qaX (qbV a (i:Int) 0).1).2=false then _ else _)=(if (qaX (qbV a (i:Int) 0).1).2=false then _ else _)
 by_cases hc:(qaX (qbV a (i:Int) 0).1).2=false
 ·rw [if_pos hc,if_pos hc]
 rw [if_neg hc,if_neg hc]
 by_cases h1:qdY a (i:Int)=1
 ·rw [if_pos h1,if_pos h1]
 rw [if_neg h1,if_neg h1];have hp1:qdI a (i:Int) 1=((qbV a (i:Int) 1).1,(qbV a (i:Int) 1).2==0):=if_neg (by omega)
 rcases (qkE (a:=a) (i:=i) (p:=1) ho hi (by omega)).symm with r5|r0'
 ·rw [hp1,e1,r5,if_pos (.inl (show (qbA (([]:List Int),(5:Int)).1).2=false from rfl)),if_pos (show ((([]:List Int),(5:Int)).1,(([]:List Int),(5:Int)).2==0).2=false from rfl)]
 rw [← e1] at r0';rw [hp1,if_neg (c:=((qbV a (i:Int) 1).1,(qbV a (i:Int) 1).2==0).2=false) (by rw [r0'];exact fun h=>absurd (show true=false from h) (by decide))];rw [qrF h ho hi (a.g.P - 2) 0 (by omega)];show (if (qbA (qbV a (i:Int) 1).1).2=false∨_∨_ then _ else _)=(if qtE a (i:Int) (qbA (qbV a (i:Int) 1).1)=true then _ else _);unfold qtE;generalize qbA (qbV a (i:Int) 1).1=m
 by_cases hm:m.2=false∨qfP a.g.B a.g.P a.g.Z a.g.R≤m.1.1∨(a.g.P:Int) - 2 < m.1.2.2
 ·rw [if_pos hm,if_neg];simp only [Bool.and_eq_true,decide_eq_true_eq];rintro ⟨x1,x2,x3,x4⟩
  rcases hm with hm|hm|hm
  ·rw [hm] at x1;cases x1
  ·omega
  ·omega
 rw [if_neg hm]
 have hm1:m.2=true:=by
  cases e:m.2 with
  | true=>rfl
  | false=>exact absurd (.inl e) hm
 by_cases hu:m.1.2.2≤((qhE a (i:Int) (a.g.P - 2) 0).1:Int)
 ·rw [if_pos hu,if_pos];simp only [Bool.and_eq_true,decide_eq_true_eq];exact ⟨hm1,by omega,by omega,hu⟩
 ·rw [if_neg hu,if_neg];simp only [Bool.and_eq_true,decide_eq_true_eq];rintro ⟨x1,x2,x3,x4⟩;exact hu x4
def vaU (xs:List Blk) (i k:Nat):Prop:=¬ k=i∧(xs.getD k default).f0=4∧(xs.getD k default).f2=(xs.getD i default).f2∧((xs.getD i default).f4 < (xs.getD k default).f4∨(xs.getD k default).f4=(xs.getD i default).f4∧k < i)
def qfD (xs:List Blk) (i:Nat):Prop:=∃ k,k < xs.length∧vaU xs i k
theorem qlX (xs:List Blk) (l:Int):∀ m,(qiM xs m l=none∧∀ k,k < m→¬ ((xs.getD k default).f0=4∧(xs.getD k default).f2=l))∨∃ k,qiM xs m l=some k∧k < m∧(xs.getD k default).f0=4∧(xs.getD k default).f2=l∧∀ j,j < m→(xs.getD j default).f0=4→(xs.getD j default).f2=l→(xs.getD j default).f4≤(xs.getD k default).f4∧(j < k→(xs.getD j default).f4 < (xs.getD k default).f4)
 | 0=>.inl ⟨rfl,fun k hk=>absurd hk (Nat.not_lt_zero k)⟩
 | m+1=>by
  have ih:=qlX xs l m;unfold qiM
  by_cases hc:(xs.getD m default).f0=4∧l=(xs.getD m default).f2
  ·rw [if_pos hc]
   right
   rcases ih with ⟨e,hn⟩|⟨k,e,hk,k1,k2,hj⟩
   ·rw [e];refine ⟨m,rfl,by omega,hc.1,hc.2.symm,fun j hjm j1 j2=>?_⟩
    by_cases hjm2:j=m
    ·subst hjm2;exact ⟨Int.le_refl _,fun h=>absurd h (Nat.lt_irrefl _)⟩
    ·exact absurd ⟨j1,j2⟩ (hn j (by omega))
   ·rw [e]
    by_cases hlt:(xs.getD k default).f4 < (xs.getD m default).f4
    ·refine ⟨m,if_pos hlt,by omega,hc.1,hc.2.symm,fun j hjm j1 j2=>?_⟩
     by_cases hjm2:j=m
     ·subst hjm2;exact ⟨Int.le_refl _,fun h=>absurd h (Nat.lt_irrefl _)⟩
     ·have:=(hj j (by omega) j1 j2).1;exact ⟨by omega,fun _=>by omega⟩
    ·refine ⟨k,if_neg hlt,by omega,k1,k2,fun j hjm j1 j2=>?_⟩
     by_cases hjm2:j=m
     ·subst hjm2;exact ⟨by omega,fun h=>by omega⟩
     ·exact hj j (by omega) j1 j2
  ·rw [if_neg hc]
   rcases ih with ⟨e,hn⟩|⟨k,e,hk,k1,k2,hj⟩
   ·refine .inl ⟨e,fun k hk h=>?_⟩
    by_cases hkm:k=m
    ·subst hkm;exact hc ⟨h.1,h.2.symm⟩
    ·exact hn k (by omega) h
   ·refine .inr ⟨k,e,by omega,k1,k2,fun j hjm j1 j2=>?_⟩
    by_cases hjm2:j=m
    ·subst hjm2;exact absurd ⟨j1,j2.symm⟩ hc
    ·exact hj j (by omega) j1 j2
theorem qtD (xs:List Blk) (i:Nat) (hi:i < xs.length) (h4:(xs.getD i default).f0=4):(¬ (qiM xs xs.length (xs.getD i default).f2).getD 0=i)↔qfD xs i:=by
 rcases qlX xs (xs.getD i default).f2 xs.length with ⟨e,hn⟩|⟨k,e,hk,k1,k2,hj⟩
 ·exact absurd ⟨h4,rfl⟩ (hn i hi)
 ·rw [e];show (¬ k=i)↔_
  constructor
  ·intro hne;have h9:=hj i hi h4 rfl;refine ⟨k,hk,hne,k1,k2,?_⟩
   by_cases hik:i < k
   ·exact .inl (h9.2 hik)
   ·have:=h9.1
    by_cases he:(xs.getD k default).f4=(xs.getD i default).f4
    ·exact .inr ⟨he,by omega⟩
    ·exact .inl (by omega)
  ·rintro ⟨j,hjl,hji,j1,j2,j3⟩ rfl;have h9:=hj j hjl j1 j2
   rcases j3 with j3|⟨j3,j4⟩
   ·omega
   ·have:=h9.2 j4;omega
instance decOldC (xs:List Blk) (i k:Nat):Decidable (vaU xs i k):=by unfold vaU;infer_instance
instance decOlder (xs:List Blk) (i:Nat):Decidable (qfD xs i):=decidable_of_iff ((List.range xs.length).any (fun k=>decide (vaU xs i k))=true) (by simp [qfD])
def allB (l:List (Blk × Bool)) (i:Nat):Blk:=if (qdJ (qdC l) (l.getD i default)).f0=4∧qfD (l.map (fun y:Blk × Bool=>y.1)) i then qjX (qdJ (qdC l) (l.getD i default)) else qdJ (qdC l) (l.getD i default)
theorem vcZ (s:Int × Int) (x:Blk × Bool):(qdJ s x).f0=x.1.f0∧(qdJ s x).f2=x.1.f2∧(qdJ s x).f4=x.1.f4:=by
 unfold qdJ
 split <;> exact ⟨rfl,rfl,rfl⟩
theorem qtC (l:List (Blk × Bool)) (i:Nat) (hi:i < l.length):qfD (qfQ l) i↔qfD (l.map (fun y:Blk × Bool=>y.1)) i:=by
 have hg:∀ k,k < l.length→((qfQ l).getD k default).f0=((l.map (fun y:Blk × Bool=>y.1)).getD k default).f0∧((qfQ l).getD k default).f2=((l.map (fun y:Blk × Bool=>y.1)).getD k default).f2∧((qfQ l).getD k default).f4=((l.map (fun y:Blk × Bool=>y.1)).getD k default).f4:=by
  intro k hk
  have e1:(qfQ l).getD k default=qdJ (qdC l) l[k]:=by
   unfold qfQ;rw [List.getD_eq_getElem?_getD,List.getElem?_map,List.getElem?_eq_getElem hk];rfl
  have e2:(l.map (fun y:Blk × Bool=>y.1)).getD k default=l[k].1:=by
   rw [List.getD_eq_getElem?_getD,List.getElem?_map,List.getElem?_eq_getElem hk];rfl
  rw [e1,e2];exact vcZ _ _
 have hl:(qfQ l).length=l.length:=qhZ l;have hl2:(l.map (fun y:Blk × Bool=>y.1)).length=l.length:=by simp
 unfold qfD vaU;rw [hl,hl2];obtain ⟨i0,i2,i4⟩:=hg i hi
 constructor
 ·rintro ⟨k,hk,h1,h2,h3,h4⟩;obtain ⟨k0,k2,k4⟩:=hg k hk;exact ⟨k,hk,h1,by rw [← k0];exact h2,by rw [← k2,← i2];exact h3,by rw [← k4,← i4];exact h4⟩
 ·rintro ⟨k,hk,h1,h2,h3,h4⟩;obtain ⟨k0,k2,k4⟩:=hg k hk;exact ⟨k,hk,h1,by rw [k0];exact h2,by rw [k2,i2];exact h3,by rw [k4,i4];exact h4⟩
theorem qyB (l:List (Blk × Bool)):qoM (qfQ l)=(List.range l.length).map (allB l):=by
 apply List.ext_getElem?;intro i
 by_cases hi:i < l.length
 ·have hi2:i < (qfQ l).length:=by rw [qhZ];exact hi
  rw [qvX _ i hi2,List.getElem?_map,List.getElem?_range hi];show _=some (allB l i);have e1:l.getD i default=l[i]:=by rw [List.getD_eq_getElem?_getD,List.getElem?_eq_getElem hi];rfl
  have e2:(qfQ l)[i]=qdJ (qdC l) l[i]:=by
   have:(qfQ l)[i]?=some (qdJ (qdC l) l[i]):=by
    unfold qfQ;rw [List.getElem?_map,List.getElem?_eq_getElem hi];rfl
   exact (List.getElem?_eq_some_iff.1 this).2
  have e3:(qfQ l).getD i default=qdJ (qdC l) l[i]:=by rw [qkR hi2,e2]
  unfold allB;rw [e1,e2]
  congr 1
  by_cases h4:(qdJ (qdC l) l[i]).f0=4
  ·have hn:=qtD (qfQ l) i hi2 (by rw [e3];exact h4);rw [e3] at hn;rw [qtC l i hi] at hn
   by_cases ho:qfD (l.map (fun y:Blk × Bool=>y.1)) i
   ·rw [if_pos ⟨h4,hn.2 ho⟩,if_pos ⟨h4,ho⟩]
   ·rw [if_neg (fun h=>ho (hn.1 h.2)),if_neg (fun h=>ho h.2)]
  ·rw [if_neg (fun h=>h4 h.1),if_neg (fun h=>h4 h.1)]
 ·rw [List.getElem?_eq_none (by rw [qoL,qhZ];omega),List.getElem?_eq_none (by simp;omega)]
end
section
open Plain
theorem qiV {l:List Int} {kind:Int} {n:Nat} {p:List Int} (h:qeN l kind n=some p):p=(qaZ l).1:=by
 unfold qeN at h
 split at h
 ·cases h
 ·split at h
  ·cases h;rfl
  ·cases h
theorem qlU (l:List Int) (hl:qbN l) (hn:l.length≤140737488351232) (kind:Int) (n:Nat) (h0:0 < n):Ev (fun k=>pumiceref05_payload.f k l kind (n:Int)) ((qaZ l).1,(qeN l kind n).isSome):=by
 unfold pumiceref05_payload.f;refine Ev.bind (qpX l hl (by omega)) ?_;have hen:=qjV hl;have hO:qeN l kind n=if l.length < 64∨512 < l.length then none else if (qaZ l).2.2=true∧(qaZ l).1.length=n∧(qaZ l).1.getD 0 0=kind∧qcZ (l.drop (qaZ l).2.1.toNat)=true then some (qaZ l).1 else none:=rfl
 rw [hO]
 by_cases h1:(qaZ l).2.2=true
 ·simp only [if_pos h1]
  by_cases h64:l.length < 64
  ·simp only [if_neg (show ¬ ((l.length:Int) ≥ 64) by omega),if_pos (show l.length < 64∨512 < l.length from .inl h64)];exact Ev.now _
  ·simp only [if_pos (show ((l.length:Int) ≥ 64) by omega)]
   by_cases h512:512 < l.length
   ·simp only [if_neg (show ¬ ((l.length:Int)≤512) by omega),if_pos (show l.length < 64∨512 < l.length from .inr h512)];exact Ev.now _
   ·simp only [if_pos (show ((l.length:Int)≤512) by omega),if_neg (show ¬ (l.length < 64∨512 < l.length) by omega)]
    by_cases hp:(qaZ l).1.length=n
    ·simp only [if_pos (show (((qaZ l).1.length:Int)=(n:Int)) by omega),if_pos (show 0 < ((qaZ l).1.length:Int) by omega)]
     by_cases hk:(qaZ l).1.getD 0 0=kind
     ·have hk2:rd (qaZ l).1 0=kind:=hk;simp only [if_pos hk2,if_pos hen.1,if_pos hen.2];refine Ev.bind (qvD _ (by rw [List.length_drop];omega)) ?_
      cases hb:qcZ (l.drop (qaZ l).2.1.toNat) with
      | true =>
       rw [if_pos ⟨h1,hp,hk,rfl⟩];exact Ev.now _
      | false =>
       rw [if_neg (by rintro ⟨_,_,_,h⟩;cases h)];exact Ev.now _
     ·have hk2:¬ (rd (qaZ l).1 0=kind):=hk;simp only [if_neg hk2];rw [if_neg (by rintro ⟨_,_,h,_⟩;exact hk h)];exact Ev.now _
    ·simp only [if_neg (show ¬ (((qaZ l).1.length:Int)=(n:Int)) by omega)];rw [if_neg (by rintro ⟨_,h,_⟩;exact hp h)];exact Ev.now _
 ·simp only [if_neg h1]
  have hN:(if l.length < 64∨512 < l.length then (none:Option (List Int)) else if (qaZ l).2.2=true∧(qaZ l).1.length=n∧(qaZ l).1.getD 0 0=kind∧qcZ (l.drop (qaZ l).2.1.toNat)=true then some (qaZ l).1 else none)=none:=by
   by_cases h9:l.length < 64∨512 < l.length
   ·rw [if_pos h9]
   ·rw [if_neg h9,if_neg (by rintro ⟨h,_⟩;exact h1 h)]
  rw [hN];exact Ev.now _
theorem qpQ (A:Option Addr) (c:Nat) (l:List Int) (kind:Int) (n:Nat) (w:World) (hn:0 < n) (hl:qbN l) (hs:l.length≤140737488351232) (hr:Kd.C kB w A l.length l) (hc:l.length≤c) :
  Calls Tryz.prog 144 #[.slice A l.length c,.int .u8 kind,.int .i64 n] w fun e w'=>∃ v,e=.returned (.tuple #[v,.bool (qeN l kind n).isSome])∧Kd.R kB 5 w' w.heap.size (fun _=>True) v (qaZ l).1∧Below w.heap.size w w':=by
 obtain ⟨k,hk⟩:=(qlU l hl hs kind n hn).rounds;exact pumiceref05_payload.calls k A c l kind n _ _ w hr hc hk
theorem qlE (A:Option Addr) (c:Nat) (l:List Int) (w:World) (hl:qbN l) (hs:l.length≤140737488351232) (hr:Kd.C kB w A l.length l) (hc:l.length≤c) :
  Calls Tryz.prog 126 #[.slice A l.length c] w fun e w'=>e=.returned (.tuple #[.int .i64 (qaX l).1,.bool (qaX l).2])∧Below w.heap.size w w':=by
 have HO:=aM (show Calls Tryz.prog 144 #[.slice A l.length c,.int .u8 69,.int .i64 5] w _ from qpQ A c l 69 5 w (by decide) hl hs hr hc)
 cases ho:qeN l 69 5 with
 | none =>
  have hP:qaX l=(0,false):=by unfold qaX;rw [ho]
  rw [hP];rw [ho] at HO;clear hP ho hl hr hc hs;go_enter Tryz.func126,Tryz.ntmps126
  go_wp2_with (first
   | (go_at_call 144;(with_reducible refine HO.out.mono ?_);rintro e w1 ⟨v,rfl,_,hb1⟩;have HB1:=aM hb1;clear hb1))
  go_ret2;exact ⟨rfl,HB1.out⟩
 | some p =>
  obtain ⟨hpb,hpl,hpk⟩:=qgR hl ho;have hpe:=qiV ho;have hP:qaX l=if 2147483647 < qcN (p.drop 1) then (0,false) else (qcN (p.drop 1),true):=by unfold qaX;rw [ho]
  rw [hP];rw [ho,← hpe] at HO;have hbd:=qhX (hpb.drop 1) 4 (by decide) (by rw [List.length_drop];omega);have hwr:IntKind.i64.wrap (qcN (p.drop 1))=qcN (p.drop 1):=by rw [qbJ];exact qbQ (by omega) (by omega)
  obtain ⟨q,hq⟩:∃ q,q=p.drop (1:Int).toNat:=⟨_,rfl⟩
  have hqb:qbN q:=by rw [hq];exact hpb.drop 1
  have hq1:p.drop 1=q:=hq.symm;rw [hq1] at hbd hwr ⊢;have HQB:=aM hqb;have HQ:=aM hq;have HPL:=aM hpl;have HGT:=aM (fun (w':World) (A:Option Addr) (c:Nat) (hr:Kd.C kB w' A q.length q) (hc:q.length≤c)=>vaO A c q w' HQB.out hr hc)
  obtain ⟨x,hx⟩:∃ x,x=qcN q:=⟨_,rfl⟩
  rw [← hx] at hbd hwr HGT ⊢;clear hP ho hl hr hc hs hpe hpb hpk hqb hq1 hq hx hpl
  by_cases hbig:2147483647 < x
  ·have d0:decide (2147483647 < x)=true:=decide_eq_true hbig;rw [if_pos hbig];clear hbig hbd;go_enter Tryz.func126,Tryz.ntmps126
   go_upto_region 2 with (first
    | (go_at_call 144;(with_reducible refine HO.out.mono ?_);rintro e w1 ⟨v,rfl,hr1,hb1⟩;obtain ⟨A1,c1,rfl,hl1,hC1⟩:=Kd.R_reads hr1;have HC1:=aM hC1;have HB1:=aM hb1;have HL1:=aM hl1;clear hr1 hC1 hb1 hl1))
   obtain ⟨A5,c5,hcut5,hc5,hC5⟩:=qjY A1 c1 p 1 (by decide) (by have:=HPL.out;omega) HL1.out;rw [← HQ.out] at hcut5 hc5 hC5;have HC5:=aM (hC5 w1 HC1.out);have HL5:=aM hc5;have HG1:=aM (HGT.out w1 A5 c5 HC5.out HL5.out);clear hC5 hc5;have hu25:=Tryz.underlying35
   go_wp2_with (first
    | (go_at_call 145;(with_reducible refine HG1.out.mono ?_);rintro e w2 ⟨rfl,hb2⟩;have HB2:=aM (qaF HB1.out hb2);clear hb2))
   go_ret2;exact ⟨rfl,HB2.out⟩
  ·have d0:decide (2147483647 < x)=false:=decide_eq_false hbig;rw [if_neg hbig];clear hbig hbd;go_enter Tryz.func126,Tryz.ntmps126
   go_upto_region 2 with (first
    | (go_at_call 144;(with_reducible refine HO.out.mono ?_);rintro e w1 ⟨v,rfl,hr1,hb1⟩;obtain ⟨A1,c1,rfl,hl1,hC1⟩:=Kd.R_reads hr1;have HC1:=aM hC1;have HB1:=aM hb1;have HL1:=aM hl1;clear hr1 hC1 hb1 hl1))
   obtain ⟨A5,c5,hcut5,hc5,hC5⟩:=qjY A1 c1 p 1 (by decide) (by have:=HPL.out;omega) HL1.out;rw [← HQ.out] at hcut5 hc5 hC5;have HC5:=aM (hC5 w1 HC1.out);have HL5:=aM hc5;have HG1:=aM (HGT.out w1 A5 c5 HC5.out HL5.out);clear hC5 hc5;have hu25:=Tryz.underlying35
   go_upto_region 4 with (first
    | (go_at_call 145;(with_reducible refine HG1.out.mono ?_);rintro e w2 ⟨rfl,hb2⟩;have HB2:=aM (qaF HB1.out hb2);have HG2:=aM (HGT.out w2 A5 c5 (Kd.C_below HC5.out hb2) HL5.out);clear hb2))
   go_wp2_with (first
    | (go_at_call 145;(with_reducible refine HG2.out.mono ?_);rintro e w3 ⟨rfl,hb3⟩;have HB3:=aM (qaF HB2.out hb3);clear hb3))
   go_ret2;exact ⟨rfl,HB3.out⟩
theorem qqB (l:List Int) (hl:qbN l) (hn:l.length≤140737488351232):Ev (fun k=>pumiceref05_ParseMapping.f k l) ((qbA l).1.1,(qbA l).1.2.1,(qbA l).1.2.2,(qbA l).2):=by
 unfold pumiceref05_ParseMapping.f;refine Ev.bind (qlU l hl hn 77 12 (by decide)) ?_
 cases ho:qeN l 77 12 with
 | none =>
  have hP:qbA l=((0,0,0),false):=by unfold qbA;rw [ho]
  rw [hP];simp only [Option.isSome_none,Bool.false_eq_true,if_false];exact Ev.now _
 | some p =>
  obtain ⟨hpb,hpl,hpk⟩:=qgR hl ho;have hpe:=qiV ho
  have hP:qbA l=if 256≤qcN ((p.drop 1).take 2)∨64 < qcN ((p.drop 11).take 1) then ((0,0,0),false) else ((qcN ((p.drop 1).take 2),qcN ((p.drop 3).take 8),qcN ((p.drop 11).take 1)),true):=by
   unfold qbA;rw [ho]
  rw [hP,← hpe];have e1:(p.take 3).drop 1=(p.drop 1).take 2:=by rw [List.drop_take]
  have e2:(p.take 11).drop 3=(p.drop 3).take 8:=by rw [List.drop_take]
  have hr11:qcN ((p.drop 11).take 1)=rd p 11:=by
   have h11:(11:Nat) < p.length:=by omega
   have h12:(p.drop 11).take 1=[p.getD 11 0]:=by
    rw [List.drop_eq_getElem_cons h11,List.take_succ_cons,List.take_zero];simp [List.getD_eq_getElem?_getD,h11]
   rw [h12];show qoP [p.getD 11 0] 1=p.getD 11 0;simp [qoP]
  have hb1:=qhX ((hpb.drop 1).take 2) 2 (by decide) (by rw [List.length_take];omega);have hb3:=qxN p hpb 11;simp only [Option.isSome_some,if_true,if_pos (show (1:Int)≤3 by decide),if_pos (show (3:Int)≤11 by decide),if_pos (show (3:Int)≤(p.length:Int) by omega),if_pos (show (11:Int)≤(p.length:Int) by omega),if_pos (show (11:Int) < (p.length:Int) by omega),e1,e2];refine Ev.bind (qkI _ ((hpb.drop 1).take 2)) ?_;refine Ev.bind (qkI _ ((hpb.drop 3).take 8)) ?_;rw [hr11,qbQ (by omega) (by omega),qbQ (by omega) (by omega)]
  by_cases h256:qcN ((p.drop 1).take 2) ≥ 256
  ·rw [if_pos h256,if_pos (.inl h256)];exact Ev.now _
  ·by_cases h64:rd p 11 > 64
   ·rw [if_neg h256,if_pos h64,if_pos (.inr h64)];exact Ev.now _
   ·rw [if_neg h256,if_neg h64,if_neg (by omega)];exact Ev.now _
theorem qnS (A:Option Addr) (c:Nat) (l:List Int) (w:World) (hl:qbN l) (hs:l.length≤140737488351232) (hr:Kd.C kB w A l.length l) (hc:l.length≤c) :
  Calls Tryz.prog 127 #[.slice A l.length c] w fun e w'=>e=.returned (.tuple #[.agg #[.int .i64 (qbA l).1.1,.int .u64 (qbA l).1.2.1,.int .i64 (qbA l).1.2.2],.bool (qbA l).2])∧Below w.heap.size w w':=by
 obtain ⟨k,hk⟩:=(qqB l hl hs).rounds;exact pumiceref05_ParseMapping.calls k A c l _ _ _ _ w hr hc hk
end
end Go.Proofs.YtdlimghdimkadaaGreatDoor.PAll

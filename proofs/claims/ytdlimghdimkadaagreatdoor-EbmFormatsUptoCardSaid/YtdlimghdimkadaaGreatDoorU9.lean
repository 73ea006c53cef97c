/- Part 9 of what the law EbmFormats rests on. -/
import Derived.Test.YtdlimghdimkadaaGreatDoorU8
import Derived.Test.YtdlimghdimkadaaGreatDoorU4
set_option maxRecDepth 100000
set_option maxHeartbeats 32000000
set_option linter.unusedSimpArgs false
set_option linter.unusedVariables false
namespace Go.Proofs.YtdlimghdimkadaaGreatDoor.PAll
open Go Go.RowKit YtdlimghdimkadaaGreatDoorW.PrintWords YtdlimghdimkadaaGreatDoorW.PrintLast YtdlimghdimkadaaGreatDoorW.PrintMore
attribute [local go_sem] qdG qdE qdY qdX qcJ qcI qdF qdD
section
open Go.Shelf Plain
attribute [local go_sem] Oper.semAt_some
variable {w0 W:World} {gc:Nat} {a:AC}
theorem qsL:Tryz.prog.underlying 114=some (.slice 4):=by kernel_rfl
theorem qzC:(Tryz.prog.info? 4).map (fun i=>(i.zero,i.size,i.bytes))=some (some (.bool false),1,1):=by kernel_rfl
theorem qmI (A:Option Addr) (len cap:Nat) (st:Int) (w:World):Calls Tryz.prog 71 #[.slice A len cap,.int .i64 st] w fun e w'=>e=.returned (.func (.func 125) #[] #[.pointer (some ⟨w.heap.size,0,none⟩),.pointer (some ⟨w.heap.size+1,0,none⟩)])∧w'=(w.alloc (.cells #[.slice A len cap] 40)).alloc (.cells #[.int .i64 st] 3) :=
 (callsIn_wide (n:=3)).1 (qlE Fence.wide 3 trivial rfl A len cap st w)
theorem qlY {α:Type} {d:Kd α} {e base:Nat} {ok:Nat→Prop} {W w1:World} {v vl:Value} {xs:List α} {b e' s' n':Nat} {cs:List Value} (h:d.R e W base ok v xs) (hl:W.ownsRow b e' s' vl n' cs) (ht:∀ q,q ∈ e :: d.E→q ≠ e') (hg:W.grownBy w1 vl.ownBlock):d.R e w1 base ok v xs :=
 Kd.R_mono (Kd.R_grown (Kd.R_bound h) hg (fun k hk he=>by
  obtain ⟨_,_,_,q,hq,cells,hc⟩:=hk;obtain ⟨cells',hc'⟩:=qkF hl k he.symm;rw [hc] at hc';simp only [Option.some.injEq,Obj.cells.injEq] at hc'
  exact ht q hq hc'.2.1)) (fun k hk=>hk.1)
theorem qvU {xs:List Blk} (pre:List (Ent xs)) (x:Ent xs):qiM (pre ++ [x])=vbW (qiM pre) x:=by simp [qiM,List.foldl_append]
theorem vbX {xs:List Blk} (pre:List (Ent xs)):∀ l k,qiM pre l=some k→k < xs.length:=by
 have key:∀ (n:Nat) (ys:List (Ent xs)),ys.length=n→∀ l k,qiM ys l=some k→k < xs.length:=by
  intro n
  induction n with
  | zero =>
   intro ys hy l k h;obtain rfl:=List.eq_nil_of_length_eq_zero hy
   cases h
  | succ n ih =>
   intro ys hy l k h
   obtain ⟨ys',x,rfl⟩:∃ ys' x,ys=ys' ++ [x]:=⟨ys.dropLast,ys.getLast (fun e=>by rw [e] at hy;cases hy),(List.dropLast_concat_getLast _).symm⟩
   rw [qvU] at h;unfold vbW at h;have ih':=ih ys' (by simpa using hy)
   split at h
   ·split at h
    ·cases h;exact x.2.1
    ·rename_i k' hk'
     split at h
     ·cases h;exact x.2.1
     ·cases h;exact ih' _ _ hk'
   ·exact ih' _ _ h
 exact key _ pre rfl
def vdG (W:World) (gm gk gl B cl:Nat) (xs:List Blk) (pre:List (Ent xs)) (W':World):Prop :=
 (∃ n D,W'.ownsMap Tryz.prog 3 (plainElem (H:=Unit) Tryz.prog 3) gm n D∧(n=pre.length∧qlT D (qiM pre)))∧((Boxed W' (gm+1+1) 40 (.slice (some ⟨gl,0,none⟩) B cl)∧Boxed W' (gm+1+1+1) 3 (.int .i64 4))∧(Boxed W' (gm+1) 117 (.map (some gm))∧Boxed W' (gk+1) 40 (.slice (some ⟨gl,0,none⟩) B cl)))∧(Rows W' gl xs∧Below W.heap.size W W')
theorem qyZ {W:World} {gm gk gl B cl b:Nat} {xs:List Blk} (h1:gm < b) (h2:W.heap.size≤b):OwnFrom b (vdG W gm gk gl B cl xs) :=
 OwnFrom.and (qqE h1 _) (OwnFrom.and (OwnFrom.and (OwnFrom.and (Own.from (boxed_own _ _ _) _) (Own.from (boxed_own _ _ _) _)) (OwnFrom.and (Own.from (boxed_own _ _ _) _) (Own.from (boxed_own _ _ _) _))) (OwnFrom.and (Own.from (Rows.own gl (fun _=>xs)) _) (ownFrom_below (Nat.le_refl _) h2)))
theorem qwF {W:World} {gm gk gl B cl b:Nat} {xs:List Blk} {pre:List (Ent xs)} {x:Ent xs} {W8 wz:World} (h:vdG W gm gk gl B cl xs pre W8) (hh:wz.heap=W8.heap) (hb:Below W8.heap.size W8 wz) (he:qiM (pre ++ [x])=qiM pre):KeepsFrom b W8 wz∧vdG W gm gk gl B cl xs (pre ++ [x]) wz:=by
 obtain ⟨⟨n,D,hm,hn,hD⟩,⟨⟨bS,bT⟩,⟨bN,bL⟩⟩,⟨hR,hB⟩⟩:=h;exact ⟨(qgU hh).from _,⟨n+1,D,(qgD hh hm).mono (Nat.le_succ n),by rw [hn];simp,by rw [he];exact hD⟩,⟨⟨qbJ hh bS,qbJ hh bT⟩,⟨qbJ hh bN,qbJ hh bL⟩⟩,⟨qjX hh hR,qaC hB hb⟩⟩
theorem qrQ {W:World} {gm gk gl B cl b n:Nat} {D:DataW Unit} {xs:List Blk} {pre:List (Ent xs)} {x:Ent xs} {W8 wz w1:World} (h:vdG W gm gk gl B cl xs pre W8) (hh:wz.heap=W8.heap) (hb:Below W8.heap.size W8 wz)
  (hm:w1.ownsMap Tryz.prog 3 (plainElem (H:=Unit) Tryz.prog 3) gm (n+1) (D.put (.int .i64 x.1.2.f2) (.lit (.int .i64 (x.1.1:Int))))) (hg:wz.grownBy w1 (some gm)) (hn:n=pre.length) (hD:qlT D (qiM pre)) (hgb:gm < b) (hgk:gk+1 < gm) (hgl:gl < gm) (hgW:W.heap.size≤gm)
  (he:qiM (pre ++ [x])=fun l=>if l=x.1.2.f2 then some x.1.1 else qiM pre l):KeepsFrom b W8 w1∧vdG W gm gk gl B cl xs (pre ++ [x]) w1:=by
 obtain ⟨-,⟨⟨bS,bT⟩,⟨bN,bL⟩⟩,⟨hR,hB⟩⟩:=h;have ne:∀ q,q ≠ gm→some q ≠ some gm:=fun q hq e=>hq (by injection e)
 refine ⟨((qgU hh).from _).trans (KeepsFrom.of_grownBy hg (fun j e=>by injection e with e;omega)),⟨n+1,_,hm,by rw [hn];simp,by rw [he];exact hD.put _ _⟩,⟨⟨(qbJ hh bS).kept hg (ne _ (by omega)),(qbJ hh bT).kept hg (ne _ (by omega))⟩,⟨(qbJ hh bN).kept hg (ne _ (by omega)),(qbJ hh bL).kept hg (ne _ (by omega))⟩⟩,⟨(qjX hh hR).keep (hg.block gl (qjX hh hR).lt (ne _ (by omega))),(qaC hB hb).grown hg (qaI (qaC hB hb)) (fun k e=>by injection e with e;omega)⟩⟩
def vdF (W:World) (gm gk gl gb B cl D1 n:Nat) (D:DataW Unit) (nw:Int→Option Nat) (xs:List Blk) (pre:List (Ent xs)) (W':World):Prop :=
 (W'.ownsMap Tryz.prog 3 (plainElem (H:=Unit) Tryz.prog 3) gm n D∧W'.heap[D1]?=some (.deferred (some [])))∧((Boxed W' gb 40 (.slice (some ⟨gl,0,none⟩) B cl)∧Boxed W' (gb+1) 3 (.int .i64 4))∧(Boxed W' (gm+1) 117 (.map (some gm))∧Boxed W' (gk+1) 40 (.slice (some ⟨gl,0,none⟩) B cl)))∧(Rows W' gl (qnN nw pre)∧Below W.heap.size W W')
theorem qyY {W:World} {gm gk gl gb B cl D1 n b:Nat} {D:DataW Unit} {nw:Int→Option Nat} {xs:List Blk} (h1:gm < b) (h3:D1 < b) (h2:W.heap.size≤b):OwnFrom b (vdF W gm gk gl gb B cl D1 n D nw xs) :=
 OwnFrom.and (OwnFrom.and (fun s X Y row hs hg hr=>hs.kept hg (fun e=>by have:=(hr gm e.symm).1;omega)) (fun s X Y row hs hg hr=>(hg.block D1 (Array.getElem?_eq_some_iff.1 hs).1 (fun e=>by have:=(hr D1 e.symm).1;omega)).trans hs)) (OwnFrom.and (OwnFrom.and (OwnFrom.and (Own.from (boxed_own _ _ _) _) (Own.from (boxed_own _ _ _) _)) (OwnFrom.and (Own.from (boxed_own _ _ _) _) (Own.from (boxed_own _ _ _) _))) (OwnFrom.and (Own.from (Rows.own gl (fun pre=>qnN nw pre)) _) (ownFrom_below (Nat.le_refl _) h2)))
abbrev vdD (W:World) (g o:Nat) (x:Blk):World:=(((((W.setCell ⟨g,o,none⟩ (.int .i64 x.f0)).setCell ⟨g,o+1,none⟩ (.int .i64 x.f1)).setCell ⟨g,o+2,none⟩ (.int .i64 x.f2)).setCell ⟨g,o+3,none⟩ (.int .i64 x.f3)).setCell ⟨g,o+4,none⟩ (.int .u64 x.f4)).setCell ⟨g,o+5,none⟩ (.bool x.f5)
theorem qmU (W:World) (g o:Nat) (x:Blk) {q:Nat} (h:q ≠ g):(vdD W g o x).heap[q]?=W.heap[q]?:=by
 unfold vdD;rw [Below.heap_setCell _ _ _ _ h,Below.heap_setCell _ _ _ _ h,Below.heap_setCell _ _ _ _ h,Below.heap_setCell _ _ _ _ h,Below.heap_setCell _ _ _ _ h,Below.heap_setCell _ _ _ _ h]
theorem qsT (W:World) (g o:Nat) (x:Blk):KeepsOthers W (vdD W g o x) :=
 ((((((KeepsOthers.setCell _ _ _).trans (KeepsOthers.setCell _ _ _)).trans (KeepsOthers.setCell _ _ _)).trans (KeepsOthers.setCell _ _ _)).trans (KeepsOthers.setCell _ _ _)).trans (KeepsOthers.setCell _ _ _))
theorem qwE {W:World} {gm gk gl gb B cl D1 n b:Nat} {D:DataW Unit} {nw:Int→Option Nat} {xs:List Blk} {pre:List (Ent xs)} {x:Ent xs} {W8:World} (h:vdF W gm gk gl gb B cl D1 n D nw xs pre W8) (hq:(nw x.1.2.f2).getD 0=x.1.1):KeepsFrom b W8 W8∧vdF W gm gk gl gb B cl D1 n D nw xs (pre ++ [x]) W8:=by
 refine ⟨KeepsFrom.refl _ _,h.1,h.2.1,?_,h.2.2.2⟩;rw [qkZ,vcO,if_pos hq];exact h.2.2.1
theorem qyX {W:World} {gm gk gl gb B cl D1 n b:Nat} {D:DataW Unit} {nw:Int→Option Nat} {xs:List Blk} {pre:List (Ent xs)} {x:Ent xs} {W8:World} (h:vdF W gm gk gl gb B cl D1 n D nw xs pre W8) (hq:¬ (nw x.1.2.f2).getD 0=x.1.1) (h1:gl < gm) (h2:gm < D1) (h3:D1 < gb) (h4:gk+1 ≠ gl) (h5:W.heap.size≤gl) :
  KeepsFrom b W8 (vdD W8 gl (x.1.1*6) (qmP x.1.2))∧vdF W gm gk gl gb B cl D1 n D nw xs (pre ++ [x]) (vdD W8 gl (x.1.1*6) (qmP x.1.2)):=by
 obtain ⟨⟨hm,hd⟩,⟨⟨bS,bT⟩,⟨bN,bL⟩⟩,⟨hR,hB⟩⟩:=h;have hx:x.1.1 < (qnN nw pre).length:=by rw [qrU];exact x.2.1
 have bx:∀ {q:Nat} {t:TypeId} {v:Value},q ≠ gl→Boxed W8 q t v→Boxed (vdD W8 gl (x.1.1*6) (qmP x.1.2)) q t v:=fun hq hb=>(qmU _ _ _ _ hq).trans hb
 refine ⟨(qsT _ _ _ _).from _,⟨?_,(qmU _ _ _ _ (by omega)).trans hd⟩,⟨⟨bx (by omega) bS,bx (by omega) bT⟩,⟨bx (by omega) bN,bx h4 bL⟩⟩,?_,qaK (qaK (qaK (qaK (qaK (qaK hB h5) h5) h5) h5) h5) h5⟩
 ·obtain ⟨es,clock,hb,h6⟩:=hm;exact ⟨es,clock,(qmU _ _ _ _ (by omega)).trans hb,h6⟩
 ·rw [qkZ,vcO,if_neg hq];exact hR.put x.1.1 hx (qmP x.1.2)
theorem qxK (h:qdW w0 W gc a) (hby:qbV a) (aE:Addr) (hgE:gNone W aE) (hon:a.off=false) :
  Calls Tryz.prog 18 #[cp gc] W fun e w'=>∃ (g c:Nat),e=.returned (.tuple #[.slice (some ⟨g,0,none⟩) (qcM a).length c,.int .i64 0])∧(qcM a).length≤c∧Rows w' g (qcM a)∧Below W.heap.size W w'∧W.heap.size≤g:=by
 have H:=aM h;have HBY:=aM hby;have HGE:=aM hgE;have hgok:=h.gok;have HON:=aM (h.on);rw [hon] at HON;have HG:=aM (fun (w1:World) (hb:Below W.heap.size W w1)=>(H.out.grow hb).geometry);have hu92:=Tryz.underlying113;have hu37:=Tryz.underlying23;have hu49:=Tryz.underlying68;clear h hby hgE hon;refine (callsIn_wide (n:=4)).1 (callsIn_of_wp_marks Tryz.func18 rfl trivial (wpIn_wide.2 ?_));simp only [Tryz.ntmps18,List.size_toArray,List.length_cons,List.length_nil,Nat.reduceAdd,Nat.reduceSub,Array.replicate_succ,Array.replicate_zero,List.push_toArray,List.append_toArray,List.nil_append,List.cons_append]
 go_upto_region 5 with (first
  | (go_at_call 48;(with_reducible refine HON.out.mono ?_);rintro e w1 ⟨rfl,hb1⟩;have HB1:=aM hb1;clear hb1))
 go_upto_region 6 with (first
  | (go_at_call 69;(with_reducible refine (HG.out _ HB1.out).mono ?_);rintro e w2 ⟨rfl,hb2⟩;have HB2:=aM (qaC HB1.out hb2);clear hb2))
 go_upto_region 9 with (fail)
 obtain ⟨gk,hgk⟩:∃ gk,gk=w2.heap.size:=⟨_,rfl⟩
 generalize hW:(w2.alloc (.cells #[cp gc,.int .i64 a.g.B,.int .i64 a.g.P,.int .i64 a.g.Z,.int .i64 a.g.R] 113)).alloc (.cells #[.slice none 0 0] 40)=W3;have HB3:=aM (show Below W.heap.size W W3 by rw [← hW];exact qaA (qaA HB2.out _) _);have HK3:=aM (show W3.heap[gk]?=some (.cells (lkC gc a.g) 113 (0,0)) by rw [← hW,hgk];exact qaS (qaM _ _ _) _);have HL3:=aM (show W3.heap[gk+1]?=some (.cells #[.slice none 0 0] 40 (0,0)) by rw [← hW,hgk];have:=qaM (w2.alloc (.cells #[cp gc,.int .i64 a.g.B,.int .i64 a.g.P,.int .i64 a.g.Z,.int .i64 a.g.R] 113)) #[.slice none 0 0] 40;rwa [World.size_alloc] at this);have HGK:=aM (show W.heap.size≤gk by rw [hgk];exact qaI HB2.out);rw [← hgk];clear hW hgk;have yB:=jC HK3.out 1;obtain ⟨⟨hB1,hB2⟩,-,-,-⟩:=hgok
 go_upto_region 17 with (fail)
 have HBLK:=aM (fun (w1:World) (hb:Below W.heap.size W w1) (hk:w1.heap[gk]?=some (.cells (lkC gc a.g) 113 (0,0))) (n:Int)=>qzS (H.out.grow hb) HBY.out aE (qaH HGE.out hb) gk hk n);go_loopw [6,7,8,36] (fun v6 v7 v8 v36 wr=>∃ i:Nat,i≤a.g.B∧v36=.int .i64 i∧v7=.int .i64 (qjC (qbK a i)).1∧v8=.int .i64 (qjC (qbK a i)).2∧qaJ (Kd.R Kd.bool 4 wr W.heap.size (fun _=>True) v6 ((qbK a i).map (·.2)))∧qaJ (∃ vl,wr.heap[gk+1]?=some (.cells #[vl] 40 (0,0))∧Kd.R quL 68 wr W.heap.size (fun _=>True) vl ((qbK a i).map (·.1)))∧qaJ (wr.heap[gk]?=some (.cells (lkC gc a.g) 113 (0,0)))∧qaJ (Below W.heap.size W wr)) (fun _ _ _ i _=>a.g.B - (intOf i).toNat);case atStart=>exact ⟨0,Nat.zero_le _,rfl,rfl,rfl,⟨Kd.R_nil _ _ _ _ _⟩,⟨_,HL3.out,Kd.R_nil _ _ _ _ _⟩,HK3,HB3⟩
 case round =>
  obtain ⟨i,hi,rfl,rfl,rfl,HT,⟨vl,hl1,hl2⟩,HKr,HBr⟩:=hrel;have HL1:=aM hl1;have HL2:=aM hl2;clear hl1 hl2 HB3 HK3 HL3 yB
  by_cases hlt:i < a.g.B
  ·have d0:decide ((i:Int) < (a.g.B:Int))=true:=decide_eq_true (by omega);have HS:=aM (show qjC (qbK a (i+1))=quU (qjC (qbK a i)) (qdO a (i:Int)) by rw [qkK];simp [qjC,List.foldl_append]);have HC:=aM (HBLK.out _ HBr.out HKr.out (i:Int));have HLS:=aM (qkK a i);generalize hbi:qdO a (i:Int)=bi at HS HC HLS;clear hbi;obtain ⟨b,is⟩:=bi;generalize qjC (qbK a i)=sm at HS ⊢
   go_upto_region 13 with (first
    | (go_at_call 70;(with_reducible refine HC.out.mono ?_);rintro e w4 ⟨rfl,hb4⟩;have HB4:=aM (qaC HBr.out hb4);have HK4:=aM (qaB HKr.out hb4);have HT4:=aM (Kd.R_below HT.out hb4);have HL4:=aM (qaB HL1.out hb4);have HV4:=aM (Kd.R_below HL2.out hb4);clear hb4))
   have HL5:=aM (qaS HL4.out (.cells (bC b) 68));have HK5:=aM (qaS HK4.out (.cells (bC b) 68));have HX5:=aM (qaM w4 (bC b) 68);have HB5:=aM (qaA HB4.out (.cells (bC b) 68));have HV5:=aM (Kd.R_alloc HV4.out (.cells (bC b) 68));have HT5:=aM (Kd.R_alloc HT4.out (.cells (bC b) 68))
   have HNE:=aM (show some w4.heap.size ≠ vl.ownBlock by
    obtain ⟨inner,ho4⟩:=Kd.R_own HV4.out;intro e;have:=qvP ho4 _ e.symm
    omega)
   have HLN:qaJ (((qbK a i).map (·.1)).length=i∧((qbK a i).map (·.2)).length=i):=⟨by simp [qfB]⟩
   have HL':=aM (show (qbK a (i+1)).map (·.1)=(qbK a i).map (·.1) ++ [b]∧(qbK a (i+1)).map (·.2)=(qbK a i).map (·.2) ++ [is] by rw [HLS.out];simp);generalize (qbK a i).map (·.1)=L1 at HV5 HLN HL' HV4 HL2;generalize (qbK a i).map (·.2)=T1 at HT5 HLN HL' HT4 HT;generalize hW:w4.alloc (.cells (bC b) 68)=W5 at HL5 HK5 HX5 HB5 HV5 HT5 ⊢
   obtain ⟨gx,hgx⟩:∃ gx,gx=w4.heap.size:=⟨_,rfl⟩
   rw [← hgx] at HX5 HNE ⊢;clear hW hgx;have x0:=jC HX5.out 0;have x1:=jC HX5.out 1;have x2:=jC HX5.out 2;have x3:=jC HX5.out 3;have x4:=jC HX5.out 4;have x5:=jC HX5.out 5;have yl:=jC HL5.out 0
   go_upto_region 14 with (first
    | ((with_reducible refine qbH (b:=.append) (xs:=#[.tmp 45,.tmp 47]) rfl ?_);at_builtin;refine Kd.R_append quL (w0:=W) W.heap.size rfl (.tmp 45) (.tmp 47) 40 68 (.agg #[.int .i64 0,.int .i64 0,.int .i64 0,.int .i64 0,.int .u64 0,.bool false]) 48 rfl Tryz.underlying40 veA rfl (by decide) (by omega) vl L1 b [.int .i64 b.f0,.int .i64 b.f1,.int .i64 b.f2,.int .i64 b.f3,.int .u64 b.f4,.bool b.f5] (fun _=>True) (fun _=>False) rfl (by first|(go_simp;done)|(go_simp;rfl)) ?aP (fun _ hk=>hk.elim) ?aF ?aO ?aB ?aS ?aL ?_;(case aP=>exact qwC _ _ _ b);(case aF=>exact (fun _ _=>trivial));(case aO=>exact HV5.out);(case aB=>exact HB5.out);(case aS=>exact qaI HB5.out);(case aL=>rw [HLN.out.1];omega);intro v7 w7 ho hb hg hat;obtain ⟨A7,c7,rfl⟩:∃ A c,v7=.slice A (i+1) c:=(by obtain ⟨A7,c7,e7⟩:=Kd.R_slice ho;exact ⟨A7,c7,by rw [e7];simp [HLN.out.1]⟩);have HV7:=aM ho;have HB7:=aM hb;have HT7:=aM (by obtain ⟨inner,hown⟩:=Kd.R_own HV5.out;exact qlY HT5.out hown (by decide) hg);have HK7:=aM (by obtain ⟨inner,hown⟩:=Kd.R_own HV5.out;exact qcQ HK5.out hg (qkG hown HK5.out (by decide)));have HL7:=aM (by obtain ⟨inner,hown⟩:=Kd.R_own HV5.out;exact qcQ HL5.out hg (qkG hown HL5.out (by decide)));have HX7:=aM (qcQ HX5.out hg HNE.out);clear ho hb hg hat x0 x1 x2 x3 x4 x5 yl)
    | ((with_reducible refine qbH (b:=.append) (xs:=#[.tmp 49,.tmp 51]) rfl ?_);at_builtin;refine Kd.R_append Kd.bool (w0:=W) W.heap.size rfl (.tmp 49) (.tmp 51) 114 4 (.bool false) 1 rfl qsL qzC rfl (by decide) (by omega) u6 T1 is [.bool is] (fun _=>True) (fun _=>False) rfl (by first|(go_simp;done)|(go_simp;rfl)) ?aP (fun _ hk=>hk.elim) ?aF ?aO ?aB ?aS ?aL ?_;(case aP=>exact (rfl:[Value.bool is]=[Value.bool is]));(case aF=>exact (fun _ _=>trivial));(case aO=>exact HT7.out);(case aB=>exact HB7.out);(case aS=>exact qaI HB7.out);(case aL=>rw [HLN.out.2];omega);intro v8 w8 ho hb hg hat;have HT8:=aM ho;have HB8:=aM hb;have HV8:=aM (by obtain ⟨inner,hown⟩:=Kd.R_own HT7.out;exact qlY HV7.out hown (by decide) hg);have HK8:=aM (by obtain ⟨inner,hown⟩:=Kd.R_own HT7.out;exact qcQ HK7.out hg (qkG hown HK7.out (by decide)));have hl8:w8.heap[gk+1]?=some (.cells #[vl] 40 (0,0)):=(by obtain ⟨inner,hown⟩:=Kd.R_own HT7.out;exact qcQ HL7.out hg (qkG hown HL7.out (by decide)));have HX8:=aM (by obtain ⟨inner,hown⟩:=Kd.R_own HT7.out;exact qcQ HX7.out hg (qkG hown HX7.out (by decide)));have HL8:=aM hl8;have yb:=jC hl8 0;have fb:=qaE hl8 0;clear ho hb hg hat hl8))
   generalize hW9:w8.setCell ⟨gk+1,0,none⟩ (.slice A7 (i+1) c7)=W9;have HB9:=aM (show Below W.heap.size W W9 by rw [← hW9];exact qaK HB8.out (by have:=HGK.out;omega));have HL9:=aM (show W9.heap[gk+1]?=some (.cells #[.slice A7 (i+1) c7] 40 (0,0)) by rw [← hW9];exact qaR HL8.out 0 _ rfl);have HK9:=aM (show W9.heap[gk]?=some (.cells (lkC gc a.g) 113 (0,0)) by rw [← hW9];exact qaT HK8.out (by simp) _);have HV9:=aM (show Kd.R quL 68 W9 W.heap.size (fun _=>True) (.slice A7 (i+1) c7) (L1 ++ [b]) by rw [← hW9];exact Kd.R_set HV8.out HL8.out (by decide) _ _);have HT9:=aM (show Kd.R Kd.bool 4 W9 W.heap.size (fun _=>True) v8 (T1 ++ [is]) by rw [← hW9];exact Kd.R_set HT8.out HL8.out (by decide) _ _);have HX9:=aM (show W9.heap[gx]?=some (.cells (bC b) 68 (0,0)) by rw [← hW9];exact qaT HX8.out (qaW HX8.out HL8.out (by decide)) _);clear hW9 yb fb
   cases is with
   | true =>
    have HS2:=aM (show qjC (qbK a (i+1))=(wrap64 (sm.1+b.f1),wrap64 (sm.2+1)) from HS.out);have x1:=jC HX9.out 1;go_wp2;go_roundw;case rel=>exact ⟨i+1,by omega,by push_cast;rfl,by rw [HS2.out],by rw [HS2.out],⟨by rw [HL'.out.2];exact HT9.out⟩,⟨_,HL9.out,by rw [HL'.out.1];exact HV9.out⟩,HK9,HB9⟩
    case measure=>simp [intOf];omega
   | false =>
    have HS2:=aM (show qjC (qbK a (i+1))=sm from HS.out);go_wp2;go_roundw;case rel=>exact ⟨i+1,by omega,by push_cast;rfl,by rw [HS2.out],by rw [HS2.out],⟨by rw [HL'.out.2];exact HT9.out⟩,⟨_,HL9.out,by rw [HL'.out.1];exact HV9.out⟩,HK9,HB9⟩
    case measure=>simp [intOf];omega
  ·obtain rfl:i=a.g.B:=by omega
   have d0:decide ((a.g.B:Int) < (a.g.B:Int))=false:=decide_eq_false (by omega)
   have HLN:qaJ (((qbK a a.g.B).map (·.1)).length=a.g.B∧((qbK a a.g.B).map (·.2)).length=a.g.B):=⟨by simp [qfB]⟩
   obtain ⟨gl,cl,rfl,hgl,hcl,HRows⟩:=Rows.of_R HL2.out (by rw [HLN.out.1];omega);obtain ⟨gt,ct,rfl,hgt,hglt,tcells,hgtc⟩:=Kd.R_form HT.out (by rw [HLN.out.2];omega);have HGL:=aM hgl;have HCL:=aM hcl;have HRW:=aM HRows;have HTC:=aM hgtc;have yl:=jC HL1.out 0;clear hgl hcl HRows hgt hglt hgtc;simp only [HLN.out.1,HLN.out.2] at yl HL1 HCL ⊢;have HLL:=aM (qfB a a.g.B)
   have HTD:=aM (fun (j:Nat) (hj:j < (qbK a a.g.B).length)=>(show tcells[j]?=some (.bool (qbK a a.g.B)[j].2) by
    have h1:=quR HT.out j (by rw [HLN.out.2];rw [HLL.out] at hj;exact hj);rw [jC HTC.out] at h1
    simpa using h1))
   have HSC:=aM (show qcM a=qoN ((qbK a a.g.B).map (qiI (qjC (qbK a a.g.B)))) from rfl);have HLW:=aM (qtA HBY.out a.g.B);generalize qjC (qbK a a.g.B)=sm at HSC ⊢;generalize qbK a a.g.B=L at HLL HTD HSC HRW HLW;clear HT HL2 HLN HBLK
   go_upto_region 18 with (fail)
   go_loopw [63] (fun v63 w'=>∃ j:Nat,j≤L.length∧v63=.int .i64 j∧qaJ (Rows w' gl (qlJ sm L j))∧qaJ (w'.heap[gk+1]?=some (.cells #[.slice (some ⟨gl,0,none⟩) a.g.B cl] 40 (0,0)))∧qaJ (w'.heap[gt]?=some (.cells tcells 4 (0,0)))∧qaJ (Below W.heap.size W w')) (fun j _=>L.length - (intOf j).toNat);case atStart=>exact ⟨0,Nat.zero_le _,rfl,⟨by rw [qvW];exact HRW.out⟩,HL1,HTC,HBr⟩
   case round =>
    clear HL1 HTC HBr HRW yl;obtain ⟨j,hj,rfl,HRW,HL1,HTC,HBr⟩:=hrel
    by_cases hlt:j < L.length
    ·have d1:decide ((j:Int) < (a.g.B:Int))=true:=decide_eq_true (by rw [HLL.out] at hlt;omega);have hq:(j < a.g.B)=True:=eq_true (by rw [HLL.out] at hlt;exact hlt);have hqi:((j:Int) < (a.g.B:Int))=True:=eq_true (by rw [HLL.out] at hlt;omega);have HMS:=aM (qoJ sm L j hlt);have HME:=aM (qvX sm L j hlt);have HMQ:=aM (qmZ sm L j hlt);have HTV:=aM (HTD.out j hlt);obtain ⟨hml,hmg⟩:=List.getElem?_eq_some_iff.1 (qmZ sm L j hlt);have hcs:=HRW.out.cell j hml;rw [hmg] at hcs;obtain ⟨z0,z1,z2,z3,z4,z5⟩:=hcs
     have HCN:=aM (fun v:Int=>(show Rows (wr.setCell ⟨gl,j*6+1,none⟩ (.int .i64 v)) gl ((qlJ sm L j).set j { L[j].1 with f1:=v }) by
      have:=HRW.out.count j hml v;rw [hmg] at this
      exact this))
     have HJ:=aM hlt;clear hmg hml;generalize L[j]=x at HMS HME HMQ HTV HCN z0 z1 z2 z3 z4 z5;clear hj hlt;obtain ⟨b,is⟩:=x;simp only at HMS HME HMQ HTV HCN z0 z1 z2 z3 z4 z5;have yt:=(jC HTC.out j).trans HTV.out
     go_upto_region 20 with (fail)
     have HX5:=aM (qaM wr (bC b) 68);have HL5:=aM (qaS HL1.out (.cells (bC b) 68));have HT5:=aM (qaS HTC.out (.cells (bC b) 68));have HB5:=aM (qaA HBr.out (.cells (bC b) 68))
     have hrk:∀ (o:Obj),(wr.alloc o).heap[gl]?=wr.heap[gl]?:=fun o=>by
      have h1:=HRW.out.lt;exact Below.heap_alloc wr o gl h1
     have HR5:=aM (HRW.out.keep (hrk (.cells (bC b) 68)))
     have HCN5:=aM (fun (W':World) (hW':W'.heap[gl]?=wr.heap[gl]?) (v:Int)=>(show Rows (W'.setCell ⟨gl,j*6+1,none⟩ (.int .i64 v)) gl ((qlJ sm L j).set j { b with f1:=v }) by
      have h1:=HCN.out v;obtain ⟨cells,h2,h3⟩:=HRW.out;obtain ⟨cells',h4,h5⟩:=h1;have h6:=qaR h2 (j*6+1) (.int .i64 v) rfl;rw [h6] at h4;simp only [Option.some.injEq,Obj.cells.injEq] at h4
      exact ⟨_,(qaR (hW'.trans h2) (j*6+1) (.int .i64 v) rfl).trans (by rw [h4.1]),h5⟩))
     have HRK:=aM (hrk (.cells (bC b) 68));clear hrk z0 z1 z2 z3 z4 z5 yt;generalize hW:wr.alloc (.cells (bC b) 68)=W5 at HX5 HL5 HT5 HB5 HR5 HRK ⊢;have x0:=jC HX5.out 0;have yt:=(jC HT5.out j).trans HTV.out
     have hjB:j < 256:=by
      have:=HJ.out;have:=HLL.out;omega
     clear hW
     by_cases hb0:b.f0=1
     ·have e0:(b.f0==1)=true:=by simp only [beq_iff_eq];exact hb0
      have e0n:(b.f0 != 1)=false:=by rw [bne,e0];rfl
      have HE:=aM (HME.out (by unfold qiI;rw [if_neg (fun h=>h.1 hb0)]));clear hb0;go_wp2;go_roundw;case rel=>exact ⟨j+1,HJ.out,by push_cast;rfl,⟨by rw [HE.out];exact HR5.out⟩,HL5,HT5,HB5⟩
      case measure=>simp [intOf];have:=HJ.out;omega
     ·have e0:(b.f0==1)=false:=by simp only [beq_eq_false_iff_ne];exact hb0
      have e0n:(b.f0 != 1)=true:=by rw [bne,e0];rfl
      cases is with
      | true =>
       have HE:=aM (HME.out (by unfold qiI;rw [if_neg (fun h=>by cases h.2.1)]));clear hb0;go_wp2;go_roundw;case rel=>exact ⟨j+1,HJ.out,by push_cast;rfl,⟨by rw [HE.out];exact HR5.out⟩,HL5,HT5,HB5⟩
       case measure=>simp [intOf];have:=HJ.out;omega
      | false =>
       by_cases hm0:0 < sm.2
       ·have e2:decide (0 < sm.2)=true:=decide_eq_true hm0;have HE:=aM (HMS.out.trans (by unfold qiI;rw [if_pos ⟨hb0,rfl,hm0⟩]));clear hb0
        go_upto_region 21 with (fail)
        have yl5:=jC HL5.out 0;have hf5:=HR5.out.frozen (j*6+1);obtain ⟨hml,hmg⟩:=List.getElem?_eq_some_iff.1 (show (qlJ sm L j)[j]?=some _ from HMQ.out);have z1:=(HR5.out.cell j hml).2.1;rw [hmg] at z1;have hne:(sm.2==0)=false:=by simp only [beq_eq_false_iff_ne];omega
        have hne2:¬ sm.2=0:=by omega
        clear hmg hml;go_region;generalize hW9:(W5.setCell ⟨gl,j*6+1,none⟩ (.int .i64 (wrap64 (sm.1.tdiv sm.2)))).drew=W9
        have HR9:=aM (show Rows W9 gl (qlJ sm L (j+1)) by
         rw [← hW9,HE.out]
         exact (HCN5.out W5 HRK.out _).keep rfl)
        have hne9:∀ {q:Nat} {cs:Array Value} {t:TypeId},W5.heap[q]?=some (.cells cs t (0,0))→t ≠ 68→q ≠ gl:=fun hq ht e=>by
         obtain ⟨cells,h1,-⟩:=HR5.out;rw [e,h1] at hq;simp only [Option.some.injEq,Obj.cells.injEq] at hq;exact ht hq.2.1.symm
        have HL9:=aM (show W9.heap[gk+1]?=some (.cells #[.slice (some ⟨gl,0,none⟩) a.g.B cl] 40 (0,0)) by
         rw [← hW9]
         exact qaT HL5.out (hne9 HL5.out (by decide)) _)
        have HT9:=aM (show W9.heap[gt]?=some (.cells tcells 4 (0,0)) by
         rw [← hW9]
         exact qaT HT5.out (hne9 HT5.out (by decide)) _)
        have HB9:=aM (show Below W.heap.size W W9 by
         rw [← hW9]
         exact qaO (qaK HB5.out HGL.out))
        clear hW9 hne9 yl5 hf5 z1 hne hne2;go_wp2;go_roundw;case rel=>exact ⟨j+1,HJ.out,by push_cast;rfl,HR9,HL9,HT9,HB9⟩
        case measure=>simp [intOf];have:=HJ.out;omega
       ·have e2:decide (0 < sm.2)=false:=decide_eq_false hm0;have HE:=aM (HME.out (by unfold qiI;rw [if_neg (fun h=>hm0 h.2.2)]));clear hb0 hm0;go_wp2;go_roundw;case rel=>exact ⟨j+1,HJ.out,by push_cast;rfl,⟨by rw [HE.out];exact HR5.out⟩,HL5,HT5,HB5⟩
        case measure=>simp [intOf];have:=HJ.out;omega
    ·obtain rfl:j=a.g.B:=by have:=HLL.out;omega
     have d1:decide ((a.g.B:Int) < (a.g.B:Int))=false:=decide_eq_false (by omega);have HSC2:=aM (show qcM a=qoN (qlJ sm L a.g.B) by rw [← HLL.out,qyO];exact HSC.out);have HXL:=aM (show (qlJ sm L a.g.B).length=a.g.B by rw [qyM _ _ _ (by rw [HLL.out];exact Nat.le_refl _),HLL.out]);have HLEB:=aM (qyN (s:=sm) HLW.out a.g.B);generalize qlJ sm L a.g.B=xs at HSC2 HXL HRW HLEB;have hmm:=@run_makeMap Tryz.prog;clear hj hlt
     go_upto_region 24 with (fail)
     obtain ⟨gm,hgm⟩:∃ gm,gm=wr.heap.size:=⟨_,rfl⟩
     generalize hW:(wr.alloc (.map #[] 0)).alloc (.cells #[.map (some wr.heap.size)] 117)=W6;have HM6:=aM (show W6.ownsMap Tryz.prog 3 (plainElem (H:=Unit) Tryz.prog 3) gm 0 (.map []) by rw [← hW,hgm];exact (World.ownsMap_made wr _ _ _).alloc _)
     have HN6:=aM (show W6.heap[gm+1]?=some (.cells #[.map (some gm)] 117 (0,0)) by
      have:=qaM (wr.alloc (.map #[] 0)) #[.map (some wr.heap.size)] 117;rw [World.size_alloc] at this;rw [← hW,hgm]
      exact this)
     have HL6:=aM (show W6.heap[gk+1]?=some (.cells #[.slice (some ⟨gl,0,none⟩) a.g.B cl] 40 (0,0)) by rw [← hW];exact qaS (qaS HL1.out _) _)
     have HR6:=aM (show Rows W6 gl xs by
      have hl:=HRW.out.lt;refine HRW.out.keep ?_
      rw [← hW,Below.heap_alloc _ _ _ (by simp;omega),Below.heap_alloc _ _ _ hl])
     have HB6:=aM (show Below W.heap.size W W6 by rw [← hW];exact qaA (qaA HBr.out _) _);have hsz6:W6.heap.size=gm+1+1:=by rw [← hW,hgm];simp
     have HGN:=aM (show gk+1 ≠ gl by
      obtain ⟨cells,h1,-⟩:=HR6.out;intro e;have h2:=HL6.out;rw [e,h1] at h2;simp only [Option.some.injEq,Obj.cells.injEq] at h2
      exact absurd h2.2.1 (by decide))
     have HGM:=aM (show W.heap.size≤gm∧gk+1 < gm∧gl < gm by
      have h1:=qaI HBr.out;have h2:=qcG HL1.out;have h3:=HRW.out.lt
      omega)
     rw [← hgm];clear hW hgm hmm;have yl6:=jC HL6.out 0
     go_upto_region 25 with (first
      | (go_at_call 71;(with_reducible refine (qmI _ _ _ _ _).mono ?_);rintro e w7 ⟨rfl,rfl⟩))
     have HSC3:=HSC2;have bS:=(Boxed.new W6 40 (.slice (some ⟨gl,0,none⟩) a.g.B cl)).alloc (.cells #[.int .i64 4] 3);have bT:=Boxed.new (W6.alloc (.cells #[.slice (some ⟨gl,0,none⟩) a.g.B cl] 40)) 3 (.int .i64 4);simp only [World.size_alloc,hsz6] at bS bT;generalize hW:(W6.alloc (.cells #[.slice (some ⟨gl,0,none⟩) a.g.B cl] 40)).alloc (.cells #[.int .i64 4] 3)=W7 at bS bT ⊢;have HM7:=aM (show W7.ownsMap Tryz.prog 3 (plainElem (H:=Unit) Tryz.prog 3) gm 0 (.map []) by rw [← hW];exact (HM6.out.alloc _).alloc _);have HN7:=aM (show Boxed W7 (gm+1) 117 (.map (some gm)) by rw [← hW];exact qaS (qaS HN6.out _) _);have HL7:=aM (show Boxed W7 (gk+1) 40 (.slice (some ⟨gl,0,none⟩) a.g.B cl) by rw [← hW];exact qaS (qaS HL6.out _) _)
     have HR7:=aM (show Rows W7 gl xs by
      have hl:=HR6.out.lt;refine HR6.out.keep ?_
      rw [← hW,Below.heap_alloc _ _ _ (by simp;omega),Below.heap_alloc _ _ _ hl])
     have HB7:=aM (show Below W.heap.size W W7 by rw [← hW];exact qaA (qaA HB6.out _) _);have hsz7:W7.heap.size=gm+1+1+1+1:=by rw [← hW];simp [hsz6]
     clear hW HM6 HN6 HL6 HR6 HB6 hsz6 yl6
     refine wpIn_wide.1 (qeO (F:=Fence.wide) (n:=4) rfl (by omega) trivial (gm+1+1) (gm+1+1+1) 4 (some ⟨gl,0,none⟩) cl xs rfl rfl (by rw [HXL.out];omega)
      (vdG W gm gk gl a.g.B cl xs)
      (fun pre W'=>False)
      (qyZ (by omega) (by have:=HGM.out;omega))
      (ownFrom_pure _ _)
      (fun pre W' h=>by rw [HXL.out];exact h.2.1.1.1.cell) (fun pre W' h=>h.2.1.1.2.cell) (fun k W' h hi=>hi.2.2.1.entry k h)
      ⟨⟨0,_,HM7.out,rfl,qlT.empty⟩,⟨⟨bS,bT⟩,⟨HN7.out,HL7.out⟩⟩,⟨HR7.out,HB7.out⟩⟩
      (fun x a' W'=>∃ Bx,gm+4≤Bx∧W'.heap[Bx]?=some (.cells (bC x.1.2) 68 (0,0))∧a'={ tmps:=#[cp gc,undef,.slice none 0 0,.int .i64 0,.pointer (some ⟨gk,0,none⟩),.pointer (some ⟨gk+1,0,none⟩),.slice (some ⟨gt,0,none⟩) a.g.B ct,.int .i64 sm.1,.int .i64 sm.2,u9,u10,u11,u12,u13,.pointer (some ⟨gm+1,0,none⟩),.int .i64 (x.1.1:Int),.pointer (some ⟨Bx,0,none⟩),undef,undef,undef,undef,cp gc,.bool false,cp gc,.bool true,.bool false,cp gc,cp gc,gV a.g.B a.g.P a.g.Z a.g.R,.agg #[cp gc,.int .i64 a.g.B,.int .i64 a.g.P,.int .i64 a.g.Z,.int .i64 a.g.R],.pointer (some ⟨gk,0,none⟩),.pointer (some ⟨gk,0,none⟩),.pointer (some ⟨gk,0,none⟩),.pointer (some ⟨gk,1,none⟩),.pointer (some ⟨gk,1,none⟩),.int .i64 a.g.B,.int .i64 a.g.B,.bool false,u38,u39,u40,u41,u42,u43,u44,u45,u46,u47,u48,u49,u50,u51,u52,u53,u54,u55,u56,u57,u58,u59,u60,.slice (some ⟨gl,0,none⟩) a.g.B cl,.int .i64 a.g.B,.int .i64 a.g.B,.bool false,u65,u66,u67,u68,u69,u70,u71,u72,u73,u74,u75,u76,u77,u78,u79,u80,u81,u82,u83,u84,u85,u86,u87,u88,u89,.map (some gm),.slice (some ⟨gl,0,none⟩) a.g.B cl,.func (.func 125) #[] #[.pointer (some ⟨gm+1+1,0,none⟩),.pointer (some ⟨gm+1+1+1,0,none⟩)],.int .i64 (x.1.1:Int),.agg (bC x.1.2),undef,undef,undef,undef,undef,undef,undef,undef,undef,undef,undef,undef,undef,undef,undef,undef,undef,undef,undef,undef,undef,undef,undef,undef,undef,undef,undef,undef,undef,undef,undef,undef,undef,undef,undef,undef,undef,undef,undef,undef],defers:=[] })
      (fun x a' _ X Y row hs hg hrow=>by obtain ⟨Bx,h1,h2,h3⟩:=hs;exact ⟨Bx,h1,qiK (β:=Unit) Bx 68 (bC x.1.2) () X Y row h2 hg (fun r e=>(hrow r e).2),h3⟩)
      ?assign ?body ?done ?stop)
     case stop=>rintro k hk W' hs h hK;exact h.elim
     case assign =>
      rintro l pre x W8 K ⟨⟨n,D,hm,hn,hD⟩,⟨⟨bS1,bT1⟩,⟨bN1,bL1⟩⟩,⟨hR1,hB1⟩⟩ hK;have hs1:gm+1+1+1 < W8.heap.size:=(Array.getElem?_eq_some_iff.1 (show W8.heap[gm+1+1+1]?=_ from bT1)).1;have HI:=aM hK;have HM1:=aM hm;have HR1:=aM hR1;clear hK hm hR1;simp only [vaK]
      gi_wp2
      exact HI.out _ _ ((KeepsOthers.alloc _ _).from _) ⟨⟨n,D,HM1.out.alloc _,hn,hD⟩,⟨⟨bS1.alloc _,bT1.alloc _⟩,⟨bN1.alloc _,bL1.alloc _⟩⟩,⟨HR1.out.keep (Below.heap_alloc _ _ _ HR1.out.lt),qaA hB1 _⟩⟩ ⟨W8.heap.size,by omega,World.alloc_heap_new W8 _,rfl⟩
     case body =>
      rintro l pre x a' W8 hinv ⟨Bx,hBx,bX,rfl⟩ hlt;have HINV:=aM hinv;obtain ⟨⟨n,D,hm,hn,hD⟩,⟨⟨bS1,bT1⟩,⟨bN1,bL1⟩⟩,⟨hR1,hB1⟩⟩:=hinv;have HM1:=aM hm;have HR1:=aM hR1;have HD1:=aM hD;have HB1:=aM hB1;have HBX:=aM bX;have HBN:=aM bN1;have HBL:=aM bL1;have HBS:=aM bS1;have HBT:=aM bT1;have HXI:=aM x.2.1;have cX2:=jC bX 2;have cX:W8.cell? ⟨Bx,4,none⟩=some (.int .u64 x.1.2.f4):=jC bX 4;have cN:=bN1.cell;have cS:=bL1.cell;have hlb:0≤x.1.2.f2∧x.1.2.f2 < 256:=HLEB.out _ (List.mem_of_getElem? x.2.2);have HWF:=aM (vaC hlb);have hn2:n < 256:=by have:=HXL.out;omega
      have HNE:=aM (show qiM (pre ++ [x])=vbW (qiM pre) x by simp [qiM,List.foldl_append]);have HHAS:=aM (hD.2 x.1.2.f2).1;have HAT:=aM (hD.2 x.1.2.f2).2;have HN:=aM hn;have HWI:=aM (show (Lit.int .i64 (x.1.1:Int)).wf=true from WalkArith.wf_i64 (by have:=x.2.1;have:=HXL.out;omega))
      have HKL:qaJ (∀ l k,qiM pre l=some k→k < xs.length):=⟨vbX pre⟩
      clear hm hR1 hD hB1 bX bN1 bL1 bS1 bT1
      cases hf:qiM pre x.1.2.f2 with
      | none =>
       rw [hf] at HHAS
       have HNE2:=aM (show qiM (pre ++ [x])=fun l=>if l=x.1.2.f2 then some x.1.1 else qiM pre l by
        rw [HNE.out];funext l;unfold vbW
        by_cases h:l=x.1.2.f2
        ·rw [if_pos h,if_pos h,h,hf]
        ·rw [if_neg h,if_neg h])
       clear hf HAT HNE
       gi_wp2_with (first|(gi_at_lookup;refine wpListIn_lookup_own_ok_int _ rfl _ _ 117 rfl 3 3 .i64 qkP (by kernel_rfl) Tryz.underlying3 (qjR _) gm n D rfl HM1.out _ _ rfl (Maps.keyOf_int_mk Tryz.underlying3 HWF.out) ?_;intro c hat hwc;rw [HHAS.out];clear hat hwc))
       refine Reg.detIn [(0,102,?r1v0),(1,103,?r1v1),(2,104,?r1v2),(3,105,undef),(4,106,undef),(5,107,undef),(6,108,undef),(7,109,undef),(8,110,undef),(9,111,undef),(10,112,undef),(11,113,?r1v11)] (fun w'=>w'.heap=W8.heap∧Below W8.heap.size W8 w') (by rfl) rfl (by rfl) (by rintro ⟨_,_,h⟩;exact h) (by kernel_rfl) ?r1S ?r1steps ?r1okv ?r1hlt ?r1fin;case r1S=>exact ⟨rfl,qaO (Below.refl _ _)⟩
       case r1steps =>
        refine Reg.fS 0 rfl rfl (fun a w hS hK K hC=>?_) ?_
        ·refine Reg.sO ?_;have e18:=hK.off 18 _ rfl rfl;clear hK;go_simp;exact hC _ hS
        refine Reg.fS 1 rfl rfl (fun a w hS hK K hC=>?_) ?_
        ·refine Reg.sO ?_;have e102:=hK.sl 0 rfl;clear hK;go_simp;exact hC _ hS
        refine Reg.fS 2 rfl rfl (fun a w hS hK K hC=>?_) ?_
        ·refine Reg.sO ?_;have e103:=hK.sl 1 rfl;clear hK;go_simp;exact hC _ hS
        refine Reg.fS 3 rfl rfl (fun a w hS hK K hC=>?_) ?_
        ·refine Reg.step_off (qaN (g:=2) rfl rfl rfl (hK.sl 2 rfl)) ?_;exact hC _ hS
        refine Reg.fS 4 rfl rfl (fun a w hS hK K hC=>?_) ?_
        ·refine Reg.step_off (qaN (g:=2) rfl rfl rfl (hK.sl 2 rfl)) ?_;exact hC _ hS
        refine Reg.fS 5 rfl rfl (fun a w hS hK K hC=>?_) ?_
        ·refine Reg.step_off (qaN (g:=2) rfl rfl rfl (hK.sl 2 rfl)) ?_;exact hC _ hS
        refine Reg.fS 6 rfl rfl (fun a w hS hK K hC=>?_) ?_
        ·refine Reg.step_off (qaN (g:=2) rfl rfl rfl (hK.sl 2 rfl)) ?_;exact hC _ hS
        refine Reg.fS 7 rfl rfl (fun a w hS hK K hC=>?_) ?_
        ·refine Reg.step_off (qaN (g:=2) rfl rfl rfl (hK.sl 2 rfl)) ?_;exact hC _ hS
        refine Reg.fS 8 rfl rfl (fun a w hS hK K hC=>?_) ?_
        ·refine Reg.step_off (qaN (g:=2) rfl rfl rfl (hK.sl 2 rfl)) ?_;exact hC _ hS
        refine Reg.fS 9 rfl rfl (fun a w hS hK K hC=>?_) ?_
        ·refine Reg.step_off (qaN (g:=2) rfl rfl rfl (hK.sl 2 rfl)) ?_;exact hC _ hS
        refine Reg.fS 10 rfl rfl (fun a w hS hK K hC=>?_) ?_
        ·refine Reg.step_off (qaN (g:=2) rfl rfl rfl (hK.sl 2 rfl)) ?_;exact hC _ hS
        refine Reg.fS 11 rfl rfl (fun a w hS hK K hC=>?_) ?_
        ·refine Reg.sO ?_;have e104:=hK.sl 2 rfl;have e112:=hK.sl 10 rfl;clear hK;go_simp;exact hC _ hS
        exact Reg.from_nil
       case r1okv=>rfl
       case r1hlt=>rfl
       case r1fin =>
        intro wz hS;simp only [Reg.putV,List.foldl_cons,List.foldl_nil,Act.put,List.setIfInBounds_toArray,List.set_cons_zero,List.set_cons_succ];have HS1:=aM hS.1;have HS2:=aM hS.2;have zN:=(qaL hS.1 _).trans cN;have zX:=(qaL hS.1 _).trans cX2;have HMz:=aM (qgD hS.1 HM1.out);clear hS
        gi_wp2_with (first|(gi_at_mapUpdate;refine wpListIn_mapUpdate_own _ rfl _ _ _ 117 rfl 3 3 qkP (by kernel_rfl) (plainElem (H:=Unit) Tryz.prog 3) gm n D rfl HMz.out (by unfold maxLen;omega) _ _ _ rfl rfl (Maps.keyOf_int_mk Tryz.underlying3 HWF.out) _ [] (plainElem_int Tryz.underlying3 HWI.out) ?_;intro w1 hown1 hgrow1;have HO1:=aM hown1;have HG1:=aM hgrow1;clear hown1 hgrow1))
        exact qrQ HINV.out HS1.out HS2.out HO1.out HG1.out HN.out HD1.out (by omega) HGM.out.2.1 HGM.out.2.2 HGM.out.1 HNE2.out
      | some k =>
       rw [hf] at HHAS;have HCK:=aM (HAT.out k hf);have hk:k < xs.length:=HKL.out _ _ hf;obtain ⟨-,-,-,-,cK,-⟩:=HR1.out.cell k hk;have hqk:(k < a.g.B)=True:=eq_true (by have:=HXL.out;omega);have hqki:((k:Int) < (a.g.B:Int))=True:=eq_true (by have:=HXL.out;omega);have HXK:=aM (qbO (xs:=xs) hk)
       have HNS:=aM (show qiM (pre ++ [x])=fun l=>if l=x.1.2.f2 then (if xs[k].f4 < x.1.2.f4 then some x.1.1 else some k) else qiM pre l by
        rw [HNE.out];funext l;unfold vbW
        by_cases h:l=x.1.2.f2
        ·rw [if_pos h,if_pos h,h,hf,← HXK.out]
        ·rw [if_neg h,if_neg h])
       have HSM:=aM (show (fun l=>if l=x.1.2.f2 then some k else qiM pre l)=qiM pre by
        funext l
        by_cases h:l=x.1.2.f2
        ·rw [if_pos h,h,hf]
        ·rw [if_neg h])
       generalize xs[k].f4=fk at cK HNS;clear hf HAT HNE HXK
       by_cases hnw:fk < x.1.2.f4
       ·have d2:decide (fk < x.1.2.f4)=true:=decide_eq_true hnw;have HNE2:=aM (show qiM (pre ++ [x])=fun l=>if l=x.1.2.f2 then some x.1.1 else qiM pre l by rw [HNS.out];simp only [if_pos hnw]);clear hnw HNS
        gi_wp2_with (first|(gi_at_lookup;refine wpListIn_lookup_own_ok_int _ rfl _ _ 117 rfl 3 3 .i64 qkP (by kernel_rfl) Tryz.underlying3 (qjR _) gm n D rfl HM1.out _ _ rfl (Maps.keyOf_int_mk Tryz.underlying3 HWF.out) ?_;intro c hat hwc;obtain rfl:c=(k:Int):=(by have:=hat.symm.trans HCK.out;simpa using this);rw [HHAS.out];clear hat hwc))
        refine Reg.detIn [(0,102,?r2v0),(1,103,?r2v1),(2,104,?r2v2),(3,105,?r2v3),(4,106,?r2v4),(5,107,?r2v5),(6,108,?r2v6),(7,109,?r2v7),(8,110,?r2v8),(9,111,?r2v9),(10,112,?r2v10),(11,113,?r2v11)] (fun w'=>w'.heap=W8.heap∧Below W8.heap.size W8 w') (by rfl) rfl (by rfl) (by rintro ⟨_,_,h⟩;exact h) (by kernel_rfl) ?r2S ?r2steps ?r2okv ?r2hlt ?r2fin;case r2S=>exact ⟨rfl,qaO (Below.refl _ _)⟩
        case r2steps =>
         refine Reg.fS 0 rfl rfl (fun a w hS hK K hC=>?_) ?_
         ·refine Reg.sO ?_;have e18:=hK.off 18 _ rfl rfl;clear hK;go_simp;exact hC _ hS
         refine Reg.fS 1 rfl rfl (fun a w hS hK K hC=>?_) ?_
         ·refine Reg.sO ?_;have e102:=hK.sl 0 rfl;clear hK;go_simp;exact hC _ hS
         refine Reg.fS 2 rfl rfl (fun a w hS hK K hC=>?_) ?_
         ·refine Reg.sO ?_;have e103:=hK.sl 1 rfl;clear hK;go_simp;exact hC _ hS
         refine Reg.fS 3 rfl rfl (fun a w hS hK K hC=>?_) ?_
         ·refine Reg.step_on (qaG (g:=2) rfl rfl rfl (hK.sl 2 rfl)) ?_;have e16:=hK.off 16 _ rfl rfl;clear hK;go_simp;exact hC _ hS
         refine Reg.fS 4 rfl rfl (fun a w hS hK K hC=>?_) ?_
         ·refine Reg.step_on (qaG (g:=2) rfl rfl rfl (hK.sl 2 rfl)) ?_;have e105:=hK.sl 3 rfl;have zs:=(qaL hS.1 _).trans cS;have zx:=(qaL hS.1 _).trans cX;have zk:=(qaL hS.1 _).trans cK;clear hK;go_simp;exact hC _ hS
         refine Reg.fS 5 rfl rfl (fun a w hS hK K hC=>?_) ?_
         ·refine Reg.step_on (qaG (g:=2) rfl rfl rfl (hK.sl 2 rfl)) ?_;have e5:=hK.off 5 _ rfl rfl;have zs:=(qaL hS.1 _).trans cS;have zx:=(qaL hS.1 _).trans cX;have zk:=(qaL hS.1 _).trans cK;clear hK;go_simp;exact hC _ hS
         refine Reg.fS 6 rfl rfl (fun a w hS hK K hC=>?_) ?_
         ·refine Reg.step_on (qaG (g:=2) rfl rfl rfl (hK.sl 2 rfl)) ?_;have e17:=hK.off 17 _ rfl rfl;clear hK;go_simp;exact hC _ hS
         refine Reg.fS 7 rfl rfl (fun a w hS hK K hC=>?_) ?_
         ·refine Reg.step_on (qaG (g:=2) rfl rfl rfl (hK.sl 2 rfl)) ?_;have e107:=hK.sl 5 rfl;have e108:=hK.sl 6 rfl;clear hK;go_simp;exact hC _ hS
         refine Reg.fS 8 rfl rfl (fun a w hS hK K hC=>?_) ?_
         ·refine Reg.step_on (qaG (g:=2) rfl rfl rfl (hK.sl 2 rfl)) ?_;have e109:=hK.sl 7 rfl;clear hK;go_simp;exact hC _ hS
         refine Reg.fS 9 rfl rfl (fun a w hS hK K hC=>?_) ?_
         ·refine Reg.step_on (qaG (g:=2) rfl rfl rfl (hK.sl 2 rfl)) ?_;have e110:=hK.sl 8 rfl;have zs:=(qaL hS.1 _).trans cS;have zx:=(qaL hS.1 _).trans cX;have zk:=(qaL hS.1 _).trans cK;clear hK;go_simp;exact hC _ hS
         refine Reg.fS 10 rfl rfl (fun a w hS hK K hC=>?_) ?_
         ·refine Reg.step_on (qaG (g:=2) rfl rfl rfl (hK.sl 2 rfl)) ?_;have e106:=hK.sl 4 rfl;have e111:=hK.sl 9 rfl;clear hK;go_simp;exact hC _ hS
         refine Reg.fS 11 rfl rfl (fun a w hS hK K hC=>?_) ?_
         ·refine Reg.sO ?_;have e104:=hK.sl 2 rfl;have e112:=hK.sl 10 rfl;clear hK;go_simp;exact hC _ hS
         exact Reg.from_nil
        case r2okv=>rfl
        case r2hlt=>rfl
        case r2fin =>
         intro wz hS;simp only [Reg.putV,List.foldl_cons,List.foldl_nil,Act.put,List.setIfInBounds_toArray,List.set_cons_zero,List.set_cons_succ];have HS1:=aM hS.1;have HS2:=aM hS.2;have zN:=(qaL hS.1 _).trans cN;have zX:=(qaL hS.1 _).trans cX2;have HMz:=aM (qgD hS.1 HM1.out);clear hS
         gi_wp2_with (first|(gi_at_mapUpdate;refine wpListIn_mapUpdate_own _ rfl _ _ _ 117 rfl 3 3 qkP (by kernel_rfl) (plainElem (H:=Unit) Tryz.prog 3) gm n D rfl HMz.out (by unfold maxLen;omega) _ _ _ rfl rfl (Maps.keyOf_int_mk Tryz.underlying3 HWF.out) _ [] (plainElem_int Tryz.underlying3 HWI.out) ?_;intro w1 hown1 hgrow1;have HO1:=aM hown1;have HG1:=aM hgrow1;clear hown1 hgrow1))
         exact qrQ HINV.out HS1.out HS2.out HO1.out HG1.out HN.out HD1.out (by omega) HGM.out.2.1 HGM.out.2.2 HGM.out.1 HNE2.out
       ·have d2:decide (fk < x.1.2.f4)=false:=decide_eq_false hnw;have HNE2:=aM (show qiM (pre ++ [x])=qiM pre by rw [HNS.out];simp only [if_neg hnw];exact HSM.out);clear hnw HNS
        gi_wp2_with (first|(gi_at_lookup;refine wpListIn_lookup_own_ok_int _ rfl _ _ 117 rfl 3 3 .i64 qkP (by kernel_rfl) Tryz.underlying3 (qjR _) gm n D rfl HM1.out _ _ rfl (Maps.keyOf_int_mk Tryz.underlying3 HWF.out) ?_;intro c hat hwc;obtain rfl:c=(k:Int):=(by have:=hat.symm.trans HCK.out;simpa using this);rw [HHAS.out];clear hat hwc))
        refine Reg.detIn [(0,102,?r3v0),(1,103,?r3v1),(2,104,?r3v2),(3,105,?r3v3),(4,106,?r3v4),(5,107,?r3v5),(6,108,?r3v6),(7,109,?r3v7),(8,110,?r3v8),(9,111,?r3v9),(10,112,?r3v10),(11,113,?r3v11)] (fun w'=>w'.heap=W8.heap∧Below W8.heap.size W8 w') (by rfl) rfl (by rfl) (by rintro ⟨_,_,h⟩;exact h) (by kernel_rfl) ?r3S ?r3steps ?r3okv ?r3hlt ?r3fin;case r3S=>exact ⟨rfl,qaO (Below.refl _ _)⟩
        case r3steps =>
         refine Reg.fS 0 rfl rfl (fun a w hS hK K hC=>?_) ?_
         ·refine Reg.sO ?_;have e18:=hK.off 18 _ rfl rfl;clear hK;go_simp;exact hC _ hS
         refine Reg.fS 1 rfl rfl (fun a w hS hK K hC=>?_) ?_
         ·refine Reg.sO ?_;have e102:=hK.sl 0 rfl;clear hK;go_simp;exact hC _ hS
         refine Reg.fS 2 rfl rfl (fun a w hS hK K hC=>?_) ?_
         ·refine Reg.sO ?_;have e103:=hK.sl 1 rfl;clear hK;go_simp;exact hC _ hS
         refine Reg.fS 3 rfl rfl (fun a w hS hK K hC=>?_) ?_
         ·refine Reg.step_on (qaG (g:=2) rfl rfl rfl (hK.sl 2 rfl)) ?_;have e16:=hK.off 16 _ rfl rfl;clear hK;go_simp;exact hC _ hS
         refine Reg.fS 4 rfl rfl (fun a w hS hK K hC=>?_) ?_
         ·refine Reg.step_on (qaG (g:=2) rfl rfl rfl (hK.sl 2 rfl)) ?_;have e105:=hK.sl 3 rfl;have zs:=(qaL hS.1 _).trans cS;have zx:=(qaL hS.1 _).trans cX;have zk:=(qaL hS.1 _).trans cK;clear hK;go_simp;exact hC _ hS
         refine Reg.fS 5 rfl rfl (fun a w hS hK K hC=>?_) ?_
         ·refine Reg.step_on (qaG (g:=2) rfl rfl rfl (hK.sl 2 rfl)) ?_;have e5:=hK.off 5 _ rfl rfl;have zs:=(qaL hS.1 _).trans cS;have zx:=(qaL hS.1 _).trans cX;have zk:=(qaL hS.1 _).trans cK;clear hK;go_simp;exact hC _ hS
         refine Reg.fS 6 rfl rfl (fun a w hS hK K hC=>?_) ?_
         ·refine Reg.step_on (qaG (g:=2) rfl rfl rfl (hK.sl 2 rfl)) ?_;have e17:=hK.off 17 _ rfl rfl;clear hK;go_simp;exact hC _ hS
         refine Reg.fS 7 rfl rfl (fun a w hS hK K hC=>?_) ?_
         ·refine Reg.step_on (qaG (g:=2) rfl rfl rfl (hK.sl 2 rfl)) ?_;have e107:=hK.sl 5 rfl;have e108:=hK.sl 6 rfl;clear hK;go_simp;exact hC _ hS
         refine Reg.fS 8 rfl rfl (fun a w hS hK K hC=>?_) ?_
         ·refine Reg.step_on (qaG (g:=2) rfl rfl rfl (hK.sl 2 rfl)) ?_;have e109:=hK.sl 7 rfl;clear hK;go_simp;exact hC _ hS
         refine Reg.fS 9 rfl rfl (fun a w hS hK K hC=>?_) ?_
         ·refine Reg.step_on (qaG (g:=2) rfl rfl rfl (hK.sl 2 rfl)) ?_;have e110:=hK.sl 8 rfl;have zs:=(qaL hS.1 _).trans cS;have zx:=(qaL hS.1 _).trans cX;have zk:=(qaL hS.1 _).trans cK;clear hK;go_simp;exact hC _ hS
         refine Reg.fS 10 rfl rfl (fun a w hS hK K hC=>?_) ?_
         ·refine Reg.step_on (qaG (g:=2) rfl rfl rfl (hK.sl 2 rfl)) ?_;have e106:=hK.sl 4 rfl;have e111:=hK.sl 9 rfl;clear hK;go_simp;exact hC _ hS
         refine Reg.fS 11 rfl rfl (fun a w hS hK K hC=>?_) ?_
         ·refine Reg.sO ?_;have e104:=hK.sl 2 rfl;have e112:=hK.sl 10 rfl;clear hK;go_simp;exact hC _ hS
         exact Reg.from_nil
        case r3okv=>rfl
        case r3hlt=>rfl
        case r3fin =>
         intro wz hS;simp only [Reg.putV,List.foldl_cons,List.foldl_nil,Act.put,List.setIfInBounds_toArray,List.set_cons_zero,List.set_cons_succ];have HS1:=aM hS.1;have HS2:=aM hS.2;clear hS
         gi_wp2
         exact qwF HINV.out HS1.out HS2.out HNE2.out
     case done =>
      rintro W8 ⟨⟨n,D,hm,hn,hD⟩,⟨⟨bS1,bT1⟩,⟨bN1,bL1⟩⟩,⟨hR1,hB1⟩⟩ hK;rw [qrJ xs xs.length (Nat.le_refl _)] at hD
      obtain ⟨nw,hnw⟩:∃ nw,nw=qkH xs xs.length:=⟨_,rfl⟩
      rw [← hnw] at hD;have HNW:=aM hnw;clear hnw;have HM8:=aM hm;have HD8:=aM hD;have HN8:=aM bN1;have HL8:=aM bL1;have HR8:=aM hR1;have HB8:=aM hB1;have HK8:=aM hK
      have HSZ8:=aM (show gm+1+1+1+1 < W8.heap.size by
       have:=(Array.getElem?_eq_some_iff.1 hK).1
       omega)
      have yl8:=bL1.cell;clear hm hn hD bS1 bT1 bN1 bL1 hR1 hB1 hK
      go_upto_region 31 with (first
       | (go_at_call 71;(with_reducible refine (qmI _ _ _ _ _).mono ?_);rintro e w9 ⟨rfl,rfl⟩))
      obtain ⟨gb,hgb⟩:∃ gb,gb=W8.heap.size:=⟨_,rfl⟩
      have bS:=(Boxed.new W8 40 (.slice (some ⟨gl,0,none⟩) a.g.B cl)).alloc (.cells #[.int .i64 4] 3);have bT:=Boxed.new (W8.alloc (.cells #[.slice (some ⟨gl,0,none⟩) a.g.B cl] 40)) 3 (.int .i64 4);simp only [World.size_alloc,← hgb] at bS bT;generalize hW:(W8.alloc (.cells #[.slice (some ⟨gl,0,none⟩) a.g.B cl] 40)).alloc (.cells #[.int .i64 4] 3)=W9 at bS bT ⊢;have HM9:=aM (show W9.ownsMap Tryz.prog 3 (plainElem (H:=Unit) Tryz.prog 3) gm n D by rw [← hW];exact (HM8.out.alloc _).alloc _);have HN9:=aM (show Boxed W9 (gm+1) 117 (.map (some gm)) by rw [← hW];exact (HN8.out.alloc _).alloc _);have HL9:=aM (show Boxed W9 (gk+1) 40 (.slice (some ⟨gl,0,none⟩) a.g.B cl) by rw [← hW];exact (HL8.out.alloc _).alloc _)
      have HR9:=aM (show Rows W9 gl xs by
       have hl:=HR8.out.lt;refine HR8.out.keep ?_
       rw [← hW,Below.heap_alloc _ _ _ (by simp;omega),Below.heap_alloc _ _ _ hl])
      have HK9:=aM (show W9.heap[W7.heap.size]?=some (.deferred (some [])) by
       have hl:=(Array.getElem?_eq_some_iff.1 HK8.out).1;rw [← hW,Below.heap_alloc _ _ _ (by simp;omega),Below.heap_alloc _ _ _ hl]
       exact HK8.out)
      have HB9:=aM (show Below W.heap.size W W9 by rw [← hW];exact qaA (qaA HB8.out _) _);have hsz9:W9.heap.size=gb+1+1:=by rw [← hW,hgb];simp
      have HGB:=aM (show gm+1+1+1+1 < gb by rw [hgb];exact HSZ8.out);rw [← hgb];clear hW hgb yl8 HM8 HN8 HL8 HR8 HK8 HB8 HSZ8
      refine wpIn_wide.1 (qeO (F:=Fence.wide) (n:=4) rfl (by omega) trivial gb (gb+1) 4 (some ⟨gl,0,none⟩) cl xs rfl rfl (by rw [HXL.out];omega)
       (vdF W gm gk gl gb a.g.B cl W7.heap.size n D nw xs)
       (fun pre W'=>False)
       (qyY (by have:=HGB.out;omega) (by have:=HGB.out;omega) (by have:=HGM.out;have:=HGB.out;omega))
       (ownFrom_pure _ _)
       (fun pre W' h=>by rw [HXL.out];exact h.2.1.1.1.cell) (fun pre W' h=>h.2.1.1.2.cell) (fun k W' h hi=>by
        obtain ⟨hl,he⟩:=List.getElem?_eq_some_iff.1 (quA nw xs k h);have:=hi.2.2.1.entry k hl;rw [he] at this
        exact this)
       ⟨⟨HM9.out,HK9.out⟩,⟨⟨bS,bT⟩,⟨HN9.out,HL9.out⟩⟩,⟨HR9.out,HB9.out⟩⟩
       (fun x a' W'=>∃ Bx,gb+2≤Bx∧W'.heap[Bx]?=some (.cells (bC x.1.2) 68 (0,0))∧a'={ tmps:=#[cp gc,undef,.slice none 0 0,.int .i64 0,.pointer (some ⟨gk,0,none⟩),.pointer (some ⟨gk+1,0,none⟩),.slice (some ⟨gt,0,none⟩) a.g.B ct,.int .i64 sm.1,.int .i64 sm.2,u9,u10,u11,u12,u13,.pointer (some ⟨gm+1,0,none⟩),undef,undef,undef,undef,.int .i64 (x.1.1:Int),.pointer (some ⟨Bx,0,none⟩),cp gc,.bool false,cp gc,.bool true,.bool false,cp gc,cp gc,gV a.g.B a.g.P a.g.Z a.g.R,.agg #[cp gc,.int .i64 a.g.B,.int .i64 a.g.P,.int .i64 a.g.Z,.int .i64 a.g.R],.pointer (some ⟨gk,0,none⟩),.pointer (some ⟨gk,0,none⟩),.pointer (some ⟨gk,0,none⟩),.pointer (some ⟨gk,1,none⟩),.pointer (some ⟨gk,1,none⟩),.int .i64 a.g.B,.int .i64 a.g.B,.bool false,u38,u39,u40,u41,u42,u43,u44,u45,u46,u47,u48,u49,u50,u51,u52,u53,u54,u55,u56,u57,u58,u59,u60,.slice (some ⟨gl,0,none⟩) a.g.B cl,.int .i64 a.g.B,.int .i64 a.g.B,.bool false,u65,u66,u67,u68,u69,u70,u71,u72,u73,u74,u75,u76,u77,u78,u79,u80,u81,u82,u83,u84,u85,u86,u87,u88,u89,.map (some gm),.slice (some ⟨gl,0,none⟩) a.g.B cl,.func (.func 125) #[] #[.pointer (some ⟨gm+1+1,0,none⟩),.pointer (some ⟨gm+1+1+1,0,none⟩)],undef,undef,undef,undef,undef,undef,undef,undef,undef,undef,undef,undef,undef,undef,undef,undef,undef,undef,undef,undef,undef,undef,undef,undef,undef,.slice (some ⟨gl,0,none⟩) a.g.B cl,.func (.func 125) #[] #[.pointer (some ⟨gb,0,none⟩),.pointer (some ⟨gb+1,0,none⟩)],.int .i64 (x.1.1:Int),.agg (bC x.1.2),undef,undef,undef,undef,undef,undef,undef,undef,undef,undef,undef,undef,undef],defers:=[] })
       (fun x a' _ X Y row hs hg hrow=>by obtain ⟨Bx,h1,h2,h3⟩:=hs;exact ⟨Bx,h1,qiK (β:=Unit) Bx 68 (bC x.1.2) () X Y row h2 hg (fun r e=>(hrow r e).2),h3⟩)
       ?assign ?body ?done ?stop)
      case stop=>rintro k hk W' hs h hK;exact h.elim
      case assign =>
       rintro l pre x W8 K hinv hK;have HINV:=aM hinv;have hs1:gb+1 < W8.heap.size:=(Array.getElem?_eq_some_iff.1 (show W8.heap[gb+1]?=_ from hinv.2.1.1.2)).1;have HI:=aM hK;clear hK hinv;simp only [vaK]
       gi_wp2
       obtain ⟨⟨hm,hd⟩,⟨⟨bS1,bT1⟩,⟨bN1,bL1⟩⟩,⟨hR1,hB1⟩⟩:=HINV.out;exact HI.out _ _ ((KeepsOthers.alloc _ _).from _) ⟨⟨hm.alloc _,(Below.heap_alloc _ _ _ (Array.getElem?_eq_some_iff.1 hd).1).trans hd⟩,⟨⟨bS1.alloc _,bT1.alloc _⟩,⟨bN1.alloc _,bL1.alloc _⟩⟩,⟨hR1.keep (Below.heap_alloc _ _ _ hR1.lt),qaA hB1 _⟩⟩ ⟨W8.heap.size,by omega,World.alloc_heap_new W8 _,rfl⟩
      case body =>
       rintro l pre x a' W8 hinv ⟨Bx,hBx,bX,rfl⟩ hlt;have HINV:=aM hinv;have HM1:=aM hinv.1.1;have cX2:=jC bX 2;have cX1:=jC bX 1;have cN:=hinv.2.1.2.1.cell;have cS:=hinv.2.1.2.2.cell;have hlb:0≤x.1.2.f2∧x.1.2.f2 < 256:=HLEB.out _ (List.mem_of_getElem? x.2.2);have HWF:=aM (vaC hlb);have HGD:=aM (HD8.out.getD x.1.2.f2);have hx:x.1.1 < (qnN nw pre).length:=by rw [qrU];exact x.2.1
       obtain ⟨z0,z1,z2,z3,z4,z5⟩:=hinv.2.2.1.cell x.1.1 hx;have fz:=hinv.2.2.1.frozen;have fr0:=fz (x.1.1*6);have fr1:=fz (x.1.1*6+1);have fr2:=fz (x.1.1*6+2);have fr3:=fz (x.1.1*6+3);have fr4:=fz (x.1.1*6+4);have fr5:=fz (x.1.1*6+5);have hqk:(x.1.1 < a.g.B)=True:=eq_true (by have:=HXL.out;have:=x.2.1;omega);have hqki:((x.1.1:Int) < (a.g.B:Int))=True:=eq_true (by have:=HXL.out;have:=x.2.1;omega);generalize (qnN nw pre)[x.1.1]=y at z0 z1 z2 z3 z4 z5;clear hinv bX fz hx hlb
       by_cases hq:(nw x.1.2.f2).getD 0=x.1.1
       ·have HQ:=aM hq;have en:(((((nw x.1.2.f2).getD 0:Nat):Int)) != (x.1.1:Int))=false:=by rw [hq];simp
        have HEN:=aM en;clear en hq
        gi_wp2_with (first|(gi_at_lookup;refine wpListIn_lookup_own_int _ rfl _ _ 117 rfl 3 3 .i64 qkP (by kernel_rfl) Tryz.underlying3 (qjR _) gm n D rfl HM1.out _ _ rfl (Maps.keyOf_int_mk Tryz.underlying3 HWF.out) ?_;intro c hat hwc;obtain rfl:c=(((nw x.1.2.f2).getD 0:Nat):Int):=(by have:=hat.symm.trans HGD.out;simpa using this);have en:=HEN.out;clear hat hwc))
        exact qwE HINV.out HQ.out
       ·have HQ:=aM hq;have en:(((((nw x.1.2.f2).getD 0:Nat):Int)) != (x.1.1:Int))=true:=by simp only [bne_iff_ne];omega
        have HEN:=aM en;clear en hq
        gi_wp2_with (first|(gi_at_lookup;refine wpListIn_lookup_own_int _ rfl _ _ 117 rfl 3 3 .i64 qkP (by kernel_rfl) Tryz.underlying3 (qjR _) gm n D rfl HM1.out _ _ rfl (Maps.keyOf_int_mk Tryz.underlying3 HWF.out) ?_;intro c hat hwc;obtain rfl:c=(((nw x.1.2.f2).getD 0:Nat):Int):=(by have:=hat.symm.trans HGD.out;simpa using this);have en:=HEN.out;clear hat hwc))
        exact qyX HINV.out HQ.out HGM.out.2.2 (by omega) (by have:=HGB.out;omega) HGN.out HGL.out
      case done =>
       rintro W10 ⟨⟨hm,hd⟩,⟨⟨bS1,bT1⟩,⟨bN1,bL1⟩⟩,⟨hR1,hB1⟩⟩ hK2;have HD10:=aM hd;have HR10:=aM hR1;have HB10:=aM hB1;have HK10:=aM hK2;have yl:=bL1.cell;clear hm hd bS1 bT1 bN1 bL1 hR1 hB1 hK2;go_wp2;have hne:W9.heap.size ≠ gm+1+1+1+1:=by have:=HGB.out;omega
       have hd2:(W10.putObj W9.heap.size (.deferred none)).heap[gm+1+1+1+1]?=some (.deferred (some [])):=by
        rw [World.putObj_heap_other hne.symm,← hsz7];exact HD10.out
       have hB1:=HB10.out.trans (belowK_b (w:=W) (n₀:=W.heap.size) (Nat.le_refl _) _ W9.heap.size _ (.deferred none) (by have:=HGB.out;have:=HGM.out;omega) HK10.out rfl rfl);have hB2:=hB1.trans (belowK_b (w:=W) (n₀:=W.heap.size) (Nat.le_refl _) _ (gm+1+1+1+1) _ (.deferred none) (by have:=HGB.out;have:=HGM.out;omega) hd2 rfl rfl);refine ⟨by simp,.inl ⟨_,_,rfl,run_takeDeferred HK10.out,?_⟩⟩;refine ⟨by simp,.inl ⟨_,_,rfl,run_takeDeferred hd2,?_⟩⟩;refine ⟨.tuple #[.slice (some ⟨gl,0,none⟩) a.g.B cl,.int .i64 0],?_,gl,cl,?_,?_,?_,hB2,HGL.out⟩
       ·simp [results,Tryz.f18,go_sem]
       ·rw [qgA]
       ·rw [qgA];exact HCL.out
       ·have e:qcM a=qnN nw (fil xs 4 xs.length):=by rw [HSC2.out,HNW.out];rfl
        rw [e];have h1:=HGM.out;have h2:=HGB.out;refine HR10.out.keep ?_;rw [World.putObj_heap_other (by omega),World.putObj_heap_other (by omega)]
theorem vcY (h:qdW w0 W gc a) (hby:qbV a) (aE:Addr) (hgE:gNone W aE) (hon:a.off=false) :
  Calls Tryz.prog 18 #[cp gc] W fun e w'=>∃ (g c:Nat),e=.returned (.tuple #[.slice (some ⟨g,0,none⟩) (qcM a).length c,.int .i64 0])∧(qcM a).length≤c∧Rows w' g (qcM a)∧Below W.heap.size W w' :=
 (qxK h hby aE hgE hon).mono (by rintro e w' ⟨g,c,h1,h2,h3,h4,-⟩;exact ⟨g,c,h1,h2,h3,h4⟩)
end
section
open Go.Shelf Plain
theorem vdJ (i:Nat) (h:i < 4611686018427387904):wrap64 ((i:Int)+1)=((i+1:Nat):Int):=by unfold wrap64;push_cast;omega
theorem rdB {xs:List Blk} {i:Nat} (h:i < xs.length):qdZ xs (i:Int)=xs[i]:=by
 unfold qdZ;rw [Int.toNat_natCast,List.getD_eq_getElem?_getD,List.getElem?_eq_getElem h];rfl
def qlR:List Blk→Nat
 | []=>0
 | b :: r=>(if b.f0=1 then 0 else 1)+qlR r
theorem qqH (xs:List Blk) (hl:xs.length < 4611686018427387904):∀ (m i a:Nat),i+m=xs.length→a≤i→scan_Good.l0 (m+1) (a:Int) xs (xs.length:Int) (i:Int)=some ((a+qlR (xs.drop i):Nat):Int)
 | 0,i,a,h,ha=>by
  unfold scan_Good.l0;rw [if_neg (by omega),List.drop_eq_nil_of_le (by omega)];rfl
 | m+1,i,a,h,ha=>by
  have hi:i < xs.length:=by omega
  unfold scan_Good.l0;rw [if_pos (by omega),if_pos (by omega),if_pos (by omega),rdB hi,vdJ i (by omega),vdJ a (by omega),List.drop_eq_getElem_cons hi];unfold qlR
  by_cases h1:xs[i].f0=1
  ·rw [if_pos h1,if_pos h1,qqH xs hl m (i+1) a (by omega) (by omega),Nat.zero_add]
  ·rw [if_neg h1,if_neg h1,qqH xs hl m (i+1) (a+1) (by omega) (by omega),Nat.add_assoc]
theorem vcH (A:Option Addr) (c:Nat) (xs:List Blk) (w:World) (hr:Kd.C quL w A xs.length xs) (hc:xs.length≤c) (hl:xs.length < 4611686018427387904):Calls Tryz.prog 61 #[.slice A xs.length c] w fun e w'=>e=.returned (.int .i64 (qlR xs:Int))∧Below w.heap.size w w':=by
 refine scan_Good.calls (xs.length+1) A c xs _ w hr hc ?_;have:=qqH xs hl xs.length 0 0 (by omega) (by omega);rw [Nat.zero_add,List.drop_zero] at this;exact this
def qrN (xs:List Blk) (b:Int) (i:Nat):Int:=if (xs.getD i default).f0=2∧(b < 0∨(xs.getD i default).f1 < (xs.getD b.toNat default).f1) then (i:Int) else b
theorem qkL (xs:List Blk) (m:Nat) (hm:m < xs.length):qbR (fil xs 2 (m+1))=qrN xs (qbR (fil xs 2 m)) m:=by
 unfold qrN;rw [qbO hm]
 by_cases hs:xs[m].f0=2
 ·rw [qkU hm hs,qkN];show (if qbR (fil xs 2 m) < 0∨xs[m].f1 < (xs.getD (qbR (fil xs 2 m)).toNat default).f1 then (m:Int) else _)=_
  by_cases h:qbR (fil xs 2 m) < 0∨xs[m].f1 < (xs.getD (qbR (fil xs 2 m)).toNat default).f1
  ·rw [if_pos h,if_pos ⟨hs,h⟩]
  ·rw [if_neg h,if_neg (fun h2=>h h2.2)]
 ·rw [qiH hm hs,if_neg (fun h=>hs h.1)]
theorem vcI (A:Option Addr) (c:Nat) (xs:List Blk) (leb:Int) (w:World) (hr:Kd.C quL w A xs.length xs) (hl:xs.length < 4611686018427387904):Calls Tryz.prog 59 #[.slice A xs.length c,.int .i64 leb] w fun e w'=>e=.returned (.int .i64 (qfO leb xs 0))∧Below w.heap.size w w' :=
 (callsIn_wide (n:=4)).1 (vdC Fence.wide 4 trivial trivial trivial rfl (by omega) A c xs leb w hr (by omega))
theorem qyR (A:Option Addr) (c:Nat) (xs:List Blk) (w:World) (hr:Kd.C quL w A xs.length xs) (hl:xs.length < 4611686018427387904):Calls Tryz.prog 60 #[.slice A xs.length c] w fun e w'=>e=.returned (.int .i64 (qgH xs))∧Below w.heap.size w w' :=
 (callsIn_wide (n:=4)).1 (vaA Fence.wide 4 trivial trivial trivial rfl (by omega) A c xs w hr (by omega))
end
section
def six (c:Array Value) (o:Nat) (v0 v1 v2 v3 v4 v5:Value):Array Value:=(((((c.setIfInBounds o v0).setIfInBounds (o+1) v1).setIfInBounds (o+2) v2).setIfInBounds (o+3) v3).setIfInBounds (o+4) v4).setIfInBounds (o+5) v5
theorem qxW (c:Array Value) (o:Nat) (v0 v1 v2 v3 v4 v5:Value) (h:o+5 < c.size) :
  (six c o v0 v1 v2 v3 v4 v5)[o]?=some v0∧(six c o v0 v1 v2 v3 v4 v5)[o+1]?=some v1∧(six c o v0 v1 v2 v3 v4 v5)[o+2]?=some v2∧(six c o v0 v1 v2 v3 v4 v5)[o+3]?=some v3∧(six c o v0 v1 v2 v3 v4 v5)[o+4]?=some v4∧(six c o v0 v1 v2 v3 v4 v5)[o+5]?=some v5:=by
 unfold six;refine ⟨?_,?_,?_,?_,?_,?_⟩
 ·rw [Array.getElem?_setIfInBounds_ne (by omega),Array.getElem?_setIfInBounds_ne (by omega),Array.getElem?_setIfInBounds_ne (by omega),Array.getElem?_setIfInBounds_ne (by omega),Array.getElem?_setIfInBounds_ne (by omega),Array.getElem?_setIfInBounds_self_of_lt (by omega)]
 ·rw [Array.getElem?_setIfInBounds_ne (by omega),Array.getElem?_setIfInBounds_ne (by omega),Array.getElem?_setIfInBounds_ne (by omega),Array.getElem?_setIfInBounds_ne (by omega),Array.getElem?_setIfInBounds_self_of_lt (by simp only [Array.size_setIfInBounds];omega)]
 ·rw [Array.getElem?_setIfInBounds_ne (by omega),Array.getElem?_setIfInBounds_ne (by omega),Array.getElem?_setIfInBounds_ne (by omega),Array.getElem?_setIfInBounds_self_of_lt (by simp only [Array.size_setIfInBounds];omega)]
 ·rw [Array.getElem?_setIfInBounds_ne (by omega),Array.getElem?_setIfInBounds_ne (by omega),Array.getElem?_setIfInBounds_self_of_lt (by simp only [Array.size_setIfInBounds];omega)]
 ·rw [Array.getElem?_setIfInBounds_ne (by omega),Array.getElem?_setIfInBounds_self_of_lt (by simp only [Array.size_setIfInBounds];omega)]
 ·rw [Array.getElem?_setIfInBounds_self_of_lt (by simp only [Array.size_setIfInBounds];omega)]
theorem qeY (c:Array Value) (o k:Nat) (v0 v1 v2 v3 v4 v5:Value) (h:k < o∨o+6≤k):(six c o v0 v1 v2 v3 v4 v5)[k]?=c[k]?:=by
 unfold six;rw [Array.getElem?_setIfInBounds_ne (by omega),Array.getElem?_setIfInBounds_ne (by omega),Array.getElem?_setIfInBounds_ne (by omega),Array.getElem?_setIfInBounds_ne (by omega),Array.getElem?_setIfInBounds_ne (by omega),Array.getElem?_setIfInBounds_ne (by omega)]
def setB (W:World) (g i:Nat) (b:Blk):World:=(((((W.setCell ⟨g,i*6,none⟩ (.int .i64 b.f0)).setCell ⟨g,i*6+1,none⟩ (.int .i64 b.f1)).setCell ⟨g,i*6+2,none⟩ (.int .i64 b.f2)).setCell ⟨g,i*6+3,none⟩ (.int .i64 b.f3)).setCell ⟨g,i*6+4,none⟩ (.int .u64 b.f4)).setCell ⟨g,i*6+5,none⟩ (.bool b.f5)
theorem Rows.putB {W:World} {g:Nat} {xs:List Blk} (h:Rows W g xs) (i:Nat) (hi:i < xs.length) (b:Blk):Rows (setB W g i b) g (xs.set i b):=by
 obtain ⟨cells,hg,hc⟩:=h;refine ⟨six cells (i*6) (.int .i64 b.f0) (.int .i64 b.f1) (.int .i64 b.f2) (.int .i64 b.f3) (.int .u64 b.f4) (.bool b.f5),?_,fun k hk0=>?_⟩
 ·unfold setB six;exact qaR (qaR (qaR (qaR (qaR (qaR hg _ _ rfl) _ _ rfl) _ _ rfl) _ _ rfl) _ _ rfl) _ _ rfl
 ·have hk:k < xs.length:=by rw [List.length_set] at hk0;exact hk0
  by_cases hki:k=i
  ·subst hki;have h5:=(hc k hk).2.2.2.2.2;have hs:k*6+5 < cells.size:=(Array.getElem?_eq_some_iff.1 h5).1;rw [List.getElem_set_self];exact qxW cells (k*6) _ _ _ _ _ _ hs
  ·rw [List.getElem_set_ne (fun e=>hki e.symm)];obtain ⟨h0,h1,h2,h3,h4,h5⟩:=hc k hk;refine ⟨?_,?_,?_,?_,?_,?_⟩
   ·rw [qeY _ _ _ _ _ _ _ _ _ (by omega)];exact h0
   ·rw [qeY _ _ _ _ _ _ _ _ _ (by omega)];exact h1
   ·rw [qeY _ _ _ _ _ _ _ _ _ (by omega)];exact h2
   ·rw [qeY _ _ _ _ _ _ _ _ _ (by omega)];exact h3
   ·rw [qeY _ _ _ _ _ _ _ _ _ (by omega)];exact h4
   ·rw [qeY _ _ _ _ _ _ _ _ _ (by omega)];exact h5
theorem qmQ {W:World} {g i q:Nat} {b:Blk} (h:q ≠ g):(setB W g i b).heap[q]?=W.heap[q]?:=by
 unfold setB;rw [Below.heap_setCell _ _ _ _ h,Below.heap_setCell _ _ _ _ h,Below.heap_setCell _ _ _ _ h,Below.heap_setCell _ _ _ _ h,Below.heap_setCell _ _ _ _ h,Below.heap_setCell _ _ _ _ h]
def qpQ (W:World) (g:Nat) (xs:List Int):Prop:=∃ cells:Array Value,W.heap[g]?=some (.cells cells 3 (0,0))∧∀ k,(h:k < xs.length)→cells[k]?=some (.int .i64 xs[k])
theorem qpQ.keep {W W':World} {g:Nat} {xs:List Int} (h:qpQ W g xs) (e:W'.heap[g]?=W.heap[g]?):qpQ W' g xs:=by
 obtain ⟨cells,h1,h2⟩:=h;exact ⟨cells,e.trans h1,h2⟩
theorem qpQ.cell {W:World} {g:Nat} {xs:List Int} (h:qpQ W g xs) (k:Nat) (hk:k < xs.length):W.cell? ⟨g,k,none⟩=some (.int .i64 xs[k]):=by
 obtain ⟨cells,h1,h2⟩:=h;exact (Joins.cell_of_block h1 k).trans (h2 k hk)
theorem qpQ.frozen {W:World} {g:Nat} {xs:List Int} (h:qpQ W g xs) (o:Nat):W.frozen? ⟨g,o,none⟩=false:=by
 obtain ⟨cells,h1,h2⟩:=h;exact qaE h1 o
theorem qpQ.lt {W:World} {g:Nat} {xs:List Int} (h:qpQ W g xs):g < W.heap.size:=by
 obtain ⟨cells,h1,h2⟩:=h;exact qcG h1
theorem qpQ.put {W:World} {g:Nat} {xs:List Int} (h:qpQ W g xs) (i:Nat) (hi:i < xs.length) (v:Int):qpQ (W.setCell ⟨g,i,none⟩ (.int .i64 v)) g (xs.set i v):=by
 obtain ⟨cells,h1,h2⟩:=h;refine ⟨cells.setIfInBounds i (.int .i64 v),qaR h1 _ _ rfl,fun k hk0=>?_⟩;have hk:k < xs.length:=by rw [List.length_set] at hk0;exact hk0
 by_cases hki:k=i
 ·subst hki;have hs:k < cells.size:=(Array.getElem?_eq_some_iff.1 (h2 k hk)).1;rw [List.getElem_set_self,Array.getElem?_setIfInBounds_self_of_lt hs]
 ·rw [List.getElem_set_ne (fun e=>hki e.symm),Array.getElem?_setIfInBounds_ne (fun e=>hki e.symm)];exact h2 k hk
theorem qpQ.ne {W:World} {g q t:Nat} {xs:List Int} {cs:Array Value} (h:qpQ W g xs) (hq:W.heap[q]?=some (.cells cs t (0,0))) (ht:t ≠ 3):g ≠ q:=by
 obtain ⟨cells,h1,h2⟩:=h;exact qaW h1 hq (fun e=>ht e.symm)
theorem Rows.ne {W:World} {g q t:Nat} {xs:List Blk} {cs:Array Value} (h:Rows W g xs) (hq:W.heap[q]?=some (.cells cs t (0,0))) (ht:t ≠ 68):g ≠ q:=by
 obtain ⟨cells,h1,h2⟩:=h;exact qaW h1 hq (fun e=>ht e.symm)
structure AM where
 l:List Blk
 lebs:List Int
 seq:Int
 dead:Bool
def mC (gc:Nat) (g:Geo) (gl cl ge ce:Nat) (m:AM):Array Value:=#[cp gc,.int .i64 g.B,.int .i64 g.P,.int .i64 g.Z,.int .i64 g.R,.slice (some ⟨gl,0,none⟩) m.l.length cl,.slice (some ⟨ge,0,none⟩) m.lebs.length ce,.int .u64 m.seq,.bool m.dead]
structure Man (w0 W:World) (gm gc gl cl ge ce:Nat) (a:AC) (m:AM):Prop where
 c:W.heap[gm]?=some (.cells (mC gc a.g gl cl ge ce m) 129 (0,0))
 chip:qdW w0 W gc a
 l:Rows W gl m.l
 b:qpQ W ge m.lebs
 em:w0.heap.size≤gm
 el:w0.heap.size≤gl
 ee:w0.heap.size≤ge
 hl:m.l.length≤cl
 hb:m.lebs.length≤ce
 ln:m.l.length=a.g.B
 lb:m.lebs.length≤a.g.B
def MK (s:List Nat) (W w':World):Prop:=∀ (k:Nat) (cs:Array Value) (t:Nat) (fr:Nat × Nat),t ≠ 92→t ≠ 97→t ≠ 159→((t ≠ 129∧t ≠ 68∧t ≠ 3∧t ≠ 4)∨k ∉ s)→W.heap[k]?=some (.cells cs t fr)→w'.heap[k]?=some (.cells cs t fr)
theorem MK.refl (s:List Nat) (W:World):MK s W W:=fun _ _ _ _ _ _ _ _ h=>h
theorem MK.trans {s:List Nat} {W w1 w2:World} (h:MK s W w1) (h2:MK s w1 w2):MK s W w2:=fun k cs t fr a b c d hk=>h2 k cs t fr a b c d (h k cs t fr a b c d hk)
theorem MK.of_below {s:List Nat} {W W':World} (h:Below W.heap.size W W'):MK s W W':=fun k cs t fr _ _ _ _ hk=>by rw [h.block k (qcG hk)];exact hk
theorem MK.of_keeps {s:List Nat} {W W':World} (h:qaY W W'):MK s W W':=fun k cs t fr a b c _ hk=>h k cs t fr a b c hk
theorem MK.mono {s s':List Nat} {W W':World} (h:MK s W W') (hs:∀ x,x ∈ s→x ∈ s'):MK s' W W':=fun k cs t fr a b c d hk=>h k cs t fr a b c (d.imp id fun hn hm=>hn (hs k hm)) hk
theorem MK.far {s:List Nat} {W W':World} (h:MK s W W') {k t:Nat} {cs:Array Value} {fr:Nat × Nat} (ht:(t != 92 && t != 97 && t != 159 && t != 129 && t != 68 && t != 3 && t != 4)=true) (hk:W.heap[k]?=some (.cells cs t fr)):W'.heap[k]?=some (.cells cs t fr):=by
 simp only [Bool.and_eq_true,bne_iff_ne] at ht;obtain ⟨⟨⟨⟨⟨⟨h1,h2⟩,h3⟩,h4⟩,h5⟩,h6⟩,h7⟩:=ht;exact h k cs t fr h1 h2 h3 (.inl ⟨h4,h5,h6,h7⟩) hk
theorem MK.out {s:List Nat} {W W':World} (h:MK s W W') {k t:Nat} {cs:Array Value} {fr:Nat × Nat} (ht:(t != 92 && t != 97 && t != 159)=true) (hn:k ∉ s) (hk:W.heap[k]?=some (.cells cs t fr)):W'.heap[k]?=some (.cells cs t fr):=by
 simp only [Bool.and_eq_true,bne_iff_ne] at ht;obtain ⟨⟨h1,h2⟩,h3⟩:=ht;exact h k cs t fr h1 h2 h3 (.inr hn) hk
section
variable {w0 W W':World} {gm gc gl cl ge ce:Nat} {a a':AC} {m m':AM}
theorem Man.grow (h:Man w0 W gm gc gl cl ge ce a m) (hb:Below W.heap.size W W'):Man w0 W' gm gc gl cl ge ce a m :=
 ⟨qaB h.c hb,h.chip.grow hb,h.l.keep (hb.block _ h.l.lt),h.b.keep (hb.block _ h.b.lt),h.em,h.el,h.ee,h.hl,h.hb,h.ln,h.lb⟩
theorem Man.onChip (h:Man w0 W gm gc gl cl ge ce a m) (hc:qdW w0 W' gc a') (hk:qaY W W') (hg:a'.g=a.g):Man w0 W' gm gc gl cl ge ce a' m:=by
 refine ⟨by rw [hg];exact hk _ _ _ _ (by decide) (by decide) (by decide) h.c,hc,?_,?_,h.em,h.el,h.ee,h.hl,h.hb,by rw [hg];exact h.ln,by rw [hg];exact h.lb⟩
 ·obtain ⟨cells,h1,h2⟩:=h.l;exact ⟨cells,hk _ _ _ _ (by decide) (by decide) (by decide) h1,h2⟩
 ·obtain ⟨cells,h1,h2⟩:=h.b;exact ⟨cells,hk _ _ _ _ (by decide) (by decide) (by decide) h1,h2⟩
theorem Man.cell (h:Man w0 W gm gc gl cl ge ce a m) (k:Nat):W.cell? ⟨gm,k,none⟩=(mC gc a.g gl cl ge ce m)[k]?:=Joins.cell_of_block h.c k
theorem qdW.far {g t:Nat} {cs:Array Value} (h:qdW w0 W gc a) (hg:W.heap[g]?=some (.cells cs t (0,0))) (hw:w0.heap.size≤g) (h1:t ≠ 92) (h2:t ≠ 97) (h3:t ≠ 159) (h4:t ≠ 5) (h5:t ≠ 83) (o:Nat) (v:Value):qdW w0 (W.setCell ⟨g,o,none⟩ v) gc a:=by
 obtain ⟨gb,gp,m,D,hs,ha,hl⟩:=h;have far:∀ {k u:Nat} {c:Array Value},W.heap[k]?=some (.cells c u (0,0))→u ≠ t→(W.setCell ⟨g,o,none⟩ v).heap[k]?=some (.cells c u (0,0)):=fun hk hu=>qaT hk (qaW hk hg hu) _
 refine ⟨gb,gp,m,D,⟨far hs.c (Ne.symm h1),far hs.b (Ne.symm h2),fun i hi=>far (hs.p i hi) (Ne.symm h3),hs.inj,hs.ec,hs.eb,hs.ep,fun i j hi hj=>?_,?_,qaK hs.below hw,hs.gok⟩,ha,hl⟩
 ·exact Kd.R_set (hs.d i j hi hj) hg (fun q hq=>by
   rcases List.mem_cons.1 hq with rfl|hq
   ·exact Ne.symm h4
   ·cases hq) _ _
 ·exact Kd.R_set hs.pln hg (fun q hq=>by
   rcases List.mem_cons.1 hq with rfl|hq
   ·exact Ne.symm h5
   ·cases hq) _ _
theorem Man.setM (h:Man w0 W gm gc gl cl ge ce a m) (k:Nat) (v:Value) (hm:(mC gc a.g gl cl ge ce m).setIfInBounds k v=mC gc a.g gl cl ge ce m') (hl:m'.l=m.l) (hb:m'.lebs=m.lebs):Man w0 (W.setCell ⟨gm,k,none⟩ v) gm gc gl cl ge ce a m' :=
 ⟨hm ▸ qcB h.c k v,h.chip.far h.c h.em (by decide) (by decide) (by decide) (by decide) (by decide) k v,by rw [hl];exact h.l.keep (Below.heap_setCell _ _ _ _ (h.l.ne h.c (by decide))),by rw [hb];exact h.b.keep (Below.heap_setCell _ _ _ _ (h.b.ne h.c (by decide))),h.em,h.el,h.ee,by rw [hl];exact h.hl,by rw [hb];exact h.hb,by rw [hl];exact h.ln,by rw [hb];exact h.lb⟩
theorem Man.setI (h:Man w0 W gm gc gl cl ge ce a m) (i:Nat) (hi:i < m.lebs.length) (v:Int):Man w0 (W.setCell ⟨ge,i,none⟩ (.int .i64 v)) gm gc gl cl ge ce a { m with lebs:=m.lebs.set i v }:=by
 obtain ⟨cells,h1,h2⟩:=h.b;refine ⟨?_,h.chip.far h1 h.ee (by decide) (by decide) (by decide) (by decide) (by decide) _ _,h.l.keep (Below.heap_setCell _ _ _ _ (h.l.ne h1 (by decide))),h.b.put i hi v,h.em,h.el,h.ee,h.hl,by rw [List.length_set];exact h.hb,h.ln,by rw [List.length_set];exact h.lb⟩;have hm:mC gc a.g gl cl ge ce { m with lebs:=m.lebs.set i v }=mC gc a.g gl cl ge ce m:=by unfold mC;rw [List.length_set]
 rw [hm];exact qaT h.c (h.b.ne h.c (by decide)).symm _
theorem Man.setL (h:Man w0 W gm gc gl cl ge ce a m) (i:Nat) (hi:i < m.l.length) (b:Blk):Man w0 (setB W gl i b) gm gc gl cl ge ce a { m with l:=m.l.set i b }:=by
 obtain ⟨cells,h1,h2⟩:=h.l
 have hch:qdW w0 (setB W gl i b) gc a:=by
  have key:∀ {W:World} {cs:Array Value},W.heap[gl]?=some (.cells cs 68 (0,0))→qdW w0 W gc a→∀ o v,qdW w0 (W.setCell ⟨gl,o,none⟩ v) gc a:=fun hg hc o v=>hc.far hg h.el (by decide) (by decide) (by decide) (by decide) (by decide) o v
  unfold setB;exact key (qaR (qaR (qaR (qaR (qaR h1 _ _ rfl) _ _ rfl) _ _ rfl) _ _ rfl) _ _ rfl) (key (qaR (qaR (qaR (qaR h1 _ _ rfl) _ _ rfl) _ _ rfl) _ _ rfl) (key (qaR (qaR (qaR h1 _ _ rfl) _ _ rfl) _ _ rfl) (key (qaR (qaR h1 _ _ rfl) _ _ rfl) (key (qaR h1 _ _ rfl) (key h1 h.chip _ _) _ _) _ _) _ _) _ _) _ _
 refine ⟨?_,hch,h.l.putB i hi b,h.b.keep (qmQ (h.b.ne h1 (by decide))),h.em,h.el,h.ee,by rw [List.length_set];exact h.hl,h.hb,by rw [List.length_set];exact h.ln,h.lb⟩;have hm:mC gc a.g gl cl ge ce { m with l:=m.l.set i b }=mC gc a.g gl cl ge ce m:=by unfold mC;rw [List.length_set]
 rw [hm,qmQ (h.l.ne h.c (by decide)).symm];exact h.c
theorem MK.set {s:List Nat} {g t:Nat} {cs:Array Value} (h:MK s W W') (hg:W'.heap[g]?=some (.cells cs t (0,0))) (ht:t=129∨t=3∨t=4) (k:Nat) (v:Value) (hs:g ∈ s:=by simp):MK s W (W'.setCell ⟨g,k,none⟩ v):=fun x cs2 t2 fr a b c d hx=>by
 have h5:=h x cs2 t2 fr a b c d hx
 have hne:x ≠ g:=fun e9=>by
  subst e9;rw [h5] at hg;simp only [Option.some.injEq,Obj.cells.injEq] at hg;have e2:=hg.2.1
  rcases d with ⟨d1,d2,d3,d4⟩|d
  ·rcases ht with h|h|h
   ·exact d1 (e2.trans h)
   ·exact d3 (e2.trans h)
   ·exact d4 (e2.trans h)
  ·exact d hs
 exact (Below.heap_setCell W' ⟨g,k,none⟩ v x hne).trans h5
theorem MK.setB {s:List Nat} {cs:Array Value} (h:MK s W W') (hg:W'.heap[gl]?=some (.cells cs 68 (0,0))) (i:Nat) (b:Blk) (hs:gl ∈ s:=by simp):MK s W (setB W' gl i b):=fun x cs2 t2 fr a' b' c d hx=>by
 have h5:=h x cs2 t2 fr a' b' c d hx
 have hne:x ≠ gl:=fun e9=>by
  subst e9;rw [h5] at hg;simp only [Option.some.injEq,Obj.cells.injEq] at hg
  rcases d with ⟨d1,d2,d3,d4⟩|d
  ·exact d2 hg.2.1
  ·exact d hs
 exact (qmQ hne).trans h5
end
end
section
open Go.Shelf Plain
def qfT:Geo:=⟨16,16,128,2⟩
theorem vdB {W w':World} (h:qaY W w') {base:Nat} {ok:Nat→Prop} {v:Value} {l:List Int} (hr:Kd.R kB 5 W base ok v l):Kd.R kB 5 w' base ok v l :=
 Kd.R_mono (Kd.R_move (Kd.R_bound hr) (fun k hk=>by
  obtain ⟨_,_,_,q,hq,cells,hc⟩:=hk;have hq2:q=5:=by simpa [Kd.int,Kd.scalar] using hq
  subst hq2;rw [hc]
  exact h k _ _ _ (by decide) (by decide) (by decide) hc)) (fun _ hk=>hk.1)
theorem qxO {W w':World} (h:qaY W w') {base:Nat} {ok:Nat→Prop} {A:Option Addr} {c:Nat} {l:List Int} (hr:Kd.R kB 5 W base ok (.slice A l.length c) l):Kd.C kB w' A l.length l:=(Kd.R_reads' (vdB h hr)).2.2
theorem qjJ {a:AC} {n p:Nat} {l:List Int} (h1:a.off=false) (h2:n < a.g.B) (h3:p < a.g.P) (h4:l.length≤a.g.Z) (h5:(a.bk n).bad=false) (h6:(a.bk n).nx=(p:Int)) (h7:a.pl=[]):qaZ a (n:Int) (p:Int) l=(0,a.tick.put n p 1 l):=by
 unfold qaZ;rw [if_neg (by rw [h1];decide),if_neg (by omega),if_neg (by omega),Int.toNat_natCast,if_neg (by rw [h5,h6];simp),Int.toNat_natCast];have:a.hit=none:=by unfold AC.hit;rw [h7];rfl
 rw [this]
theorem qpF {a:AC} {n:Int} (h1:vaP a n=false) (h2:qhH a n=0):qdO a n=(⟨3,0,0,0,0,false⟩,false):=by
 unfold qdO;rw [if_neg (by rw [h1];decide),if_pos];unfold qcN;rw [if_pos (by omega)]
section
variable (xa xm:List Int)
variable {xa xm}
theorem qxS (p:Nat) (h:p < 1000000):wrap64 ((p:Int)+1)=(p:Int)+1:=by unfold wrap64;omega
theorem qkE {a:AC} {n p:Nat} {l:List Int} (h1:a.off=false) (h2:n < a.g.B) (h3:p < a.g.P) (h4:(p:Int) < (a.bk n).nx) (h5:(a.bk n).pg p=⟨1,l⟩) (h6:l.length=a.g.Z):qcN a (n:Int) (p:Int)=(l,true):=by
 have e:qhH a (n:Int)=(a.bk n).nx:=by unfold qhH;rw [if_neg (by omega),Int.toNat_natCast]
 unfold qcN;rw [e,if_neg (by omega)];unfold qbW;rw [if_neg (by rw [h1];decide),if_neg (by omega),if_neg (by omega),Int.toNat_natCast,Int.toNat_natCast,h5,if_neg (of_decide_eq_true rfl),if_pos rfl,h6];simp
theorem qtE:qeJ 16 16 128 2=12:=by
 unfold qeJ;have h:qbQ 16 16 128 2=true:=by kernel_rfl
 rw [if_pos h];unfold wrap64;decide
end
end
section
open Go.Shelf Plain
variable {w0 W W':World} {gm gc gl cl ge ce:Nat} {a a':AC} {m m':AM}
theorem qhL (a:AC) (n:Int):(qbY a n).2.g=a.g:=by
 unfold qbY
 repeat' split
 all_goals rfl
theorem qeP (a:AC) (n p:Int) (l:List Int):(qaZ a n p l).2.g=a.g:=by
 unfold qaZ
 repeat' split
 all_goals rfl
theorem qrL (a:AC) (n:Int):(qeW a n).2.g=a.g:=by
 unfold qeW
 repeat' split
 all_goals rfl
def AM.die (m:AM) (e:Int):AM:={ m with dead:=m.dead || (e==6) }
theorem qgL (h:Man w0 W gm gc gl cl ge ce a m) (b e:Int):Calls Tryz.prog 131 #[kp gm,.int .i64 b,.int .i64 e] W fun x w'=>∃ v:Value,x=.returned v∧FV w' v e∧Man w0 w' gm gc gl cl ge ce a (m.die e)∧MK [gm,gl] W w':=by
 by_cases h6:e=6
 ·subst h6;have c8:W.cell? ⟨gm,8,none⟩=some (.bool m.dead):=h.cell 8;have f8:=qaE h.c 8;have HM:=aM (show m.die 6={ m with dead:=true } by unfold AM.die;simp);have H:=aM (h.setM (m':={ m with dead:=true }) 8 (.bool true) rfl rfl rfl);have HK:=aM ((MK.refl [gm,gl] W).set h.c (.inl rfl) 8 (.bool true));clear h;go_enter Tryz.func131,Tryz.ntmps131
  go_upto_region 3 with (fail)
  generalize W.setCell ⟨gm,8,none⟩ (.bool true)=W1 at H HK ⊢;clear c8 f8;go_wp2_with (first|(go_at_call 151;(with_reducible refine (qkV b 6 _).mono ?_);rintro x w2 ⟨v,rfl,hv,hb2⟩;have HV:=aM hv;have HB2:=aM hb2;clear hv hb2));go_ret;rw [HM.out];exact ⟨_,rfl,HV.out,H.out.grow HB2.out,HK.out.trans (MK.of_below HB2.out)⟩
 ·have d0:(e==6)=false:=by simp only [beq_eq_false_iff_ne];exact h6
  have d0p:(e=6)=False:=eq_false h6;have HM:=aM (show m.die e=m by unfold AM.die;rw [d0];simp);have H:=aM h;clear h h6;go_enter Tryz.func131,Tryz.ntmps131;go_wp2_with (first|(go_at_call 151;(with_reducible refine (qkV b e _).mono ?_);rintro x w2 ⟨v,rfl,hv,hb2⟩;have HV:=aM hv;have HB2:=aM hb2;clear hv hb2));go_ret;rw [HM.out];exact ⟨_,rfl,HV.out,H.out.grow HB2.out,MK.of_below HB2.out⟩
def qmJ:Blk:=⟨1,0,0,0,0,false⟩
def AM.put (m:AM) (i:Nat) (b:Blk):AM:={ m with l:=m.l.set i b }
theorem qiB (h:Man w0 W gm gc gl cl ge ce a m) (i:Nat) (hi:i < a.g.B):Calls Tryz.prog 133 #[kp gm,.int .i64 i] W fun x w'=>x=.returned (.tuple #[])∧Man w0 w' gm gc gl cl ge ce (qeW a (i:Int)).2 (m.put i qmJ)∧MK [gm,gl] W w':=by
 have HMA:=aM (h.chip.mark (i:Int));have H:=aM h;have HI:=aM (show i < m.l.length by rw [h.ln];exact hi);have c0:W.cell? ⟨gm,0,none⟩=some (cp gc):=h.cell 0;have hq:(i < m.l.length)=True:=eq_true HI.out;have hqi:((i:Int) < (m.l.length:Int))=True:=eq_true (by have:=HI.out;omega);have hu:=Tryz.underlying68;clear h hi;go_enter Tryz.func133,Tryz.ntmps133
 go_upto_region 1 with (first|(go_at_call 65;(with_reducible refine HMA.out.mono ?_);rintro x w2 ⟨rfl,hc2,hk2⟩;have H2:=aM (H.out.onChip hc2 hk2 (qrL a _));have HK2:=aM (MK.of_keeps (s:=[gm,gl]) hk2);clear hc2 hk2))
 have c5:w2.cell? ⟨gm,5,none⟩=some (.slice (some ⟨gl,0,none⟩) m.l.length cl):=H2.out.cell 5;obtain ⟨z0,z1,z2,z3,z4,z5⟩:=H2.out.l.cell i HI.out;have f0:=H2.out.l.frozen (i*6);have f1:=H2.out.l.frozen (i*6+1);have f2:=H2.out.l.frozen (i*6+2);have f3:=H2.out.l.frozen (i*6+3);have f4:=H2.out.l.frozen (i*6+4);have f5:=H2.out.l.frozen (i*6+5);clear c0;go_wp2;go_end0;obtain ⟨cells,hg,-⟩:=H2.out.l;exact ⟨rfl,H2.out.setL i HI.out qmJ,HK2.out.setB hg i qmJ⟩
end
section
open Go.Shelf Plain
variable {w0 W W':World} {gm gc gl cl ge ce:Nat} {a a':AC} {m m':AM}
theorem qgZ (m:AM) {e:Int} (h:e ≠ 6):m.die e=m:=by
 unfold AM.die;rw [show (e==6)=false by simp only [beq_eq_false_iff_ne];exact h];simp
def qcF (a:AC) (m:AM) (i:Nat):Int × AC × AM :=
 if (qbY a (i:Int)).1=6 then (6,(qbY a (i:Int)).2,m.die 6)
 else if ¬ (qbY a (i:Int)).1=0 then (0,(qeW (qbY a (i:Int)).2 (i:Int)).2,m.put i qmJ)
 else if (qaZ (qbY a (i:Int)).2 (i:Int) 0 (qdN (wrap64 ((m.l.getD i default).f1+1)) a.g.Z).1).1=6 then (6,(qaZ (qbY a (i:Int)).2 (i:Int) 0 (qdN (wrap64 ((m.l.getD i default).f1+1)) a.g.Z).1).2,m.die 6)
 else if ¬ (qaZ (qbY a (i:Int)).2 (i:Int) 0 (qdN (wrap64 ((m.l.getD i default).f1+1)) a.g.Z).1).1=0 then (0,(qeW (qaZ (qbY a (i:Int)).2 (i:Int) 0 (qdN (wrap64 ((m.l.getD i default).f1+1)) a.g.Z).1).2 (i:Int)).2,m.put i qmJ)
 else (0,(qaZ (qbY a (i:Int)).2 (i:Int) 0 (qdN (wrap64 ((m.l.getD i default).f1+1)) a.g.Z).1).2,m.put i ⟨2,wrap64 ((m.l.getD i default).f1+1),0,0,0,false⟩)
theorem qtM (h:Man w0 W gm gc gl cl ge ce a m) (i:Nat) (hi:i < a.g.B) (h0:¬ (qbY a (i:Int)).1=0):Calls Tryz.prog 88 #[kp gm,.int .i64 i] W fun x w'=>∃ v:Value,x=.returned v∧FV w' v (qcF a m i).1∧Man w0 w' gm gc gl cl ge ce (qcF a m i).2.1 (qcF a m i).2.2∧MK [gm,gl] W w':=by
 have HER:=aM (h.chip.erase (i:Int));have HG:=aM (qhL a (i:Int));have HF:=aM (show qcF a m i=if (qbY a (i:Int)).1=6 then (6,(qbY a (i:Int)).2,m.die 6) else (0,(qeW (qbY a (i:Int)).2 (i:Int)).2,m.put i qmJ) by unfold qcF;rw [if_pos h0]);generalize qbY a (i:Int)=r at HER HG HF h0;obtain ⟨e1,a1⟩:=r;simp only at HER HG HF h0;have H:=aM h;have HI:=aM (show i < m.l.length by rw [h.ln];exact hi);have HIB:=aM hi;have HN0:=aM h0;have c5:W.cell? ⟨gm,5,none⟩=some (.slice (some ⟨gl,0,none⟩) m.l.length cl):=h.cell 5;have c0:W.cell? ⟨gm,0,none⟩=some (cp gc):=h.cell 0;obtain ⟨-,z1,-⟩:=h.l.cell i HI.out;have hq:(i < m.l.length)=True:=eq_true HI.out;have hqi:((i:Int) < (m.l.length:Int))=True:=eq_true (by have:=HI.out;omega);clear h hi h0;go_enter Tryz.func88,Tryz.ntmps88
 go_upto_region 3 with (first
  | (go_at_call 63;(with_reducible refine HER.out.mono ?_);rintro x w1 ⟨rfl,hc,hk⟩;have H1:=aM (H.out.onChip hc hk HG.out);have HK1:=aM (MK.of_keeps (s:=[gm,gl]) hk);clear hc hk)
  | (go_at_call 131;(with_reducible refine (qgL H1.out (i:Int) e1).mono ?_);rintro x w2 ⟨v2,rfl,hv,h2,hk2⟩;have HV:=aM hv;have H2:=aM h2;have HK2:=aM (HK1.out.trans hk2);clear hv h2 hk2))
 rcases HV.out with ⟨h9,-⟩|⟨-,g,b,rfl,hf⟩
 ·exact absurd h9 HN0.out
 clear c5 c0 z1 hf
 by_cases h6:e1=6
 ·have hb6:(e1==6)=true:=by simp only [beq_iff_eq];exact h6
  have HE:=aM (HF.out.trans (if_pos h6));have HIS:=aM (qeS HV.out.ev 6 (by decide));rw [hb6] at HIS;clear hb6;subst h6
  go_wp2_with (first
   | (go_at_call 129;(with_reducible refine HIS.out.mono ?_);rintro x w3 ⟨rfl,hb3⟩;have HB3:=aM hb3;clear hb3))
  go_ret;rw [HE.out];exact ⟨_,rfl,HV.out.grow HB3.out,H2.out.grow HB3.out,HK2.out.trans (MK.of_below HB3.out)⟩
 ·have hb6:(e1==6)=false:=by simp only [beq_eq_false_iff_ne];exact h6
  have HE:=aM (HF.out.trans (if_neg h6));have HIS:=aM (qeS HV.out.ev 6 (by decide));rw [hb6] at HIS;have hdie:=qgZ m h6;rw [hdie] at H2;have HMI:=aM (show i < a1.g.B by rw [HG.out];exact HIB.out);clear hb6 h6 hdie
  go_wp2_with (first
   | (go_at_call 129;(with_reducible refine HIS.out.mono ?_);rintro x w3 ⟨rfl,hb3⟩;have H3:=aM (H2.out.grow hb3);have HK3:=aM (HK2.out.trans (MK.of_below hb3));clear hb3)
   | (go_at_call 133;(with_reducible refine (qiB H3.out i HMI.out).mono ?_);rintro x w4 ⟨rfl,h4,hk4⟩;have H4:=aM h4;have HK4:=aM (HK3.out.trans hk4);clear h4 hk4))
  go_ret;rw [HE.out];exact ⟨_,rfl,.inl ⟨rfl,rfl⟩,H4.out,HK4.out⟩
theorem qwI (h:Man w0 W gm gc gl cl ge ce a m) (i:Nat) (hi:i < a.g.B) (h0:(qbY a (i:Int)).1=0):Calls Tryz.prog 88 #[kp gm,.int .i64 i] W fun x w'=>∃ v:Value,x=.returned v∧FV w' v (qcF a m i).1∧Man w0 w' gm gc gl cl ge ce (qcF a m i).2.1 (qcF a m i).2.2∧MK [gm,gl] W w':=by
 have HER:=aM (h.chip.erase (i:Int));have HG:=aM (qhL a (i:Int));have HI:=aM (show i < m.l.length by rw [h.ln];exact hi)
 obtain ⟨n,hn⟩:∃ n,n=wrap64 ((m.l.getD i default).f1+1):=⟨_,rfl⟩
 have hnl:(m.l[i]'HI.out).f1=(m.l.getD i default).f1:=by rw [qbO HI.out]
 have HF:=aM (show qcF a m i=if (qaZ (qbY a (i:Int)).2 (i:Int) 0 (qdN n a.g.Z).1).1=6 then (6,(qaZ (qbY a (i:Int)).2 (i:Int) 0 (qdN n a.g.Z).1).2,m.die 6) else if ¬ (qaZ (qbY a (i:Int)).2 (i:Int) 0 (qdN n a.g.Z).1).1=0 then (0,(qeW (qaZ (qbY a (i:Int)).2 (i:Int) 0 (qdN n a.g.Z).1).2 (i:Int)).2,m.put i qmJ) else (0,(qaZ (qbY a (i:Int)).2 (i:Int) 0 (qdN n a.g.Z).1).2,m.put i ⟨2,n,0,0,0,false⟩) by
  unfold qcF
  rw [if_neg (by rw [h0];decide),if_neg (fun hx=>hx h0),hn])
 generalize qbY a (i:Int)=r at HER HG HF h0;obtain ⟨e1,a1⟩:=r;simp only at HER HG HF h0;subst h0;have HCT:=aM (qzN n a.g.Z);generalize qdN n a.g.Z=cl2 at HCT HF;obtain ⟨pgl,pge⟩:=cl2;simp only at HCT HF;have HG2:=aM (qeP a1 (i:Int) 0 pgl);have HPR:=aM (fun (w:World) (hc:qdW w0 w gc a1) (A:Option Addr) (c:Nat) (hr:∀ w',Below w0.heap.size w0 w'→qaY w w'→Kd.C kB w' A pgl.length pgl) (hcc:pgl.length≤c)=>hc.program (i:Int) 0 A c pgl hr hcc);generalize qaZ a1 (i:Int) 0 pgl=q at HG2 HPR HF;obtain ⟨e2,a2⟩:=q;simp only at HG2 HPR HF;have H:=aM h;have HIB:=aM hi;have HNN:=aM hn;clear hn;have c5:W.cell? ⟨gm,5,none⟩=some (.slice (some ⟨gl,0,none⟩) m.l.length cl):=h.cell 5;have c0:W.cell? ⟨gm,0,none⟩=some (cp gc):=h.cell 0;obtain ⟨-,z1,-⟩:=h.l.cell i HI.out;rw [hnl] at z1;generalize (m.l.getD i default).f1=f at z1 HNN;have hq:(i < m.l.length)=True:=eq_true HI.out;have hqi:((i:Int) < (m.l.length:Int))=True:=eq_true (by have:=HI.out;omega);have hu:=Tryz.underlying68;clear h hi hnl;go_enter Tryz.func88,Tryz.ntmps88
 go_upto_region 2 with (fail)
 first|rw [← HNN.out]|rw [qbL,← HNN.out]
 clear z1
 go_upto_region 3 with (first
  | (go_at_call 63;(with_reducible refine HER.out.mono ?_);rintro x w1 ⟨rfl,hc,hk⟩;have H1:=aM (H.out.onChip hc hk HG.out);have HK1:=aM (MK.of_keeps (s:=[gm,gl]) hk);clear hc hk)
  | (go_at_call 131;(with_reducible refine (qgL H1.out (i:Int) 0).mono ?_);rintro x w2 ⟨v2,rfl,hv,h2,hk2⟩;have HV:=aM hv;have H2:=aM h2;have HK2:=aM (HK1.out.trans hk2);clear hv h2 hk2))
 rcases HV.out.symm with ⟨h9,-⟩|⟨-,rfl⟩
 ·exact absurd rfl h9
 rw [qgZ m (show (0:Int) ≠ 6 by decide)] at H2;clear c5 c0 HV;have y3:w2.cell? ⟨gm,3,none⟩=some (.int .i64 a.g.Z):=by rw [← HG.out];exact H2.out.cell 3
 go_upto_region 5 with (first
  | (go_at_call 132;(with_reducible refine (HCT.out _).mono ?_);rintro x w3 ⟨v3,rfl,hr3,hb3⟩;have HR3:=aM hr3;have H3:=aM (H2.out.grow hb3);have HK3:=aM (HK2.out.trans (MK.of_below hb3));clear hr3 hb3))
 clear y3;obtain ⟨A3,c3,e3⟩:=Kd.R_slice HR3.out;subst e3;have HP3:=aM (HPR.out w3 H3.out.chip A3 c3 (fun w' hb hk=>qxO hk HR3.out) (Kd.R_reads' HR3.out).2.1);have y0:w3.cell? ⟨gm,0,none⟩=some (cp gc):=H3.out.cell 0
 go_upto_region 7 with (first
  | (go_at_call 58;(with_reducible refine HP3.out.mono ?_);rintro x w4 ⟨rfl,hc,hk⟩;have H4:=aM (H3.out.onChip hc hk HG2.out);have HK4:=aM (HK3.out.trans (MK.of_keeps hk));clear hc hk)
  | (go_at_call 131;(with_reducible refine (qgL H4.out (i:Int) e2).mono ?_);rintro x w5 ⟨v5,rfl,hv,h5,hk5⟩;have HV:=aM hv;have H5:=aM h5;have HK5:=aM (HK4.out.trans hk5);clear hv h5 hk5))
 clear y0;have HIS:=aM (qeS HV.out.ev 6 (by decide));have HL2:=aM (show i < a2.g.B by rw [HG2.out,HG.out];exact HIB.out)
 rcases HV.out with ⟨h9,rfl⟩|⟨h9,g,b,rfl,hf⟩
 ·subst h9;have HE:=aM ((HF.out.trans (if_neg (by decide))).trans (if_neg (fun hx=>hx rfl)));rw [qgZ m (show (0:Int) ≠ 6 by decide)] at H5;rw [show ((0:Int)==6)=false from rfl] at HIS
  go_upto_region 9 with (first
   | (go_at_call 129;(with_reducible refine HIS.out.mono ?_);rintro x w6 ⟨rfl,hb⟩;have H6:=aM (H5.out.grow hb);have HK6:=aM (HK5.out.trans (MK.of_below hb));clear hb))
  have y5:w6.cell? ⟨gm,5,none⟩=some (.slice (some ⟨gl,0,none⟩) m.l.length cl):=H6.out.cell 5;obtain ⟨z0,z1,z2,z3,z4,z5⟩:=H6.out.l.cell i HI.out;have f0:=H6.out.l.frozen (i*6);have f1:=H6.out.l.frozen (i*6+1);have f2:=H6.out.l.frozen (i*6+2);have f3:=H6.out.l.frozen (i*6+3);have f4:=H6.out.l.frozen (i*6+4);have f5:=H6.out.l.frozen (i*6+5);go_wp2;go_ret;rw [HE.out];obtain ⟨cells,hg,-⟩:=H6.out.l;exact ⟨_,rfl,.inl ⟨rfl,rfl⟩,H6.out.setL i HI.out ⟨2,n,0,0,0,false⟩,HK6.out.setB hg i ⟨2,n,0,0,0,false⟩⟩
 ·have HN0:=aM h9;clear hf
  by_cases h6:e2=6
  ·have HE:=aM (HF.out.trans (if_pos h6));subst h6;rw [show ((6:Int)==6)=true from rfl] at HIS;clear h9
   go_wp2_with (first
    | (go_at_call 129;(with_reducible refine HIS.out.mono ?_);rintro x w6 ⟨rfl,hb⟩;have HB6:=aM hb;clear hb))
   go_ret;rw [HE.out];exact ⟨_,rfl,HV.out.grow HB6.out,H5.out.grow HB6.out,HK5.out.trans (MK.of_below HB6.out)⟩
  ·have HE:=aM ((HF.out.trans (if_neg h6)).trans (if_pos HN0.out));rw [qgZ m h6] at H5;rw [show (e2==6)=false by simp only [beq_eq_false_iff_ne];exact h6] at HIS;clear h9 h6
   go_wp2_with (first
    | (go_at_call 129;(with_reducible refine HIS.out.mono ?_);rintro x w6 ⟨rfl,hb⟩;have H6:=aM (H5.out.grow hb);have HK6:=aM (HK5.out.trans (MK.of_below hb));clear hb)
    | (go_at_call 133;(with_reducible refine (qiB H6.out i HL2.out).mono ?_);rintro x w7 ⟨rfl,h7,hk7⟩;have H7:=aM h7;have HK7:=aM (HK6.out.trans hk7);clear h7 hk7))
   go_ret;rw [HE.out];exact ⟨_,rfl,.inl ⟨rfl,rfl⟩,H7.out,HK7.out⟩
theorem qnJ (h:Man w0 W gm gc gl cl ge ce a m) (i:Nat) (hi:i < a.g.B):Calls Tryz.prog 88 #[kp gm,.int .i64 i] W fun x w'=>∃ v:Value,x=.returned v∧FV w' v (qcF a m i).1∧Man w0 w' gm gc gl cl ge ce (qcF a m i).2.1 (qcF a m i).2.2∧MK [gm,gl] W w':=by
 by_cases h0:(qbY a (i:Int)).1=0
 ·exact qwI h i hi h0
 ·exact qtM h i hi h0
end
section
open Go.Shelf Plain
variable {w0 W W':World} {gm gc gl cl ge ce:Nat} {a a':AC} {m m':AM}
theorem qyL (h:Man w0 W gm gc gl cl ge ce a m):Calls Tryz.prog 24 #[kp gm] W fun x w'=>x=.returned (.int .i64 m.lebs.length)∧Below W.heap.size W w':=by
 have c6:W.cell? ⟨gm,6,none⟩=some (.slice (some ⟨ge,0,none⟩) m.lebs.length ce):=h.cell 6;clear h;go_enter Tryz.func24,Tryz.ntmps24;go_wp2;go_ret;exact ⟨rfl,Below.refl _ _⟩
theorem qcO (h:Man w0 W gm gc gl cl ge ce a m):Calls Tryz.prog 26 #[kp gm] W fun x w'=>x=.returned (.int .i64 ((a.g.P:Int) - 2))∧Below W.heap.size W w':=by
 have c2:W.cell? ⟨gm,2,none⟩=some (.int .i64 a.g.P):=h.cell 2;have hw:wrap64 ((a.g.P:Int) - 2)=(a.g.P:Int) - 2:=by have:=h.chip.gok.2.1;unfold wrap64;omega
 have HW:=aM hw;clear h hw;go_enter Tryz.func26,Tryz.ntmps26;go_wp2;go_ret;rw [HW.out];exact ⟨rfl,Below.refl _ _⟩
def qjD (a:AC) (m:AM):Int:=if m.dead=true∨a.off=true then 6 else 0
theorem qdR (h:Man w0 W gm gc gl cl ge ce a m):Calls Tryz.prog 96 #[kp gm] W fun x w'=>x=.returned (.int .i64 (qjD a m))∧Below W.heap.size W w':=by
 have c8:W.cell? ⟨gm,8,none⟩=some (.bool m.dead):=h.cell 8;have c0:W.cell? ⟨gm,0,none⟩=some (cp gc):=h.cell 0;have hon:=h.chip.on
 cases hd:m.dead with
 | true =>
  have HE:=aM (show qjD a m=6 from if_pos (.inl hd));rw [hd] at c8;clear h hd hon;go_enter Tryz.func96,Tryz.ntmps96;go_wp2;go_ret;rw [HE.out];exact ⟨rfl,Below.refl _ _⟩
 | false =>
  rw [hd] at c8
  cases ho:a.off with
  | true =>
   have HE:=aM (show qjD a m=6 from if_pos (.inr ho));rw [ho] at hon;have HON:=aM (show Calls Tryz.prog 48 #[cp gc] W fun e w'=>e=.returned (.bool false)∧Below W.heap.size W w' from hon);clear h hd hon ho;go_enter Tryz.func96,Tryz.ntmps96;go_wp2_with (first|(go_at_call 48;(with_reducible refine HON.out.mono ?_);rintro x w1 ⟨rfl,hb1⟩;have HB1:=aM hb1;clear hb1));go_ret;rw [HE.out];exact ⟨rfl,HB1.out⟩
  | false =>
   have HE:=aM (show qjD a m=0 from if_neg (by rw [hd,ho];decide));rw [ho] at hon;have HON:=aM (show Calls Tryz.prog 48 #[cp gc] W fun e w'=>e=.returned (.bool true)∧Below W.heap.size W w' from hon);clear h hd hon ho;go_enter Tryz.func96,Tryz.ntmps96;go_wp2_with (first|(go_at_call 48;(with_reducible refine HON.out.mono ?_);rintro x w1 ⟨rfl,hb1⟩;have HB1:=aM hb1;clear hb1));go_ret;rw [HE.out];exact ⟨rfl,HB1.out⟩
theorem qkI (h:Man w0 W gm gc gl cl ge ce a m):Calls Tryz.prog 95 #[kp gm] W fun x w'=>x=.returned (.int .i64 (qgH m.l))∧Below W.heap.size W w':=by
 have hB:=h.chip.gok.1;have HLE:=aM (qyR (some ⟨gl,0,none⟩) cl m.l W (h.l.reads (by rw [h.ln];omega)) (by rw [h.ln];omega));have c5:W.cell? ⟨gm,5,none⟩=some (.slice (some ⟨gl,0,none⟩) m.l.length cl):=h.cell 5;clear h hB;go_enter Tryz.func95,Tryz.ntmps95;go_wp2_with (first|(go_at_call 60;(with_reducible refine HLE.out.mono ?_);rintro x w1 ⟨rfl,hb1⟩;have HB1:=aM hb1;clear hb1));go_ret;exact ⟨rfl,HB1.out⟩
def qeH (m:AM):Bool:=decide (((qlR m.l:Nat):Int) < (m.lebs.length:Int)+2)
theorem qcZ (h:Man w0 W gm gc gl cl ge ce a m):Calls Tryz.prog 40 #[kp gm] W fun x w'=>x=.returned (.bool (qeH m))∧Below W.heap.size W w':=by
 have hB:=h.chip.gok.1;have HC:=aM h.c;have HGD:=aM (fun (w:World) (hb:Below W.heap.size W w)=>vcH (some ⟨gl,0,none⟩) cl m.l w (Kd.C_below (h.l.reads (by rw [h.ln];omega)) hb) h.hl (by rw [h.ln];omega));have hw:wrap64 ((m.lebs.length:Int)+2)=(m.lebs.length:Int)+2:=by have:=h.lb;unfold wrap64;omega
 have HW:=aM hw;clear h hB hw;go_enter Tryz.func40,Tryz.ntmps40
 go_upto_region 1 with (fail)
 refine Reg.det [(0,3,?r1v0),(1,4,?r1v1),(2,5,?r1v2),(3,6,?r1v3),(4,7,?r1v4),(5,8,?r1v5),(6,9,?r1v6),(7,10,?r1v7),(8,11,?r1v8),(9,12,?r1v9),(10,13,?r1v10),(11,14,?r1v11),(12,15,?r1v12),(13,16,?r1v13),(14,17,?r1v14),(15,18,?r1v15),(16,2,?r1v16)] (fun w'=>Below W.heap.size W w') (by rfl) rfl (by kernel_rfl) ?r1S ?r1steps ?r1okv ?r1hlt ?r1fin;case r1S=>exact qaO (Below.refl _ _)
 case r1steps =>
  refine Reg.fS 0 rfl rfl (fun a w hS hK K hC=>?_) ?_
  ·refine Reg.sO ?_;have e0:=hK.off 0 _ rfl rfl;clear hK;go_simp;exact hC _ hS
  refine Reg.fS 1 rfl rfl (fun a w hS hK K hC=>?_) ?_
  ·refine Reg.sO ?_;have e3:=hK.sl 0 rfl;clear hK;go_simp;exact hC _ hS
  refine Reg.fS 2 rfl rfl (fun a w hS hK K hC=>?_) ?_
  ·refine Reg.sO ?_;have e4:=hK.sl 1 rfl;clear hK;go_simp;exact hC _ hS
  refine Reg.fS 3 rfl rfl (fun a w hS hK K hC=>?_) ?_
  ·refine Reg.step_on (qaG (g:=2) rfl rfl rfl (hK.sl 2 rfl)) ?_;have e0:=hK.off 0 _ rfl rfl;clear hK;go_simp;exact hC _ hS
  refine Reg.fS 4 rfl rfl (fun a w hS hK K hC=>?_) ?_
  ·refine Reg.step_on (qaG (g:=2) rfl rfl rfl (hK.sl 2 rfl)) ?_;have e6:=hK.sl 3 rfl;clear hK;go_simp;exact hC _ hS
  refine Reg.fS 5 rfl rfl (fun a w hS hK K hC=>?_) ?_
  ·refine Reg.step_on (qaG (g:=2) rfl rfl rfl (hK.sl 2 rfl)) ?_;have e7:=hK.sl 4 rfl;clear hK;go_simp;exact hC _ hS
  refine Reg.fS 6 rfl rfl (fun a w hS hK K hC=>?_) ?_
  ·refine Reg.step_on (qaG (g:=2) rfl rfl rfl (hK.sl 2 rfl)) ?_;have e8:=hK.sl 5 rfl;have hm:=qaB HC.out hS;have z5:w.cell? ⟨gm,5,none⟩=some (.slice (some ⟨gl,0,none⟩) m.l.length cl):=Joins.cell_of_block hm 5;have z6:w.cell? ⟨gm,6,none⟩=some (.slice (some ⟨ge,0,none⟩) m.lebs.length ce):=Joins.cell_of_block hm 6;clear hm;clear hK;go_simp;exact hC _ hS
  refine Reg.fS 7 rfl rfl (fun a w hS hK K hC=>?_) ?_
  ·refine Reg.step_on (qaG (g:=2) rfl rfl rfl (hK.sl 2 rfl)) ?_;have e9:=hK.sl 6 rfl;clear hK;go_simp;go_at_call 61;(with_reducible refine (HGD.out w hS).mono ?_);rintro e w' ⟨rfl,hb⟩;exact hC w' (qaC hS hb)
  refine Reg.fS 8 rfl rfl (fun a w hS hK K hC=>?_) ?_
  ·refine Reg.step_on (qaG (g:=2) rfl rfl rfl (hK.sl 2 rfl)) ?_;have e0:=hK.off 0 _ rfl rfl;clear hK;go_simp;exact hC _ hS
  refine Reg.fS 9 rfl rfl (fun a w hS hK K hC=>?_) ?_
  ·refine Reg.step_on (qaG (g:=2) rfl rfl rfl (hK.sl 2 rfl)) ?_;have e11:=hK.sl 8 rfl;clear hK;go_simp;exact hC _ hS
  refine Reg.fS 10 rfl rfl (fun a w hS hK K hC=>?_) ?_
  ·refine Reg.step_on (qaG (g:=2) rfl rfl rfl (hK.sl 2 rfl)) ?_;have e12:=hK.sl 9 rfl;clear hK;go_simp;exact hC _ hS
  refine Reg.fS 11 rfl rfl (fun a w hS hK K hC=>?_) ?_
  ·refine Reg.step_on (qaG (g:=2) rfl rfl rfl (hK.sl 2 rfl)) ?_;have e13:=hK.sl 10 rfl;have hm:=qaB HC.out hS;have z5:w.cell? ⟨gm,5,none⟩=some (.slice (some ⟨gl,0,none⟩) m.l.length cl):=Joins.cell_of_block hm 5;have z6:w.cell? ⟨gm,6,none⟩=some (.slice (some ⟨ge,0,none⟩) m.lebs.length ce):=Joins.cell_of_block hm 6;clear hm;clear hK;go_simp;exact hC _ hS
  refine Reg.fS 12 rfl rfl (fun a w hS hK K hC=>?_) ?_
  ·refine Reg.step_on (qaG (g:=2) rfl rfl rfl (hK.sl 2 rfl)) ?_;have e14:=hK.sl 11 rfl;clear hK;go_simp;exact hC _ hS
  refine Reg.fS 13 rfl rfl (fun a w hS hK K hC=>?_) ?_
  ·refine Reg.step_on (qaG (g:=2) rfl rfl rfl (hK.sl 2 rfl)) ?_;have e15:=hK.sl 12 rfl;clear hK;go_simp;exact hC _ hS
  refine Reg.fS 14 rfl rfl (fun a w hS hK K hC=>?_) ?_
  ·refine Reg.step_on (qaG (g:=2) rfl rfl rfl (hK.sl 2 rfl)) ?_;have e10:=hK.sl 7 rfl;have e16:=hK.sl 13 rfl;clear hK;go_simp;exact hC _ hS
  refine Reg.fS 15 rfl rfl (fun a w hS hK K hC=>?_) ?_
  ·refine Reg.sO ?_;have e5:=hK.sl 2 rfl;have e17:=hK.sl 14 rfl;clear hK;go_simp;exact hC _ hS
  refine Reg.fS 16 rfl rfl (fun a w hS hK K hC=>?_) ?_
  ·refine Reg.sO ?_;have e18:=hK.sl 15 rfl;clear hK;go_simp;exact hC _ hS
  exact Reg.from_nil
 case r1okv=>rfl
 case r1hlt=>rfl
 case r1fin =>
  intro wz hS;simp only [Reg.putV,List.foldl_cons,List.foldl_nil,Act.put,List.setIfInBounds_toArray,List.set_cons_zero,List.set_cons_succ];have HB1:=aM hS;clear hS;go_wp2;go_ret;unfold qeH
  first|rw [HW.out]|rw [qbL,HW.out]
  exact ⟨rfl,HB1.out⟩
end
end Go.Proofs.YtdlimghdimkadaaGreatDoor.PAll

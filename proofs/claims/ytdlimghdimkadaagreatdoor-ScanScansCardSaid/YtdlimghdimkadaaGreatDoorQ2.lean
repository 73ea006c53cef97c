/- Part 2 of what the law ScanScans rests on. -/
import Derived.Test.YtdlimghdimkadaaGreatDoorQ1
import Derived.Deep.CutBlock
set_option maxRecDepth 100000
set_option maxHeartbeats 32000000
set_option linter.unusedSimpArgs false
set_option linter.unusedVariables false
namespace Go.Proofs.YtdlimghdimkadaaGreatDoor.PAll
open Go Go.RowKit YtdlimghdimkadaaGreatDoorW.PrintWords YtdlimghdimkadaaGreatDoorW.PrintLast YtdlimghdimkadaaGreatDoorW.PrintMore
attribute [local go_sem] qdS qdQ qeJ qeI qcV qcU qdR qdP
section
variable {w0 W:World} {gc gb:Nat} {gp:Nat→Nat} {m:Ch} {D:Nat→Nat→List Int}
theorem vcI (g n:Nat):(⟨g,0,none⟩:Addr).add n=⟨g,n,none⟩:=by
 by_cases h:n=0
 ·subst h;simp [Addr.add]
 ·simp [Addr.add,h]
theorem qiZ:(Tryz.prog.info? 5).map (fun i=>(i.zero,i.size,i.bytes))=some (some (.int .u8 0),1,1):=by kernel_rfl
theorem qhG (b:Bk) (j:Nat) (p q:Pg):(b.setPg j p).setPg j q=b.setPg j q:=by
 unfold Bk.setPg
 congr 1
 funext x
 by_cases h:x=j <;> simp [h]
theorem qeS (b:Bk) (j:Nat) (p:Pg):(b.setPg j p).pg j=p:=by simp [Bk.setPg]
theorem qbH (m:Ch) (i:Nat) (b:Bk):(m.setBk i b).bk i=b:=by simp [Ch.setBk]
theorem qbZ (m:Ch) (i:Nat) (b c:Bk):(m.setBk i b).setBk i c=m.setBk i c:=by
 unfold Ch.setBk
 congr 1
 funext x
 by_cases h:x=i <;> simp [h]
theorem qdU (m:Ch) (i x:Nat) (b:Bk) (h:x ≠ i):(m.setBk i b).bk x=m.bk x:=by simp [Ch.setBk,h]
def qiG (D:Nat→Nat→List Int) (i j:Nat) (xs:List Int):Nat→Nat→List Int:=fun x y=>if x=i∧y=j then xs else D x y
theorem vbT (gp:Nat→Nat) (m:Ch) (i:Nat) (b:Bk) (h1:b.bad=(m.bk i).bad) (h2:b.er=(m.bk i).er) (h3:b.nx=(m.bk i).nx):cB gp (m.setBk i b)=cB gp m:=by
 unfold cB
 congr 1
 funext k
 unfold qgY Ch.setBk
 by_cases h:k.val / 4=i <;> simp [h,h1,h2,h3]
theorem St.page (h:St w0 W gc gb gp m D) (i:Nat) (hi:i < m.g.B) (j:Nat) (hj:j < m.g.P) (st:Int) (v:Value) (xs:List Int) (hv:Kd.R kB 5 W w0.heap.size (fun _=>True) v xs) :
  St w0 ((W.setCell ⟨gp i,j*2,none⟩ (.int .i64 st)).setCell ⟨gp i,j*2+1,none⟩ v) gc gb gp (m.setBk i ((m.bk i).setPg j ⟨st,v⟩)) (qiG D i j xs):=by
 have h1:St w0 (W.setCell ⟨gp i,j*2,none⟩ (.int .i64 st)) gc gb gp (m.setBk i ((m.bk i).setPg j { (m.bk i).pg j with st:=st })) D:=by
  refine h.setP (m':=m.setBk i ((m.bk i).setPg j { (m.bk i).pg j with st:=st })) i hi (j*2) (.int .i64 st) ?_ rfl rfl (vbT gp m i _ rfl rfl rfl) (fun x _ hx=>qdU m i x _ hx) (fun x y hx hy=>?_) ⟨rfl,rfl⟩
  ·rw [qbH];exact vdX _ _ _ _
  ·have hd:=h.d x y hx hy
   by_cases hxi:x=i
   ·subst hxi;rw [qbH]
    by_cases hyj:y=j
    ·subst hyj;rw [qeS];exact hd
    ·simp only [Bk.setPg,hyj,if_false];exact hd
   ·rw [qdU m i x _ hxi];exact hd
 have h2:=h1.setP (m':=(m.setBk i ((m.bk i).setPg j { (m.bk i).pg j with st:=st })).setBk i (((m.bk i).setPg j { (m.bk i).pg j with st:=st }).setPg j ⟨st,v⟩)) (D':=qiG D i j xs) i hi (j*2+1) v ?_ rfl rfl (vbT gp _ i _ (by rw [qbH];rfl) (by rw [qbH];rfl) (by rw [qbH];rfl)) (fun x _ hx=>qdU _ i x _ hx) (fun x y hx hy=>?_) ⟨rfl,rfl⟩
 ·rw [qbZ,qhG] at h2;exact h2
 ·rw [qbH,qbH,cP_d,qeS]
 ·have hp:=h.p i hi
  by_cases hxi:x=i
  ·subst hxi;rw [qbH]
   by_cases hyj:y=j
   ·subst hyj;rw [qeS];unfold qiG;rw [if_pos ⟨rfl,rfl⟩];exact Kd.R_set hv hp (by decide) _ _
   ·have e:qiG D x j xs x y=D x y:=by unfold qiG;rw [if_neg (fun h=>hyj h.2)]
    rw [e];simp only [Bk.setPg,hyj,if_false];exact Kd.R_set (h.d x y hx hy) hp (by decide) _ _
  ·have e:qiG D i j xs x y=D x y:=by unfold qiG;rw [if_neg (fun h=>hxi h.1)]
   rw [e,qdU _ i x _ hxi,qdU _ i x _ hxi];exact Kd.R_set (h.d x y hx hy) hp (by decide) _ _
theorem St.pageD (h:St w0 W gc gb gp m D) (i:Nat) (hi:i < m.g.B) (j:Nat) (hj:j < m.g.P) (v:Value) (xs:List Int) (hv:Kd.R kB 5 W w0.heap.size (fun _=>True) v xs) :
  St w0 (W.setCell ⟨gp i,j*2+1,none⟩ v) gc gb gp (m.setBk i ((m.bk i).setPg j ⟨((m.bk i).pg j).st,v⟩)) (qiG D i j xs):=by
 refine h.setP (m':=m.setBk i ((m.bk i).setPg j ⟨((m.bk i).pg j).st,v⟩)) (D':=qiG D i j xs) i hi (j*2+1) v ?_ rfl rfl (vbT gp _ i _ rfl rfl rfl) (fun x _ hx=>qdU _ i x _ hx) (fun x y hx hy=>?_) ⟨rfl,rfl⟩
 ·rw [qbH,cP_d]
 ·by_cases hxi:x=i
  ·subst hxi;rw [qbH]
   by_cases hyj:y=j
   ·subst hyj;rw [qeS];unfold qiG;rw [if_pos ⟨rfl,rfl⟩];exact hv
   ·have e:qiG D x j xs x y=D x y:=by unfold qiG;rw [if_neg (fun h=>hyj h.2)]
    rw [e];simp only [Bk.setPg,hyj,if_false];exact h.d x y hx hy
  ·have e:qiG D i j xs x y=D x y:=by unfold qiG;rw [if_neg (fun h=>hxi h.1)]
   rw [e,qdU _ i x _ hxi];exact h.d x y hx hy
theorem qlO (D:Nat→Nat→List Int) (i j:Nat) (xs ys:List Int):qiG (qiG D i j xs) i j ys=qiG D i j ys:=by
 funext x y
 unfold qiG
 by_cases h:x=i∧y=j <;> simp [h]
theorem St.nx (h:St w0 W gc gb gp m D) (i:Nat) (x:Int):St w0 (W.setCell ⟨gb,i*4+3,none⟩ (.int .i64 x)) gc gb gp (m.setBk i { m.bk i with nx:=x }) D :=
 h.setB _ _ (vdY gp m i x) rfl rfl (fun k _=>by by_cases hk:k=i <;> simp [Ch.setBk,hk]) ⟨rfl,rfl⟩
theorem St.er (h:St w0 W gc gb gp m D) (i:Nat) (x:Int):St w0 (W.setCell ⟨gb,i*4+1,none⟩ (.int .i64 x)) gc gb gp (m.setBk i { m.bk i with er:=x }) D :=
 h.setB _ _ (vdZ gp m i x) rfl rfl (fun k _=>by by_cases hk:k=i <;> simp [Ch.setBk,hk]) ⟨rfl,rfl⟩
theorem St.badS (h:St w0 W gc gb gp m D) (i:Nat) (x:Bool):St w0 (W.setCell ⟨gb,i*4,none⟩ (.bool x)) gc gb gp (m.setBk i { m.bk i with bad:=x }) D :=
 h.setB _ _ (vdF gp m i x) rfl rfl (fun k _=>by by_cases hk:k=i <;> simp [Ch.setBk,hk]) ⟨rfl,rfl⟩
theorem St.ops (h:St w0 W gc gb gp m D) (x:Int):St w0 (W.setCell ⟨gc,8,none⟩ (.int .i64 x)) gc gb gp { m with ops:=x } D:=h.setC 8 _ rfl rfl rfl h.pln
theorem St.wrong (h:St w0 W gc gb gp m D) (x:Int):St w0 (W.setCell ⟨gc,9,none⟩ (.int .i64 x)) gc gb gp { m with wrong:=x } D:=h.setC 9 _ rfl rfl rfl h.pln
theorem St.other (h:St w0 W gc gb gp m D) {g:Nat} {cs:Array Value} (hg:W.heap[g]?=some (.cells cs 83 (0,0))) (hge:w0.heap.size≤g) (k:Nat) (v:Value) (hpl:Kd.R kF 83 (W.setCell ⟨g,k,none⟩ v) w0.heap.size (fun _=>True) m.plan m.pl):St w0 (W.setCell ⟨g,k,none⟩ v) gc gb gp m D :=
 ⟨qaR h.c (qbE h.c hg (by decide)) _,qaR h.b (qbE h.b hg (by decide)) _,fun i hi=>qaR (h.p i hi) (qbE (h.p i hi) hg (by decide)) _,h.inj,h.ec,h.eb,h.ep,fun i j hi hj=>Kd.R_set (h.d i j hi hj) hg (by decide) _ _,hpl,qaH h.below hge,h.gok⟩
theorem qxG {g:Nat} {a b c:Value} (h:W.heap[g]?=some (.cells #[a,b,c] 83 (0,0))) (x y z:Value):(((W.setCell ⟨g,0,none⟩ x).setCell ⟨g,1,none⟩ y).setCell ⟨g,2,none⟩ z).heap[g]?=some (.cells #[x,y,z] 83 (0,0)) :=
 qaU (qaU (qaU h 0 x (cs':=#[x,b,c]) rfl) 1 y (cs':=#[x,y,c]) rfl) 2 z rfl
theorem St.other3 (h:St w0 W gc gb gp m D) {g:Nat} {a b c:Value} (hg:W.heap[g]?=some (.cells #[a,b,c] 83 (0,0))) (hge:w0.heap.size≤g) {ok:Nat→Prop} (hok:∀ k,ok k→k ≠ g) (hpl:Kd.R kF 83 W w0.heap.size ok m.plan m.pl) (x y z:Value):St w0 (((W.setCell ⟨g,0,none⟩ x).setCell ⟨g,1,none⟩ y).setCell ⟨g,2,none⟩ z) gc gb gp m D:=by
 have p1:=Kd.R_far hpl (p:=⟨g,0,none⟩) hok x;have p2:=Kd.R_far p1 (p:=⟨g,1,none⟩) hok y;have p3:=Kd.R_far p2 (p:=⟨g,2,none⟩) hok z;exact ((h.other hg hge 0 x (Kd.R_mono p1 (fun _ _=>trivial))).other (qaU hg 0 x (cs':=#[x,b,c]) rfl) hge 1 y (Kd.R_mono p2 (fun _ _=>trivial))).other (qaU (qaU hg 0 x (cs':=#[x,b,c]) rfl) 1 y (cs':=#[x,y,c]) rfl) hge 2 z (Kd.R_mono p3 (fun _ _=>trivial))
theorem qbF.set3 {W W1:World} (h:qbF W W1) {g:Nat} (hg:W.heap.size≤g) (x y z:Value):qbF W (((W1.setCell ⟨g,0,none⟩ x).setCell ⟨g,1,none⟩ y).setCell ⟨g,2,none⟩ z) :=
 ((h.fresh (p:=⟨g,0,none⟩) hg x).fresh (p:=⟨g,1,none⟩) hg y).fresh (p:=⟨g,2,none⟩) hg z
theorem St.lower {w1:World} (h:St w1 W gc gb gp m D) (hb:Below w0.heap.size w0 w1):St w0 W gc gb gp m D :=
 ⟨h.c,h.b,h.p,h.inj,Nat.le_trans (qaG hb) h.ec,Nat.le_trans (qaG hb) h.eb,fun i hi=>Nat.le_trans (qaG hb) (h.ep i hi),fun i j hi hj=>Kd.R_lower (h.d i j hi hj) (qaG hb),Kd.R_lower h.pln (qaG hb),qaF hb h.below,h.gok⟩
theorem qkV (A:Option Addr) (c:Nat) (l:List Int) (w:World) (hr:Kd.C kB w A l.length l) (hc:l.length≤c) (hb:l.length≤140737488355328) :
  Calls Tryz.prog 116 #[.slice A l.length c] w fun e w'=>∃ v0_:Value,e=.returned (v0_)∧Kd.R kB 5 w' w.heap.size (fun _=>True) v0_ l∧Below w.heap.size w w':=by
 have HR:=aM hr;have HC:=aM hc;have HBs:=aM hb;clear hc hb
 rcases A with _|ad
 ·have h0:l=[]:=by
   rcases Nat.eq_zero_or_pos l.length with h0|h0
   ·exact List.eq_nil_of_length_eq_zero h0
   ·obtain ⟨ad,h,_⟩:=hr.2.2 h0
    cases h
  subst h0;clear hr;have hnil:=fun W:World=>Lib.run_eql_slice_nil (P:=Tryz.prog) W 35 5 none 0 c 0 0 Tryz.underlying35
  go_enter Tryz.func116,Tryz.ntmps116;go_wp2;go_ret;exact ⟨_,rfl,Kd.R_nil _ _ _ _ _,Below.refl _ _⟩
 ·clear hr;have hnil:=fun W:World=>Lib.run_eql_slice_nil (P:=Tryz.prog) W 35 5 (some ad) l.length c 0 0 Tryz.underlying35
  go_enter Tryz.func116,Tryz.ntmps116
  go_wp2_with (first
   | ((with_reducible refine qbM (N:=5) rfl ?_);refine Kd.R_lit kB w.heap.size 5 ?hg (N:=5) ?hd (xs:=([]:List Int)) (inner:=[]) (ok:=fun _=>True) (okp:=fun _=>True) ?hr ?hp (fun _ hk=>hk) trivial (Below.refl _ _) (Nat.le_refl _) (by simp) ?_;(case hd=>rfl);(case hg=>rfl);(case hr=>first|(go_simp;done)|(go_simp;rfl));(case hp=>exact (qfK.none _ _));intro v1 w1 ho hb _ _;have HO:=aM ho;have HB:=aM hb;clear ho hb)
   | ((with_reducible refine qbC (b:=.append) (xs:=#[.tmp 5,.tmp 6]) rfl ?_);at_builtin;refine Kd.R_append_rows kB (w0:=w) w.heap.size rfl (.tmp 5) (.tmp 6) 35 5 (.int .u8 0) 1 rfl Tryz.underlying35 qiZ rfl Nat.zero_lt_one Nat.zero_lt_one v1 [] l _ _ _ (fun _=>True) (fun _=>False) rfl rfl ?aO ?aR (fun _ _ h=>h) (fun _ h=>h.elim) ?aF ?aB ?aS ?aL ?_;(case aO=>exact HO.out);(case aR=>exact Kd.C_below HR.out HB.out);(case aF=>exact fun _ _=>trivial);(case aB=>exact HB.out);(case aS=>exact qaG HB.out);(case aL=>have:=HBs.out;simp;exact this);intro v2 w2 ho2 hb2 _ _;have HO2:=aM ho2;have HB2:=aM hb2;clear ho2 hb2))
  go_ret;exact ⟨_,rfl,HO2.out,HB2.out⟩
def qdF (pl:List F3) (t:Int):Option F3:=pl.find? (fun f=>decide (f.f0=t))
def bgV (o:Option F3):Value:=.tuple #[.agg #[.int .i64 (o.getD zF).f0,.int .i64 (o.getD zF).f1,.int .i64 (o.getD zF).f2],.bool o.isSome]
theorem qoN {pl:List F3} {t:Int} {i:Nat} {f:F3} (h:qdF (pl.take i) t=none) (hg:pl[i]?=some f) (hf:f.f0=t):qdF pl t=some f:=by
 obtain ⟨hlt,he⟩:=List.getElem?_eq_some_iff.1 hg;have e:pl=pl.take i ++ f :: pl.drop (i+1):=by rw [← he,List.getElem_cons_drop,List.take_append_drop]
 unfold qdF at h ⊢;rw [e,List.find?_append,h];simp [hf]
theorem qmA {pl:List F3} {t:Int} {i:Nat} {f:F3} (h:qdF (pl.take i) t=none) (hg:pl[i]?=some f) (hf:f.f0 ≠ t):qdF (pl.take (i+1)) t=none:=by
 obtain ⟨hlt,rfl⟩:=List.getElem?_eq_some_iff.1 hg;unfold qdF at h ⊢;rw [List.take_add_one,List.getElem?_eq_getElem hlt,List.find?_append,h];simp [hf]
theorem qdN (h:St w0 W gc gb gp m D) :
  Calls Tryz.prog 115 #[cp gc] W fun e w'=>e=.returned (bgV (qdF m.pl (wrap64 (wrap64 (m.ops+1) - m.frm))))∧St w0 w' gc gb gp { m with ops:=wrap64 (m.ops+1) } D∧qbF W w':=by
 have c8:∀ o,(W.alloc o).cell? ⟨gc,8,none⟩=some (.int .i64 m.ops):=fun o=>(h.grow (qaA (Below.refl _ _) o)).cellC 8
 have f8:∀ o,(W.alloc o).frozen? ⟨gc,8,none⟩=false:=fun o=>qaC (h.grow (qaA (Below.refl _ _) o)).c 8
 have H:=aM h;have hu44:=Tryz.underlying83;obtain ⟨A5,c5,e5⟩:=Kd.R_slice h.pln
 have hform:0 < m.pl.length→∃ g5,A5=some ⟨g5,0,none⟩:=fun hpos=>by
  obtain ⟨g5,c,e,_⟩:=Kd.R_form h.pln hpos;rw [e5] at e;simp only [Value.slice.injEq] at e;exact ⟨g5,e.1⟩
 have HF5:=aM hform;have HPV:=aM e5;have hpb:Kd.R kF 83 W w0.heap.size (fun k=>k < W.heap.size) m.plan m.pl:=Kd.R_mono (Kd.R_bound h.pln) (fun k hk=>hk.2.2.1);have HPB0:=aM hpb
 have hmx:m.pl.length≤9223372036854775807:=by
  have h7:=h.pln;rw [e5] at h7;exact Kd.C_max (Kd.R_reads' h7).2.2
 clear h e5 hform hpb;go_enter Tryz.func115,Tryz.ntmps115
 go_upto_region 2 with (fail)
 generalize hW:(W.alloc (.cells #[.int .i64 0,.int .i64 0,.int .i64 0] 83)).setCell ⟨gc,8,none⟩ (.int .i64 (wrap64 (m.ops+1)))=W1;have h1:St w0 W1 gc gb gp { m with ops:=wrap64 (m.ops+1) } D:=by rw [← hW];exact (H.out.grow (qaA (Below.refl _ _) _)).ops _
 have hk:qbF W W1:=by rw [← hW];exact (qbF.of_below (qaA (Below.refl _ _) _)).set (H.out.grow (qaA (Below.refl _ _) _)).c (by decide) _ _
 have hx:W1.heap[W.heap.size]?=some (.cells #[.int .i64 0,.int .i64 0,.int .i64 0] 83 (0,0)):=by rw [← hW];exact qaR (qaV _ _ _) (qbE (qaV W #[.int .i64 0,.int .i64 0,.int .i64 0] 83) (H.out.grow (qaA (Below.refl _ _) (.cells #[.int .i64 0,.int .i64 0,.int .i64 0] 83))).c (by decide)) _
 have hpb1:Kd.R kF 83 W1 w0.heap.size (fun k=>k < W.heap.size) m.plan m.pl:=by rw [← hW];exact Kd.R_set (Kd.R_below HPB0.out (qaA (Below.refl _ _) _)) (H.out.grow (qaA (Below.refl _ _) _)).c (by decide) _ _
 have cc5:W1.cell? ⟨gc,5,none⟩=some (.slice A5 m.pl.length c5):=by rw [h1.cellC 5];simp [cC,HPV.out]
 have x0:=jC hx 0;have x1:=jC hx 1;have x2:=jC hx 2;have fx0:=qaC hx 0;have fx1:=qaC hx 1;have fx2:=qaC hx 2;have H1:=aM h1;have HK:=aM hk;have HX:=aM hx;have HPB:=aM hpb1;clear hW h1 hk hx c8 f8 hpb1
 go_upto_region 3 with (fail)
 go_loopw [18] (fun v18 wr=>∃ i:Nat,i≤m.pl.length∧v18=.int .i64 i∧qaN (qdF (m.pl.take i) (wrap64 (wrap64 (m.ops+1) - m.frm))=none)∧qaN (Below W1.heap.size W1 wr)) (fun i _=>m.pl.length - (intOf i).toNat);case atStart=>exact ⟨0,Nat.zero_le _,rfl,⟨rfl⟩,⟨Below.refl _ _⟩⟩
 case round =>
  obtain ⟨i,hi,rfl,HM,HBr⟩:=hrel;clear cc5 x0 x1 x2 fx0 fx1 fx2;have HXr:=aM (qaE HX.out HBr.out);have x0:=jC HXr.out 0;have x1:=jC HXr.out 1;have x2:=jC HXr.out 2;have fx0:=qaC HXr.out 0;have fx1:=qaC HXr.out 1;have fx2:=qaC HXr.out 2
  by_cases hlt:i < m.pl.length
  ·have d0:decide ((i:Int) < (m.pl.length:Int))=true:=decide_eq_true (by omega);have hq:(i < m.pl.length)=True:=eq_true hlt;have hqi:((i:Int) < (m.pl.length:Int))=True:=eq_true (by omega);have hqm:(m.pl.length≤i)=False:=eq_false (by omega);have hr5:=Kd.R_below (H1.out.pln) HBr.out;have hf5:=HF5.out (Nat.lt_of_le_of_lt (Nat.zero_le _) hlt);obtain ⟨g5,rfl⟩:=hf5;have hr6:=hr5;rw [show ({ m with ops:=wrap64 (m.ops+1) }:Ch).plan=m.plan from rfl,show ({ m with ops:=wrap64 (m.ops+1) }:Ch).pl=m.pl from rfl,HPV.out] at hr6;obtain ⟨ad,ead,y0,y1,y2⟩:=vdO (Kd.R_reads' hr6).2.2 (i:Int) (by omega) (by omega);obtain rfl:(⟨g5,0,none⟩:Addr)=ad:=by simpa using ead
   rw [vcI,Int.toNat_natCast] at y0 y1 y2
   have hget:m.pl[i]?=some (qpW m.pl (i:Int)):=by
    unfold qpW;rw [Int.toNat_natCast,List.getD_eq_getElem?_getD,List.getElem?_eq_getElem hlt];rfl
   generalize qpW m.pl (i:Int)=f at y0 y1 y2 hget;have HGT:=aM hget;have HQ9:=aM (fun o=>qaF HBr.out (qaA (Below.refl wr.heap.size wr) o));clear ead hget hr5 hr6
   by_cases hf:f.f0=wrap64 (wrap64 (m.ops+1) - m.frm)
   ·have e1:(f.f0==IntKind.i64.wrap (wrap64 (m.ops+1) - m.frm))=true:=by rw [qbJ,← hf];simp
    have HE:=aM (qoN HM.out HGT.out hf);clear hf
    go_upto_region 5 with (fail)
    generalize hW6:wr.alloc (.cells #[.int .i64 f.f0,.int .i64 f.f1,.int .i64 f.f2] 83)=W6;have HF6:=aM (show W6.heap[wr.heap.size]?=some (.cells #[.int .i64 f.f0,.int .i64 f.f1,.int .i64 f.f2] 83 (0,0)) by rw [← hW6];exact qaV _ _ _);have HB6:=aM (show Below W1.heap.size W1 W6 by rw [← hW6];exact HQ9.out _);have H6:=aM (H1.out.grow HB6.out);clear hW6 y0 y1 y2;refine Reg.det [(0,22,?r1v0),(1,23,?r1v1),(2,24,?r1v2),(3,25,?r1v3),(4,26,?r1v4),(5,27,?r1v5),(6,28,?r1v6),(7,29,?r1v7),(8,30,?r1v8),(9,31,?r1v9),(10,32,?r1v10),(11,33,?r1v11)] (fun w'=>Below W6.heap.size W6 w') (by rfl) rfl (by kernel_rfl) ?r1S ?r1steps ?r1okv ?r1hlt ?r1fin;case r1S=>exact qaW (Below.refl _ _)
    case r1steps =>
     refine Reg.fS 0 rfl rfl (fun a w hS hK K hC=>?_) ?_
     ·refine Reg.sO ?_;have e5:=hK.off 5 _ rfl rfl;clear hK;go_simp;exact hC _ hS
     refine Reg.fS 1 rfl rfl (fun a w hS hK K hC=>?_) ?_
     ·refine Reg.sO ?_;have e22:=hK.sl 0 rfl;have k8:=(H6.out.grow hS).cellC 8;change _=some (Value.int .i64 (wrap64 (m.ops+1))) at k8;have k6:=(H6.out.grow hS).cellC 6;change _=some (Value.int .i64 m.frm) at k6;have kf:=jC (qaE HF6.out hS) 0;clear hK;go_simp;exact hC _ hS
     refine Reg.fS 2 rfl rfl (fun a w hS hK K hC=>?_) ?_
     ·refine Reg.sO ?_;have e0:=hK.off 0 _ rfl rfl;clear hK;go_simp;exact hC _ hS
     refine Reg.fS 3 rfl rfl (fun a w hS hK K hC=>?_) ?_
     ·refine Reg.sO ?_;have e24:=hK.sl 2 rfl;clear hK;go_simp;exact hC _ hS
     refine Reg.fS 4 rfl rfl (fun a w hS hK K hC=>?_) ?_
     ·refine Reg.sO ?_;have e25:=hK.sl 3 rfl;clear hK;go_simp;exact hC _ hS
     refine Reg.fS 5 rfl rfl (fun a w hS hK K hC=>?_) ?_
     ·refine Reg.sO ?_;have e26:=hK.sl 4 rfl;have k8:=(H6.out.grow hS).cellC 8;change _=some (Value.int .i64 (wrap64 (m.ops+1))) at k8;have k6:=(H6.out.grow hS).cellC 6;change _=some (Value.int .i64 m.frm) at k6;have kf:=jC (qaE HF6.out hS) 0;clear hK;go_simp;exact hC _ hS
     refine Reg.fS 6 rfl rfl (fun a w hS hK K hC=>?_) ?_
     ·refine Reg.sO ?_;have e0:=hK.off 0 _ rfl rfl;clear hK;go_simp;exact hC _ hS
     refine Reg.fS 7 rfl rfl (fun a w hS hK K hC=>?_) ?_
     ·refine Reg.sO ?_;have e28:=hK.sl 6 rfl;clear hK;go_simp;exact hC _ hS
     refine Reg.fS 8 rfl rfl (fun a w hS hK K hC=>?_) ?_
     ·refine Reg.sO ?_;have e29:=hK.sl 7 rfl;clear hK;go_simp;exact hC _ hS
     refine Reg.fS 9 rfl rfl (fun a w hS hK K hC=>?_) ?_
     ·refine Reg.sO ?_;have e30:=hK.sl 8 rfl;have k8:=(H6.out.grow hS).cellC 8;change _=some (Value.int .i64 (wrap64 (m.ops+1))) at k8;have k6:=(H6.out.grow hS).cellC 6;change _=some (Value.int .i64 m.frm) at k6;have kf:=jC (qaE HF6.out hS) 0;clear hK;go_simp;exact hC _ hS
     refine Reg.fS 10 rfl rfl (fun a w hS hK K hC=>?_) ?_
     ·refine Reg.sO ?_;have e27:=hK.sl 5 rfl;have e31:=hK.sl 9 rfl;clear hK;go_simp;exact hC _ hS
     refine Reg.fS 11 rfl rfl (fun a w hS hK K hC=>?_) ?_
     ·refine Reg.sO ?_;have e23:=hK.sl 1 rfl;have e32:=hK.sl 10 rfl;clear hK;go_simp;exact hC _ hS
     exact Reg.from_nil
    case r1okv=>rfl
    case r1hlt=>rfl
    case r1fin =>
     intro wz hS;simp only [Reg.putV,List.foldl_cons,List.foldl_nil,Act.put,List.setIfInBounds_toArray,List.set_cons_zero,List.set_cons_succ];have HBz:=aM (qaF HB6.out hS);have HXz:=aM (qaE HX.out HBz.out);have HFz:=aM (qaE HF6.out hS);have HB1z:=aM (H1.out.grow HBr.out);clear x0 x1 x2 fx0 fx1 fx2;have x0:=jC HXz.out 0;have x1:=jC HXz.out 1;have x2:=jC HXz.out 2;have fx0:=qaC HXz.out 0;have fx1:=qaC HXz.out 1;have fx2:=qaC HXz.out 2;have k0:=jC HFz.out 0;have k1:=jC HFz.out 1;have k2:=jC HFz.out 2;clear hS;go_wp2;refine bodyPost_ret (qbD rfl _ _ W.heap.size 83 #[.int .i64 f.f0,.int .i64 f.f1,.int .i64 f.f2] (0,0) _ rfl (qxG HXz.out _ _ _) Tryz.underlying83 rfl (by kernel_rfl)) rfl ?_;rw [HE.out];exact ⟨rfl,(H1.out.grow HBz.out).other3 HXz.out (qaG H.out.below) (fun k hk=>Nat.ne_of_lt hk) (Kd.R_below HPB.out HBz.out) _ _ _,(HK.out.trans (qbF.of_below HBz.out)).set3 (Nat.le_refl _) _ _ _⟩
   ·have e1:(f.f0==IntKind.i64.wrap (wrap64 (m.ops+1) - m.frm))=false:=by simp only [beq_eq_false_iff_ne];rw [qbJ];exact hf
    have HM2:=aM (qmA HM.out HGT.out hf);clear hf
    go_upto_region 5 with (fail)
    generalize hW6:wr.alloc (.cells #[.int .i64 f.f0,.int .i64 f.f1,.int .i64 f.f2] 83)=W6;have HF6:=aM (show W6.heap[wr.heap.size]?=some (.cells #[.int .i64 f.f0,.int .i64 f.f1,.int .i64 f.f2] 83 (0,0)) by rw [← hW6];exact qaV _ _ _);have HB6:=aM (show Below W1.heap.size W1 W6 by rw [← hW6];exact HQ9.out _);have H6:=aM (H1.out.grow HB6.out);clear hW6 y0 y1 y2;refine Reg.det [(0,22,?r2v0),(1,23,?r2v1),(2,24,?r2v2),(3,25,?r2v3),(4,26,?r2v4),(5,27,?r2v5),(6,28,?r2v6),(7,29,?r2v7),(8,30,?r2v8),(9,31,?r2v9),(10,32,?r2v10),(11,33,?r2v11)] (fun w'=>Below W6.heap.size W6 w') (by rfl) rfl (by kernel_rfl) ?r2S ?r2steps ?r2okv ?r2hlt ?r2fin;case r2S=>exact qaW (Below.refl _ _)
    case r2steps =>
     refine Reg.fS 0 rfl rfl (fun a w hS hK K hC=>?_) ?_
     ·refine Reg.sO ?_;have e5:=hK.off 5 _ rfl rfl;clear hK;go_simp;exact hC _ hS
     refine Reg.fS 1 rfl rfl (fun a w hS hK K hC=>?_) ?_
     ·refine Reg.sO ?_;have e22:=hK.sl 0 rfl;have k8:=(H6.out.grow hS).cellC 8;change _=some (Value.int .i64 (wrap64 (m.ops+1))) at k8;have k6:=(H6.out.grow hS).cellC 6;change _=some (Value.int .i64 m.frm) at k6;have kf:=jC (qaE HF6.out hS) 0;clear hK;go_simp;exact hC _ hS
     refine Reg.fS 2 rfl rfl (fun a w hS hK K hC=>?_) ?_
     ·refine Reg.sO ?_;have e0:=hK.off 0 _ rfl rfl;clear hK;go_simp;exact hC _ hS
     refine Reg.fS 3 rfl rfl (fun a w hS hK K hC=>?_) ?_
     ·refine Reg.sO ?_;have e24:=hK.sl 2 rfl;clear hK;go_simp;exact hC _ hS
     refine Reg.fS 4 rfl rfl (fun a w hS hK K hC=>?_) ?_
     ·refine Reg.sO ?_;have e25:=hK.sl 3 rfl;clear hK;go_simp;exact hC _ hS
     refine Reg.fS 5 rfl rfl (fun a w hS hK K hC=>?_) ?_
     ·refine Reg.sO ?_;have e26:=hK.sl 4 rfl;have k8:=(H6.out.grow hS).cellC 8;change _=some (Value.int .i64 (wrap64 (m.ops+1))) at k8;have k6:=(H6.out.grow hS).cellC 6;change _=some (Value.int .i64 m.frm) at k6;have kf:=jC (qaE HF6.out hS) 0;clear hK;go_simp;exact hC _ hS
     refine Reg.fS 6 rfl rfl (fun a w hS hK K hC=>?_) ?_
     ·refine Reg.sO ?_;have e0:=hK.off 0 _ rfl rfl;clear hK;go_simp;exact hC _ hS
     refine Reg.fS 7 rfl rfl (fun a w hS hK K hC=>?_) ?_
     ·refine Reg.sO ?_;have e28:=hK.sl 6 rfl;clear hK;go_simp;exact hC _ hS
     refine Reg.fS 8 rfl rfl (fun a w hS hK K hC=>?_) ?_
     ·refine Reg.sO ?_;have e29:=hK.sl 7 rfl;clear hK;go_simp;exact hC _ hS
     refine Reg.fS 9 rfl rfl (fun a w hS hK K hC=>?_) ?_
     ·refine Reg.sO ?_;have e30:=hK.sl 8 rfl;have k8:=(H6.out.grow hS).cellC 8;change _=some (Value.int .i64 (wrap64 (m.ops+1))) at k8;have k6:=(H6.out.grow hS).cellC 6;change _=some (Value.int .i64 m.frm) at k6;have kf:=jC (qaE HF6.out hS) 0;clear hK;go_simp;exact hC _ hS
     refine Reg.fS 10 rfl rfl (fun a w hS hK K hC=>?_) ?_
     ·refine Reg.sO ?_;have e27:=hK.sl 5 rfl;have e31:=hK.sl 9 rfl;clear hK;go_simp;exact hC _ hS
     refine Reg.fS 11 rfl rfl (fun a w hS hK K hC=>?_) ?_
     ·refine Reg.sO ?_;have e23:=hK.sl 1 rfl;have e32:=hK.sl 10 rfl;clear hK;go_simp;exact hC _ hS
     exact Reg.from_nil
    case r2okv=>rfl
    case r2hlt=>rfl
    case r2fin =>
     intro wz hS;simp only [Reg.putV,List.foldl_cons,List.foldl_nil,Act.put,List.setIfInBounds_toArray,List.set_cons_zero,List.set_cons_succ];have HBz:=aM (qaF HB6.out hS);clear hS;go_wp2;go_roundw;case rel=>exact ⟨i+1,by omega,by push_cast;rfl,HM2,HBz⟩
     case measure=>simp [intOf];omega
  ·obtain rfl:i=m.pl.length:=by omega
   go_wp2;refine bodyPost_ret (qbD rfl _ _ W.heap.size 83 #[.int .i64 0,.int .i64 0,.int .i64 0] (0,0) _ rfl (qxG HXr.out _ _ _) Tryz.underlying83 rfl (by kernel_rfl)) rfl ?_;have HM3:=HM.out;rw [List.take_length] at HM3;rw [HM3];exact ⟨rfl,(H1.out.grow HBr.out).other3 HXr.out (qaG H.out.below) (fun k hk=>Nat.ne_of_lt hk) (Kd.R_below HPB.out HBr.out) _ _ _,(HK.out.trans (qbF.of_below HBr.out)).set3 (Nat.le_refl _) _ _ _⟩
end
section
variable {w0 W:World} {gc gb:Nat} {gp:Nat→Nat} {m:Ch} {D:Nat→Nat→List Int}
abbrev tgt (m:Ch):Int:=wrap64 (wrap64 (m.ops+1) - m.frm)
theorem qsZ (h:St w0 W gc gb gp m D) (hoff:m.off=false) (hplan:qdF m.pl (tgt m)=none) (n p:Nat) (hn:n < m.g.B) (hp:p < m.g.P) (hbad:(m.bk n).bad=false) (hnx:(m.bk n).nx=p) (A:Option Addr) (c:Nat) (l:List Int) (hr:∀ w',Below w0.heap.size w0 w'→qbF W w'→Kd.C kB w' A l.length l) (hc:l.length≤c) (hl:l.length≤m.g.Z) :
  Calls Tryz.prog 58 #[cp gc,.int .i64 n,.int .i64 p,.slice A l.length c] W fun e w'=>e=.returned (.int .i64 0)∧(∃ v:Value,St w0 w' gc gb gp (({ m with ops:=wrap64 (m.ops+1) }:Ch).setBk n { ((m.bk n).setPg p ⟨1,v⟩) with nx:=wrap64 ((p:Int)+1) }) (qiG D n p l))∧qbF W w':=by
 have HRY:=aM (qcA h hoff n hn);have H:=aM h;have HPL:=aM hplan;have HBD:=aM hbad;have HNX:=aM hnx;have HRD:=aM hr;have HCC:=aM hc;have hzz:=h.gok.2.2;have HLZ:=aM (show l.length≤140737488355328 by omega);clear hzz;have d1:decide ((p:Int) < 0)=false:=decide_eq_false (by omega);have d2:decide ((m.g.P:Int)≤(p:Int))=false:=decide_eq_false (by omega);have d3:decide (m.g.P≤p)=false:=decide_eq_false (by omega);have d4:decide ((m.g.Z:Int) < (l.length:Int))=false:=decide_eq_false (by omega);have d5:decide (m.g.Z < l.length)=false:=decide_eq_false (by omega);have hqp:((p:Int) < (m.g.P:Int))=True:=eq_true (by omega);have hqp2:(p < m.g.P)=True:=eq_true hp;have hu44:=Tryz.underlying83;have hu65:=Tryz.underlying159;clear h hoff hplan hbad hnx hr hc;go_enter Tryz.func58,Tryz.ntmps58
 go_upto_region 9 with (first
  | (go_at_call 114;(with_reducible refine HRY.out.mono ?_);rintro e w1 ⟨rfl,hb1⟩;have h1:=H.out.grow hb1;have H1:=aM h1;have HB1:=aM hb1;obtain ⟨z0,z1,z2,z3⟩:=h1.cellB n hn;rw [HBD.out] at z0;rw [HNX.out] at z3;have y2:w1.cell? ⟨gc,2,none⟩=some (.int .i64 m.g.Z):=h1.cellC 2;clear hb1 h1))
 clear z0 z1 z2 z3 y2;have hbn:=qdN H1.out;rw [show qdF m.pl (wrap64 (wrap64 (m.ops+1) - m.frm))=none from HPL.out,show bgV none=.tuple #[.agg #[.int .i64 0,.int .i64 0,.int .i64 0],.bool false] from rfl] at hbn;have HBN:=aM hbn;clear hbn
 go_upto_region 21 with (first
  | (go_at_call 115;(with_reducible refine HBN.out.mono ?_);rintro e w2 ⟨rfl,h2,hk2⟩;have H2:=aM h2;have HK2:=aM ((qbF.of_below HB1.out).trans hk2);clear h2 hk2))
 generalize hW:w2.alloc (.cells #[.int .i64 0,.int .i64 0,.int .i64 0] 83)=W3;have hb3:Below w2.heap.size w2 W3:=by rw [← hW];exact qaA (Below.refl _ _) _
 have h3:=H2.out.grow hb3;have HK3:=aM (HK2.out.trans (qbF.of_below hb3));clear hW hb3;obtain ⟨z0,z1,z2,z3⟩:=h3.cellB n hn;obtain ⟨q0,q1⟩:=h3.cellP n hn p hp;have fq0:=qaC (h3.p n hn) (p*2);have fq1:=qaC (h3.p n hn) (p*2+1);have H3:=aM h3;clear h3
 go_upto_region 22 with (fail)
 generalize hW:(W3.setCell ⟨gp n,p*2,none⟩ (.int .i64 1)).setCell ⟨gp n,p*2+1,none⟩ (.slice none 0 0)=W4;have h4:=H3.out.page n hn p hp 1 (.slice none 0 0) [] (Kd.R_nil _ _ _ _ _);have hk4:=(HK3.out.set (H3.out.p n hn) (by decide) (p*2) (.int .i64 1)).set (qbW (H3.out.p n hn) (p*2) (.int .i64 1)) (by decide) (p*2+1) (.slice none 0 0);rw [hW] at h4 hk4;clear z0 z1 z2 z3 q0 q1 fq0 fq1;have H4:=aM h4;have HK4:=aM hk4;clear hW h4 hk4
 go_upto_region 23 with (fail)
 refine Rel.tail (m:=9) [(0,96,.inl ?r1v0),(1,97,.inl ?r1v1),(2,98,.inl ?r1v2),(3,99,.inl ?r1v3),(4,100,.inl ?r1v4),(5,101,.inl ?r1v5),(6,102,.inr (fun v w'=>Kd.R kB 5 w' w0.heap.size (fun _=>True) v l)),(7,103,.inl ?r1v7),(8,104,.inl ?r1v8)] (fun w'=>Below W4.heap.size W4 w') (fun w' w''=>Below w'.heap.size w' w'') (by rfl) rfl (by kernel_rfl) (by kernel_rfl) (by kernel_rfl) ?r1S (Rel.stable_inl (Rel.stable_inl (Rel.stable_inl (Rel.stable_inl (Rel.stable_inl (Rel.stable_inl (Rel.stable_inr (fun v w w' hb h=>Kd.R_below h hb) (Rel.stable_inl (Rel.stable_inl Rel.stable_nil))))))))) ?r1steps ?r1okv ?r1hlt ?r1fin;case r1S=>exact qaW (Below.refl _ _)
 case r1steps =>
  refine Rel.from_some 0 rfl rfl (fun a wq hS hK K hC=>?_) ?_
  ·refine Reg.sO ?_;have e9:=hK.off 9 _ rfl rfl;clear hK;go_simp;exact hC _ hS (Below.refl _ _)
  refine Rel.from_some 1 rfl rfl (fun a wq hS hK K hC=>?_) ?_
  ·refine Reg.sO ?_;have e96:=hK.sl 0 rfl;clear hK;go_simp;exact hC _ hS (Below.refl _ _)
  refine Rel.from_some 2 rfl rfl (fun a wq hS hK K hC=>?_) ?_
  ·refine Reg.sO ?_;have e97:=hK.sl 1 rfl;clear hK;go_simp;exact hC _ hS (Below.refl _ _)
  refine Rel.from_some 3 rfl rfl (fun a wq hS hK K hC=>?_) ?_
  ·refine Reg.sO ?_;have e98:=hK.sl 2 rfl;have zz:=((H4.out.grow hS).cellB n hn).2.2.1;change _=some (Value.slice (some ⟨gp n,0,none⟩) m.g.P m.g.P) at zz;clear hK;go_simp;exact hC _ hS (Below.refl _ _)
  refine Rel.from_some 4 rfl rfl (fun a wq hS hK K hC=>?_) ?_
  ·refine Reg.sO ?_;have e2:=hK.off 2 _ rfl rfl;clear hK;go_simp;exact hC _ hS (Below.refl _ _)
  refine Rel.from_some 5 rfl rfl (fun a wq hS hK K hC=>?_) ?_
  ·refine Reg.sO ?_;have e3:=hK.off 3 _ rfl rfl;clear hK;go_simp;exact hC _ hS (Below.refl _ _)
  refine Rel.from_rel 6 rfl rfl (fun a wq hS hK K hC=>?_) ?_
  ·refine Reg.sO ?_;have e101:=hK.sl 5 rfl;clear hK;go_simp;go_at_call 116;(with_reducible refine (qkV A c l wq (HRD.out wq (H4.out.grow hS).below (HK4.out.trans (qbF.of_below hS))) HCC.out ?cb).mono ?_);case cb=>exact HLZ.out
   rintro e w' ⟨v,rfl,ho,hb⟩;exact hC v w' (qaF hS hb) hb (Kd.R_lower ho (qaG (H4.out.grow hS).below))
  refine Rel.from_some 7 rfl rfl (fun a wq hS hK K hC=>?_) ?_
  ·refine Reg.sO ?_;have e99:=hK.sl 3 rfl;have e100:=hK.sl 4 rfl;clear hK;go_simp;exact hC _ hS (Below.refl _ _)
  refine Rel.from_some 8 rfl rfl (fun a wq hS hK K hC=>?_) ?_
  ·refine Reg.sO ?_;have e103:=hK.sl 7 rfl;clear hK;go_simp;exact hC _ hS (Below.refl _ _)
  exact Rel.from_nil
 case r1okv=>rfl
 case r1hlt=>rfl
 case r1fin =>
  intro U wz hS hU;have q6:=hU 6 _ _ _ rfl;clear hU;simp only [Rel.inst,Nat.zero_add,Nat.reduceAdd,Reg.putV,List.foldl_cons,List.foldl_nil,Act.put,List.setIfInBounds_toArray,List.set_cons_zero,List.set_cons_succ];have h5:=H4.out.grow hS;have HQ:=aM q6;obtain ⟨r0,r1⟩:=h5.cellP n hn p hp;have fr1:=qaC (h5.p n hn) (p*2+1);have H5:=aM h5;have HK5:=aM (HK4.out.trans (qbF.of_below hS));obtain ⟨A6,c6,e6⟩:=Kd.R_slice q6;rw [e6] at HQ ⊢;clear hS h5 q6 e6;refine Rel.tail_cons (fun K hK=>?_);refine Reg.sO ?_;go_simp;refine hK _ _ ?_;clear hK r0 r1 fr1;refine Rel.tail_nil ?_;have h6:=H5.out.pageD n hn p hp (.slice A6 l.length c6) l HQ.out;have hk6:=HK5.out.set (H5.out.p n hn) (by decide) (p*2+1) (.slice A6 l.length c6);rw [qbH,qbZ,qeS,qhG,qlO] at h6;generalize wz.setCell ⟨gp n,p*2+1,none⟩ (.slice A6 l.length c6)=W6 at h6 hk6 ⊢;obtain ⟨z0,z1,z2,z3⟩:=h6.cellB n hn;rw [qbH] at z3;change W6.cell? ⟨gb,n*4+3,none⟩=some (.int .i64 (m.bk n).nx) at z3;rw [HNX.out] at z3;have f3:=qaC h6.b (n*4+3);have H6:=aM h6;have HK6:=aM hk6;clear h6 hk6 z0 z1 z2;go_wp2;go_ret;have h7:=H6.out.nx n (wrap64 ((p:Int)+1));rw [qbH,qbZ] at h7;exact ⟨rfl,⟨_,h7⟩,HK6.out.set H6.out.b (by decide) _ _⟩
theorem qoB (h:St w0 W gc gb gp m D) (hoff:m.off=false) (f:F3) (hplan:qdF m.pl (tgt m)=some f) (hf1:f.f1=2) (n p:Nat) (hn:n < m.g.B) (hp:p < m.g.P) (hbad:(m.bk n).bad=false) (hnx:(m.bk n).nx=p) (A:Option Addr) (c:Nat) (l:List Int) (hr:∀ w',Below w0.heap.size w0 w'→qbF W w'→Kd.C kB w' A l.length l) (hc:l.length≤c) (hl:l.length≤m.g.Z) :
  Calls Tryz.prog 58 #[cp gc,.int .i64 n,.int .i64 p,.slice A l.length c] W fun e w'=>e=.returned (.int .i64 5)∧St w0 w' gc gb gp (({ m with ops:=wrap64 (m.ops+1) }:Ch).setBk n { ((m.bk n).setPg p ⟨2,.slice none 0 0⟩) with nx:=wrap64 ((p:Int)+1) }) (qiG D n p [])∧qbF W w':=by
 have HRY:=aM (qcA h hoff n hn);have H:=aM h;have HPL:=aM hplan;have HBD:=aM hbad;have HNX:=aM hnx;have HRD:=aM hr;have HCC:=aM hc;have hzz:=h.gok.2.2;have HLZ:=aM (show l.length≤140737488355328 by omega);clear hzz;have d1:decide ((p:Int) < 0)=false:=decide_eq_false (by omega);have d2:decide ((m.g.P:Int)≤(p:Int))=false:=decide_eq_false (by omega);have d3:decide (m.g.P≤p)=false:=decide_eq_false (by omega);have d4:decide ((m.g.Z:Int) < (l.length:Int))=false:=decide_eq_false (by omega);have d5:decide (m.g.Z < l.length)=false:=decide_eq_false (by omega);have hqp:((p:Int) < (m.g.P:Int))=True:=eq_true (by omega);have hqp2:(p < m.g.P)=True:=eq_true hp;have hu44:=Tryz.underlying83;have hu65:=Tryz.underlying159;have HF1:=aM hf1;clear h hoff hplan hbad hnx hr hc hf1;go_enter Tryz.func58,Tryz.ntmps58
 go_upto_region 9 with (first
  | (go_at_call 114;(with_reducible refine HRY.out.mono ?_);rintro e w1 ⟨rfl,hb1⟩;have h1:=H.out.grow hb1;have H1:=aM h1;have HB1:=aM hb1;obtain ⟨z0,z1,z2,z3⟩:=h1.cellB n hn;rw [HBD.out] at z0;rw [HNX.out] at z3;have y2:w1.cell? ⟨gc,2,none⟩=some (.int .i64 m.g.Z):=h1.cellC 2;clear hb1 h1))
 clear z0 z1 z2 z3 y2;have hbn:=qdN H1.out;rw [show qdF m.pl (wrap64 (wrap64 (m.ops+1) - m.frm))=some f from HPL.out,show bgV (some f)=.tuple #[.agg #[.int .i64 f.f0,.int .i64 f.f1,.int .i64 f.f2],.bool true] from rfl] at hbn;have HBN:=aM hbn;clear hbn
 go_upto_region 10 with (first
  | (go_at_call 115;(with_reducible refine HBN.out.mono ?_);rintro e w2 ⟨rfl,h2,hk2⟩;have H2:=aM h2;have HK2:=aM ((qbF.of_below HB1.out).trans hk2);clear h2 hk2))
 go_upto_block 0 with (fail)
 generalize hW:w2.alloc (.cells #[.int .i64 f.f0,.int .i64 f.f1,.int .i64 f.f2] 83)=W3;have hb3:Below w2.heap.size w2 W3:=by rw [← hW];exact qaA (Below.refl _ _) _
 have hx3:W3.heap[w2.heap.size]?=some (.cells #[.int .i64 f.f0,.int .i64 f.f1,.int .i64 f.f2] 83 (0,0)):=by rw [← hW];exact qaV _ _ _
 rw [HF1.out] at hx3;have h3:=H2.out.grow hb3;have x1:=jC hx3 1;have HK3:=aM (HK2.out.trans (qbF.of_below hb3));clear hW hb3 hx3;obtain ⟨z0,z1,z2,z3⟩:=h3.cellB n hn;obtain ⟨q0,q1⟩:=h3.cellP n hn p hp;have fq0:=qaC (h3.p n hn) (p*2);have fq1:=qaC (h3.p n hn) (p*2+1);have H3:=aM h3;clear h3
 go_upto_region 22 with (fail)
 generalize hW:(W3.setCell ⟨gp n,p*2,none⟩ (.int .i64 2)).setCell ⟨gp n,p*2+1,none⟩ (.slice none 0 0)=W4;have h4:=H3.out.page n hn p hp 2 (.slice none 0 0) [] (Kd.R_nil _ _ _ _ _);have hk4:=(HK3.out.set (H3.out.p n hn) (by decide) (p*2) (.int .i64 2)).set (qbW (H3.out.p n hn) (p*2) (.int .i64 2)) (by decide) (p*2+1) (.slice none 0 0);rw [hW] at h4 hk4;clear z0 z1 z2 z3 q0 q1 fq0 fq1 x1;have z3:=(h4.cellB n hn).2.2.2;rw [qbH] at z3;change W4.cell? ⟨gb,n*4+3,none⟩=some (.int .i64 (m.bk n).nx) at z3;rw [HNX.out] at z3;have f3:=qaC h4.b (n*4+3);have H4:=aM h4;have HK4:=aM hk4;clear hW h4 hk4;go_wp2;go_ret;have h7:=H4.out.nx n (wrap64 ((p:Int)+1));rw [qbH,qbZ] at h7;exact ⟨rfl,h7,HK4.out.set H4.out.b (by decide) _ _⟩
theorem qoE (h:St w0 W gc gb gp m D) (hoff:m.off=false) (f:F3) (hplan:qdF m.pl (tgt m)=some f) (hf1:f.f1 ≠ 2) (hf2:f.f2=0) (n p:Nat) (hn:n < m.g.B) (hp:p < m.g.P) (hbad:(m.bk n).bad=false) (hnx:(m.bk n).nx=p) (A:Option Addr) (c:Nat) (l:List Int) (hr:∀ w',Below w0.heap.size w0 w'→qbF W w'→Kd.C kB w' A l.length l) (hc:l.length≤c) (hl:l.length≤m.g.Z) :
  Calls Tryz.prog 58 #[cp gc,.int .i64 n,.int .i64 p,.slice A l.length c] W fun e w'=>e=.returned (.int .i64 6)∧St w0 w' gc gb gp ({ m with ops:=wrap64 (m.ops+1),off:=true }:Ch) D∧qbF W w':=by
 have HRY:=aM (qcA h hoff n hn);have H:=aM h;have HPL:=aM hplan;have HBD:=aM hbad;have HNX:=aM hnx;have HRD:=aM hr;have HCC:=aM hc;have hzz:=h.gok.2.2;have HLZ:=aM (show l.length≤140737488355328 by omega);clear hzz;have d1:decide ((p:Int) < 0)=false:=decide_eq_false (by omega);have d2:decide ((m.g.P:Int)≤(p:Int))=false:=decide_eq_false (by omega);have d3:decide (m.g.P≤p)=false:=decide_eq_false (by omega);have d4:decide ((m.g.Z:Int) < (l.length:Int))=false:=decide_eq_false (by omega);have d5:decide (m.g.Z < l.length)=false:=decide_eq_false (by omega);have hqp:((p:Int) < (m.g.P:Int))=True:=eq_true (by omega);have hqp2:(p < m.g.P)=True:=eq_true hp;have hu44:=Tryz.underlying83;have hu65:=Tryz.underlying159;have HF1:=aM hf1;have e1:(f.f1==(2:Int))=false:=by simp only [beq_eq_false_iff_ne];exact hf1
 have HF2:=aM hf2;clear h hoff hplan hbad hnx hr hc hf1 hf2;go_enter Tryz.func58,Tryz.ntmps58
 go_upto_region 9 with (first
  | (go_at_call 114;(with_reducible refine HRY.out.mono ?_);rintro e w1 ⟨rfl,hb1⟩;have h1:=H.out.grow hb1;have H1:=aM h1;have HB1:=aM hb1;obtain ⟨z0,z1,z2,z3⟩:=h1.cellB n hn;rw [HBD.out] at z0;rw [HNX.out] at z3;have y2:w1.cell? ⟨gc,2,none⟩=some (.int .i64 m.g.Z):=h1.cellC 2;clear hb1 h1))
 clear z0 z1 z2 z3 y2;have hbn:=qdN H1.out;rw [show qdF m.pl (wrap64 (wrap64 (m.ops+1) - m.frm))=some f from HPL.out,show bgV (some f)=.tuple #[.agg #[.int .i64 f.f0,.int .i64 f.f1,.int .i64 f.f2],.bool true] from rfl] at hbn;have HBN:=aM hbn;clear hbn
 go_upto_region 10 with (first
  | (go_at_call 115;(with_reducible refine HBN.out.mono ?_);rintro e w2 ⟨rfl,h2,hk2⟩;have H2:=aM h2;have HK2:=aM ((qbF.of_below HB1.out).trans hk2);clear h2 hk2))
 go_upto_block 0 with (fail)
 generalize hW:w2.alloc (.cells #[.int .i64 f.f0,.int .i64 f.f1,.int .i64 f.f2] 83)=W2a;have hb3a:Below w2.heap.size w2 W2a:=by rw [← hW];exact qaA (Below.refl _ _) _
 have hx3:W2a.heap[w2.heap.size]?=some (.cells #[.int .i64 f.f0,.int .i64 f.f1,.int .i64 f.f2] 83 (0,0)):=by rw [← hW];exact qaV _ _ _
 rw [HF2.out] at hx3;have h3a:=H2.out.grow hb3a;have x1:=jC hx3 1;have fo:=qaC h3a.c 7;have co:=h3a.cellC 7;have H3a:=aM h3a;have HX3:=aM hx3;have HK3a:=aM (HK2.out.trans (qbF.of_below hb3a));clear hW hb3a h3a hx3
 go_upto_region 12 with (fail)
 generalize hW:W2a.setCell ⟨gc,7,none⟩ (.bool true)=W3;have h3:St w0 W3 gc gb gp { m with ops:=wrap64 (m.ops+1),off:=true } D:=by rw [← hW];exact H3a.out.setC 7 _ rfl rfl rfl H3a.out.pln
 have hk3:qbF W W3:=by rw [← hW];exact HK3a.out.set H3a.out.c (by decide) _ _
 have hx3:W3.heap[w2.heap.size]?=some (.cells #[.int .i64 f.f0,.int .i64 f.f1,.int .i64 0] 83 (0,0)):=by rw [← hW];exact qaR HX3.out (qbE HX3.out H3a.out.c (by decide)) _
 have x2:=jC hx3 2;have HK3:=aM hk3;clear hW hk3 hx3 x1 fo co;have H3:=aM h3;clear h3;go_wp2;go_ret;exact ⟨rfl,H3.out,HK3.out⟩
theorem qoD (h:St w0 W gc gb gp m D) (hoff:m.off=false) (f:F3) (hplan:qdF m.pl (tgt m)=some f) (hf1:f.f1 ≠ 2) (hf2:f.f2=1) (n p:Nat) (hn:n < m.g.B) (hp:p < m.g.P) (hbad:(m.bk n).bad=false) (hnx:(m.bk n).nx=p) (A:Option Addr) (c:Nat) (l:List Int) (hr:∀ w',Below w0.heap.size w0 w'→qbF W w'→Kd.C kB w' A l.length l) (hc:l.length≤c) (hl:l.length≤m.g.Z) :
  Calls Tryz.prog 58 #[cp gc,.int .i64 n,.int .i64 p,.slice A l.length c] W fun e w'=>e=.returned (.int .i64 6)∧St w0 w' gc gb gp (({ m with ops:=wrap64 (m.ops+1),off:=true }:Ch).setBk n { ((m.bk n).setPg p ⟨2,.slice none 0 0⟩) with nx:=wrap64 ((p:Int)+1) }) (qiG D n p [])∧qbF W w':=by
 have HRY:=aM (qcA h hoff n hn);have H:=aM h;have HPL:=aM hplan;have HBD:=aM hbad;have HNX:=aM hnx;have HRD:=aM hr;have HCC:=aM hc;have hzz:=h.gok.2.2;have HLZ:=aM (show l.length≤140737488355328 by omega);clear hzz;have d1:decide ((p:Int) < 0)=false:=decide_eq_false (by omega);have d2:decide ((m.g.P:Int)≤(p:Int))=false:=decide_eq_false (by omega);have d3:decide (m.g.P≤p)=false:=decide_eq_false (by omega);have d4:decide ((m.g.Z:Int) < (l.length:Int))=false:=decide_eq_false (by omega);have d5:decide (m.g.Z < l.length)=false:=decide_eq_false (by omega);have hqp:((p:Int) < (m.g.P:Int))=True:=eq_true (by omega);have hqp2:(p < m.g.P)=True:=eq_true hp;have hu44:=Tryz.underlying83;have hu65:=Tryz.underlying159;have HF1:=aM hf1;have e1:(f.f1==(2:Int))=false:=by simp only [beq_eq_false_iff_ne];exact hf1
 have HF2:=aM hf2;clear h hoff hplan hbad hnx hr hc hf1 hf2;go_enter Tryz.func58,Tryz.ntmps58
 go_upto_region 9 with (first
  | (go_at_call 114;(with_reducible refine HRY.out.mono ?_);rintro e w1 ⟨rfl,hb1⟩;have h1:=H.out.grow hb1;have H1:=aM h1;have HB1:=aM hb1;obtain ⟨z0,z1,z2,z3⟩:=h1.cellB n hn;rw [HBD.out] at z0;rw [HNX.out] at z3;have y2:w1.cell? ⟨gc,2,none⟩=some (.int .i64 m.g.Z):=h1.cellC 2;clear hb1 h1))
 clear z0 z1 z2 z3 y2;have hbn:=qdN H1.out;rw [show qdF m.pl (wrap64 (wrap64 (m.ops+1) - m.frm))=some f from HPL.out,show bgV (some f)=.tuple #[.agg #[.int .i64 f.f0,.int .i64 f.f1,.int .i64 f.f2],.bool true] from rfl] at hbn;have HBN:=aM hbn;clear hbn
 go_upto_region 10 with (first
  | (go_at_call 115;(with_reducible refine HBN.out.mono ?_);rintro e w2 ⟨rfl,h2,hk2⟩;have H2:=aM h2;have HK2:=aM ((qbF.of_below HB1.out).trans hk2);clear h2 hk2))
 go_upto_block 0 with (fail)
 generalize hW:w2.alloc (.cells #[.int .i64 f.f0,.int .i64 f.f1,.int .i64 f.f2] 83)=W2a;have hb3a:Below w2.heap.size w2 W2a:=by rw [← hW];exact qaA (Below.refl _ _) _
 have hx3:W2a.heap[w2.heap.size]?=some (.cells #[.int .i64 f.f0,.int .i64 f.f1,.int .i64 f.f2] 83 (0,0)):=by rw [← hW];exact qaV _ _ _
 rw [HF2.out] at hx3;have h3a:=H2.out.grow hb3a;have x1:=jC hx3 1;have fo:=qaC h3a.c 7;have co:=h3a.cellC 7;have H3a:=aM h3a;have HX3:=aM hx3;have HK3a:=aM (HK2.out.trans (qbF.of_below hb3a));clear hW hb3a h3a hx3
 go_upto_region 12 with (fail)
 generalize hW:W2a.setCell ⟨gc,7,none⟩ (.bool true)=W3;have h3:St w0 W3 gc gb gp { m with ops:=wrap64 (m.ops+1),off:=true } D:=by rw [← hW];exact H3a.out.setC 7 _ rfl rfl rfl H3a.out.pln
 have hk3:qbF W W3:=by rw [← hW];exact HK3a.out.set H3a.out.c (by decide) _ _
 have hx3:W3.heap[w2.heap.size]?=some (.cells #[.int .i64 f.f0,.int .i64 f.f1,.int .i64 1] 83 (0,0)):=by rw [← hW];exact qaR HX3.out (qbE HX3.out H3a.out.c (by decide)) _
 have x2:=jC hx3 2;have HK3:=aM hk3;clear hW hk3 hx3 x1 fo co;obtain ⟨z0,z1,z2,z3⟩:=h3.cellB n hn;obtain ⟨q0,q1⟩:=h3.cellP n hn p hp;have fq0:=qaC (h3.p n hn) (p*2);have fq1:=qaC (h3.p n hn) (p*2+1);have H3:=aM h3;clear h3
 go_upto_region 22 with (fail)
 generalize hW:(W3.setCell ⟨gp n,p*2,none⟩ (.int .i64 2)).setCell ⟨gp n,p*2+1,none⟩ (.slice none 0 0)=W4;have h4:=H3.out.page n hn p hp 2 (.slice none 0 0) [] (Kd.R_nil _ _ _ _ _);have hk4:=(HK3.out.set (H3.out.p n hn) (by decide) (p*2) (.int .i64 2)).set (qbW (H3.out.p n hn) (p*2) (.int .i64 2)) (by decide) (p*2+1) (.slice none 0 0);rw [hW] at h4 hk4;clear z0 z1 z2 z3 q0 q1 fq0 fq1 x2;have z3:=(h4.cellB n hn).2.2.2;rw [qbH] at z3;change W4.cell? ⟨gb,n*4+3,none⟩=some (.int .i64 (m.bk n).nx) at z3;rw [HNX.out] at z3;have f3:=qaC h4.b (n*4+3);have H4:=aM h4;have HK4:=aM hk4;clear hW h4 hk4;go_wp2;go_ret;have h7:=H4.out.nx n (wrap64 ((p:Int)+1));rw [qbH,qbZ] at h7;exact ⟨rfl,h7,HK4.out.set H4.out.b (by decide) _ _⟩
theorem qoC (h:St w0 W gc gb gp m D) (hoff:m.off=false) (f:F3) (hplan:qdF m.pl (tgt m)=some f) (hf1:f.f1 ≠ 2) (hf2:f.f2 ≠ 0) (hf3:f.f2 ≠ 1) (n p:Nat) (hn:n < m.g.B) (hp:p < m.g.P) (hbad:(m.bk n).bad=false) (hnx:(m.bk n).nx=p) (A:Option Addr) (c:Nat) (l:List Int) (hr:∀ w',Below w0.heap.size w0 w'→qbF W w'→Kd.C kB w' A l.length l) (hc:l.length≤c) (hl:l.length≤m.g.Z) :
  Calls Tryz.prog 58 #[cp gc,.int .i64 n,.int .i64 p,.slice A l.length c] W fun e w'=>e=.returned (.int .i64 6)∧(∃ v:Value,St w0 w' gc gb gp (({ m with ops:=wrap64 (m.ops+1),off:=true }:Ch).setBk n { ((m.bk n).setPg p ⟨1,v⟩) with nx:=wrap64 ((p:Int)+1) }) (qiG D n p l))∧qbF W w':=by
 have HRY:=aM (qcA h hoff n hn);have H:=aM h;have HPL:=aM hplan;have HBD:=aM hbad;have HNX:=aM hnx;have HRD:=aM hr;have HCC:=aM hc;have hzz:=h.gok.2.2;have HLZ:=aM (show l.length≤140737488355328 by omega);clear hzz;have d1:decide ((p:Int) < 0)=false:=decide_eq_false (by omega);have d2:decide ((m.g.P:Int)≤(p:Int))=false:=decide_eq_false (by omega);have d3:decide (m.g.P≤p)=false:=decide_eq_false (by omega);have d4:decide ((m.g.Z:Int) < (l.length:Int))=false:=decide_eq_false (by omega);have d5:decide (m.g.Z < l.length)=false:=decide_eq_false (by omega);have hqp:((p:Int) < (m.g.P:Int))=True:=eq_true (by omega);have hqp2:(p < m.g.P)=True:=eq_true hp;have hu44:=Tryz.underlying83;have hu65:=Tryz.underlying159;have HF1:=aM hf1;have e1:(f.f1==(2:Int))=false:=by simp only [beq_eq_false_iff_ne];exact hf1
 have e2:(f.f2==(0:Int))=false:=by simp only [beq_eq_false_iff_ne];exact hf2
 have e3:(f.f2==(1:Int))=false:=by simp only [beq_eq_false_iff_ne];exact hf3
 clear h hoff hplan hbad hnx hr hc hf1 hf2 hf3;go_enter Tryz.func58,Tryz.ntmps58
 go_upto_region 9 with (first
  | (go_at_call 114;(with_reducible refine HRY.out.mono ?_);rintro e w1 ⟨rfl,hb1⟩;have h1:=H.out.grow hb1;have H1:=aM h1;have HB1:=aM hb1;obtain ⟨z0,z1,z2,z3⟩:=h1.cellB n hn;rw [HBD.out] at z0;rw [HNX.out] at z3;have y2:w1.cell? ⟨gc,2,none⟩=some (.int .i64 m.g.Z):=h1.cellC 2;clear hb1 h1))
 clear z0 z1 z2 z3 y2;have hbn:=qdN H1.out;rw [show qdF m.pl (wrap64 (wrap64 (m.ops+1) - m.frm))=some f from HPL.out,show bgV (some f)=.tuple #[.agg #[.int .i64 f.f0,.int .i64 f.f1,.int .i64 f.f2],.bool true] from rfl] at hbn;have HBN:=aM hbn;clear hbn
 go_upto_region 10 with (first
  | (go_at_call 115;(with_reducible refine HBN.out.mono ?_);rintro e w2 ⟨rfl,h2,hk2⟩;have H2:=aM h2;have HK2:=aM ((qbF.of_below HB1.out).trans hk2);clear h2 hk2))
 go_upto_block 0 with (fail)
 generalize hW:w2.alloc (.cells #[.int .i64 f.f0,.int .i64 f.f1,.int .i64 f.f2] 83)=W2a;have hb3a:Below w2.heap.size w2 W2a:=by rw [← hW];exact qaA (Below.refl _ _) _
 have hx3:W2a.heap[w2.heap.size]?=some (.cells #[.int .i64 f.f0,.int .i64 f.f1,.int .i64 f.f2] 83 (0,0)):=by rw [← hW];exact qaV _ _ _
 have h3a:=H2.out.grow hb3a;have x1:=jC hx3 1;have fo:=qaC h3a.c 7;have co:=h3a.cellC 7;have H3a:=aM h3a;have HX3:=aM hx3;have HK3a:=aM (HK2.out.trans (qbF.of_below hb3a));clear hW hb3a h3a hx3
 go_upto_region 12 with (fail)
 generalize hW:W2a.setCell ⟨gc,7,none⟩ (.bool true)=W3;have h3:St w0 W3 gc gb gp { m with ops:=wrap64 (m.ops+1),off:=true } D:=by rw [← hW];exact H3a.out.setC 7 _ rfl rfl rfl H3a.out.pln
 have hk3:qbF W W3:=by rw [← hW];exact HK3a.out.set H3a.out.c (by decide) _ _
 have hx3:W3.heap[w2.heap.size]?=some (.cells #[.int .i64 f.f0,.int .i64 f.f1,.int .i64 f.f2] 83 (0,0)):=by rw [← hW];exact qaR HX3.out (qbE HX3.out H3a.out.c (by decide)) _
 have x2:=jC hx3 2;have HK3:=aM hk3;clear hW hk3 hx3 x1 fo co;obtain ⟨z0,z1,z2,z3⟩:=h3.cellB n hn;obtain ⟨q0,q1⟩:=h3.cellP n hn p hp;have fq0:=qaC (h3.p n hn) (p*2);have fq1:=qaC (h3.p n hn) (p*2+1);have H3:=aM h3;clear h3
 go_upto_region 22 with (fail)
 generalize hW:(W3.setCell ⟨gp n,p*2,none⟩ (.int .i64 1)).setCell ⟨gp n,p*2+1,none⟩ (.slice none 0 0)=W4;have h4:=H3.out.page n hn p hp 1 (.slice none 0 0) [] (Kd.R_nil _ _ _ _ _);have hk4:=(HK3.out.set (H3.out.p n hn) (by decide) (p*2) (.int .i64 1)).set (qbW (H3.out.p n hn) (p*2) (.int .i64 1)) (by decide) (p*2+1) (.slice none 0 0);rw [hW] at h4 hk4;clear z0 z1 z2 z3 q0 q1 fq0 fq1 x2;have H4:=aM h4;have HK4:=aM hk4;clear hW h4 hk4
 go_upto_region 23 with (fail)
 refine Rel.tail (m:=9) [(0,96,.inl ?r2v0),(1,97,.inl ?r2v1),(2,98,.inl ?r2v2),(3,99,.inl ?r2v3),(4,100,.inl ?r2v4),(5,101,.inl ?r2v5),(6,102,.inr (fun v w'=>Kd.R kB 5 w' w0.heap.size (fun _=>True) v l)),(7,103,.inl ?r2v7),(8,104,.inl ?r2v8)] (fun w'=>Below W4.heap.size W4 w') (fun w' w''=>Below w'.heap.size w' w'') (by rfl) rfl (by kernel_rfl) (by kernel_rfl) (by kernel_rfl) ?r2S (Rel.stable_inl (Rel.stable_inl (Rel.stable_inl (Rel.stable_inl (Rel.stable_inl (Rel.stable_inl (Rel.stable_inr (fun v w w' hb h=>Kd.R_below h hb) (Rel.stable_inl (Rel.stable_inl Rel.stable_nil))))))))) ?r2steps ?r2okv ?r2hlt ?r2fin;case r2S=>exact qaW (Below.refl _ _)
 case r2steps =>
  refine Rel.from_some 0 rfl rfl (fun a wq hS hK K hC=>?_) ?_
  ·refine Reg.sO ?_;have e9:=hK.off 9 _ rfl rfl;clear hK;go_simp;exact hC _ hS (Below.refl _ _)
  refine Rel.from_some 1 rfl rfl (fun a wq hS hK K hC=>?_) ?_
  ·refine Reg.sO ?_;have e96:=hK.sl 0 rfl;clear hK;go_simp;exact hC _ hS (Below.refl _ _)
  refine Rel.from_some 2 rfl rfl (fun a wq hS hK K hC=>?_) ?_
  ·refine Reg.sO ?_;have e97:=hK.sl 1 rfl;clear hK;go_simp;exact hC _ hS (Below.refl _ _)
  refine Rel.from_some 3 rfl rfl (fun a wq hS hK K hC=>?_) ?_
  ·refine Reg.sO ?_;have e98:=hK.sl 2 rfl;have zz:=((H4.out.grow hS).cellB n hn).2.2.1;change _=some (Value.slice (some ⟨gp n,0,none⟩) m.g.P m.g.P) at zz;clear hK;go_simp;exact hC _ hS (Below.refl _ _)
  refine Rel.from_some 4 rfl rfl (fun a wq hS hK K hC=>?_) ?_
  ·refine Reg.sO ?_;have e2:=hK.off 2 _ rfl rfl;clear hK;go_simp;exact hC _ hS (Below.refl _ _)
  refine Rel.from_some 5 rfl rfl (fun a wq hS hK K hC=>?_) ?_
  ·refine Reg.sO ?_;have e3:=hK.off 3 _ rfl rfl;clear hK;go_simp;exact hC _ hS (Below.refl _ _)
  refine Rel.from_rel 6 rfl rfl (fun a wq hS hK K hC=>?_) ?_
  ·refine Reg.sO ?_;have e101:=hK.sl 5 rfl;clear hK;go_simp;go_at_call 116;(with_reducible refine (qkV A c l wq (HRD.out wq (H4.out.grow hS).below (HK4.out.trans (qbF.of_below hS))) HCC.out ?cb).mono ?_);case cb=>exact HLZ.out
   rintro e w' ⟨v,rfl,ho,hb⟩;exact hC v w' (qaF hS hb) hb (Kd.R_lower ho (qaG (H4.out.grow hS).below))
  refine Rel.from_some 7 rfl rfl (fun a wq hS hK K hC=>?_) ?_
  ·refine Reg.sO ?_;have e99:=hK.sl 3 rfl;have e100:=hK.sl 4 rfl;clear hK;go_simp;exact hC _ hS (Below.refl _ _)
  refine Rel.from_some 8 rfl rfl (fun a wq hS hK K hC=>?_) ?_
  ·refine Reg.sO ?_;have e103:=hK.sl 7 rfl;clear hK;go_simp;exact hC _ hS (Below.refl _ _)
  exact Rel.from_nil
 case r2okv=>rfl
 case r2hlt=>rfl
 case r2fin =>
  intro U wz hS hU;have q6:=hU 6 _ _ _ rfl;clear hU;simp only [Rel.inst,Nat.zero_add,Nat.reduceAdd,Reg.putV,List.foldl_cons,List.foldl_nil,Act.put,List.setIfInBounds_toArray,List.set_cons_zero,List.set_cons_succ];have h5:=H4.out.grow hS;have HQ:=aM q6;obtain ⟨r0,r1⟩:=h5.cellP n hn p hp;have fr1:=qaC (h5.p n hn) (p*2+1);have H5:=aM h5;have HK5:=aM (HK4.out.trans (qbF.of_below hS));obtain ⟨A6,c6,e6⟩:=Kd.R_slice q6;rw [e6] at HQ ⊢;clear hS h5 q6 e6;refine Rel.tail_cons (fun K hK=>?_);refine Reg.sO ?_;go_simp;refine hK _ _ ?_;clear hK r0 r1 fr1;refine Rel.tail_nil ?_;have h6:=H5.out.pageD n hn p hp (.slice A6 l.length c6) l HQ.out;have hk6:=HK5.out.set (H5.out.p n hn) (by decide) (p*2+1) (.slice A6 l.length c6);rw [qbH,qbZ,qeS,qhG,qlO] at h6;generalize wz.setCell ⟨gp n,p*2+1,none⟩ (.slice A6 l.length c6)=W6 at h6 hk6 ⊢;obtain ⟨z0,z1,z2,z3⟩:=h6.cellB n hn;rw [qbH] at z3;change W6.cell? ⟨gb,n*4+3,none⟩=some (.int .i64 (m.bk n).nx) at z3;rw [HNX.out] at z3;have f3:=qaC h6.b (n*4+3);have H6:=aM h6;have HK6:=aM hk6;clear h6 hk6 z0 z1 z2;go_wp2;go_ret;have h7:=H6.out.nx n (wrap64 ((p:Int)+1));rw [qbH,qbZ] at h7;exact ⟨rfl,⟨_,h7⟩,HK6.out.set H6.out.b (by decide) _ _⟩
theorem qoA (h:St w0 W gc gb gp m D) (hoff:m.off=false) (n p:Nat) (hn:n < m.g.B) (hp:p < m.g.P) (hbad:(m.bk n).bad=true∨(m.bk n).nx ≠ p) (A:Option Addr) (len c:Nat) (hl:len≤m.g.Z) :
  Calls Tryz.prog 58 #[cp gc,.int .i64 n,.int .i64 p,.slice A len c] W fun e w'=>e=.returned (.int .i64 1)∧St w0 w' gc gb gp { m with wrong:=wrap64 (m.wrong+1) } D∧qbF W w':=by
 have HRY:=aM (qcA h hoff n hn);have H:=aM h;have HBD:=aM hbad;have d1:decide ((p:Int) < 0)=false:=decide_eq_false (by omega);have d2:decide ((m.g.P:Int)≤(p:Int))=false:=decide_eq_false (by omega);have d3:decide (m.g.P≤p)=false:=decide_eq_false (by omega);have d4:decide ((m.g.Z:Int) < (len:Int))=false:=decide_eq_false (by omega);have d5:decide (m.g.Z < len)=false:=decide_eq_false (by omega);clear h hoff hbad
 cases hb:(m.bk n).bad with
 | true =>
  have HB:=aM hb;clear hb;go_enter Tryz.func58,Tryz.ntmps58
  go_wp2_with (first
   | (go_at_call 114;(with_reducible refine HRY.out.mono ?_);rintro e w1 ⟨rfl,hb1⟩;have h1:=H.out.grow hb1;have H1:=aM h1;have HB1:=aM hb1;obtain ⟨z0,z1,z2,z3⟩:=h1.cellB n hn;rw [HB.out] at z0;have y2:w1.cell? ⟨gc,2,none⟩=some (.int .i64 m.g.Z):=h1.cellC 2;have y9:w1.cell? ⟨gc,9,none⟩=some (.int .i64 m.wrong):=h1.cellC 9;have f9:=qaC h1.c 9;clear hb1 h1))
  go_ret;exact ⟨rfl,H1.out.wrong _,(qbF.of_below HB1.out).set H1.out.c (by decide) _ _⟩
 | false =>
  have hne:(m.bk n).nx ≠ p:=by
   rcases HBD.out with h|h
   ·rw [hb] at h;cases h
   ·exact h
  have e1:((p:Int)==(m.bk n).nx)=false:=by simp only [beq_eq_false_iff_ne];exact fun h=>hne h.symm
  have e2:((p:Int) != (m.bk n).nx)=true:=by simp only [bne_iff_ne];exact fun h=>hne h.symm
  have HB:=aM hb;clear hb hne;go_enter Tryz.func58,Tryz.ntmps58
  go_wp2_with (first
   | (go_at_call 114;(with_reducible refine HRY.out.mono ?_);rintro e w1 ⟨rfl,hb1⟩;have h1:=H.out.grow hb1;have H1:=aM h1;have HB1:=aM hb1;obtain ⟨z0,z1,z2,z3⟩:=h1.cellB n hn;rw [HB.out] at z0;have y2:w1.cell? ⟨gc,2,none⟩=some (.int .i64 m.g.Z):=h1.cellC 2;have y9:w1.cell? ⟨gc,9,none⟩=some (.int .i64 m.wrong):=h1.cellC 9;have f9:=qaC h1.c 9;clear hb1 h1))
  go_ret;exact ⟨rfl,H1.out.wrong _,(qbF.of_below HB1.out).set H1.out.c (by decide) _ _⟩
end
section
variable {w0 W:World} {gc gb:Nat} {gp:Nat→Nat} {m:Ch} {D:Nat→Nat→List Int}
def pre (Z:Nat) (xs:List Int) (i:Nat):List Int:=(xs ++ List.replicate (i - xs.length) 255) ++ List.replicate (Z - i) 0
theorem qvG (Z:Nat) (xs:List Int) (i:Nat) (h:xs.length≤i) (h2:i < Z):(pre Z xs i).set i 255=pre Z xs (i+1):=by
 unfold pre;have e1:(xs ++ List.replicate (i - xs.length) (255:Int)).length=i:=by simp;omega
 rw [List.set_append_right _ _ (by rw [e1];exact Nat.le_refl _),e1,Nat.sub_self];rw [show Z - i=(Z - (i+1))+1 by omega,List.replicate_succ,List.set_cons_zero];rw [show i+1 - xs.length=(i - xs.length)+1 by omega,List.replicate_succ',List.append_assoc,List.append_assoc,List.append_assoc];rfl
theorem qvF (Z:Nat) (xs:List Int) (h:xs.length≤Z):xs.take (min xs.length (List.replicate Z (0:Int)).length) ++ (List.replicate Z (0:Int)).drop (min xs.length (List.replicate Z (0:Int)).length)=pre Z xs xs.length:=by
 unfold pre;rw [List.length_replicate,Nat.min_eq_left h,List.take_length,List.drop_replicate,Nat.sub_self,List.replicate_zero,List.append_nil]
theorem qvH (Z:Nat) (xs:List Int):pre Z xs Z=xs ++ List.replicate (Z - xs.length) 255:=by
 unfold pre;simp
theorem qsW (h:St w0 W gc gb gp m D) (hoff:m.off=false) (n p:Nat) (hn:n < m.g.B) (hp:p < m.g.P) (hs1:((m.bk n).pg p).st ≠ 2) (hs2:((m.bk n).pg p).st ≠ 1) :
  Calls Tryz.prog 77 #[cp gc,.int .i64 n,.int .i64 p] W fun e w'=>∃ v:Value,e=.returned (.tuple #[v,.int .i64 0])∧Kd.R kB 5 w' W.heap.size (fun _=>True) v (List.replicate m.g.Z 255)∧Below W.heap.size W w':=by
 have HRY:=aM (qcA h hoff n hn);have H:=aM h;have hzz:=h.gok.2.2;have d1:decide ((p:Int) < 0)=false:=decide_eq_false (by omega);have d2:decide ((m.g.P:Int)≤(p:Int))=false:=decide_eq_false (by omega);have d3:decide (m.g.P≤p)=false:=decide_eq_false (by omega);have hqp:((p:Int) < (m.g.P:Int))=True:=eq_true (by omega);have hqp2:(p < m.g.P)=True:=eq_true hp;have hu65:=Tryz.underlying159;have e1:(((m.bk n).pg p).st==(2:Int))=false:=by simp only [beq_eq_false_iff_ne];exact hs1
 have e2:(((m.bk n).pg p).st==(1:Int))=false:=by simp only [beq_eq_false_iff_ne];exact hs2
 generalize hst:((m.bk n).pg p).st=st at e1 e2;have HS:=aM hst;clear hst hs1 hs2;clear h hoff
 obtain ⟨Z,hZ⟩:∃ Z,m.g.Z=Z:=⟨_,rfl⟩
 rw [hZ] at hzz ⊢;go_enter Tryz.func77,Tryz.ntmps77
 go_upto_region 6 with (first
  | (go_at_call 114;(with_reducible refine HRY.out.mono ?_);rintro e w1 ⟨rfl,hb1⟩;have h1:=H.out.grow hb1;have H1:=aM h1;have HB1:=aM hb1;obtain ⟨z0,z1,z2,z3⟩:=h1.cellB n hn;have y2:w1.cell? ⟨gc,2,none⟩=some (.int .i64 Z):=(by rw [← hZ];exact h1.cellC 2);clear hb1 h1))
 clear z0 z1 z3
 go_upto_region 7 with (first
  | ((with_reducible refine qbM (N:=39) rfl ?_);refine Kd.R_make kB (w0:=w1) w1.heap.size 5 ?hg (N:=39) ?hd 35 _ _ rfl (Z:Int) ?hx ?hy Tryz.underlying35 (.int .u8 0) 1 qiZ rfl Nat.zero_lt_one Nat.zero_lt_one 0 (ok:=fun _=>True) (okp:=fun _=>True) rfl (fun _ hk=>hk) trivial ?hn0 ?hn1 (Below.refl _ _) (Nat.le_refl _) ?_;(case hd=>rfl);(case hg=>rfl);(case hx=>go_simp);(case hy=>go_simp);(case hn0=>omega);(case hn1=>omega);intro v2 w2 ho hb _ _;rw [Int.toNat_natCast] at ho;have HO:=aM ho;have HB:=aM hb;clear ho hb))
 clear z2 y2;obtain ⟨g2,c2,ev2,hg2,hl2,_⟩:=Kd.R_form HO.out (by rw [List.length_replicate];omega);simp only [List.length_replicate] at ev2;subst ev2;have h2:=H1.out.grow HB.out;obtain ⟨_,_,z2,_⟩:=h2.cellB n hn;obtain ⟨q0,q1⟩:=h2.cellP n hn p hp;rw [HS.out] at q0;have HD:=aM (h2.d n p hn hp);obtain ⟨Ad,cd,ed⟩:=Kd.R_slice (h2.d n p hn hp);rw [ed] at q1 HD;clear ed;have H2:=aM h2;have HG2:=aM hg2;have HL2:=aM hl2;clear h2 hg2 hl2
 go_upto_region 8 with (fail)
 generalize hW:(w2.alloc (.cells #[.int .i64 st,.slice Ad (D n p).length cd] 159))=W3;have hb3:Below w2.heap.size w2 W3:=by rw [← hW];exact qaA (Below.refl _ _) _
 have hx:W3.heap[w2.heap.size]?=some (.cells #[.int .i64 st,.slice Ad (D n p).length cd] 159 (0,0)):=by rw [← hW];exact qaV _ _ _
 have x0:=jC hx 0;have x1:=jC hx 1;have HO3:=aM (Kd.R_below HO.out hb3);have HB3:=aM (qaF HB1.out (qaF HB.out hb3));have HB23:=aM hb3;have HB13:=aM (qaF HB.out hb3);have H3:=aM (H2.out.grow hb3);clear hW hb3 hx z2 q0 q1;go_wp2;go_loopw [51] (fun v51 wr=>∃ i:Nat,0≤i∧i≤Z∧v51=.int .i64 i∧qaN (Kd.R kB 5 wr w1.heap.size (fun _=>True) (.slice (some ⟨g2,0,none⟩) Z c2) (pre Z [] i))∧qaN (Below W.heap.size W wr)) (fun i _=>Z - (intOf i).toNat);case atStart=>exact ⟨0,Nat.le_refl _,by omega,rfl,HO3,HB3⟩
 case round =>
  obtain ⟨i,hli,hi,rfl,HR,HBr⟩:=hrel
  by_cases hlt:i < Z
  ·have d0:decide ((i:Int) < (Z:Int))=true:=decide_eq_true (by omega);have hq:(i < Z)=True:=eq_true hlt;have hqi:((i:Int) < (Z:Int))=True:=eq_true (by omega);obtain ⟨k1,k2⟩:=Kd.R_celln 0 HR.out (i:Int) (by omega) (by omega);simp only [Int.toNat_natCast] at k1 k2;have h9:=Kd.R_putn HR.out (i:Int) 255;simp only [Int.toNat_natCast] at h9;rw [qvG Z [] i (Nat.zero_le _) hlt] at h9;have hb9:Below W.heap.size W (wr.setCell ⟨g2,i,none⟩ (.int .u8 255)):=qaH HBr.out (Nat.le_trans (qaG HB1.out) HG2.out);have HR9:=aM h9;have HB9:=aM hb9;clear h9 hb9;go_wp2;go_roundw;case rel=>exact ⟨i+1,by omega,by omega,by push_cast;rfl,HR9,HB9⟩
   case measure=>simp [intOf];omega
  ·obtain rfl:i=Z:=by omega
   have d0:decide ((i:Int) < (i:Int))=false:=decide_eq_false (by omega);go_wp2;go_ret2;have hfin:=Kd.R_lower HR.out (qaG HB1.out);rw [qvH] at hfin;exact ⟨_,rfl,hfin,HBr.out⟩
theorem quS (h:St w0 W gc gb gp m D) (hoff:m.off=false) (n p:Nat) (hn:n < m.g.B) (hp:p < m.g.P) (hst:((m.bk n).pg p).st=1) (hl:(D n p).length≤m.g.Z) :
  Calls Tryz.prog 77 #[cp gc,.int .i64 n,.int .i64 p] W fun e w'=>∃ v:Value,e=.returned (.tuple #[v,.int .i64 0])∧Kd.R kB 5 w' W.heap.size (fun _=>True) v (D n p ++ List.replicate (m.g.Z - (D n p).length) 255)∧Below W.heap.size W w':=by
 have HRY:=aM (qcA h hoff n hn);have H:=aM h;have hzz:=h.gok.2.2;have d1:decide ((p:Int) < 0)=false:=decide_eq_false (by omega);have d2:decide ((m.g.P:Int)≤(p:Int))=false:=decide_eq_false (by omega);have d3:decide (m.g.P≤p)=false:=decide_eq_false (by omega);have hqp:((p:Int) < (m.g.P:Int))=True:=eq_true (by omega);have hqp2:(p < m.g.P)=True:=eq_true hp;have hu65:=Tryz.underlying159;have HS:=aM hst;clear hst;clear h hoff
 obtain ⟨Z,hZ⟩:∃ Z,m.g.Z=Z:=⟨_,rfl⟩
 rw [hZ] at hzz hl ⊢;go_enter Tryz.func77,Tryz.ntmps77
 go_upto_region 6 with (first
  | (go_at_call 114;(with_reducible refine HRY.out.mono ?_);rintro e w1 ⟨rfl,hb1⟩;have h1:=H.out.grow hb1;have H1:=aM h1;have HB1:=aM hb1;obtain ⟨z0,z1,z2,z3⟩:=h1.cellB n hn;have y2:w1.cell? ⟨gc,2,none⟩=some (.int .i64 Z):=(by rw [← hZ];exact h1.cellC 2);clear hb1 h1))
 clear z0 z1 z3
 go_upto_region 7 with (first
  | ((with_reducible refine qbM (N:=39) rfl ?_);refine Kd.R_make kB (w0:=w1) w1.heap.size 5 ?hg (N:=39) ?hd 35 _ _ rfl (Z:Int) ?hx ?hy Tryz.underlying35 (.int .u8 0) 1 qiZ rfl Nat.zero_lt_one Nat.zero_lt_one 0 (ok:=fun _=>True) (okp:=fun _=>True) rfl (fun _ hk=>hk) trivial ?hn0 ?hn1 (Below.refl _ _) (Nat.le_refl _) ?_;(case hd=>rfl);(case hg=>rfl);(case hx=>go_simp);(case hy=>go_simp);(case hn0=>omega);(case hn1=>omega);intro v2 w2 ho hb _ _;rw [Int.toNat_natCast] at ho;have HO:=aM ho;have HB:=aM hb;clear ho hb))
 clear z2 y2;obtain ⟨g2,c2,ev2,hg2,hl2,_⟩:=Kd.R_form HO.out (by rw [List.length_replicate];omega);simp only [List.length_replicate] at ev2;subst ev2;have h2:=H1.out.grow HB.out;obtain ⟨_,_,z2,_⟩:=h2.cellB n hn;obtain ⟨q0,q1⟩:=h2.cellP n hn p hp;rw [HS.out] at q0;have HD:=aM (h2.d n p hn hp);obtain ⟨Ad,cd,ed⟩:=Kd.R_slice (h2.d n p hn hp);rw [ed] at q1 HD;clear ed;have H2:=aM h2;have HG2:=aM hg2;have HL2:=aM hl2;clear h2 hg2 hl2
 go_upto_region 8 with (fail)
 generalize hW:(w2.alloc (.cells #[.int .i64 1,.slice Ad (D n p).length cd] 159))=W3;have hb3:Below w2.heap.size w2 W3:=by rw [← hW];exact qaA (Below.refl _ _) _
 have hx:W3.heap[w2.heap.size]?=some (.cells #[.int .i64 1,.slice Ad (D n p).length cd] 159 (0,0)):=by rw [← hW];exact qaV _ _ _
 have x0:=jC hx 0;have x1:=jC hx 1;have HO3:=aM (Kd.R_below HO.out hb3);have HB3:=aM (qaF HB1.out (qaF HB.out hb3));have HB23:=aM hb3;have HB13:=aM (qaF HB.out hb3);have H3:=aM (H2.out.grow hb3);clear hW hb3 hx z2 q0 q1;have HLL:=aM hl
 go_wp2_with (first
  | ((with_reducible refine qbC (b:=.copy) (xs:=#[.tmp 62,.tmp 64]) rfl ?_);refine Kd.R_copy (enc:=Value.int .u8) (h1:=fun _=>rfl) 0 (w0:=w1) w1.heap.size rfl (.tmp 62) (.tmp 64) 35 35 5 rfl Tryz.underlying35 (by kernel_rfl) (.slice (some ⟨g2,0,none⟩) Z c2) (List.replicate Z 0) (D n p) Ad (D n p).length cd (fun _=>True) rfl rfl HO3.out ?aR ?aB ?aS ?_;(case aR=>exact (Kd.R_reads' (Kd.R_below HD.out HB23.out)).2.2);(case aB=>exact HB13.out);(case aS=>exact qaG HB13.out);intro w4 ho hb hg;rw [qvF Z _ HLL.out] at ho;have HO4:=aM ho;have x1':=hg.cell x1 ?xr;(case xr=>simp [Value.ownBlock];exact Ne.symm (Nat.ne_of_lt HL2.out));have HB4:=aM (qaF HB1.out hb);clear ho hb hg))
 go_loopw [12] (fun v51 wr=>∃ i:Nat,(D n p).length≤i∧i≤Z∧v51=.int .i64 i∧qaN (Kd.R kB 5 wr w1.heap.size (fun _=>True) (.slice (some ⟨g2,0,none⟩) Z c2) (pre Z (D n p) i))∧qaN (Below W.heap.size W wr)) (fun i _=>Z - (intOf i).toNat);case atStart=>exact ⟨(D n p).length,Nat.le_refl _,HLL.out,rfl,HO4,HB4⟩
 case round =>
  obtain ⟨i,hli,hi,rfl,HR,HBr⟩:=hrel
  by_cases hlt:i < Z
  ·have d0:decide ((i:Int) < (Z:Int))=true:=decide_eq_true (by omega);have hq:(i < Z)=True:=eq_true hlt;have hqi:((i:Int) < (Z:Int))=True:=eq_true (by omega);obtain ⟨k1,k2⟩:=Kd.R_celln 0 HR.out (i:Int) (by omega) (by omega);simp only [Int.toNat_natCast] at k1 k2;have h9:=Kd.R_putn HR.out (i:Int) 255;simp only [Int.toNat_natCast] at h9;rw [qvG Z (D n p) i hli hlt] at h9;have hb9:Below W.heap.size W (wr.setCell ⟨g2,i,none⟩ (.int .u8 255)):=qaH HBr.out (Nat.le_trans (qaG HB1.out) HG2.out);have HR9:=aM h9;have HB9:=aM hb9;clear h9 hb9;go_wp2;go_roundw;case rel=>exact ⟨i+1,by omega,by omega,by push_cast;rfl,HR9,HB9⟩
   case measure=>simp [intOf];omega
  ·obtain rfl:i=Z:=by omega
   have d0:decide ((i:Int) < (i:Int))=false:=decide_eq_false (by omega);go_wp2;go_ret2;have hfin:=Kd.R_lower HR.out (qaG HB1.out);rw [qvH] at hfin;exact ⟨_,rfl,hfin,HBr.out⟩
theorem quR (h:St w0 W gc gb gp m D) (hoff:m.off=false) (n p:Nat) (hn:n < m.g.B) (hp:p < m.g.P) (hst:((m.bk n).pg p).st=2) :
  Calls Tryz.prog 77 #[cp gc,.int .i64 n,.int .i64 p] W fun e w'=>e=.returned (.tuple #[.slice none 0 0,.int .i64 5])∧Below W.heap.size W w':=by
 have HRY:=aM (qcA h hoff n hn);have H:=aM h;have hzz:=h.gok.2.2;have d1:decide ((p:Int) < 0)=false:=decide_eq_false (by omega);have d2:decide ((m.g.P:Int)≤(p:Int))=false:=decide_eq_false (by omega);have d3:decide (m.g.P≤p)=false:=decide_eq_false (by omega);have hqp:((p:Int) < (m.g.P:Int))=True:=eq_true (by omega);have hqp2:(p < m.g.P)=True:=eq_true hp;have hu65:=Tryz.underlying159;have HS:=aM hst;clear hst;clear h hoff
 obtain ⟨Z,hZ⟩:∃ Z,m.g.Z=Z:=⟨_,rfl⟩
 rw [hZ] at hzz;go_enter Tryz.func77,Tryz.ntmps77
 go_upto_region 6 with (first
  | (go_at_call 114;(with_reducible refine HRY.out.mono ?_);rintro e w1 ⟨rfl,hb1⟩;have h1:=H.out.grow hb1;have H1:=aM h1;have HB1:=aM hb1;obtain ⟨z0,z1,z2,z3⟩:=h1.cellB n hn;have y2:w1.cell? ⟨gc,2,none⟩=some (.int .i64 Z):=(by rw [← hZ];exact h1.cellC 2);clear hb1 h1))
 clear z0 z1 z3
 go_upto_region 7 with (first
  | ((with_reducible refine qbM (N:=39) rfl ?_);refine Kd.R_make kB (w0:=w1) w1.heap.size 5 ?hg (N:=39) ?hd 35 _ _ rfl (Z:Int) ?hx ?hy Tryz.underlying35 (.int .u8 0) 1 qiZ rfl Nat.zero_lt_one Nat.zero_lt_one 0 (ok:=fun _=>True) (okp:=fun _=>True) rfl (fun _ hk=>hk) trivial ?hn0 ?hn1 (Below.refl _ _) (Nat.le_refl _) ?_;(case hd=>rfl);(case hg=>rfl);(case hx=>go_simp);(case hy=>go_simp);(case hn0=>omega);(case hn1=>omega);intro v2 w2 ho hb _ _;rw [Int.toNat_natCast] at ho;have HO:=aM ho;have HB:=aM hb;clear ho hb))
 clear z2 y2;obtain ⟨g2,c2,ev2,hg2,hl2,_⟩:=Kd.R_form HO.out (by rw [List.length_replicate];omega);simp only [List.length_replicate] at ev2;subst ev2;have h2:=H1.out.grow HB.out;obtain ⟨_,_,z2,_⟩:=h2.cellB n hn;obtain ⟨q0,q1⟩:=h2.cellP n hn p hp;rw [HS.out] at q0;have HD:=aM (h2.d n p hn hp);obtain ⟨Ad,cd,ed⟩:=Kd.R_slice (h2.d n p hn hp);rw [ed] at q1 HD;clear ed;have H2:=aM h2;have HG2:=aM hg2;have HL2:=aM hl2;clear h2 hg2 hl2
 go_upto_region 8 with (fail)
 generalize hW:(w2.alloc (.cells #[.int .i64 2,.slice Ad (D n p).length cd] 159))=W3;have hb3:Below w2.heap.size w2 W3:=by rw [← hW];exact qaA (Below.refl _ _) _
 have hx:W3.heap[w2.heap.size]?=some (.cells #[.int .i64 2,.slice Ad (D n p).length cd] 159 (0,0)):=by rw [← hW];exact qaV _ _ _
 have x0:=jC hx 0;have x1:=jC hx 1;have HO3:=aM (Kd.R_below HO.out hb3);have HB3:=aM (qaF HB1.out (qaF HB.out hb3));have HB23:=aM hb3;have HB13:=aM (qaF HB.out hb3);have H3:=aM (H2.out.grow hb3);clear hW hb3 hx z2 q0 q1;go_wp2;go_ret2;exact ⟨rfl,HB3.out⟩
end
section
variable {w0 W:World} {gc gb:Nat} {gp:Nat→Nat} {m:Ch} {D:Nat→Nat→List Int}
def clr (st:Int) (i:Nat) (b:Bk):Bk:={ b with pg:=fun x=>if x < i then ⟨st,.slice none 0 0⟩ else b.pg x }
def qpC (D:Nat→Nat→List Int) (n i:Nat):Nat→Nat→List Int:=fun x y=>if x=n∧y < i then [] else D x y
theorem qsE (st:Int) (b:Bk):clr st 0 b=b:=by unfold clr;simp
theorem qpA (D:Nat→Nat→List Int) (n:Nat):qpC D n 0=D:=by funext x y;unfold qpC;simp
theorem qrE (m:Ch) (n:Nat):m.setBk n (m.bk n)=m:=by
 unfold Ch.setBk
 congr 1
 funext x
 by_cases h:x=n
 ·subst h;simp
 ·simp [h]
theorem qsF (st:Int) (i:Nat) (b:Bk):(clr st i b).setPg i ⟨st,.slice none 0 0⟩=clr st (i+1) b:=by
 unfold clr Bk.setPg
 congr 1
 funext x
 by_cases h:x=i
 ·subst h;simp
 ·by_cases h2:x < i
  ·simp [h,h2,show x < i+1 by omega]
  ·simp [h,h2,show ¬ x < i+1 by omega]
theorem qpB (D:Nat→Nat→List Int) (n i:Nat):qiG (qpC D n i) n i []=qpC D n (i+1):=by
 funext x y
 unfold qpC qiG
 by_cases h:x=n
 ·subst h
  by_cases h2:y=i
  ·subst h2;simp
  ·by_cases h3:y < i
   ·simp [h2,h3,show y < i+1 by omega]
   ·simp [h2,h3,show ¬ y < i+1 by omega]
 ·simp [h]
theorem qsG (h:St w0 W gc gb gp m D) (n:Nat) (hn:n < m.g.B):Calls Tryz.prog 120 #[bp gb n] W fun e w'=>e=.returned (.tuple #[])∧St w0 w' gc gb gp (m.setBk n { clr 0 m.g.P (m.bk n) with nx:=0 }) (qpC D n m.g.P)∧qbF W w':=by
 have H:=aM h;have z2:=(h.cellB n hn).2.2.1;have hzz:=h.gok.2.1;clear h;go_enter Tryz.func120,Tryz.ntmps120
 go_upto_region 1 with (fail)
 go_loopw [8] (fun v8 wr=>∃ i:Nat,i≤m.g.P∧v8=.int .i64 i∧qaN (St w0 wr gc gb gp (m.setBk n (clr 0 i (m.bk n))) (qpC D n i))∧qaN (qbF W wr)) (fun i _=>m.g.P - (intOf i).toNat);case atStart=>exact ⟨0,Nat.zero_le _,rfl,⟨by rw [qsE,qrE,qpA];exact H.out⟩,⟨qbF.refl _⟩⟩
 case round =>
  obtain ⟨i,hi,rfl,HR,HK⟩:=hrel;clear z2;have z2:=(HR.out.cellB n hn).2.2.1;change wr.cell? ⟨gb,n*4+2,none⟩=some (.slice (some ⟨gp n,0,none⟩) m.g.P m.g.P) at z2
  by_cases hlt:i < m.g.P
  ·have d0:decide ((i:Int) < (m.g.P:Int))=true:=decide_eq_true (by omega);have hq:(i < m.g.P)=True:=eq_true hlt;have hqi:((i:Int) < (m.g.P:Int))=True:=eq_true (by omega);have f0:=qaC (HR.out.p n hn) (i*2);have f1:=qaC (HR.out.p n hn) (i*2+1);obtain ⟨q0,q1⟩:=HR.out.cellP n hn i hlt;have h9:=HR.out.page n hn i hlt 0 (.slice none 0 0) [] (Kd.R_nil _ _ _ _ _);rw [qbH,qbZ,qsF,qpB] at h9;have hk9:=(HK.out.set (HR.out.p n hn) (by decide) (i*2) (.int .i64 0)).set (qbW (HR.out.p n hn) (i*2) (.int .i64 0)) (by decide) (i*2+1) (.slice none 0 0);have H9:=aM h9;have HK9:=aM hk9;clear h9 hk9;go_wp2;go_roundw;case rel=>exact ⟨i+1,by omega,by push_cast;rfl,H9,HK9⟩
   case measure=>simp [intOf];omega
  ·obtain rfl:i=m.g.P:=by omega
   have d0:decide ((m.g.P:Int) < (m.g.P:Int))=false:=decide_eq_false (by omega);have f3:=qaC HR.out.b (n*4+3);have z3:=(HR.out.cellB n hn).2.2.2;go_wp2;go_end0;have h9:=HR.out.nx n 0;rw [qbH,qbZ] at h9;exact ⟨rfl,h9,HK.out.set HR.out.b (by decide) _ _⟩
theorem qrD (h:St w0 W gc gb gp m D) (n:Nat) (hn:n < m.g.B):Calls Tryz.prog 121 #[bp gb n] W fun e w'=>e=.returned (.tuple #[])∧St w0 w' gc gb gp (m.setBk n { clr 2 m.g.P (m.bk n) with nx:=(m.g.P:Int) }) (qpC D n m.g.P)∧qbF W w':=by
 have H:=aM h;have z2:=(h.cellB n hn).2.2.1;have hzz:=h.gok.2.1;clear h;go_enter Tryz.func121,Tryz.ntmps121
 go_upto_region 1 with (fail)
 go_loopw [8] (fun v8 wr=>∃ i:Nat,i≤m.g.P∧v8=.int .i64 i∧qaN (St w0 wr gc gb gp (m.setBk n (clr 2 i (m.bk n))) (qpC D n i))∧qaN (qbF W wr)) (fun i _=>m.g.P - (intOf i).toNat);case atStart=>exact ⟨0,Nat.zero_le _,rfl,⟨by rw [qsE,qrE,qpA];exact H.out⟩,⟨qbF.refl _⟩⟩
 case round =>
  obtain ⟨i,hi,rfl,HR,HK⟩:=hrel;clear z2;have z2:=(HR.out.cellB n hn).2.2.1;change wr.cell? ⟨gb,n*4+2,none⟩=some (.slice (some ⟨gp n,0,none⟩) m.g.P m.g.P) at z2
  by_cases hlt:i < m.g.P
  ·have d0:decide ((i:Int) < (m.g.P:Int))=true:=decide_eq_true (by omega);have hq:(i < m.g.P)=True:=eq_true hlt;have hqi:((i:Int) < (m.g.P:Int))=True:=eq_true (by omega);have f0:=qaC (HR.out.p n hn) (i*2);have f1:=qaC (HR.out.p n hn) (i*2+1);obtain ⟨q0,q1⟩:=HR.out.cellP n hn i hlt;have h9:=HR.out.page n hn i hlt 2 (.slice none 0 0) [] (Kd.R_nil _ _ _ _ _);rw [qbH,qbZ,qsF,qpB] at h9;have hk9:=(HK.out.set (HR.out.p n hn) (by decide) (i*2) (.int .i64 2)).set (qbW (HR.out.p n hn) (i*2) (.int .i64 2)) (by decide) (i*2+1) (.slice none 0 0);have H9:=aM h9;have HK9:=aM hk9;clear h9 hk9;go_wp2;go_roundw;case rel=>exact ⟨i+1,by omega,by push_cast;rfl,H9,HK9⟩
   case measure=>simp [intOf];omega
  ·obtain rfl:i=m.g.P:=by omega
   have d0:decide ((m.g.P:Int) < (m.g.P:Int))=false:=decide_eq_false (by omega);have f3:=qaC HR.out.b (n*4+3);have z3:=(HR.out.cellB n hn).2.2.2;go_wp2;go_end0;have h9:=HR.out.nx n (m.g.P:Int);rw [qbH,qbZ] at h9;exact ⟨rfl,h9,HK.out.set HR.out.b (by decide) _ _⟩
theorem qyP (h:St w0 W gc gb gp m D) (hoff:m.off=false) (hplan:qdF m.pl (tgt m)=none) (n:Nat) (hn:n < m.g.B) (hbad:(m.bk n).bad=false) :
  Calls Tryz.prog 63 #[cp gc,.int .i64 n] W fun e w'=>e=.returned (.int .i64 0)∧St w0 w' gc gb gp (({ m with ops:=wrap64 (m.ops+1) }:Ch).setBk n { clr 0 m.g.P { m.bk n with er:=wrap64 ((m.bk n).er+1) } with nx:=0 }) (qpC D n m.g.P)∧qbF W w':=by
 have HRY:=aM (qcA h hoff n hn);have H:=aM h;have HPL:=aM hplan;have HBD:=aM hbad;have hu44:=Tryz.underlying83;clear h hoff hplan hbad;go_enter Tryz.func63,Tryz.ntmps63
 go_upto_region 7 with (first
  | (go_at_call 114;(with_reducible refine HRY.out.mono ?_);rintro e w1 ⟨rfl,hb1⟩;have h1:=H.out.grow hb1;have H1:=aM h1;have HB1:=aM hb1;have z0:=(h1.cellB n hn).1;rw [HBD.out] at z0;clear hb1 h1))
 clear z0;have hbn:=qdN H1.out;rw [show qdF m.pl (wrap64 (wrap64 (m.ops+1) - m.frm))=none from HPL.out,show bgV none=.tuple #[.agg #[.int .i64 0,.int .i64 0,.int .i64 0],.bool false] from rfl] at hbn;have HBN:=aM hbn;clear hbn
 go_upto_region 8 with (first
  | (go_at_call 115;(with_reducible refine HBN.out.mono ?_);rintro e w2 ⟨rfl,h2,hk2⟩;have H2:=aM h2;have HK2:=aM ((qbF.of_below HB1.out).trans hk2);clear h2 hk2))
 generalize hW:w2.alloc (.cells #[.int .i64 0,.int .i64 0,.int .i64 0] 83)=W3;have hb3:Below w2.heap.size w2 W3:=by rw [← hW];exact qaA (Below.refl _ _) _
 have hx3:W3.heap[w2.heap.size]?=some (.cells #[.int .i64 0,.int .i64 0,.int .i64 0] 83 (0,0)):=by rw [← hW];exact qaV _ _ _
 have h3:=H2.out.grow hb3;have z1:=(h3.cellB n hn).2.1;have f1:=qaC h3.b (n*4+1);have H3:=aM h3;have HX3:=aM hx3;have HK3:=aM (HK2.out.trans (qbF.of_below hb3));clear hW hb3 h3 hx3
 go_upto_region 9 with (fail)
 have h4:=H3.out.er n (wrap64 ((m.bk n).er+1));have hk4:=HK3.out.set H3.out.b (by decide) (n*4+1) (.int .i64 (wrap64 ((m.bk n).er+1)));change St w0 (W3.setCell ⟨gb,n*4+1,none⟩ (.int .i64 (wrap64 ((m.bk n).er+1)))) gc gb gp _ D at h4;have hx4:=qaR (p:=⟨gb,n*4+1,none⟩) HX3.out (qbE HX3.out H3.out.b (by decide)) (.int .i64 (wrap64 ((m.bk n).er+1)));generalize W3.setCell ⟨gb,n*4+1,none⟩ (.int .i64 (wrap64 ((m.bk n).er+1)))=W4 at h4 hk4 hx4 ⊢;have x1:=jC hx4 1;have HCL:=aM (qsG h4 n hn);have HK4:=aM hk4;clear z1 f1 h4 hk4 hx4
 go_wp2_with (first
  | (go_at_call 120;(with_reducible refine HCL.out.mono ?_);rintro e w5 ⟨rfl,h5,hk5⟩;have H5:=aM h5;have HK5:=aM (HK4.out.trans hk5);clear h5 hk5))
 go_ret;have h6:=H5.out;rw [qbH,qbZ] at h6;exact ⟨rfl,h6,HK5.out⟩
theorem qtP (h:St w0 W gc gb gp m D) (hoff:m.off=false) (f:F3) (hplan:qdF m.pl (tgt m)=some f) (hf1:f.f1=2) (n:Nat) (hn:n < m.g.B) (hbad:(m.bk n).bad=false) :
  Calls Tryz.prog 63 #[cp gc,.int .i64 n] W fun e w'=>e=.returned (.int .i64 5)∧St w0 w' gc gb gp (({ m with ops:=wrap64 (m.ops+1) }:Ch).setBk n { clr 2 m.g.P { m.bk n with er:=wrap64 ((m.bk n).er+1) } with nx:=(m.g.P:Int) }) (qpC D n m.g.P)∧qbF W w':=by
 have HRY:=aM (qcA h hoff n hn);have H:=aM h;have HPL:=aM hplan;have HBD:=aM hbad;have hu44:=Tryz.underlying83;have HF1:=aM hf1;clear h hoff hplan hbad hf1;go_enter Tryz.func63,Tryz.ntmps63
 go_upto_region 7 with (first
  | (go_at_call 114;(with_reducible refine HRY.out.mono ?_);rintro e w1 ⟨rfl,hb1⟩;have h1:=H.out.grow hb1;have H1:=aM h1;have HB1:=aM hb1;have z0:=(h1.cellB n hn).1;rw [HBD.out] at z0;clear hb1 h1))
 clear z0;have hbn:=qdN H1.out;rw [show qdF m.pl (wrap64 (wrap64 (m.ops+1) - m.frm))=some f from HPL.out,show bgV (some f)=.tuple #[.agg #[.int .i64 f.f0,.int .i64 f.f1,.int .i64 f.f2],.bool true] from rfl] at hbn;have HBN:=aM hbn;clear hbn
 go_upto_region 8 with (first
  | (go_at_call 115;(with_reducible refine HBN.out.mono ?_);rintro e w2 ⟨rfl,h2,hk2⟩;have H2:=aM h2;have HK2:=aM ((qbF.of_below HB1.out).trans hk2);clear h2 hk2))
 generalize hW:w2.alloc (.cells #[.int .i64 f.f0,.int .i64 f.f1,.int .i64 f.f2] 83)=W3;have hb3:Below w2.heap.size w2 W3:=by rw [← hW];exact qaA (Below.refl _ _) _
 have hx3:W3.heap[w2.heap.size]?=some (.cells #[.int .i64 f.f0,.int .i64 f.f1,.int .i64 f.f2] 83 (0,0)):=by rw [← hW];exact qaV _ _ _
 rw [HF1.out] at hx3;have h3:=H2.out.grow hb3;have z1:=(h3.cellB n hn).2.1;have f1:=qaC h3.b (n*4+1);have H3:=aM h3;have HX3:=aM hx3;have HK3:=aM (HK2.out.trans (qbF.of_below hb3));clear hW hb3 h3 hx3
 go_upto_region 9 with (fail)
 have h4:=H3.out.er n (wrap64 ((m.bk n).er+1));have hk4:=HK3.out.set H3.out.b (by decide) (n*4+1) (.int .i64 (wrap64 ((m.bk n).er+1)));change St w0 (W3.setCell ⟨gb,n*4+1,none⟩ (.int .i64 (wrap64 ((m.bk n).er+1)))) gc gb gp _ D at h4;have hx4:=qaR (p:=⟨gb,n*4+1,none⟩) HX3.out (qbE HX3.out H3.out.b (by decide)) (.int .i64 (wrap64 ((m.bk n).er+1)));generalize W3.setCell ⟨gb,n*4+1,none⟩ (.int .i64 (wrap64 ((m.bk n).er+1)))=W4 at h4 hk4 hx4 ⊢;have x1:=jC hx4 1;have HCL:=aM (qrD h4 n hn);have HK4:=aM hk4;clear z1 f1 h4 hk4 hx4
 go_wp2_with (first
  | (go_at_call 121;(with_reducible refine HCL.out.mono ?_);rintro e w5 ⟨rfl,h5,hk5⟩;have H5:=aM h5;have HK5:=aM (HK4.out.trans hk5);clear h5 hk5))
 go_ret;have h6:=H5.out;rw [qbH,qbZ] at h6;exact ⟨rfl,h6,HK5.out⟩
theorem qtS (h:St w0 W gc gb gp m D) (hoff:m.off=false) (f:F3) (hplan:qdF m.pl (tgt m)=some f) (hf1:f.f1 ≠ 2) (hf2:f.f2 ≠ 1) (hf3:f.f2 ≠ 2) (n:Nat) (hn:n < m.g.B) (hbad:(m.bk n).bad=false) :
  Calls Tryz.prog 63 #[cp gc,.int .i64 n] W fun e w'=>e=.returned (.int .i64 6)∧St w0 w' gc gb gp (({ m with ops:=wrap64 (m.ops+1),off:=true }:Ch).setBk n { m.bk n with er:=wrap64 ((m.bk n).er+1) }) D∧qbF W w':=by
 have HRY:=aM (qcA h hoff n hn);have H:=aM h;have HPL:=aM hplan;have HBD:=aM hbad;have hu44:=Tryz.underlying83;have e1:(f.f1==(2:Int))=false:=by simp only [beq_eq_false_iff_ne];exact hf1
 have e2:(f.f2==(1:Int))=false:=by simp only [beq_eq_false_iff_ne];exact hf2
 have e3:(f.f2==(2:Int))=false:=by simp only [beq_eq_false_iff_ne];exact hf3
 clear h hoff hplan hbad hf1 hf2 hf3;go_enter Tryz.func63,Tryz.ntmps63
 go_upto_region 7 with (first
  | (go_at_call 114;(with_reducible refine HRY.out.mono ?_);rintro e w1 ⟨rfl,hb1⟩;have h1:=H.out.grow hb1;have H1:=aM h1;have HB1:=aM hb1;have z0:=(h1.cellB n hn).1;rw [HBD.out] at z0;clear hb1 h1))
 clear z0;have hbn:=qdN H1.out;rw [show qdF m.pl (wrap64 (wrap64 (m.ops+1) - m.frm))=some f from HPL.out,show bgV (some f)=.tuple #[.agg #[.int .i64 f.f0,.int .i64 f.f1,.int .i64 f.f2],.bool true] from rfl] at hbn;have HBN:=aM hbn;clear hbn
 go_upto_region 8 with (first
  | (go_at_call 115;(with_reducible refine HBN.out.mono ?_);rintro e w2 ⟨rfl,h2,hk2⟩;have H2:=aM h2;have HK2:=aM ((qbF.of_below HB1.out).trans hk2);clear h2 hk2))
 generalize hW:w2.alloc (.cells #[.int .i64 f.f0,.int .i64 f.f1,.int .i64 f.f2] 83)=W3;have hb3:Below w2.heap.size w2 W3:=by rw [← hW];exact qaA (Below.refl _ _) _
 have hx3:W3.heap[w2.heap.size]?=some (.cells #[.int .i64 f.f0,.int .i64 f.f1,.int .i64 f.f2] 83 (0,0)):=by rw [← hW];exact qaV _ _ _
 have h3:=H2.out.grow hb3;have z1:=(h3.cellB n hn).2.1;have f1:=qaC h3.b (n*4+1);have H3:=aM h3;have HX3:=aM hx3;have HK3:=aM (HK2.out.trans (qbF.of_below hb3));clear hW hb3 h3 hx3
 go_upto_region 9 with (fail)
 have h4:=H3.out.er n (wrap64 ((m.bk n).er+1));have hk4:=HK3.out.set H3.out.b (by decide) (n*4+1) (.int .i64 (wrap64 ((m.bk n).er+1)));change St w0 (W3.setCell ⟨gb,n*4+1,none⟩ (.int .i64 (wrap64 ((m.bk n).er+1)))) gc gb gp _ D at h4;have hx4:=qaR (p:=⟨gb,n*4+1,none⟩) HX3.out (qbE HX3.out H3.out.b (by decide)) (.int .i64 (wrap64 ((m.bk n).er+1)));generalize W3.setCell ⟨gb,n*4+1,none⟩ (.int .i64 (wrap64 ((m.bk n).er+1)))=W4 at h4 hk4 hx4 ⊢;have x1:=jC hx4 1;have fo:=qaC h4.c 7;have co:=h4.cellC 7;have H4:=aM h4;have HK4:=aM hk4;have HX4:=aM hx4;clear z1 f1 h4 hk4 hx4
 go_upto_region 16 with (fail)
 generalize hW:W4.setCell ⟨gc,7,none⟩ (.bool true)=W5;have h5:=H4.out.setC 7 (.bool true) (m':=(({ m with ops:=wrap64 (m.ops+1),off:=true }:Ch).setBk n { m.bk n with er:=wrap64 ((m.bk n).er+1) })) rfl rfl rfl H4.out.pln;rw [hW] at h5;have hk5:qbF W W5:=by rw [← hW];exact HK4.out.set H4.out.c (by decide) _ _
 have hx5:W5.heap[w2.heap.size]?=some (.cells #[.int .i64 f.f0,.int .i64 f.f1,.int .i64 f.f2] 83 (0,0)):=by rw [← hW];exact qaR HX4.out (qbE HX4.out H4.out.c (by decide)) _
 have x2:=jC hx5 2;have H5:=aM h5;have HK5:=aM hk5;clear hW h5 hk5 hx5 x1 fo co;go_wp2;go_ret;exact ⟨rfl,H5.out,HK5.out⟩
theorem qtR (h:St w0 W gc gb gp m D) (hoff:m.off=false) (f:F3) (hplan:qdF m.pl (tgt m)=some f) (hf1:f.f1 ≠ 2) (hf2:f.f2=1) (n:Nat) (hn:n < m.g.B) (hbad:(m.bk n).bad=false) :
  Calls Tryz.prog 63 #[cp gc,.int .i64 n] W fun e w'=>e=.returned (.int .i64 6)∧St w0 w' gc gb gp (({ m with ops:=wrap64 (m.ops+1),off:=true }:Ch).setBk n { clr 2 m.g.P { m.bk n with er:=wrap64 ((m.bk n).er+1) } with nx:=(m.g.P:Int) }) (qpC D n m.g.P)∧qbF W w':=by
 have HRY:=aM (qcA h hoff n hn);have H:=aM h;have HPL:=aM hplan;have HBD:=aM hbad;have hu44:=Tryz.underlying83;have e1:(f.f1==(2:Int))=false:=by simp only [beq_eq_false_iff_ne];exact hf1
 have HF2:=aM hf2;clear h hoff hplan hbad hf1 hf2;go_enter Tryz.func63,Tryz.ntmps63
 go_upto_region 7 with (first
  | (go_at_call 114;(with_reducible refine HRY.out.mono ?_);rintro e w1 ⟨rfl,hb1⟩;have h1:=H.out.grow hb1;have H1:=aM h1;have HB1:=aM hb1;have z0:=(h1.cellB n hn).1;rw [HBD.out] at z0;clear hb1 h1))
 clear z0;have hbn:=qdN H1.out;rw [show qdF m.pl (wrap64 (wrap64 (m.ops+1) - m.frm))=some f from HPL.out,show bgV (some f)=.tuple #[.agg #[.int .i64 f.f0,.int .i64 f.f1,.int .i64 f.f2],.bool true] from rfl] at hbn;have HBN:=aM hbn;clear hbn
 go_upto_region 8 with (first
  | (go_at_call 115;(with_reducible refine HBN.out.mono ?_);rintro e w2 ⟨rfl,h2,hk2⟩;have H2:=aM h2;have HK2:=aM ((qbF.of_below HB1.out).trans hk2);clear h2 hk2))
 generalize hW:w2.alloc (.cells #[.int .i64 f.f0,.int .i64 f.f1,.int .i64 f.f2] 83)=W3;have hb3:Below w2.heap.size w2 W3:=by rw [← hW];exact qaA (Below.refl _ _) _
 have hx3:W3.heap[w2.heap.size]?=some (.cells #[.int .i64 f.f0,.int .i64 f.f1,.int .i64 f.f2] 83 (0,0)):=by rw [← hW];exact qaV _ _ _
 rw [HF2.out] at hx3;have h3:=H2.out.grow hb3;have z1:=(h3.cellB n hn).2.1;have f1:=qaC h3.b (n*4+1);have H3:=aM h3;have HX3:=aM hx3;have HK3:=aM (HK2.out.trans (qbF.of_below hb3));clear hW hb3 h3 hx3
 go_upto_region 9 with (fail)
 have h4:=H3.out.er n (wrap64 ((m.bk n).er+1));have hk4:=HK3.out.set H3.out.b (by decide) (n*4+1) (.int .i64 (wrap64 ((m.bk n).er+1)));change St w0 (W3.setCell ⟨gb,n*4+1,none⟩ (.int .i64 (wrap64 ((m.bk n).er+1)))) gc gb gp _ D at h4;have hx4:=qaR (p:=⟨gb,n*4+1,none⟩) HX3.out (qbE HX3.out H3.out.b (by decide)) (.int .i64 (wrap64 ((m.bk n).er+1)));generalize W3.setCell ⟨gb,n*4+1,none⟩ (.int .i64 (wrap64 ((m.bk n).er+1)))=W4 at h4 hk4 hx4 ⊢;have x1:=jC hx4 1;have fo:=qaC h4.c 7;have co:=h4.cellC 7;have H4:=aM h4;have HK4:=aM hk4;have HX4:=aM hx4;clear z1 f1 h4 hk4 hx4
 go_upto_region 16 with (fail)
 generalize hW:W4.setCell ⟨gc,7,none⟩ (.bool true)=W5;have h5:=H4.out.setC 7 (.bool true) (m':=(({ m with ops:=wrap64 (m.ops+1),off:=true }:Ch).setBk n { m.bk n with er:=wrap64 ((m.bk n).er+1) })) rfl rfl rfl H4.out.pln;rw [hW] at h5;have hk5:qbF W W5:=by rw [← hW];exact HK4.out.set H4.out.c (by decide) _ _
 have hx5:W5.heap[w2.heap.size]?=some (.cells #[.int .i64 f.f0,.int .i64 f.f1,.int .i64 1] 83 (0,0)):=by rw [← hW];exact qaR HX4.out (qbE HX4.out H4.out.c (by decide)) _
 have x2:=jC hx5 2;have H5:=aM h5;have HK5:=aM hk5;clear hW h5 hk5 hx5 x1 fo co;have HCL:=aM (qrD H5.out n hn)
 go_wp2_with (first
  | (go_at_call 121;(with_reducible refine HCL.out.mono ?_);rintro e w6 ⟨rfl,h6,hk6⟩;have H6:=aM h6;have HK6:=aM (HK5.out.trans hk6);clear h6 hk6))
 go_ret;have h7:=H6.out;rw [qbH,qbZ] at h7;exact ⟨rfl,h7,HK6.out⟩
theorem qtQ (h:St w0 W gc gb gp m D) (hoff:m.off=false) (f:F3) (hplan:qdF m.pl (tgt m)=some f) (hf1:f.f1 ≠ 2) (hf2:f.f2=2) (n:Nat) (hn:n < m.g.B) (hbad:(m.bk n).bad=false) :
  Calls Tryz.prog 63 #[cp gc,.int .i64 n] W fun e w'=>e=.returned (.int .i64 6)∧St w0 w' gc gb gp (({ m with ops:=wrap64 (m.ops+1),off:=true }:Ch).setBk n { clr 0 m.g.P { m.bk n with er:=wrap64 ((m.bk n).er+1) } with nx:=0 }) (qpC D n m.g.P)∧qbF W w':=by
 have HRY:=aM (qcA h hoff n hn);have H:=aM h;have HPL:=aM hplan;have HBD:=aM hbad;have hu44:=Tryz.underlying83;have e1:(f.f1==(2:Int))=false:=by simp only [beq_eq_false_iff_ne];exact hf1
 have HF2:=aM hf2;clear h hoff hplan hbad hf1 hf2;go_enter Tryz.func63,Tryz.ntmps63
 go_upto_region 7 with (first
  | (go_at_call 114;(with_reducible refine HRY.out.mono ?_);rintro e w1 ⟨rfl,hb1⟩;have h1:=H.out.grow hb1;have H1:=aM h1;have HB1:=aM hb1;have z0:=(h1.cellB n hn).1;rw [HBD.out] at z0;clear hb1 h1))
 clear z0;have hbn:=qdN H1.out;rw [show qdF m.pl (wrap64 (wrap64 (m.ops+1) - m.frm))=some f from HPL.out,show bgV (some f)=.tuple #[.agg #[.int .i64 f.f0,.int .i64 f.f1,.int .i64 f.f2],.bool true] from rfl] at hbn;have HBN:=aM hbn;clear hbn
 go_upto_region 8 with (first
  | (go_at_call 115;(with_reducible refine HBN.out.mono ?_);rintro e w2 ⟨rfl,h2,hk2⟩;have H2:=aM h2;have HK2:=aM ((qbF.of_below HB1.out).trans hk2);clear h2 hk2))
 generalize hW:w2.alloc (.cells #[.int .i64 f.f0,.int .i64 f.f1,.int .i64 f.f2] 83)=W3;have hb3:Below w2.heap.size w2 W3:=by rw [← hW];exact qaA (Below.refl _ _) _
 have hx3:W3.heap[w2.heap.size]?=some (.cells #[.int .i64 f.f0,.int .i64 f.f1,.int .i64 f.f2] 83 (0,0)):=by rw [← hW];exact qaV _ _ _
 rw [HF2.out] at hx3;have h3:=H2.out.grow hb3;have z1:=(h3.cellB n hn).2.1;have f1:=qaC h3.b (n*4+1);have H3:=aM h3;have HX3:=aM hx3;have HK3:=aM (HK2.out.trans (qbF.of_below hb3));clear hW hb3 h3 hx3
 go_upto_region 9 with (fail)
 have h4:=H3.out.er n (wrap64 ((m.bk n).er+1));have hk4:=HK3.out.set H3.out.b (by decide) (n*4+1) (.int .i64 (wrap64 ((m.bk n).er+1)));change St w0 (W3.setCell ⟨gb,n*4+1,none⟩ (.int .i64 (wrap64 ((m.bk n).er+1)))) gc gb gp _ D at h4;have hx4:=qaR (p:=⟨gb,n*4+1,none⟩) HX3.out (qbE HX3.out H3.out.b (by decide)) (.int .i64 (wrap64 ((m.bk n).er+1)));generalize W3.setCell ⟨gb,n*4+1,none⟩ (.int .i64 (wrap64 ((m.bk n).er+1)))=W4 at h4 hk4 hx4 ⊢;have x1:=jC hx4 1;have fo:=qaC h4.c 7;have co:=h4.cellC 7;have H4:=aM h4;have HK4:=aM hk4;have HX4:=aM hx4;clear z1 f1 h4 hk4 hx4
 go_upto_region 16 with (fail)
 generalize hW:W4.setCell ⟨gc,7,none⟩ (.bool true)=W5;have h5:=H4.out.setC 7 (.bool true) (m':=(({ m with ops:=wrap64 (m.ops+1),off:=true }:Ch).setBk n { m.bk n with er:=wrap64 ((m.bk n).er+1) })) rfl rfl rfl H4.out.pln;rw [hW] at h5;have hk5:qbF W W5:=by rw [← hW];exact HK4.out.set H4.out.c (by decide) _ _
 have hx5:W5.heap[w2.heap.size]?=some (.cells #[.int .i64 f.f0,.int .i64 f.f1,.int .i64 2] 83 (0,0)):=by rw [← hW];exact qaR HX4.out (qbE HX4.out H4.out.c (by decide)) _
 have x2:=jC hx5 2;have H5:=aM h5;have HK5:=aM hk5;clear hW h5 hk5 hx5 x1 fo co;have HCL:=aM (qsG H5.out n hn)
 go_wp2_with (first
  | (go_at_call 120;(with_reducible refine HCL.out.mono ?_);rintro e w6 ⟨rfl,h6,hk6⟩;have H6:=aM h6;have HK6:=aM (HK5.out.trans hk6);clear h6 hk6))
 go_ret;have h7:=H6.out;rw [qbH,qbZ] at h7;exact ⟨rfl,h7,HK6.out⟩
theorem qtO (h:St w0 W gc gb gp m D) (hoff:m.off=false) (n:Nat) (hn:n < m.g.B) (hbad:(m.bk n).bad=true) :
  Calls Tryz.prog 63 #[cp gc,.int .i64 n] W fun e w'=>e=.returned (.int .i64 1)∧St w0 w' gc gb gp { m with wrong:=wrap64 (m.wrong+1) } D∧qbF W w':=by
 have HRY:=aM (qcA h hoff n hn);have H:=aM h;have HB:=aM hbad;clear h hoff hbad;go_enter Tryz.func63,Tryz.ntmps63
 go_wp2_with (first
  | (go_at_call 114;(with_reducible refine HRY.out.mono ?_);rintro e w1 ⟨rfl,hb1⟩;have h1:=H.out.grow hb1;have H1:=aM h1;have HB1:=aM hb1;have z0:=(h1.cellB n hn).1;rw [HB.out] at z0;have y9:w1.cell? ⟨gc,9,none⟩=some (.int .i64 m.wrong):=h1.cellC 9;have f9:=qaC h1.c 9;clear hb1 h1))
 go_ret;exact ⟨rfl,H1.out.wrong _,(qbF.of_below HB1.out).set H1.out.c (by decide) _ _⟩
theorem vbA (h:St w0 W gc gb gp m D) (hoff:m.off=false) (n:Nat) (hn:n < m.g.B) :
  Calls Tryz.prog 65 #[cp gc,.int .i64 n] W fun e w'=>e=.returned (.int .i64 0)∧St w0 w' gc gb gp (m.setBk n { m.bk n with bad:=true }) D∧qbF W w':=by
 have HRY:=aM (qcA h hoff n hn);have H:=aM h;clear h hoff;go_enter Tryz.func65,Tryz.ntmps65
 go_wp2_with (first
  | (go_at_call 114;(with_reducible refine HRY.out.mono ?_);rintro e w1 ⟨rfl,hb1⟩;have h1:=H.out.grow hb1;have H1:=aM h1;have HB1:=aM hb1;have z0:=(h1.cellB n hn).1;have f0:=qaC h1.b (n*4);clear hb1 h1))
 go_ret;exact ⟨rfl,H1.out.badS n true,(qbF.of_below HB1.out).set H1.out.b (by decide) _ _⟩
theorem qrH {k:Int} (hk:k ≠ 0) (n:Int) (p:Int) (hr:Calls Tryz.prog 114 #[cp gc,.int .i64 n] W fun e w'=>e=.returned (.tuple #[.pointer none,.int .i64 k])∧Below W.heap.size W w') :
  Calls Tryz.prog 77 #[cp gc,.int .i64 n,.int .i64 p] W fun e w'=>e=.returned (.tuple #[.slice none 0 0,.int .i64 k])∧Below W.heap.size W w':=by
 have HRY:=aM hr;have e1:(k==0)=false:=by simp only [beq_eq_false_iff_ne];exact hk
 have e2:(k != 0)=true:=by simp only [bne_iff_ne];exact hk
 clear hr hk;go_enter Tryz.func77,Tryz.ntmps77
 go_wp2_with (first
  | (go_at_call 114;(with_reducible refine HRY.out.mono ?_);rintro e w1 ⟨rfl,hb1⟩;have HB1:=aM hb1;clear hb1))
 go_ret2;exact ⟨rfl,HB1.out⟩
theorem qkJ {k:Int} (hk:k ≠ 0) (n:Int) (p:Int) (v:Value) (hr:Calls Tryz.prog 114 #[cp gc,.int .i64 n] W fun e w'=>e=.returned (.tuple #[.pointer none,.int .i64 k])∧Below W.heap.size W w') :
  Calls Tryz.prog 58 #[cp gc,.int .i64 n,.int .i64 p,v] W fun e w'=>e=.returned (.int .i64 k)∧Below W.heap.size W w':=by
 have HRY:=aM hr;have e1:(k==0)=false:=by simp only [beq_eq_false_iff_ne];exact hk
 have e2:(k != 0)=true:=by simp only [bne_iff_ne];exact hk
 clear hr hk;go_enter Tryz.func58,Tryz.ntmps58
 go_wp2_with (first
  | (go_at_call 114;(with_reducible refine HRY.out.mono ?_);rintro e w1 ⟨rfl,hb1⟩;have HB1:=aM hb1;clear hb1))
 go_ret;exact ⟨rfl,HB1.out⟩
theorem qoX {k:Int} (hk:k ≠ 0) (n:Int) (hr:Calls Tryz.prog 114 #[cp gc,.int .i64 n] W fun e w'=>e=.returned (.tuple #[.pointer none,.int .i64 k])∧Below W.heap.size W w') :
  Calls Tryz.prog 63 #[cp gc,.int .i64 n] W fun e w'=>e=.returned (.int .i64 k)∧Below W.heap.size W w':=by
 have HRY:=aM hr;have e1:(k==0)=false:=by simp only [beq_eq_false_iff_ne];exact hk
 have e2:(k != 0)=true:=by simp only [bne_iff_ne];exact hk
 clear hr hk;go_enter Tryz.func63,Tryz.ntmps63
 go_wp2_with (first
  | (go_at_call 114;(with_reducible refine HRY.out.mono ?_);rintro e w1 ⟨rfl,hb1⟩;have HB1:=aM hb1;clear hb1))
 go_ret;exact ⟨rfl,HB1.out⟩
theorem qrR {k:Int} (hk:k ≠ 0) (n:Int) (hr:Calls Tryz.prog 114 #[cp gc,.int .i64 n] W fun e w'=>e=.returned (.tuple #[.pointer none,.int .i64 k])∧Below W.heap.size W w') :
  Calls Tryz.prog 65 #[cp gc,.int .i64 n] W fun e w'=>e=.returned (.int .i64 k)∧Below W.heap.size W w':=by
 have HRY:=aM hr;have e1:(k==0)=false:=by simp only [beq_eq_false_iff_ne];exact hk
 have e2:(k != 0)=true:=by simp only [bne_iff_ne];exact hk
 clear hr hk;go_enter Tryz.func65,Tryz.ntmps65
 go_wp2_with (first
  | (go_at_call 114;(with_reducible refine HRY.out.mono ?_);rintro e w1 ⟨rfl,hb1⟩;have HB1:=aM hb1;clear hb1))
 go_ret;exact ⟨rfl,HB1.out⟩
theorem qsV (h:St w0 W gc gb gp m D) (hoff:m.off=false) (n:Nat) (hn:n < m.g.B) (p:Int) (hp:p < 0∨m.g.P≤p) :
  Calls Tryz.prog 77 #[cp gc,.int .i64 n,.int .i64 p] W fun e w'=>e=.returned (.tuple #[.slice none 0 0,.int .i64 22])∧Below W.heap.size W w':=by
 have HRY:=aM (qcA h hoff n hn);have H:=aM h;clear h hoff
 by_cases h0:p < 0
 ·have d1:decide (p < 0)=true:=decide_eq_true h0;clear hp;go_enter Tryz.func77,Tryz.ntmps77
  go_wp2_with (first
   | (go_at_call 114;(with_reducible refine HRY.out.mono ?_);rintro e w1 ⟨rfl,hb1⟩;have HB1:=aM hb1;clear hb1))
  go_ret2;exact ⟨rfl,HB1.out⟩
 ·have d1:decide (p < 0)=false:=decide_eq_false h0;have d2:decide ((m.g.P:Int)≤p)=true:=decide_eq_true (by omega);clear hp;go_enter Tryz.func77,Tryz.ntmps77
  go_wp2_with (first
   | (go_at_call 114;(with_reducible refine HRY.out.mono ?_);rintro e w1 ⟨rfl,hb1⟩;have h1:=H.out.grow hb1;have HB1:=aM hb1;have z2:=(h1.cellB n hn).2.2.1;clear hb1 h1))
  go_ret2;exact ⟨rfl,HB1.out⟩
theorem qmR (h:St w0 W gc gb gp m D) (hoff:m.off=false) (n:Nat) (hn:n < m.g.B) (p:Int) (A:Option Addr) (len c:Nat) (hp:p < 0∨m.g.P≤p∨m.g.Z < len) :
  Calls Tryz.prog 58 #[cp gc,.int .i64 n,.int .i64 p,.slice A len c] W fun e w'=>e=.returned (.int .i64 22)∧Below W.heap.size W w':=by
 have HRY:=aM (qcA h hoff n hn);have H:=aM h;clear h hoff
 by_cases h0:p < 0
 ·have d1:decide (p < 0)=true:=decide_eq_true h0;clear hp;go_enter Tryz.func58,Tryz.ntmps58
  go_wp2_with (first
   | (go_at_call 114;(with_reducible refine HRY.out.mono ?_);rintro e w1 ⟨rfl,hb1⟩;have HB1:=aM hb1;clear hb1))
  go_ret;exact ⟨rfl,HB1.out⟩
 ·have d1:decide (p < 0)=false:=decide_eq_false h0
  by_cases h1:m.g.P≤p
  ·have d2:decide ((m.g.P:Int)≤p)=true:=decide_eq_true h1;clear hp;go_enter Tryz.func58,Tryz.ntmps58
   go_wp2_with (first
    | (go_at_call 114;(with_reducible refine HRY.out.mono ?_);rintro e w1 ⟨rfl,hb1⟩;have h1:=H.out.grow hb1;have HB1:=aM hb1;have z2:=(h1.cellB n hn).2.2.1;clear hb1 h1))
   go_ret;exact ⟨rfl,HB1.out⟩
  ·have d2:decide ((m.g.P:Int)≤p)=false:=decide_eq_false h1;have hl:m.g.Z < len:=by omega
   have d3:decide ((m.g.Z:Int) < (len:Int))=true:=decide_eq_true (by omega);have d4:decide (m.g.Z < len)=true:=decide_eq_true hl;clear hp;go_enter Tryz.func58,Tryz.ntmps58
   go_wp2_with (first
    | (go_at_call 114;(with_reducible refine HRY.out.mono ?_);rintro e w1 ⟨rfl,hb1⟩;have h1:=H.out.grow hb1;have HB1:=aM hb1;have z2:=(h1.cellB n hn).2.2.1;have y2:w1.cell? ⟨gc,2,none⟩=some (.int .i64 m.g.Z):=h1.cellC 2;clear hb1 h1))
   go_ret;exact ⟨rfl,HB1.out⟩
theorem qxQ (h:St w0 W gc gb gp m D):Calls Tryz.prog 49 #[cp gc] W fun e w'=>e=.returned (.tuple #[])∧St w0 w' gc gb gp { m with off:=false } D∧qbF W w':=by
 have H:=aM h;have y7:W.cell? ⟨gc,7,none⟩=some (.bool m.off):=h.cellC 7;have f7:=qaC h.c 7;clear h;go_enter Tryz.func49,Tryz.ntmps49;go_wp2;go_end0;exact ⟨rfl,H.out.setC 7 _ rfl rfl rfl H.out.pln,(qbF.refl W).set H.out.c (by decide) _ _⟩
end
end Go.Proofs.YtdlimghdimkadaaGreatDoor.PAll

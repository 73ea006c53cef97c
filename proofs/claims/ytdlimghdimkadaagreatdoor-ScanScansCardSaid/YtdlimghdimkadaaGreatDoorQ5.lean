/- Part 5 of what the law ScanScans rests on. -/
import Derived.Test.YtdlimghdimkadaaGreatDoorQ4
set_option maxRecDepth 100000
set_option maxHeartbeats 32000000
set_option linter.unusedSimpArgs false
set_option linter.unusedVariables false
namespace Go.Proofs.YtdlimghdimkadaaGreatDoor.PAll
open Go Go.RowKit YtdlimghdimkadaaGreatDoorW.PrintWords YtdlimghdimkadaaGreatDoorW.PrintLast YtdlimghdimkadaaGreatDoorW.PrintMore
attribute [local go_sem] qdS qdQ qeJ qeI qcV qcU qdR qdP
section
variable {w0 W:World} {gd:Nat} {m:DM} {a:AC}
theorem qgE (a:AC) (i:Nat) (b c:ABk):(a.setBk i b).setBk i c=a.setBk i c:=by
 unfold AC.setBk
 congr 1
 funext y
 by_cases hy:y=i <;> simp [hy]
theorem qdZ (a:AC) (i:Nat) (b:ABk):(a.setBk i b).bk i=b:=by simp [AC.setBk]
theorem qpK (st:Int) (P k:Nat) (b:ABk):(b.clr st k).setPg k ⟨st,[]⟩=b.clr st (k+1):=by
 unfold ABk.clr ABk.setPg
 congr 1
 funext x
 by_cases h:x=k
 ·subst h;simp
 ·by_cases h2:x < k
  ·simp [h,h2,show x < k+1 by omega]
  ·simp [h,h2,show ¬ x < k+1 by omega]
theorem qpJ (st:Int) (b:ABk):b.clr st 0=b:=by unfold ABk.clr;simp
theorem qpL (b:ABk) (P:Nat) (s t:Int):(b.clr s P).clr t P=b.clr t P:=by
 unfold ABk.clr
 congr 1
 funext x
 by_cases h:x < P <;> simp [h]
def DM.setP (m:DM) (i g:Nat):DM:={ m with gp:=fun x=>if x=i then g else m.gp x,pv:=fun x y=>if x=i then .slice none 0 0 else m.pv x y }
theorem qeU:(Tryz.prog.info? 164).map (fun i=>(i.zero.map Value.cells,i.size,i.bytes))=some (some #[.bool false,.bool false,.slice none 0 0],3,32):=by kernel_rfl
abbrev dpg (P:Nat):Array Value:=madeCells #[.bool false,.bool false,.slice none 0 0] (P*3)
theorem qzP {W:World} {g P:Nat} (h:W.heap[g]?=some (.cells (dpg P) 164 (0,0))) (b:ABk) (v:Nat→Value) (hb:∀ x,x < P→(b.pg x).st=0) (hv:∀ x,x < P→v x=.slice none 0 0):At W g 164 (dP P b v):=by
 refine ⟨_,h,fun o w hw=>?_⟩;unfold dP at hw
 by_cases ho:o / 3 < P
 ·rw [if_pos ho,hb _ ho,hv _ ho] at hw;rw [qnC _ _ _ (by omega),← hw];have h3:o % 3=0∨o % 3=1∨o % 3=2:=by omega
  rcases h3 with h3|h3|h3 <;> simp [h3]
 ·rw [if_neg ho] at hw;cases hw
theorem DS.remake (h:DS w0 W gd m a) (i:Nat) (hi:i < a.g.B):DS w0 ((W.alloc (.cells (dpg a.g.P) 164)).setCell ⟨m.gb,i*4,none⟩ (.slice (some ⟨W.heap.size,0,none⟩) a.g.P a.g.P)) gd (m.setP i W.heap.size) (a.setBk i ((a.bk i).clr 0 a.g.P)):=by
 have hb:Below W.heap.size W (W.alloc (.cells (dpg a.g.P) 164)):=qaA (Below.refl _ _) _;have hn:(W.alloc (.cells (dpg a.g.P) 164)).heap[W.heap.size]?=some (.cells (dpg a.g.P) 164 (0,0)):=qaV _ _ _;generalize W.alloc (.cells (dpg a.g.P) 164)=W1 at hb hn;have h1:=h.grow hb;have hgp:∀ x,x < a.g.B→m.gp x < W.heap.size:=fun x hx=>(h.p x hx).lt
 have hC:dC (m.setP i W.heap.size) (a.setBk i ((a.bk i).clr 0 a.g.P))=dC m a:=rfl;have hR:∀ {u:Value} {l:List Int},Kd.R kB 5 W1 w0.heap.size (fun _=>True) u l→Kd.R kB 5 (W1.setCell ⟨m.gb,i*4,none⟩ (.slice (some ⟨W.heap.size,0,none⟩) a.g.P a.g.P)) w0.heap.size (fun _=>True) u l:=fun hu=>qiF hu h1.b (by decide) _ _
 refine ⟨?_,?_,fun x hx=>?_,fun x y hx hy e=>?_,h.ec,h.eb,fun x hx=>?_,fun x y hx hy=>?_,qiF h1.pln h1.b (by decide) _ _,qaH h1.below h.eb,h.gok,h.cap⟩
 ·rw [hC];exact qaR h1.c (h1.b.ne h1.c (by decide)).symm _
 ·have hs:=(qcI m.gp a i hi).1;refine h1.b.set hs (fun w hw=>?_) (fun o ho=>?_)
  ·have e:=(qcI (m.setP i W.heap.size).gp (a.setBk i ((a.bk i).clr 0 a.g.P)) i hi).1;rw [e] at hw;have e2:(m.setP i W.heap.size).gp i=W.heap.size:=by simp [DM.setP]
   rw [e2] at hw;exact (Option.some.inj hw).symm
  ·unfold dB;show (if o / 4 < a.g.B then _ else _)=_
   by_cases hxi:o / 4=i
   ·by_cases h0:o % 4=0
    ·exact absurd (by omega) ho
    ·simp [AC.setBk,ABk.clr,DM.setP,hxi,h0]
   ·simp [AC.setBk,DM.setP,hxi]
 ·change x < a.g.B at hx
  by_cases hxi:x=i
  ·subst hxi;have e2:(m.setP x W.heap.size).gp x=W.heap.size:=by simp [DM.setP]
   have e3:(m.setP x W.heap.size).pv x=fun _=>.slice none 0 0:=by simp [DM.setP]
   rw [e2,e3,qdZ];refine qzP (qaR hn (h1.b.ne hn (by decide)).symm _) _ _ (fun y hy=>?_) (fun _ _=>rfl);have hy':y < a.g.P:=hy;simp [ABk.clr,hy']
  ·have e2:(m.setP i W.heap.size).gp x=m.gp x:=by simp [DM.setP,hxi]
   have e3:(m.setP i W.heap.size).pv x=m.pv x:=by simp [DM.setP,hxi]
   have e4:(a.setBk i ((a.bk i).clr 0 a.g.P)).bk x=a.bk x:=by simp [AC.setBk,hxi]
   rw [e2,e3,e4];exact (h1.p x hx).keep (fun _ hk=>qaR hk (Ne.symm (h1.b.ne hk (by decide))) _)
 ·change x < a.g.B at hx;change y < a.g.B at hy;have h2:=hgp x hx;have h3:=hgp y hy;simp only [DM.setP] at e
  by_cases hxi:x=i
  ·by_cases hyi:y=i
   ·omega
   ·rw [if_pos hxi,if_neg hyi] at e;omega
  ·by_cases hyi:y=i
   ·rw [if_neg hxi,if_pos hyi] at e;omega
   ·rw [if_neg hxi,if_neg hyi] at e;exact h.inj x y hx hy e
 ·by_cases hxi:x=i
  ·have e2:(m.setP i W.heap.size).gp x=W.heap.size:=by simp [DM.setP,hxi]
   rw [e2];exact qaG h.below
  ·have e2:(m.setP i W.heap.size).gp x=m.gp x:=by simp [DM.setP,hxi]
   rw [e2];exact h.ep x hx
 ·change y < a.g.P at hy
  by_cases hxi:x=i
  ·have e2:(m.setP i W.heap.size).pv x y=.slice none 0 0:=by simp [DM.setP,hxi]
   have e3:(((a.setBk i ((a.bk i).clr 0 a.g.P)).bk x).pg y).d=[]:=by subst hxi;simp [AC.setBk,ABk.clr,hy]
   rw [e2,e3];exact Kd.R_nil _ _ _ _ _
  ·have e2:(m.setP i W.heap.size).pv x y=m.pv x y:=by simp [DM.setP,hxi]
   have e3:(a.setBk i ((a.bk i).clr 0 a.g.P)).bk x=a.bk x:=by simp [AC.setBk,hxi]
   rw [e2,e3];exact hR (h1.d x y hx hy)
theorem qqT (h:DS w0 W gd m a) (t:Int) (hf:qdM a=⟨t,1,0⟩) (ho:a.off=false) (i:Nat) (hi:i < a.g.B) (hbd:(a.bk i).bad=false) :
  Calls Tryz.prog 64 #[cp gd,.int .i64 i] W fun e w'=>e=.returned (.int .i64 6)∧qbT w0 w' gd (a.tick.cut.setBk i { a.bk i with er:=wrap64 ((a.bk i).er+1) })∧qaP W w':=by
 have HASK:=aM (qcE h (i:Int));rw [show qhD a (i:Int)=0 from (if_neg (by rw [ho];decide)).trans (if_neg (by omega))] at HASK;have H:=aM h
 have HFA:=aM (fun (w1:World) (hb:Below W.heap.size W w1)=>(show Calls Tryz.prog 118 #[cp gd] w1 (fun e w'=>e=.returned (.agg #[.int .i64 t,.int .i64 1,.int .i64 0])∧DS w0 w' gd m a.tick∧qaP w1 w') from by
  have h1:=qeF (h.grow hb);rw [hf] at h1
  exact h1))
 have HI:=aM hi;have HBD:=aM hbd;have HGO:=aM h.gok.2;have hq:(i < a.g.B)=True:=eq_true hi;have hqi:((i:Int) < (a.g.B:Int))=True:=eq_true (by omega);have hu71:=Tryz.underlying83;have hu103:=Tryz.underlying103;have hu122:=Tryz.underlying164;have hu100:=Tryz.underlying100;have hmk:∀ w,(Instr.makeSlice 101 (.int .i64 a.g.P) (.int .i64 a.g.P)).run Tryz.prog w=.ok (.slice (some ⟨w.heap.size,0,none⟩) a.g.P a.g.P) (w.alloc (.cells (dpg a.g.P) 164)):=fun w=>by have:=h.gok.2;exact qeH _ _ _ 3 32 a.g.P Tryz.underlying101 qeU (by omega) (by omega) w
 clear h hf ho hi hbd;go_enter Tryz.func64,Tryz.ntmps64
 go_upto_region 9 with (first
  | (go_at_call 117;(with_reducible refine HASK.out.mono ?_);rintro e w1 ⟨rfl,hb1⟩;have HB1:=aM hb1;have h1:=H.out.grow hb1;have H1:=aM h1;have c4:w1.cell? ⟨gd,4,none⟩=some (.slice (some ⟨m.gb,0,none⟩) a.g.B m.cap):=h1.cell 4;have cb:w1.cell? ⟨m.gb,i*4+2,none⟩=some (.bool false):=(h1.b.cell (qcI m.gp a i HI.out).2.2.1).trans (by rw [HBD.out]);clear hb1 h1)
  | (go_at_call 118;(with_reducible refine (HFA.out _ HB1.out).mono ?_);rintro e w2 ⟨rfl,h2,hk2⟩;have H2:=aM h2;have HK2:=aM ((qaP.of_below HB1.out).trans hk2);clear h2 hk2))
 obtain ⟨gx,hgx⟩:∃ gx,gx=w2.heap.size:=⟨_,rfl⟩
 generalize hW:w2.alloc (.cells #[.int .i64 t,.int .i64 1,.int .i64 0] 83)=W3;have HBX:=aM (show Below w2.heap.size w2 W3 by rw [← hW];exact qaA (Below.refl _ _) _);have HX3:=aM (show W3.heap[gx]?=some (.cells #[.int .i64 t,.int .i64 1,.int .i64 0] 83 (0,0)) by rw [← hW,hgx];exact qaV _ _ _);have H3:=aM (H2.out.grow HBX.out);have HK3:=aM (HK2.out.trans (qaP.of_below HBX.out));have HGX:=aM (show w0.heap.size≤gx by rw [hgx];exact qaG H2.out.below);have HPB3:=aM (show Kd.R kF 83 W3 w0.heap.size (fun k=>k < gx) m.plan a.pl from Kd.R_below (Kd.R_mono (Kd.R_bound H2.out.pln) (fun k hk=>by rw [hgx];exact hk.2.2.1)) HBX.out)
 have HGK:=aM (show ∀ (k:Nat) (cs:Array Value) (t:Nat) (fr:Nat × Nat),W.heap[k]?=some (.cells cs t fr)→t ≠ 100→t ≠ 103→t ≠ 164→k ≠ gx from fun k cs t fr hk h1 h2 h3 e=>by
  have:=qbR (HK2.out k cs t fr h1 h2 h3 hk)
  omega)
 rw [← hgx];clear hW c4 cb hgx;have x1:=jC HX3.out 1;have x2:=jC HX3.out 2;have ce:W3.cell? ⟨m.gb,i*4+3,none⟩=some (.int .i64 (a.bk i).er):=H3.out.b.cell (qcI m.gp a.tick i HI.out).2.2.2;have fe:=H3.out.b.frozen (i*4+3)
 go_upto_region 10 with (fail)
 generalize hW4:W3.setCell ⟨m.gb,i*4+3,none⟩ (.int .i64 (wrap64 ((a.bk i).er+1)))=W4
 obtain ⟨b1,hb1⟩:∃ b1:ABk,b1={ a.bk i with er:=wrap64 ((a.bk i).er+1) }:=⟨_,rfl⟩
 have H4:=aM (show DS w0 W4 gd m (a.tick.setBk i b1) by rw [← hW4,hb1];exact H3.out.er i HI.out _);have HB1E:=aM hb1;have HX4:=aM (show W4.heap[gx]?=some (.cells #[.int .i64 t,.int .i64 1,.int .i64 0] 83 (0,0)) by rw [← hW4];exact qaR HX3.out (H3.out.b.ne HX3.out (by decide)).symm _);have HK4:=aM (show qaP W W4 by rw [← hW4];exact HK3.out.set (by obtain ⟨cs,h1,-⟩:=H3.out.b;exact ⟨cs,h1⟩) (by decide) _ _);have HPB4:=aM (show Kd.R kF 83 W4 w0.heap.size (fun k=>k < gx) m.plan a.pl by rw [← hW4];exact qiF HPB3.out H3.out.b (by decide) _ _);clear hW4 x1 x2 ce fe hb1;have x0:=jC HX4.out 0;have x1:=jC HX4.out 1;have x2:=jC HX4.out 2;have HTD:=aM (show Calls Tryz.prog 119 #[cp gd,.agg #[.int .i64 t,.int .i64 1,.int .i64 0]] W4 (fun e w'=>e=.returned (.int .i64 6)∧DS w0 w' gd m ((a.tick.setBk i b1).cut)∧qaP W4 w') from qfH H4.out ⟨t,1,0⟩)
 go_wp2_with (first
  | (go_at_call 119;(with_reducible refine HTD.out.mono ?_);rintro e w9 ⟨rfl,h9,hk9⟩;have H9:=aM h9;have HK9:=aM (HK4.out.trans hk9);clear h9 hk9))
 go_ret;have hb1:=HB1E.out;subst hb1;exact ⟨rfl,⟨_,H9.out⟩,HK9.out⟩
theorem qwJ (h:DS w0 W gd m a) (hf:qdM a=⟨0,0,2⟩) (ho:a.off=false) (i:Nat) (hi:i < a.g.B) (hbd:(a.bk i).bad=false) :
  Calls Tryz.prog 64 #[cp gd,.int .i64 i] W fun e w'=>e=.returned (.int .i64 0)∧qbT w0 w' gd (a.tick.erased i 0 0)∧qaP W w':=by
 have HASK:=aM (qcE h (i:Int));rw [show qhD a (i:Int)=0 from (if_neg (by rw [ho];decide)).trans (if_neg (by omega))] at HASK;have H:=aM h
 have HFA:=aM (fun (w1:World) (hb:Below W.heap.size W w1)=>(show Calls Tryz.prog 118 #[cp gd] w1 (fun e w'=>e=.returned (.agg #[.int .i64 0,.int .i64 0,.int .i64 2])∧DS w0 w' gd m a.tick∧qaP w1 w') from by
  have h1:=qeF (h.grow hb);rw [hf] at h1
  exact h1))
 have HI:=aM hi;have HBD:=aM hbd;have HGO:=aM h.gok.2;have hq:(i < a.g.B)=True:=eq_true hi;have hqi:((i:Int) < (a.g.B:Int))=True:=eq_true (by omega);have hu71:=Tryz.underlying83;have hu103:=Tryz.underlying103;have hu122:=Tryz.underlying164;have hu100:=Tryz.underlying100;have hmk:∀ w,(Instr.makeSlice 101 (.int .i64 a.g.P) (.int .i64 a.g.P)).run Tryz.prog w=.ok (.slice (some ⟨w.heap.size,0,none⟩) a.g.P a.g.P) (w.alloc (.cells (dpg a.g.P) 164)):=fun w=>by have:=h.gok.2;exact qeH _ _ _ 3 32 a.g.P Tryz.underlying101 qeU (by omega) (by omega) w
 clear h hf ho hi hbd;go_enter Tryz.func64,Tryz.ntmps64
 go_upto_region 9 with (first
  | (go_at_call 117;(with_reducible refine HASK.out.mono ?_);rintro e w1 ⟨rfl,hb1⟩;have HB1:=aM hb1;have h1:=H.out.grow hb1;have H1:=aM h1;have c4:w1.cell? ⟨gd,4,none⟩=some (.slice (some ⟨m.gb,0,none⟩) a.g.B m.cap):=h1.cell 4;have cb:w1.cell? ⟨m.gb,i*4+2,none⟩=some (.bool false):=(h1.b.cell (qcI m.gp a i HI.out).2.2.1).trans (by rw [HBD.out]);clear hb1 h1)
  | (go_at_call 118;(with_reducible refine (HFA.out _ HB1.out).mono ?_);rintro e w2 ⟨rfl,h2,hk2⟩;have H2:=aM h2;have HK2:=aM ((qaP.of_below HB1.out).trans hk2);clear h2 hk2))
 obtain ⟨gx,hgx⟩:∃ gx,gx=w2.heap.size:=⟨_,rfl⟩
 generalize hW:w2.alloc (.cells #[.int .i64 0,.int .i64 0,.int .i64 2] 83)=W3;have HBX:=aM (show Below w2.heap.size w2 W3 by rw [← hW];exact qaA (Below.refl _ _) _);have HX3:=aM (show W3.heap[gx]?=some (.cells #[.int .i64 0,.int .i64 0,.int .i64 2] 83 (0,0)) by rw [← hW,hgx];exact qaV _ _ _);have H3:=aM (H2.out.grow HBX.out);have HK3:=aM (HK2.out.trans (qaP.of_below HBX.out));have HGX:=aM (show w0.heap.size≤gx by rw [hgx];exact qaG H2.out.below);have HPB3:=aM (show Kd.R kF 83 W3 w0.heap.size (fun k=>k < gx) m.plan a.pl from Kd.R_below (Kd.R_mono (Kd.R_bound H2.out.pln) (fun k hk=>by rw [hgx];exact hk.2.2.1)) HBX.out)
 have HGK:=aM (show ∀ (k:Nat) (cs:Array Value) (t:Nat) (fr:Nat × Nat),W.heap[k]?=some (.cells cs t fr)→t ≠ 100→t ≠ 103→t ≠ 164→k ≠ gx from fun k cs t fr hk h1 h2 h3 e=>by
  have:=qbR (HK2.out k cs t fr h1 h2 h3 hk)
  omega)
 rw [← hgx];clear hW c4 cb hgx;have x1:=jC HX3.out 1;have x2:=jC HX3.out 2;have ce:W3.cell? ⟨m.gb,i*4+3,none⟩=some (.int .i64 (a.bk i).er):=H3.out.b.cell (qcI m.gp a.tick i HI.out).2.2.2;have fe:=H3.out.b.frozen (i*4+3)
 go_upto_region 10 with (fail)
 generalize hW4:W3.setCell ⟨m.gb,i*4+3,none⟩ (.int .i64 (wrap64 ((a.bk i).er+1)))=W4
 obtain ⟨b1,hb1⟩:∃ b1:ABk,b1={ a.bk i with er:=wrap64 ((a.bk i).er+1) }:=⟨_,rfl⟩
 have H4:=aM (show DS w0 W4 gd m (a.tick.setBk i b1) by rw [← hW4,hb1];exact H3.out.er i HI.out _);have HB1E:=aM hb1;have HX4:=aM (show W4.heap[gx]?=some (.cells #[.int .i64 0,.int .i64 0,.int .i64 2] 83 (0,0)) by rw [← hW4];exact qaR HX3.out (H3.out.b.ne HX3.out (by decide)).symm _);have HK4:=aM (show qaP W W4 by rw [← hW4];exact HK3.out.set (by obtain ⟨cs,h1,-⟩:=H3.out.b;exact ⟨cs,h1⟩) (by decide) _ _);have HPB4:=aM (show Kd.R kF 83 W4 w0.heap.size (fun k=>k < gx) m.plan a.pl by rw [← hW4];exact qiF HPB3.out H3.out.b (by decide) _ _);clear hW4 x1 x2 ce fe hb1;have x0:=jC HX4.out 0;have x1:=jC HX4.out 1;have x2:=jC HX4.out 2;have cP:W4.cell? ⟨gd,1,none⟩=some (.int .i64 a.g.P):=H4.out.cell 1;have HBA:=aM (show Below W4.heap.size W4 (W4.alloc (.cells (dpg a.g.P) 164)) from qaA (Below.refl _ _) _);have hb4:=(H4.out.grow HBA.out).b.cell (qcI m.gp (a.tick.setBk i b1) i HI.out).1;have fb4:=(H4.out.grow HBA.out).b.frozen (i*4);change _=some (Value.slice (some ⟨m.gp i,0,none⟩) a.g.P a.g.P) at hb4
 go_upto_region 14 with (fail)
 obtain ⟨g6,hg6⟩:∃ g6,g6=W4.heap.size:=⟨_,rfl⟩
 generalize hW6:(W4.alloc (.cells (dpg a.g.P) 164)).setCell ⟨m.gb,i*4,none⟩ (.slice (some ⟨W4.heap.size,0,none⟩) a.g.P a.g.P)=W6
 have H6:=aM (show DS w0 W6 gd (m.setP i g6) (a.tick.setBk i (b1.clr 0 a.g.P)) by
  have h6:=H4.out.remake i HI.out;rw [qdZ,qgE] at h6;rw [← hW6,hg6]
  exact h6)
 have HX6:=aM (show W6.heap[gx]?=some (.cells #[.int .i64 0,.int .i64 0,.int .i64 2] 83 (0,0)) by rw [← hW6];exact qaR (qaE HX4.out HBA.out) ((H4.out.grow HBA.out).b.ne (qaE HX4.out HBA.out) (by decide)).symm _);have HK6:=aM (show qaP W W6 by rw [← hW6];exact (HK4.out.trans (qaP.of_below HBA.out)).set (by obtain ⟨cs,h1,-⟩:=(H4.out.grow HBA.out).b;exact ⟨cs,h1⟩) (by decide) _ _);rw [← hg6];clear hW6 hg6 x0 x1 x2 cP hb4 fb4 HBA;have x0:=jC HX6.out 0;have x1:=jC HX6.out 1;have x2:=jC HX6.out 2
 have cn:W6.cell? ⟨m.gb,i*4+1,none⟩=some (.int .i64 (b1.clr 0 a.g.P).nx):=by
  have e5:=H6.out.b.cell (qcI (m.setP i g6).gp (a.tick.setBk i (b1.clr 0 a.g.P)) i HI.out).2.1;rw [qdZ] at e5;exact e5
 have fn:W6.frozen? ⟨m.gb,i*4+1,none⟩=false:=H6.out.b.frozen (i*4+1)
 go_upto_region 15 with (fail)
 generalize hW7:W6.setCell ⟨m.gb,i*4+1,none⟩ (.int .i64 0)=W7
 have H7:=aM (show DS w0 W7 gd (m.setP i g6) (a.tick.setBk i { b1.clr 0 a.g.P with nx:=0 }) by
  rw [← hW7];have h6:=H6.out.nx i HI.out 0;rw [qdZ,qgE] at h6
  exact h6)
 have HX7:=aM (show W7.heap[gx]?=some (.cells #[.int .i64 0,.int .i64 0,.int .i64 2] 83 (0,0)) by rw [← hW7];exact qaR HX6.out (H6.out.b.ne HX6.out (by decide)).symm _);have HK7:=aM (show qaP W W7 by rw [← hW7];exact HK6.out.set (by obtain ⟨cs,h1,-⟩:=H6.out.b;exact ⟨cs,h1⟩) (by decide) _ _);clear hW7 x0 x1 x2 cn fn;have x0:=jC HX7.out 0;have x1:=jC HX7.out 1;have x2:=jC HX7.out 2;have HTD:=aM (show Calls Tryz.prog 119 #[cp gd,.agg #[.int .i64 0,.int .i64 0,.int .i64 2]] W7 (fun e w'=>e=.returned (.int .i64 0)∧DS w0 w' gd (m.setP i g6) ((a.tick.setBk i { b1.clr 0 a.g.P with nx:=0 }))∧qaP W7 w') from qfH H7.out ⟨0,0,2⟩)
 go_wp2_with (first
  | (go_at_call 119;(with_reducible refine HTD.out.mono ?_);rintro e w9 ⟨rfl,h9,hk9⟩;have H9:=aM h9;have HK9:=aM (HK7.out.trans hk9);clear h9 hk9))
 go_ret;have hb1:=HB1E.out;subst hb1;exact ⟨rfl,⟨_,H9.out⟩,HK9.out⟩
theorem qqR (h:DS w0 W gd m a) (t:Int) (hf:qdM a=⟨t,1,2⟩) (ho:a.off=false) (i:Nat) (hi:i < a.g.B) (hbd:(a.bk i).bad=false) :
  Calls Tryz.prog 64 #[cp gd,.int .i64 i] W fun e w'=>e=.returned (.int .i64 6)∧qbT w0 w' gd (a.tick.cut.erased i 0 0)∧qaP W w':=by
 have HASK:=aM (qcE h (i:Int));rw [show qhD a (i:Int)=0 from (if_neg (by rw [ho];decide)).trans (if_neg (by omega))] at HASK;have H:=aM h
 have HFA:=aM (fun (w1:World) (hb:Below W.heap.size W w1)=>(show Calls Tryz.prog 118 #[cp gd] w1 (fun e w'=>e=.returned (.agg #[.int .i64 t,.int .i64 1,.int .i64 2])∧DS w0 w' gd m a.tick∧qaP w1 w') from by
  have h1:=qeF (h.grow hb);rw [hf] at h1
  exact h1))
 have HI:=aM hi;have HBD:=aM hbd;have HGO:=aM h.gok.2;have hq:(i < a.g.B)=True:=eq_true hi;have hqi:((i:Int) < (a.g.B:Int))=True:=eq_true (by omega);have hu71:=Tryz.underlying83;have hu103:=Tryz.underlying103;have hu122:=Tryz.underlying164;have hu100:=Tryz.underlying100;have hmk:∀ w,(Instr.makeSlice 101 (.int .i64 a.g.P) (.int .i64 a.g.P)).run Tryz.prog w=.ok (.slice (some ⟨w.heap.size,0,none⟩) a.g.P a.g.P) (w.alloc (.cells (dpg a.g.P) 164)):=fun w=>by have:=h.gok.2;exact qeH _ _ _ 3 32 a.g.P Tryz.underlying101 qeU (by omega) (by omega) w
 clear h hf ho hi hbd;go_enter Tryz.func64,Tryz.ntmps64
 go_upto_region 9 with (first
  | (go_at_call 117;(with_reducible refine HASK.out.mono ?_);rintro e w1 ⟨rfl,hb1⟩;have HB1:=aM hb1;have h1:=H.out.grow hb1;have H1:=aM h1;have c4:w1.cell? ⟨gd,4,none⟩=some (.slice (some ⟨m.gb,0,none⟩) a.g.B m.cap):=h1.cell 4;have cb:w1.cell? ⟨m.gb,i*4+2,none⟩=some (.bool false):=(h1.b.cell (qcI m.gp a i HI.out).2.2.1).trans (by rw [HBD.out]);clear hb1 h1)
  | (go_at_call 118;(with_reducible refine (HFA.out _ HB1.out).mono ?_);rintro e w2 ⟨rfl,h2,hk2⟩;have H2:=aM h2;have HK2:=aM ((qaP.of_below HB1.out).trans hk2);clear h2 hk2))
 obtain ⟨gx,hgx⟩:∃ gx,gx=w2.heap.size:=⟨_,rfl⟩
 generalize hW:w2.alloc (.cells #[.int .i64 t,.int .i64 1,.int .i64 2] 83)=W3;have HBX:=aM (show Below w2.heap.size w2 W3 by rw [← hW];exact qaA (Below.refl _ _) _);have HX3:=aM (show W3.heap[gx]?=some (.cells #[.int .i64 t,.int .i64 1,.int .i64 2] 83 (0,0)) by rw [← hW,hgx];exact qaV _ _ _);have H3:=aM (H2.out.grow HBX.out);have HK3:=aM (HK2.out.trans (qaP.of_below HBX.out));have HGX:=aM (show w0.heap.size≤gx by rw [hgx];exact qaG H2.out.below);have HPB3:=aM (show Kd.R kF 83 W3 w0.heap.size (fun k=>k < gx) m.plan a.pl from Kd.R_below (Kd.R_mono (Kd.R_bound H2.out.pln) (fun k hk=>by rw [hgx];exact hk.2.2.1)) HBX.out)
 have HGK:=aM (show ∀ (k:Nat) (cs:Array Value) (t:Nat) (fr:Nat × Nat),W.heap[k]?=some (.cells cs t fr)→t ≠ 100→t ≠ 103→t ≠ 164→k ≠ gx from fun k cs t fr hk h1 h2 h3 e=>by
  have:=qbR (HK2.out k cs t fr h1 h2 h3 hk)
  omega)
 rw [← hgx];clear hW c4 cb hgx;have x1:=jC HX3.out 1;have x2:=jC HX3.out 2;have ce:W3.cell? ⟨m.gb,i*4+3,none⟩=some (.int .i64 (a.bk i).er):=H3.out.b.cell (qcI m.gp a.tick i HI.out).2.2.2;have fe:=H3.out.b.frozen (i*4+3)
 go_upto_region 10 with (fail)
 generalize hW4:W3.setCell ⟨m.gb,i*4+3,none⟩ (.int .i64 (wrap64 ((a.bk i).er+1)))=W4
 obtain ⟨b1,hb1⟩:∃ b1:ABk,b1={ a.bk i with er:=wrap64 ((a.bk i).er+1) }:=⟨_,rfl⟩
 have H4:=aM (show DS w0 W4 gd m (a.tick.setBk i b1) by rw [← hW4,hb1];exact H3.out.er i HI.out _);have HB1E:=aM hb1;have HX4:=aM (show W4.heap[gx]?=some (.cells #[.int .i64 t,.int .i64 1,.int .i64 2] 83 (0,0)) by rw [← hW4];exact qaR HX3.out (H3.out.b.ne HX3.out (by decide)).symm _);have HK4:=aM (show qaP W W4 by rw [← hW4];exact HK3.out.set (by obtain ⟨cs,h1,-⟩:=H3.out.b;exact ⟨cs,h1⟩) (by decide) _ _);have HPB4:=aM (show Kd.R kF 83 W4 w0.heap.size (fun k=>k < gx) m.plan a.pl by rw [← hW4];exact qiF HPB3.out H3.out.b (by decide) _ _);clear hW4 x1 x2 ce fe hb1;have x0:=jC HX4.out 0;have x1:=jC HX4.out 1;have x2:=jC HX4.out 2;have cP:W4.cell? ⟨gd,1,none⟩=some (.int .i64 a.g.P):=H4.out.cell 1;have HBA:=aM (show Below W4.heap.size W4 (W4.alloc (.cells (dpg a.g.P) 164)) from qaA (Below.refl _ _) _);have hb4:=(H4.out.grow HBA.out).b.cell (qcI m.gp (a.tick.setBk i b1) i HI.out).1;have fb4:=(H4.out.grow HBA.out).b.frozen (i*4);change _=some (Value.slice (some ⟨m.gp i,0,none⟩) a.g.P a.g.P) at hb4
 go_upto_region 14 with (fail)
 obtain ⟨g6,hg6⟩:∃ g6,g6=W4.heap.size:=⟨_,rfl⟩
 generalize hW6:(W4.alloc (.cells (dpg a.g.P) 164)).setCell ⟨m.gb,i*4,none⟩ (.slice (some ⟨W4.heap.size,0,none⟩) a.g.P a.g.P)=W6
 have H6:=aM (show DS w0 W6 gd (m.setP i g6) (a.tick.setBk i (b1.clr 0 a.g.P)) by
  have h6:=H4.out.remake i HI.out;rw [qdZ,qgE] at h6;rw [← hW6,hg6]
  exact h6)
 have HX6:=aM (show W6.heap[gx]?=some (.cells #[.int .i64 t,.int .i64 1,.int .i64 2] 83 (0,0)) by rw [← hW6];exact qaR (qaE HX4.out HBA.out) ((H4.out.grow HBA.out).b.ne (qaE HX4.out HBA.out) (by decide)).symm _);have HK6:=aM (show qaP W W6 by rw [← hW6];exact (HK4.out.trans (qaP.of_below HBA.out)).set (by obtain ⟨cs,h1,-⟩:=(H4.out.grow HBA.out).b;exact ⟨cs,h1⟩) (by decide) _ _);rw [← hg6];clear hW6 hg6 x0 x1 x2 cP hb4 fb4 HBA;have x0:=jC HX6.out 0;have x1:=jC HX6.out 1;have x2:=jC HX6.out 2
 have cn:W6.cell? ⟨m.gb,i*4+1,none⟩=some (.int .i64 (b1.clr 0 a.g.P).nx):=by
  have e5:=H6.out.b.cell (qcI (m.setP i g6).gp (a.tick.setBk i (b1.clr 0 a.g.P)) i HI.out).2.1;rw [qdZ] at e5;exact e5
 have fn:W6.frozen? ⟨m.gb,i*4+1,none⟩=false:=H6.out.b.frozen (i*4+1)
 go_upto_region 15 with (fail)
 generalize hW7:W6.setCell ⟨m.gb,i*4+1,none⟩ (.int .i64 0)=W7
 have H7:=aM (show DS w0 W7 gd (m.setP i g6) (a.tick.setBk i { b1.clr 0 a.g.P with nx:=0 }) by
  rw [← hW7];have h6:=H6.out.nx i HI.out 0;rw [qdZ,qgE] at h6
  exact h6)
 have HX7:=aM (show W7.heap[gx]?=some (.cells #[.int .i64 t,.int .i64 1,.int .i64 2] 83 (0,0)) by rw [← hW7];exact qaR HX6.out (H6.out.b.ne HX6.out (by decide)).symm _);have HK7:=aM (show qaP W W7 by rw [← hW7];exact HK6.out.set (by obtain ⟨cs,h1,-⟩:=H6.out.b;exact ⟨cs,h1⟩) (by decide) _ _);clear hW7 x0 x1 x2 cn fn;have x0:=jC HX7.out 0;have x1:=jC HX7.out 1;have x2:=jC HX7.out 2;have HTD:=aM (show Calls Tryz.prog 119 #[cp gd,.agg #[.int .i64 t,.int .i64 1,.int .i64 2]] W7 (fun e w'=>e=.returned (.int .i64 6)∧DS w0 w' gd (m.setP i g6) ((a.tick.setBk i { b1.clr 0 a.g.P with nx:=0 }).cut)∧qaP W7 w') from qfH H7.out ⟨t,1,2⟩)
 go_wp2_with (first
  | (go_at_call 119;(with_reducible refine HTD.out.mono ?_);rintro e w9 ⟨rfl,h9,hk9⟩;have H9:=aM h9;have HK9:=aM (HK7.out.trans hk9);clear h9 hk9))
 go_ret;have hb1:=HB1E.out;subst hb1;exact ⟨rfl,⟨_,H9.out⟩,HK9.out⟩
theorem qqS (h:DS w0 W gd m a) (t:Int) (hf:qdM a=⟨t,1,1⟩) (ho:a.off=false) (i:Nat) (hi:i < a.g.B) (hbd:(a.bk i).bad=false) :
  Calls Tryz.prog 64 #[cp gd,.int .i64 i] W fun e w'=>e=.returned (.int .i64 6)∧qbT w0 w' gd (a.tick.cut.erased i 2 a.g.P)∧qaP W w':=by
 have HASK:=aM (qcE h (i:Int));rw [show qhD a (i:Int)=0 from (if_neg (by rw [ho];decide)).trans (if_neg (by omega))] at HASK;have H:=aM h
 have HFA:=aM (fun (w1:World) (hb:Below W.heap.size W w1)=>(show Calls Tryz.prog 118 #[cp gd] w1 (fun e w'=>e=.returned (.agg #[.int .i64 t,.int .i64 1,.int .i64 1])∧DS w0 w' gd m a.tick∧qaP w1 w') from by
  have h1:=qeF (h.grow hb);rw [hf] at h1
  exact h1))
 have HI:=aM hi;have HBD:=aM hbd;have HGO:=aM h.gok.2;have hq:(i < a.g.B)=True:=eq_true hi;have hqi:((i:Int) < (a.g.B:Int))=True:=eq_true (by omega);have hu71:=Tryz.underlying83;have hu103:=Tryz.underlying103;have hu122:=Tryz.underlying164;have hu100:=Tryz.underlying100;have hmk:∀ w,(Instr.makeSlice 101 (.int .i64 a.g.P) (.int .i64 a.g.P)).run Tryz.prog w=.ok (.slice (some ⟨w.heap.size,0,none⟩) a.g.P a.g.P) (w.alloc (.cells (dpg a.g.P) 164)):=fun w=>by have:=h.gok.2;exact qeH _ _ _ 3 32 a.g.P Tryz.underlying101 qeU (by omega) (by omega) w
 clear h hf ho hi hbd;go_enter Tryz.func64,Tryz.ntmps64
 go_upto_region 9 with (first
  | (go_at_call 117;(with_reducible refine HASK.out.mono ?_);rintro e w1 ⟨rfl,hb1⟩;have HB1:=aM hb1;have h1:=H.out.grow hb1;have H1:=aM h1;have c4:w1.cell? ⟨gd,4,none⟩=some (.slice (some ⟨m.gb,0,none⟩) a.g.B m.cap):=h1.cell 4;have cb:w1.cell? ⟨m.gb,i*4+2,none⟩=some (.bool false):=(h1.b.cell (qcI m.gp a i HI.out).2.2.1).trans (by rw [HBD.out]);clear hb1 h1)
  | (go_at_call 118;(with_reducible refine (HFA.out _ HB1.out).mono ?_);rintro e w2 ⟨rfl,h2,hk2⟩;have H2:=aM h2;have HK2:=aM ((qaP.of_below HB1.out).trans hk2);clear h2 hk2))
 obtain ⟨gx,hgx⟩:∃ gx,gx=w2.heap.size:=⟨_,rfl⟩
 generalize hW:w2.alloc (.cells #[.int .i64 t,.int .i64 1,.int .i64 1] 83)=W3;have HBX:=aM (show Below w2.heap.size w2 W3 by rw [← hW];exact qaA (Below.refl _ _) _);have HX3:=aM (show W3.heap[gx]?=some (.cells #[.int .i64 t,.int .i64 1,.int .i64 1] 83 (0,0)) by rw [← hW,hgx];exact qaV _ _ _);have H3:=aM (H2.out.grow HBX.out);have HK3:=aM (HK2.out.trans (qaP.of_below HBX.out));have HGX:=aM (show w0.heap.size≤gx by rw [hgx];exact qaG H2.out.below);have HPB3:=aM (show Kd.R kF 83 W3 w0.heap.size (fun k=>k < gx) m.plan a.pl from Kd.R_below (Kd.R_mono (Kd.R_bound H2.out.pln) (fun k hk=>by rw [hgx];exact hk.2.2.1)) HBX.out)
 have HGK:=aM (show ∀ (k:Nat) (cs:Array Value) (t:Nat) (fr:Nat × Nat),W.heap[k]?=some (.cells cs t fr)→t ≠ 100→t ≠ 103→t ≠ 164→k ≠ gx from fun k cs t fr hk h1 h2 h3 e=>by
  have:=qbR (HK2.out k cs t fr h1 h2 h3 hk)
  omega)
 rw [← hgx];clear hW c4 cb hgx;have x1:=jC HX3.out 1;have x2:=jC HX3.out 2;have ce:W3.cell? ⟨m.gb,i*4+3,none⟩=some (.int .i64 (a.bk i).er):=H3.out.b.cell (qcI m.gp a.tick i HI.out).2.2.2;have fe:=H3.out.b.frozen (i*4+3)
 go_upto_region 10 with (fail)
 generalize hW4:W3.setCell ⟨m.gb,i*4+3,none⟩ (.int .i64 (wrap64 ((a.bk i).er+1)))=W4
 obtain ⟨b1,hb1⟩:∃ b1:ABk,b1={ a.bk i with er:=wrap64 ((a.bk i).er+1) }:=⟨_,rfl⟩
 have H4:=aM (show DS w0 W4 gd m (a.tick.setBk i b1) by rw [← hW4,hb1];exact H3.out.er i HI.out _);have HB1E:=aM hb1;have HX4:=aM (show W4.heap[gx]?=some (.cells #[.int .i64 t,.int .i64 1,.int .i64 1] 83 (0,0)) by rw [← hW4];exact qaR HX3.out (H3.out.b.ne HX3.out (by decide)).symm _);have HK4:=aM (show qaP W W4 by rw [← hW4];exact HK3.out.set (by obtain ⟨cs,h1,-⟩:=H3.out.b;exact ⟨cs,h1⟩) (by decide) _ _);have HPB4:=aM (show Kd.R kF 83 W4 w0.heap.size (fun k=>k < gx) m.plan a.pl by rw [← hW4];exact qiF HPB3.out H3.out.b (by decide) _ _);clear hW4 x1 x2 ce fe hb1;have x0:=jC HX4.out 0;have x1:=jC HX4.out 1;have x2:=jC HX4.out 2;have cP:W4.cell? ⟨gd,1,none⟩=some (.int .i64 a.g.P):=H4.out.cell 1;have HBA:=aM (show Below W4.heap.size W4 (W4.alloc (.cells (dpg a.g.P) 164)) from qaA (Below.refl _ _) _);have hb4:=(H4.out.grow HBA.out).b.cell (qcI m.gp (a.tick.setBk i b1) i HI.out).1;have fb4:=(H4.out.grow HBA.out).b.frozen (i*4);change _=some (Value.slice (some ⟨m.gp i,0,none⟩) a.g.P a.g.P) at hb4
 go_upto_region 14 with (fail)
 obtain ⟨g6,hg6⟩:∃ g6,g6=W4.heap.size:=⟨_,rfl⟩
 generalize hW6:(W4.alloc (.cells (dpg a.g.P) 164)).setCell ⟨m.gb,i*4,none⟩ (.slice (some ⟨W4.heap.size,0,none⟩) a.g.P a.g.P)=W6
 have H6:=aM (show DS w0 W6 gd (m.setP i g6) (a.tick.setBk i (b1.clr 0 a.g.P)) by
  have h6:=H4.out.remake i HI.out;rw [qdZ,qgE] at h6;rw [← hW6,hg6]
  exact h6)
 have HX6:=aM (show W6.heap[gx]?=some (.cells #[.int .i64 t,.int .i64 1,.int .i64 1] 83 (0,0)) by rw [← hW6];exact qaR (qaE HX4.out HBA.out) ((H4.out.grow HBA.out).b.ne (qaE HX4.out HBA.out) (by decide)).symm _);have HK6:=aM (show qaP W W6 by rw [← hW6];exact (HK4.out.trans (qaP.of_below HBA.out)).set (by obtain ⟨cs,h1,-⟩:=(H4.out.grow HBA.out).b;exact ⟨cs,h1⟩) (by decide) _ _);rw [← hg6];clear hW6 hg6 x0 x1 x2 cP hb4 fb4 HBA;have x0:=jC HX6.out 0;have x1:=jC HX6.out 1;have x2:=jC HX6.out 2
 have cn:W6.cell? ⟨m.gb,i*4+1,none⟩=some (.int .i64 (b1.clr 0 a.g.P).nx):=by
  have e5:=H6.out.b.cell (qcI (m.setP i g6).gp (a.tick.setBk i (b1.clr 0 a.g.P)) i HI.out).2.1;rw [qdZ] at e5;exact e5
 have fn:W6.frozen? ⟨m.gb,i*4+1,none⟩=false:=H6.out.b.frozen (i*4+1)
 go_upto_region 15 with (fail)
 generalize hW7:W6.setCell ⟨m.gb,i*4+1,none⟩ (.int .i64 0)=W7
 have H7:=aM (show DS w0 W7 gd (m.setP i g6) (a.tick.setBk i { b1.clr 0 a.g.P with nx:=0 }) by
  rw [← hW7];have h6:=H6.out.nx i HI.out 0;rw [qdZ,qgE] at h6
  exact h6)
 have HX7:=aM (show W7.heap[gx]?=some (.cells #[.int .i64 t,.int .i64 1,.int .i64 1] 83 (0,0)) by rw [← hW7];exact qaR HX6.out (H6.out.b.ne HX6.out (by decide)).symm _);have HK7:=aM (show qaP W W7 by rw [← hW7];exact HK6.out.set (by obtain ⟨cs,h1,-⟩:=H6.out.b;exact ⟨cs,h1⟩) (by decide) _ _);clear hW7 x0 x1 x2 cn fn;have x0:=jC HX7.out 0;have x1:=jC HX7.out 1;have x2:=jC HX7.out 2;have cP:W7.cell? ⟨gd,1,none⟩=some (.int .i64 a.g.P):=H7.out.cell 1
 have cn:W7.cell? ⟨m.gb,i*4+1,none⟩=some (.int .i64 0):=by
  have e5:=H7.out.b.cell (qcI (m.setP i g6).gp (a.tick.setBk i { b1.clr 0 a.g.P with nx:=0 }) i HI.out).2.1;rw [qdZ] at e5;exact e5
 have fn:W7.frozen? ⟨m.gb,i*4+1,none⟩=false:=H7.out.b.frozen (i*4+1)
 go_upto_region 17 with (fail)
 generalize hW8:W7.setCell ⟨m.gb,i*4+1,none⟩ (.int .i64 a.g.P)=W8
 have H8:=aM (show DS w0 W8 gd (m.setP i g6) (a.tick.setBk i { b1.clr 0 a.g.P with nx:=(a.g.P:Int) }) by
  rw [← hW8];have h6:=H7.out.nx i HI.out (a.g.P:Int);rw [qdZ,qgE] at h6
  exact h6)
 have HX8:=aM (show W8.heap[gx]?=some (.cells #[.int .i64 t,.int .i64 1,.int .i64 1] 83 (0,0)) by rw [← hW8];exact qaR HX7.out (H7.out.b.ne HX7.out (by decide)).symm _);have HK8:=aM (show qaP W W8 by rw [← hW8];exact HK7.out.set (by obtain ⟨cs,h1,-⟩:=H7.out.b;exact ⟨cs,h1⟩) (by decide) _ _);clear hW8 x0 x1 x2 cn fn cP
 go_upto_region 18 with (fail)
 go_loopw [8] (fun v8 wr=>∃ (k:Nat) (m':DM),k≤a.g.P∧v8=.int .i64 k∧m'.gb=m.gb∧qaN (DS w0 wr gd m' (a.tick.setBk i (({ b1.clr 0 a.g.P with nx:=(a.g.P:Int) }:ABk).clr 2 k)))∧qaN (wr.heap[gx]?=some (.cells #[.int .i64 t,.int .i64 1,.int .i64 1] 83 (0,0)))∧qaN (qaP W wr)) (fun i _=>a.g.P - (intOf i).toNat);case atStart=>exact ⟨0,m.setP i g6,Nat.zero_le _,rfl,rfl,⟨by rw [qpJ];exact H8.out⟩,HX8,HK8⟩
 case round =>
  obtain ⟨k,m',hk,rfl,hgb,HR,HXr,HKr⟩:=hrel;have cP:wr.cell? ⟨gd,1,none⟩=some (.int .i64 a.g.P):=HR.out.cell 1;have hb4:=HR.out.b.cell (qcI m'.gp (a.tick.setBk i (({ b1.clr 0 a.g.P with nx:=(a.g.P:Int) }:ABk).clr 2 k)) i HI.out).1;change _=some (Value.slice (some ⟨m'.gp i,0,none⟩) a.g.P a.g.P) at hb4;rw [hgb] at hb4;have HGB:=aM hgb;clear hgb
  by_cases hlt:k < a.g.P
  ·have d0:decide ((k:Int) < (a.g.P:Int))=true:=decide_eq_true (by omega);have hq2:(k < a.g.P)=True:=eq_true hlt;have hqi2:((k:Int) < (a.g.P:Int))=True:=eq_true (by omega);have hpp:=HR.out.p i HI.out;have r0:=hpp.cell (qgG a.g.P ((a.tick.setBk i (({ b1.clr 0 a.g.P with nx:=(a.g.P:Int) }:ABk).clr 2 k)).bk i) (m'.pv i) k hlt).1;have r1:=hpp.cell (qgG a.g.P ((a.tick.setBk i (({ b1.clr 0 a.g.P with nx:=(a.g.P:Int) }:ABk).clr 2 k)).bk i) (m'.pv i) k hlt).2.1;have r2:=hpp.cell (qgG a.g.P ((a.tick.setBk i (({ b1.clr 0 a.g.P with nx:=(a.g.P:Int) }:ABk).clr 2 k)).bk i) (m'.pv i) k hlt).2.2;have fr0:=hpp.frozen (k*3);have fr1:=hpp.frozen (k*3+1);have fr2:=hpp.frozen (k*3+2);have h9:=HR.out.page i HI.out k hlt 2 (.slice none 0 0) [] (Kd.R_nil _ _ _ _ _);rw [qdZ,qgE,qpK _ a.g.P] at h9;have H9:=aM h9;have HX9:=aM (show (put3 wr (m'.gp i) (k*3) (.bool true) (.bool true) (.slice none 0 0)).heap[gx]?=some (.cells #[.int .i64 t,.int .i64 1,.int .i64 1] 83 (0,0)) from (qeM (Ne.symm ((HR.out.p i HI.out).ne HXr.out (by decide)))).trans HXr.out);have HK9:=aM (HKr.out.put3 (HR.out.p i HI.out) (k*3) (.bool true) (.bool true) (.slice none 0 0));have HKK:=aM hlt;clear h9 hpp;have hzz:=HGO.out.1;go_wp2;go_roundw;case rel=>exact ⟨k+1,m'.setV i k (.slice none 0 0),by have:=HKK.out;omega,by push_cast;rfl,HGB.out,H9,HX9,HK9⟩
   case measure=>have:=HKK.out;simp [intOf];omega
  ·obtain rfl:k=a.g.P:=by omega
   have d0:decide ((a.g.P:Int) < (a.g.P:Int))=false:=decide_eq_false (by omega);have x0:=jC HXr.out 0;have x1:=jC HXr.out 1;have x2:=jC HXr.out 2;have h9:=HR.out
   rw [show ({ b1.clr 0 a.g.P with nx:=(a.g.P:Int) }:ABk).clr 2 a.g.P=({ b1.clr 2 a.g.P with nx:=(a.g.P:Int) }:ABk) from by
    have e:=qpL b1 a.g.P 0 2
    exact congrArg (fun b:ABk=>({ b with nx:=(a.g.P:Int) }:ABk)) e] at h9
   have HR9:=aM h9;clear h9;have HTD:=aM (show Calls Tryz.prog 119 #[cp gd,.agg #[.int .i64 t,.int .i64 1,.int .i64 1]] wr (fun e w'=>e=.returned (.int .i64 6)∧DS w0 w' gd m' ((a.tick.setBk i { b1.clr 2 a.g.P with nx:=(a.g.P:Int) }).cut)∧qaP wr w') from qfH HR9.out ⟨t,1,1⟩)
   go_wp2_with (first
    | (go_at_call 119;(with_reducible refine HTD.out.mono ?_);rintro e w9 ⟨rfl,h9,hk9⟩;have H9:=aM h9;have HK9:=aM (HKr.out.trans hk9);clear h9 hk9))
   go_ret;have hb1:=HB1E.out;subst hb1;exact ⟨rfl,⟨_,H9.out⟩,HK9.out⟩
theorem qqQ (h:DS w0 W gd m a) (t:Int) (hf:qdM a=⟨t,2,0⟩) (ho:a.off=false) (i:Nat) (hi:i < a.g.B) (hbd:(a.bk i).bad=false) :
  Calls Tryz.prog 64 #[cp gd,.int .i64 i] W fun e w'=>e=.returned (.int .i64 5)∧qbT w0 w' gd (a.tick.erased i 2 a.g.P)∧qaP W w':=by
 have HASK:=aM (qcE h (i:Int));rw [show qhD a (i:Int)=0 from (if_neg (by rw [ho];decide)).trans (if_neg (by omega))] at HASK;have H:=aM h
 have HFA:=aM (fun (w1:World) (hb:Below W.heap.size W w1)=>(show Calls Tryz.prog 118 #[cp gd] w1 (fun e w'=>e=.returned (.agg #[.int .i64 t,.int .i64 2,.int .i64 0])∧DS w0 w' gd m a.tick∧qaP w1 w') from by
  have h1:=qeF (h.grow hb);rw [hf] at h1
  exact h1))
 have HI:=aM hi;have HBD:=aM hbd;have HGO:=aM h.gok.2;have hq:(i < a.g.B)=True:=eq_true hi;have hqi:((i:Int) < (a.g.B:Int))=True:=eq_true (by omega);have hu71:=Tryz.underlying83;have hu103:=Tryz.underlying103;have hu122:=Tryz.underlying164;have hu100:=Tryz.underlying100;have hmk:∀ w,(Instr.makeSlice 101 (.int .i64 a.g.P) (.int .i64 a.g.P)).run Tryz.prog w=.ok (.slice (some ⟨w.heap.size,0,none⟩) a.g.P a.g.P) (w.alloc (.cells (dpg a.g.P) 164)):=fun w=>by have:=h.gok.2;exact qeH _ _ _ 3 32 a.g.P Tryz.underlying101 qeU (by omega) (by omega) w
 clear h hf ho hi hbd;go_enter Tryz.func64,Tryz.ntmps64
 go_upto_region 9 with (first
  | (go_at_call 117;(with_reducible refine HASK.out.mono ?_);rintro e w1 ⟨rfl,hb1⟩;have HB1:=aM hb1;have h1:=H.out.grow hb1;have H1:=aM h1;have c4:w1.cell? ⟨gd,4,none⟩=some (.slice (some ⟨m.gb,0,none⟩) a.g.B m.cap):=h1.cell 4;have cb:w1.cell? ⟨m.gb,i*4+2,none⟩=some (.bool false):=(h1.b.cell (qcI m.gp a i HI.out).2.2.1).trans (by rw [HBD.out]);clear hb1 h1)
  | (go_at_call 118;(with_reducible refine (HFA.out _ HB1.out).mono ?_);rintro e w2 ⟨rfl,h2,hk2⟩;have H2:=aM h2;have HK2:=aM ((qaP.of_below HB1.out).trans hk2);clear h2 hk2))
 obtain ⟨gx,hgx⟩:∃ gx,gx=w2.heap.size:=⟨_,rfl⟩
 generalize hW:w2.alloc (.cells #[.int .i64 t,.int .i64 2,.int .i64 0] 83)=W3;have HBX:=aM (show Below w2.heap.size w2 W3 by rw [← hW];exact qaA (Below.refl _ _) _);have HX3:=aM (show W3.heap[gx]?=some (.cells #[.int .i64 t,.int .i64 2,.int .i64 0] 83 (0,0)) by rw [← hW,hgx];exact qaV _ _ _);have H3:=aM (H2.out.grow HBX.out);have HK3:=aM (HK2.out.trans (qaP.of_below HBX.out));have HGX:=aM (show w0.heap.size≤gx by rw [hgx];exact qaG H2.out.below);have HPB3:=aM (show Kd.R kF 83 W3 w0.heap.size (fun k=>k < gx) m.plan a.pl from Kd.R_below (Kd.R_mono (Kd.R_bound H2.out.pln) (fun k hk=>by rw [hgx];exact hk.2.2.1)) HBX.out)
 have HGK:=aM (show ∀ (k:Nat) (cs:Array Value) (t:Nat) (fr:Nat × Nat),W.heap[k]?=some (.cells cs t fr)→t ≠ 100→t ≠ 103→t ≠ 164→k ≠ gx from fun k cs t fr hk h1 h2 h3 e=>by
  have:=qbR (HK2.out k cs t fr h1 h2 h3 hk)
  omega)
 rw [← hgx];clear hW c4 cb hgx;have x1:=jC HX3.out 1;have x2:=jC HX3.out 2;have ce:W3.cell? ⟨m.gb,i*4+3,none⟩=some (.int .i64 (a.bk i).er):=H3.out.b.cell (qcI m.gp a.tick i HI.out).2.2.2;have fe:=H3.out.b.frozen (i*4+3)
 go_upto_region 10 with (fail)
 generalize hW4:W3.setCell ⟨m.gb,i*4+3,none⟩ (.int .i64 (wrap64 ((a.bk i).er+1)))=W4
 obtain ⟨b1,hb1⟩:∃ b1:ABk,b1={ a.bk i with er:=wrap64 ((a.bk i).er+1) }:=⟨_,rfl⟩
 have H4:=aM (show DS w0 W4 gd m (a.tick.setBk i b1) by rw [← hW4,hb1];exact H3.out.er i HI.out _);have HB1E:=aM hb1;have HX4:=aM (show W4.heap[gx]?=some (.cells #[.int .i64 t,.int .i64 2,.int .i64 0] 83 (0,0)) by rw [← hW4];exact qaR HX3.out (H3.out.b.ne HX3.out (by decide)).symm _);have HK4:=aM (show qaP W W4 by rw [← hW4];exact HK3.out.set (by obtain ⟨cs,h1,-⟩:=H3.out.b;exact ⟨cs,h1⟩) (by decide) _ _);have HPB4:=aM (show Kd.R kF 83 W4 w0.heap.size (fun k=>k < gx) m.plan a.pl by rw [← hW4];exact qiF HPB3.out H3.out.b (by decide) _ _);clear hW4 x1 x2 ce fe hb1;have x0:=jC HX4.out 0;have x1:=jC HX4.out 1;have x2:=jC HX4.out 2;have fx2:=qaC HX4.out 2
 go_upto_region 12 with (fail)
 generalize hW5:W4.setCell ⟨gx,2,none⟩ (.int .i64 1)=W5;have HX5:=aM (show W5.heap[gx]?=some (.cells #[.int .i64 t,.int .i64 2,.int .i64 1] 83 (0,0)) by rw [← hW5];exact qaU HX4.out 2 _ rfl);have H5:=aM (show DS w0 W5 gd m (a.tick.setBk i b1) by rw [← hW5];exact H4.out.other HX4.out HGX.out 2 _ (Kd.R_mono (Kd.R_far HPB4.out (p:=⟨gx,2,none⟩) (fun k hk=>Nat.ne_of_lt hk) _) (fun _ _=>trivial)))
 have HK5:=aM (show qaP W W5 by
  rw [← hW5];intro k cs t fr h1 h2 h3 hk
  exact (Below.heap_setCell W4 ⟨gx,2,none⟩ _ k (HGK.out k cs t fr hk h1 h2 h3)).trans (HK4.out k cs t fr h1 h2 h3 hk))
 clear hW5 x0 x1 x2 fx2;have x0:=jC HX5.out 0;have x1:=jC HX5.out 1;have x2:=jC HX5.out 2;have cP:W5.cell? ⟨gd,1,none⟩=some (.int .i64 a.g.P):=H5.out.cell 1;have HBA:=aM (show Below W5.heap.size W5 (W5.alloc (.cells (dpg a.g.P) 164)) from qaA (Below.refl _ _) _);have hb4:=(H5.out.grow HBA.out).b.cell (qcI m.gp (a.tick.setBk i b1) i HI.out).1;have fb4:=(H5.out.grow HBA.out).b.frozen (i*4);change _=some (Value.slice (some ⟨m.gp i,0,none⟩) a.g.P a.g.P) at hb4
 go_upto_region 14 with (fail)
 obtain ⟨g6,hg6⟩:∃ g6,g6=W5.heap.size:=⟨_,rfl⟩
 generalize hW6:(W5.alloc (.cells (dpg a.g.P) 164)).setCell ⟨m.gb,i*4,none⟩ (.slice (some ⟨W5.heap.size,0,none⟩) a.g.P a.g.P)=W6
 have H6:=aM (show DS w0 W6 gd (m.setP i g6) (a.tick.setBk i (b1.clr 0 a.g.P)) by
  have h6:=H5.out.remake i HI.out;rw [qdZ,qgE] at h6;rw [← hW6,hg6]
  exact h6)
 have HX6:=aM (show W6.heap[gx]?=some (.cells #[.int .i64 t,.int .i64 2,.int .i64 1] 83 (0,0)) by rw [← hW6];exact qaR (qaE HX5.out HBA.out) ((H5.out.grow HBA.out).b.ne (qaE HX5.out HBA.out) (by decide)).symm _);have HK6:=aM (show qaP W W6 by rw [← hW6];exact (HK5.out.trans (qaP.of_below HBA.out)).set (by obtain ⟨cs,h1,-⟩:=(H5.out.grow HBA.out).b;exact ⟨cs,h1⟩) (by decide) _ _);rw [← hg6];clear hW6 hg6 x0 x1 x2 cP hb4 fb4 HBA;have x0:=jC HX6.out 0;have x1:=jC HX6.out 1;have x2:=jC HX6.out 2
 have cn:W6.cell? ⟨m.gb,i*4+1,none⟩=some (.int .i64 (b1.clr 0 a.g.P).nx):=by
  have e5:=H6.out.b.cell (qcI (m.setP i g6).gp (a.tick.setBk i (b1.clr 0 a.g.P)) i HI.out).2.1;rw [qdZ] at e5;exact e5
 have fn:W6.frozen? ⟨m.gb,i*4+1,none⟩=false:=H6.out.b.frozen (i*4+1)
 go_upto_region 15 with (fail)
 generalize hW7:W6.setCell ⟨m.gb,i*4+1,none⟩ (.int .i64 0)=W7
 have H7:=aM (show DS w0 W7 gd (m.setP i g6) (a.tick.setBk i { b1.clr 0 a.g.P with nx:=0 }) by
  rw [← hW7];have h6:=H6.out.nx i HI.out 0;rw [qdZ,qgE] at h6
  exact h6)
 have HX7:=aM (show W7.heap[gx]?=some (.cells #[.int .i64 t,.int .i64 2,.int .i64 1] 83 (0,0)) by rw [← hW7];exact qaR HX6.out (H6.out.b.ne HX6.out (by decide)).symm _);have HK7:=aM (show qaP W W7 by rw [← hW7];exact HK6.out.set (by obtain ⟨cs,h1,-⟩:=H6.out.b;exact ⟨cs,h1⟩) (by decide) _ _);clear hW7 x0 x1 x2 cn fn;have x0:=jC HX7.out 0;have x1:=jC HX7.out 1;have x2:=jC HX7.out 2;have cP:W7.cell? ⟨gd,1,none⟩=some (.int .i64 a.g.P):=H7.out.cell 1
 have cn:W7.cell? ⟨m.gb,i*4+1,none⟩=some (.int .i64 0):=by
  have e5:=H7.out.b.cell (qcI (m.setP i g6).gp (a.tick.setBk i { b1.clr 0 a.g.P with nx:=0 }) i HI.out).2.1;rw [qdZ] at e5;exact e5
 have fn:W7.frozen? ⟨m.gb,i*4+1,none⟩=false:=H7.out.b.frozen (i*4+1)
 go_upto_region 17 with (fail)
 generalize hW8:W7.setCell ⟨m.gb,i*4+1,none⟩ (.int .i64 a.g.P)=W8
 have H8:=aM (show DS w0 W8 gd (m.setP i g6) (a.tick.setBk i { b1.clr 0 a.g.P with nx:=(a.g.P:Int) }) by
  rw [← hW8];have h6:=H7.out.nx i HI.out (a.g.P:Int);rw [qdZ,qgE] at h6
  exact h6)
 have HX8:=aM (show W8.heap[gx]?=some (.cells #[.int .i64 t,.int .i64 2,.int .i64 1] 83 (0,0)) by rw [← hW8];exact qaR HX7.out (H7.out.b.ne HX7.out (by decide)).symm _);have HK8:=aM (show qaP W W8 by rw [← hW8];exact HK7.out.set (by obtain ⟨cs,h1,-⟩:=H7.out.b;exact ⟨cs,h1⟩) (by decide) _ _);clear hW8 x0 x1 x2 cn fn cP
 go_upto_region 18 with (fail)
 go_loopw [8] (fun v8 wr=>∃ (k:Nat) (m':DM),k≤a.g.P∧v8=.int .i64 k∧m'.gb=m.gb∧qaN (DS w0 wr gd m' (a.tick.setBk i (({ b1.clr 0 a.g.P with nx:=(a.g.P:Int) }:ABk).clr 2 k)))∧qaN (wr.heap[gx]?=some (.cells #[.int .i64 t,.int .i64 2,.int .i64 1] 83 (0,0)))∧qaN (qaP W wr)) (fun i _=>a.g.P - (intOf i).toNat);case atStart=>exact ⟨0,m.setP i g6,Nat.zero_le _,rfl,rfl,⟨by rw [qpJ];exact H8.out⟩,HX8,HK8⟩
 case round =>
  obtain ⟨k,m',hk,rfl,hgb,HR,HXr,HKr⟩:=hrel;have cP:wr.cell? ⟨gd,1,none⟩=some (.int .i64 a.g.P):=HR.out.cell 1;have hb4:=HR.out.b.cell (qcI m'.gp (a.tick.setBk i (({ b1.clr 0 a.g.P with nx:=(a.g.P:Int) }:ABk).clr 2 k)) i HI.out).1;change _=some (Value.slice (some ⟨m'.gp i,0,none⟩) a.g.P a.g.P) at hb4;rw [hgb] at hb4;have HGB:=aM hgb;clear hgb
  by_cases hlt:k < a.g.P
  ·have d0:decide ((k:Int) < (a.g.P:Int))=true:=decide_eq_true (by omega);have hq2:(k < a.g.P)=True:=eq_true hlt;have hqi2:((k:Int) < (a.g.P:Int))=True:=eq_true (by omega);have hpp:=HR.out.p i HI.out;have r0:=hpp.cell (qgG a.g.P ((a.tick.setBk i (({ b1.clr 0 a.g.P with nx:=(a.g.P:Int) }:ABk).clr 2 k)).bk i) (m'.pv i) k hlt).1;have r1:=hpp.cell (qgG a.g.P ((a.tick.setBk i (({ b1.clr 0 a.g.P with nx:=(a.g.P:Int) }:ABk).clr 2 k)).bk i) (m'.pv i) k hlt).2.1;have r2:=hpp.cell (qgG a.g.P ((a.tick.setBk i (({ b1.clr 0 a.g.P with nx:=(a.g.P:Int) }:ABk).clr 2 k)).bk i) (m'.pv i) k hlt).2.2;have fr0:=hpp.frozen (k*3);have fr1:=hpp.frozen (k*3+1);have fr2:=hpp.frozen (k*3+2);have h9:=HR.out.page i HI.out k hlt 2 (.slice none 0 0) [] (Kd.R_nil _ _ _ _ _);rw [qdZ,qgE,qpK _ a.g.P] at h9;have H9:=aM h9;have HX9:=aM (show (put3 wr (m'.gp i) (k*3) (.bool true) (.bool true) (.slice none 0 0)).heap[gx]?=some (.cells #[.int .i64 t,.int .i64 2,.int .i64 1] 83 (0,0)) from (qeM (Ne.symm ((HR.out.p i HI.out).ne HXr.out (by decide)))).trans HXr.out);have HK9:=aM (HKr.out.put3 (HR.out.p i HI.out) (k*3) (.bool true) (.bool true) (.slice none 0 0));have HKK:=aM hlt;clear h9 hpp;have hzz:=HGO.out.1;go_wp2;go_roundw;case rel=>exact ⟨k+1,m'.setV i k (.slice none 0 0),by have:=HKK.out;omega,by push_cast;rfl,HGB.out,H9,HX9,HK9⟩
   case measure=>have:=HKK.out;simp [intOf];omega
  ·obtain rfl:k=a.g.P:=by omega
   have d0:decide ((a.g.P:Int) < (a.g.P:Int))=false:=decide_eq_false (by omega);have x0:=jC HXr.out 0;have x1:=jC HXr.out 1;have x2:=jC HXr.out 2;have h9:=HR.out
   rw [show ({ b1.clr 0 a.g.P with nx:=(a.g.P:Int) }:ABk).clr 2 a.g.P=({ b1.clr 2 a.g.P with nx:=(a.g.P:Int) }:ABk) from by
    have e:=qpL b1 a.g.P 0 2
    exact congrArg (fun b:ABk=>({ b with nx:=(a.g.P:Int) }:ABk)) e] at h9
   have HR9:=aM h9;clear h9;have HTD:=aM (show Calls Tryz.prog 119 #[cp gd,.agg #[.int .i64 t,.int .i64 2,.int .i64 1]] wr (fun e w'=>e=.returned (.int .i64 5)∧DS w0 w' gd m' ((a.tick.setBk i { b1.clr 2 a.g.P with nx:=(a.g.P:Int) }))∧qaP wr w') from qfH HR9.out ⟨t,2,1⟩)
   go_wp2_with (first
    | (go_at_call 119;(with_reducible refine HTD.out.mono ?_);rintro e w9 ⟨rfl,h9,hk9⟩;have H9:=aM h9;have HK9:=aM (HKr.out.trans hk9);clear h9 hk9))
   go_ret;have hb1:=HB1E.out;subst hb1;exact ⟨rfl,⟨_,H9.out⟩,HK9.out⟩
end
section
variable {w0 W:World} {gd:Nat} {m:DM} {a:AC}
theorem qmD (h:DS w0 W gd m a) (n:Int) {k:Int} (hk:decide (k=0)=false) (he:qhD a n=k):Calls Tryz.prog 64 #[cp gd,.int .i64 n] W fun e w'=>e=.returned (.int .i64 k)∧Below W.heap.size W w':=by
 have HA:=aM (qcE h n);rw [he] at HA;have k1:(k==0)=false:=by simpa using hk
 have k2:(k != 0)=true:=by simpa using hk
 have k3:(k=0)=False:=eq_false (by simpa using hk);clear h he;go_enter Tryz.func64,Tryz.ntmps64;go_wp2_with (first|(go_at_call 117;(with_reducible refine HA.out.mono ?_);rintro e w1 ⟨rfl,hb1⟩;have HB1:=aM hb1;clear hb1));go_ret;exact ⟨rfl,HB1.out⟩
theorem qqP (h:DS w0 W gd m a) (ho:a.off=false) (i:Nat) (hi:i < a.g.B) (hb:(a.bk i).bad=true):Calls Tryz.prog 64 #[cp gd,.int .i64 i] W fun e w'=>e=.returned (.int .i64 1)∧DS w0 w' gd m a.err∧qaP W w':=by
 have HA:=aM (qcE h (i:Int));rw [show qhD a (i:Int)=0 from (if_neg (by rw [ho];decide)).trans (if_neg (by omega))] at HA;have H:=aM h;have HI:=aM hi;have HX:=aM hb;have hq:(i < a.g.B)=True:=eq_true hi;have hqi:((i:Int) < (a.g.B:Int))=True:=eq_true (by omega);clear h ho hi hb;go_enter Tryz.func64,Tryz.ntmps64;go_wp2_with (first|(go_at_call 117;(with_reducible refine HA.out.mono ?_);rintro e w1 ⟨rfl,hb1⟩;have HB1:=aM hb1;have h1:=H.out.grow hb1;have H1:=aM h1;have c4:w1.cell? ⟨gd,4,none⟩=some (.slice (some ⟨m.gb,0,none⟩) a.g.B m.cap):=h1.cell 4;have c9:w1.cell? ⟨gd,9,none⟩=some (.int .i64 a.wrong):=h1.cell 9;have f9:=qaC h1.c 9;have cb:w1.cell? ⟨m.gb,i*4+2,none⟩=some (.bool true):=(h1.b.cell (qcI m.gp a i HI.out).2.2.1).trans (by rw [HX.out]);clear hb1 h1));go_ret;exact ⟨rfl,H1.out.setC 9 _ rfl rfl rfl rfl,(qaP.of_below HB1.out).set ⟨_,H1.out.c⟩ (by decide) _ _⟩
theorem qbT.erase (h:qbT w0 W gd a) (hpl:qcJ a.pl=true) (n:Int):Calls Tryz.prog 64 #[cp gd,.int .i64 n] W fun e w'=>e=.returned (.int .i64 (qdX a n).1)∧qbT w0 w' gd (qdX a n).2∧qaP W w':=by
 obtain ⟨m,h⟩:=h
 by_cases ho:a.off=true
 ·rw [show qdX a n=(6,a) from if_pos ho];refine (qmD h n (k:=6) (by decide) (if_pos ho)).mono ?_;rintro e w' ⟨rfl,hb⟩;exact ⟨rfl,⟨m,h.grow hb⟩,qaP.of_below hb⟩
 have hof:a.off=false:=by simpa using ho
 by_cases hn:n < 0∨a.g.B≤n
 ·rw [show qdX a n=(22,a) from (if_neg ho).trans (if_pos hn)];refine (qmD h n (k:=22) (by decide) ((if_neg ho).trans (if_pos hn))).mono ?_;rintro e w' ⟨rfl,hb⟩;exact ⟨rfl,⟨m,h.grow hb⟩,qaP.of_below hb⟩
 obtain ⟨i,rfl⟩:∃ i:Nat,n=i:=⟨n.toNat,by omega⟩
 by_cases hb:(a.bk i).bad=true
 ·rw [show qdX a i=(1,a.err) from (if_neg ho).trans ((if_neg hn).trans (if_pos hb))];refine (qqP h hof i (by omega) hb).mono ?_;rintro e w' ⟨rfl,h2,hk⟩;exact ⟨rfl,⟨m,h2⟩,hk⟩
 have hbd:(a.bk i).bad=false:=by simpa using hb
 have e0:qdX a i=match a.hit with
  | none=>(0,a.tick.erased i 0 0)
  | some f=>if f.f1=2 then (5,a.tick.erased i 2 a.g.P)
   else if f.f2=1 then (6,a.tick.cut.erased i 2 a.g.P) else if f.f2=2 then (6,a.tick.cut.erased i 0 0)
   else (6,a.tick.cut.setBk i { a.bk i with er:=wrap64 ((a.bk i).er+1) }):=(if_neg ho).trans ((if_neg hn).trans (if_neg hb))
 rw [e0]
 cases hh:a.hit with
 | none=>exact qwJ h (by unfold qdM;rw [hh]) hof i (by omega) hbd
 | some f =>
  have hfa:qdM a=f:=by unfold qdM;rw [hh]
  simp only
  rcases qrX hpl hh with ⟨h1,h2⟩|⟨h1,h2⟩
  ·have hn2:¬ f.f1=2:=by omega
   rw [if_neg hn2]
   rcases h2 with h2|h2|h2
   ·rw [if_neg (by omega),if_neg (by omega)];exact qqT h f.f0 (by rw [hfa];cases f;simp_all) hof i (by omega) hbd
   ·rw [if_pos h2];exact qqS h f.f0 (by rw [hfa];cases f;simp_all) hof i (by omega) hbd
   ·rw [if_neg (by omega),if_pos h2];exact qqR h f.f0 (by rw [hfa];cases f;simp_all) hof i (by omega) hbd
  ·rw [if_pos h1];exact qqQ h f.f0 (by rw [hfa];cases f;simp_all) hof i (by omega) hbd
theorem qbT.power (h:qbT w0 W gd a):Calls Tryz.prog 67 #[cp gd] W fun e w'=>e=.returned (.tuple #[])∧qbT w0 w' gd { a with off:=false }∧qaP W w':=by
 obtain ⟨m,h⟩:=h;refine (qwH h).mono ?_;rintro e w' ⟨rfl,h2,hk⟩;exact ⟨rfl,⟨m,h2⟩,hk⟩
theorem qbT.mark (h:qbT w0 W gd a) (n:Int):Calls Tryz.prog 66 #[cp gd,.int .i64 n] W fun e w'=>e=.returned (.int .i64 (qfO a n).1)∧qbT w0 w' gd (qfO a n).2∧qaP W w':=by
 obtain ⟨m,h⟩:=h;refine (qyS h n).mono ?_;rintro e w' ⟨rfl,h2,hk⟩;exact ⟨rfl,⟨m,h2⟩,hk⟩
end
end Go.Proofs.YtdlimghdimkadaaGreatDoor.PAll

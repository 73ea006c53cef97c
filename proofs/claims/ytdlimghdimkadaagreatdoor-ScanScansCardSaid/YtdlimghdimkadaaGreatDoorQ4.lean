/- Part 4 of what the law ScanScans rests on. -/
import Derived.Test.YtdlimghdimkadaaGreatDoorQ3
import Derived.Test.YtdlimghdimkadaaGreatDoorQ1
set_option maxRecDepth 100000
set_option maxHeartbeats 32000000
set_option linter.unusedSimpArgs false
set_option linter.unusedVariables false
namespace Go.Proofs.YtdlimghdimkadaaGreatDoor.PAll
open Go Go.RowKit YtdlimghdimkadaaGreatDoorW.PrintWords YtdlimghdimkadaaGreatDoorW.PrintLast YtdlimghdimkadaaGreatDoorW.PrintMore
attribute [local go_sem] qdS qdQ qeJ qeI qcV qcU qdR qdP
section
def At (W:World) (g t:Nat) (f:Nat→Option Value):Prop:=∃ cells:Array Value,W.heap[g]?=some (.cells cells t (0,0))∧∀ o v,f o=some v→cells[o]?=some v
theorem At.keep {W W':World} {g t:Nat} {f:Nat→Option Value} (h:At W g t f) (e:∀ cs,W.heap[g]?=some (.cells cs t (0,0))→W'.heap[g]?=some (.cells cs t (0,0))):At W' g t f:=by
 obtain ⟨cells,h1,h2⟩:=h;exact ⟨cells,e _ h1,h2⟩
theorem At.cell {W:World} {g t:Nat} {f:Nat→Option Value} (h:At W g t f) {o:Nat} {v:Value} (e:f o=some v):W.cell? ⟨g,o,none⟩=some v:=by
 obtain ⟨cells,h1,h2⟩:=h;exact (jC h1 o).trans (h2 o v e)
theorem At.frozen {W:World} {g t:Nat} {f:Nat→Option Value} (h:At W g t f) (o:Nat):W.frozen? ⟨g,o,none⟩=false:=by
 obtain ⟨cells,h1,h2⟩:=h;exact qaC h1 o
theorem At.lt {W:World} {g t:Nat} {f:Nat→Option Value} (h:At W g t f):g < W.heap.size:=by
 obtain ⟨cells,h1,h2⟩:=h;exact qbR h1
theorem At.set {W:World} {g t:Nat} {f f':Nat→Option Value} (h:At W g t f) {o:Nat} {v u:Value} (ho:f o=some u) (h1:∀ w,f' o=some w→w=v) (h2:∀ x,x ≠ o→f' x=f x):At (W.setCell ⟨g,o,none⟩ v) g t f':=by
 obtain ⟨cells,hg,hc⟩:=h;have hs:o < cells.size:=(Array.getElem?_eq_some_iff.1 (hc o u ho)).1;refine ⟨cells.setIfInBounds o v,qaU hg o v rfl,fun x w hx=>?_⟩
 by_cases hxo:x=o
 ·subst hxo;rw [h1 w hx,Array.getElem?_setIfInBounds_self_of_lt hs]
 ·rw [Array.getElem?_setIfInBounds_ne (Ne.symm hxo)];rw [h2 x hxo] at hx;exact hc x w hx
theorem At.ne {W:World} {g g' t t':Nat} {f:Nat→Option Value} {cs:Array Value} (h:At W g t f) (h':W.heap[g']?=some (.cells cs t' (0,0))) (ht:t ≠ t'):g ≠ g':=by
 obtain ⟨cells,h1,h2⟩:=h;exact qbE h1 h' ht
theorem At.ne2 {W:World} {g g' t t':Nat} {f f':Nat→Option Value} (h:At W g t f) (h':At W g' t' f') (ht:t ≠ t'):g ≠ g':=by
 obtain ⟨cells,h1,h2⟩:=h';exact h.ne h1 ht
structure DM where
 gb:Nat
 cap:Nat
 plan:Value
 gp:Nat→Nat
 pv:Nat→Nat→Value
def dC (m:DM) (a:AC):Array Value:=#[.int .i64 a.g.B,.int .i64 a.g.P,.int .i64 a.g.Z,.int .i64 a.g.R,.slice (some ⟨m.gb,0,none⟩) a.g.B m.cap,.bool a.off,m.plan,.int .i64 a.frm,.int .i64 a.ops,.int .i64 a.wrong]
def dB (gp:Nat→Nat) (a:AC) (o:Nat):Option Value:=if o / 4 < a.g.B then some (if o % 4=0 then .slice (some ⟨gp (o / 4),0,none⟩) a.g.P a.g.P else if o % 4=1 then .int .i64 (a.bk (o / 4)).nx else if o % 4=2 then .bool (a.bk (o / 4)).bad else .int .i64 (a.bk (o / 4)).er) else none
def dP (P:Nat) (b:ABk) (v:Nat→Value) (o:Nat):Option Value:=if o / 3 < P then some (if o % 3=0 then .bool (!((b.pg (o / 3)).st==0)) else if o % 3=1 then .bool ((b.pg (o / 3)).st==2) else v (o / 3)) else none
structure DS (w0 W:World) (gd:Nat) (m:DM) (a:AC):Prop where
 c:W.heap[gd]?=some (.cells (dC m a) 100 (0,0))
 b:At W m.gb 103 (dB m.gp a)
 p:∀ i,i < a.g.B→At W (m.gp i) 164 (dP a.g.P (a.bk i) (m.pv i))
 inj:∀ i j,i < a.g.B→j < a.g.B→m.gp i=m.gp j→i=j
 ec:w0.heap.size≤gd
 eb:w0.heap.size≤m.gb
 ep:∀ i,i < a.g.B→w0.heap.size≤m.gp i
 d:∀ i j,i < a.g.B→j < a.g.P→Kd.R kB 5 W w0.heap.size (fun _=>True) (m.pv i j) ((a.bk i).pg j).d
 pln:Kd.R kF 83 W w0.heap.size (fun _=>True) m.plan a.pl
 below:Below w0.heap.size w0 W
 gok:GOK a.g
 cap:a.g.B≤m.cap
def qbT (w0 W:World) (gd:Nat) (a:AC):Prop:=∃ m,DS w0 W gd m a
def qaP (W w':World):Prop:=∀ (k:Nat) (cs:Array Value) (t:Nat) (fr:Nat × Nat),t ≠ 100→t ≠ 103→t ≠ 164→W.heap[k]?=some (.cells cs t fr)→w'.heap[k]?=some (.cells cs t fr)
theorem qaP.of_below {W w':World} (h:Below W.heap.size W w'):qaP W w':=fun k cs t fr _ _ _ hk=>by rw [h.block k (qbR hk)];exact hk
theorem qaP.refl (W:World):qaP W W:=fun _ _ _ _ _ _ _ h=>h
theorem qaP.trans {W w1 w2:World} (h:qaP W w1) (h2:qaP w1 w2):qaP W w2:=fun k cs t fr a b c hk=>h2 k cs t fr a b c (h k cs t fr a b c hk)
theorem qaP.set {W w':World} (h:qaP W w') {g t:Nat} (hg:∃ cs,w'.heap[g]?=some (.cells cs t (0,0))) (ht:t=100∨t=103∨t=164) (k:Nat) (v:Value):qaP W (w'.setCell ⟨g,k,none⟩ v):=fun x cs2 t2 fr h1 h2 h3 hx=>by
 obtain ⟨cs,hg⟩:=hg;have h5:=h x cs2 t2 fr h1 h2 h3 hx
 have hne:x ≠ g:=fun e=>by
  subst e;rw [h5] at hg;simp only [Option.some.injEq,Obj.cells.injEq] at hg;have e2:=hg.2.1
  rcases ht with h|h|h
  ·exact h1 (e2.trans h)
  ·exact h2 (e2.trans h)
  ·exact h3 (e2.trans h)
 exact (Below.heap_setCell w' ⟨g,k,none⟩ v x hne).trans h5
theorem qaP.fresh {W w':World} (h:qaP W w') {p:Addr} (hp:W.heap.size≤p.block) (v:Value):qaP W (w'.setCell p v):=fun x cs2 t2 fr h1 h2 h3 hx=>by
 have hlt:=qbR hx;exact (Below.heap_setCell w' p v x (by omega)).trans (h x cs2 t2 fr h1 h2 h3 hx)
section
variable {w0 W W':World} {gd:Nat} {m:DM} {a a':AC}
theorem DS.grow (h:DS w0 W gd m a) (hb:Below W.heap.size W W'):DS w0 W' gd m a :=
 ⟨qaE h.c hb,h.b.keep (fun _ hk=>qaE hk hb),fun i hi=>(h.p i hi).keep (fun _ hk=>qaE hk hb),h.inj,h.ec,h.eb,h.ep,fun i j hi hj=>Kd.R_below (h.d i j hi hj) hb,Kd.R_below h.pln hb,qaF h.below hb,h.gok,h.cap⟩
theorem qbT.grow (h:qbT w0 W gd a) (hb:Below W.heap.size W W'):qbT w0 W' gd a:=by
 obtain ⟨m,h⟩:=h;exact ⟨m,h.grow hb⟩
theorem DS.cell (h:DS w0 W gd m a) (k:Nat):W.cell? ⟨gd,k,none⟩=(dC m a)[k]?:=jC h.c k
theorem DS.setC (h:DS w0 W gd m a) (k:Nat) (v:Value) (hm:(dC m a).setIfInBounds k v=dC m a') (hgo:a'.g=a.g) (hb:a'.bk=a.bk) (hpl:a'.pl=a.pl):DS w0 (W.setCell ⟨gd,k,none⟩ v) gd m a':=by
 have hB:dB m.gp a'=dB m.gp a:=by unfold dB;rw [hb,hgo]
 refine ⟨hm ▸ qbW h.c k v,?_,fun i hi=>?_,by rw [hgo];exact h.inj,h.ec,h.eb,by rw [hgo];exact h.ep,fun i j hi hj=>?_,by rw [hpl];exact Kd.R_set h.pln h.c (by decide) _ _,qaH h.below h.ec,by rw [hgo];exact h.gok,by rw [hgo];exact h.cap⟩
 ·rw [hB];exact h.b.keep (fun _ hk=>qaR hk (h.b.ne h.c (by decide)) _)
 ·rw [hgo] at hi ⊢;rw [hb];exact (h.p i hi).keep (fun _ hk=>qaR hk ((h.p i hi).ne h.c (by decide)) _)
 ·rw [hgo] at hi hj;rw [hb];exact Kd.R_set (h.d i j hi hj) h.c (by decide) _ _
theorem qiF {α:Type} {d:Kd α} {e base:Nat} {ok:Nat→Prop} {v:Value} {xs:List α} {g t:Nat} {f:Nat→Option Value} (h:d.R e W base ok v xs) (hb:At W g t f) (ht:∀ q,q ∈ e :: d.E→q ≠ t) (j:Nat) (u:Value):d.R e (W.setCell ⟨g,j,none⟩ u) base ok v xs:=by
 obtain ⟨cs,h1,-⟩:=hb;exact Kd.R_set h h1 ht j u
theorem DS.setB (h:DS w0 W gd m a) (o:Nat) (v:Value) (ho:o / 4 < a.g.B) (h1:∀ w,dB m.gp a' o=some w→w=v) (h2:∀ x,x ≠ o→dB m.gp a' x=dB m.gp a x) (hgo:a'.g=a.g) (hC:dC m a'=dC m a) (hp:∀ i,i < a.g.B→(a'.bk i).pg=(a.bk i).pg) (hpl:a'.pl=a.pl):DS w0 (W.setCell ⟨m.gb,o,none⟩ v) gd m a':=by
 have hP:∀ i,i < a.g.B→dP a.g.P (a'.bk i) (m.pv i)=dP a.g.P (a.bk i) (m.pv i):=fun i hi=>by unfold dP;rw [hp i hi]
 have hs:∃ u,dB m.gp a o=some u:=by unfold dB;rw [if_pos ho];exact ⟨_,rfl⟩
 obtain ⟨u,hu⟩:=hs;refine ⟨?_,h.b.set hu h1 h2,fun i hi=>?_,by rw [hgo];exact h.inj,h.ec,h.eb,by rw [hgo];exact h.ep,fun i j hi hj=>?_,by rw [hpl];exact qiF h.pln h.b (by decide) _ _,qaH h.below h.eb,by rw [hgo];exact h.gok,by rw [hgo];exact h.cap⟩
 ·rw [hC];exact qaR h.c (h.b.ne h.c (by decide)).symm _
 ·rw [hgo] at hi ⊢;rw [hP i hi];exact (h.p i hi).keep (fun _ hk=>qaR hk ((h.p i hi).ne2 h.b (by decide)) _)
 ·rw [hgo] at hi hj;rw [hp i hi];exact qiF (h.d i j hi hj) h.b (by decide) _ _
end
def qhD (a:AC) (n:Int):Int:=if a.off=true then 6 else if n < 0∨a.g.B≤n then 22 else 0
section
variable {w0 W:World} {gd:Nat} {m:DM} {a:AC}
theorem qcE (h:DS w0 W gd m a) (n:Int):Calls Tryz.prog 117 #[cp gd,.int .i64 n] W fun e w'=>e=.returned (.int .i64 (qhD a n))∧Below W.heap.size W w':=by
 have c5:W.cell? ⟨gd,5,none⟩=some (.bool a.off):=h.cell 5;have c4:W.cell? ⟨gd,4,none⟩=some (.slice (some ⟨m.gb,0,none⟩) a.g.B m.cap):=h.cell 4;clear h
 cases ho:a.off with
 | true =>
  have HE:=aM (show qhD a n=6 from if_pos ho);rw [ho] at c5;clear ho;go_enter Tryz.func117,Tryz.ntmps117;go_wp2;go_ret;rw [HE.out];exact ⟨rfl,Below.refl _ _⟩
 | false =>
  rw [ho] at c5;have ho':¬ a.off=true:=by rw [ho];decide
  clear ho
  by_cases h1:n < 0
  ·have d0:decide (n < 0)=true:=decide_eq_true h1;have HE:=aM (show qhD a n=22 from (if_neg ho').trans (if_pos (.inl h1)));clear h1 ho';go_enter Tryz.func117,Tryz.ntmps117;go_wp2;go_ret;rw [HE.out];exact ⟨rfl,Below.refl _ _⟩
  ·have d0:decide (n < 0)=false:=decide_eq_false h1
   by_cases h2:(a.g.B:Int)≤n
   ·have d1:decide ((a.g.B:Int)≤n)=true:=decide_eq_true h2;have HE:=aM (show qhD a n=22 from (if_neg ho').trans (if_pos (.inr h2)));clear h1 h2 ho';go_enter Tryz.func117,Tryz.ntmps117;go_wp2;go_ret;rw [HE.out];exact ⟨rfl,Below.refl _ _⟩
   ·have d1:decide ((a.g.B:Int)≤n)=false:=decide_eq_false h2;have HE:=aM (show qhD a n=0 from (if_neg ho').trans (if_neg (by omega)));clear h1 h2 ho';go_enter Tryz.func117,Tryz.ntmps117;go_wp2;go_ret;rw [HE.out];exact ⟨rfl,Below.refl _ _⟩
theorem qwH (h:DS w0 W gd m a):Calls Tryz.prog 67 #[cp gd] W fun e w'=>e=.returned (.tuple #[])∧DS w0 w' gd m { a with off:=false }∧qaP W w':=by
 have c5:W.cell? ⟨gd,5,none⟩=some (.bool a.off):=h.cell 5;have f5:=qaC h.c 5;have H:=aM h;clear h;go_enter Tryz.func67,Tryz.ntmps67;go_wp2;go_end0;exact ⟨rfl,H.out.setC 5 _ rfl rfl rfl rfl,(qaP.refl W).set ⟨_,H.out.c⟩ (by decide) _ _⟩
theorem qyS (h:DS w0 W gd m a) (n:Int):Calls Tryz.prog 66 #[cp gd,.int .i64 n] W fun e w'=>e=.returned (.int .i64 (qfO a n).1)∧DS w0 w' gd m (qfO a n).2∧qaP W w':=by
 have HA:=aM (qcE h n);have H:=aM h;clear h
 by_cases ho:a.off=true
 ·have e1:qhD a n=6:=if_pos ho;have HE:=aM (show qfO a n=(6,a) from if_pos ho);rw [e1] at HA;clear ho e1;go_enter Tryz.func66,Tryz.ntmps66;go_wp2_with (first|(go_at_call 117;(with_reducible refine HA.out.mono ?_);rintro e w1 ⟨rfl,hb1⟩;have HB1:=aM hb1;clear hb1));go_ret;rw [HE.out];exact ⟨rfl,H.out.grow HB1.out,qaP.of_below HB1.out⟩
 by_cases hn:n < 0∨a.g.B≤n
 ·have e1:qhD a n=22:=(if_neg ho).trans (if_pos hn);have HE:=aM (show qfO a n=(22,a) from (if_neg ho).trans (if_pos hn));rw [e1] at HA;clear ho hn e1;go_enter Tryz.func66,Tryz.ntmps66;go_wp2_with (first|(go_at_call 117;(with_reducible refine HA.out.mono ?_);rintro e w1 ⟨rfl,hb1⟩;have HB1:=aM hb1;clear hb1));go_ret;rw [HE.out];exact ⟨rfl,H.out.grow HB1.out,qaP.of_below HB1.out⟩
 ·have e1:qhD a n=0:=(if_neg ho).trans (if_neg hn)
  obtain ⟨i,rfl⟩:∃ i:Nat,n=(i:Int):=⟨n.toNat,by omega⟩
  have hi:i < a.g.B:=by omega
  have HE:=aM (show qfO a (i:Int)=(0,a.setBk i { a.bk i with bad:=true }) from (if_neg ho).trans ((if_neg hn).trans (by rw [Int.toNat_natCast])));rw [e1] at HA;have HI:=aM hi;have hq:(i < a.g.B)=True:=eq_true hi;have hqi:((i:Int) < (a.g.B:Int))=True:=eq_true (by omega);clear ho hn e1 hi;go_enter Tryz.func66,Tryz.ntmps66;go_wp2_with (first|(go_at_call 117;(with_reducible refine HA.out.mono ?_);rintro e w1 ⟨rfl,hb1⟩;have HB1:=aM hb1;have h1:=H.out.grow hb1;have H1:=aM h1;have c4:w1.cell? ⟨gd,4,none⟩=some (.slice (some ⟨m.gb,0,none⟩) a.g.B m.cap):=h1.cell 4;have fb:=h1.b.frozen (i*4+2);have cb:w1.cell? ⟨m.gb,i*4+2,none⟩=some (.bool (a.bk i).bad):=h1.b.cell (by unfold dB;rw [if_pos (by have:=HI.out;omega),if_neg (by omega),if_neg (by omega),if_pos (by omega),show (i*4+2) / 4=i by omega]);clear hb1 h1));go_ret;rw [HE.out];have hi:=HI.out;refine ⟨rfl,H1.out.setB (i*4+2) _ (by omega) (fun w hw=>?_) (fun x hx=>?_) rfl rfl (fun j _=>?_) rfl,(qaP.of_below HB1.out).set (by obtain ⟨cs,h1,-⟩:=H1.out.b;exact ⟨cs,h1⟩) (by decide) _ _⟩
  ·unfold dB at hw;rw [if_pos (by show (i*4+2) / 4 < a.g.B;omega),if_neg (by omega),if_neg (by omega),if_pos (by omega),show (i*4+2) / 4=i by omega] at hw;simp [AC.setBk] at hw;exact hw.symm
  ·unfold dB;show (if x / 4 < a.g.B then _ else _)=_
   by_cases hxi:x / 4=i
   ·by_cases h2:x % 4=2
    ·exact absurd (by omega) hx
    ·simp [AC.setBk,hxi,h2]
   ·simp [AC.setBk,hxi]
  ·by_cases hj:j=i <;> simp [AC.setBk,hj]
end
end
section
variable {w0 W:World} {gd:Nat} {m:DM} {a:AC}
theorem DS.other {g:Nat} (h:DS w0 W gd m a) {cs:Array Value} (hg:W.heap[g]?=some (.cells cs 83 (0,0))) (hge:w0.heap.size≤g) (k:Nat) (v:Value) (hpl:Kd.R kF 83 (W.setCell ⟨g,k,none⟩ v) w0.heap.size (fun _=>True) m.plan a.pl):DS w0 (W.setCell ⟨g,k,none⟩ v) gd m a :=
 ⟨qaR h.c (qbE h.c hg (by decide)) _,h.b.keep (fun _ hk=>qaR hk (h.b.ne hg (by decide)) _),fun i hi=>(h.p i hi).keep (fun _ hk=>qaR hk ((h.p i hi).ne hg (by decide)) _),h.inj,h.ec,h.eb,h.ep,fun i j hi hj=>Kd.R_set (h.d i j hi hj) hg (by decide) _ _,hpl,qaH h.below hge,h.gok,h.cap⟩
theorem DS.other3 {g:Nat} {x0 x1 x2:Value} (h:DS w0 W gd m a) (hg:W.heap[g]?=some (.cells #[x0,x1,x2] 83 (0,0))) (hge:w0.heap.size≤g) {ok:Nat→Prop} (hok:∀ k,ok k→k ≠ g) (hpl:Kd.R kF 83 W w0.heap.size ok m.plan a.pl) (x y z:Value):DS w0 (((W.setCell ⟨g,0,none⟩ x).setCell ⟨g,1,none⟩ y).setCell ⟨g,2,none⟩ z) gd m a:=by
 have p1:=Kd.R_far hpl (p:=⟨g,0,none⟩) hok x;have p2:=Kd.R_far p1 (p:=⟨g,1,none⟩) hok y;have p3:=Kd.R_far p2 (p:=⟨g,2,none⟩) hok z;exact ((h.other hg hge 0 x (Kd.R_mono p1 (fun _ _=>trivial))).other (qaU hg 0 x (cs':=#[x,x1,x2]) rfl) hge 1 y (Kd.R_mono p2 (fun _ _=>trivial))).other (qaU (qaU hg 0 x (cs':=#[x,x1,x2]) rfl) 1 y (cs':=#[x,y,x2]) rfl) hge 2 z (Kd.R_mono p3 (fun _ _=>trivial))
theorem qaP.set3 {W W1:World} (h:qaP W W1) {g:Nat} (hg:W.heap.size≤g) (x y z:Value):qaP W (((W1.setCell ⟨g,0,none⟩ x).setCell ⟨g,1,none⟩ y).setCell ⟨g,2,none⟩ z) :=
 ((h.fresh (p:=⟨g,0,none⟩) hg x).fresh (p:=⟨g,1,none⟩) hg y).fresh (p:=⟨g,2,none⟩) hg z
def quI (a:AC) (f:F3):Int × AC:=if f.f1=1 then (6,a.cut) else if f.f1=2 then (5,a) else (0,a)
theorem qfH (h:DS w0 W gd m a) (f:F3):Calls Tryz.prog 119 #[cp gd,.agg #[.int .i64 f.f0,.int .i64 f.f1,.int .i64 f.f2]] W fun e w'=>e=.returned (.int .i64 (quI a f).1)∧DS w0 w' gd m (quI a f).2∧qaP W w':=by
 have HB:=fun o:Obj=>qaA (Below.refl W.heap.size W) o
 have HBX:=aM HB;have H:=aM h;have c5:∀ o:Obj,(W.alloc o).cell? ⟨gd,5,none⟩=some (.bool a.off):=fun o=>(h.grow (HBX.out o)).cell 5
 have f5:∀ o:Obj,(W.alloc o).frozen? ⟨gd,5,none⟩=false:=fun o=>qaC (h.grow (HBX.out o)).c 5
 have hu71:=Tryz.underlying83;clear h HB
 by_cases h1:f.f1=1
 ·have e1:(f.f1==1)=true:=by simp only [beq_iff_eq];exact h1
  have HE:=aM (show quI a f=(6,a.cut) from if_pos h1);clear h1;go_enter Tryz.func119,Tryz.ntmps119;go_wp2;go_ret;rw [HE.out];have hg:=H.out.grow (HBX.out (.cells #[.int .i64 f.f0,.int .i64 f.f1,.int .i64 f.f2] 83));exact ⟨rfl,hg.setC 5 _ rfl rfl rfl rfl,(qaP.of_below (HBX.out _)).set ⟨_,hg.c⟩ (by decide) _ _⟩
 ·have e1:(f.f1==1)=false:=by simp only [beq_eq_false_iff_ne];exact h1
  by_cases h2:f.f1=2
  ·have e2:(f.f1==2)=true:=by simp only [beq_iff_eq];exact h2
   have HE:=aM (show quI a f=(5,a) from (if_neg h1).trans (if_pos h2));clear h1 h2;go_enter Tryz.func119,Tryz.ntmps119;go_wp2;go_ret;rw [HE.out];exact ⟨rfl,H.out.grow (HBX.out _),qaP.of_below (HBX.out _)⟩
  ·have e2:(f.f1==2)=false:=by simp only [beq_eq_false_iff_ne];exact h2
   have HE:=aM (show quI a f=(0,a) from (if_neg h1).trans (if_neg h2));clear h1 h2;go_enter Tryz.func119,Tryz.ntmps119;go_wp2;go_ret;rw [HE.out];exact ⟨rfl,H.out.grow (HBX.out _),qaP.of_below (HBX.out _)⟩
def qdM (a:AC):F3:=match a.hit with
 | none=>⟨0,0,2⟩
 | some f=>f
abbrev fV (f:F3):Value:=.agg #[.int .i64 f.f0,.int .i64 f.f1,.int .i64 f.f2]
theorem qeF (h:DS w0 W gd m a):Calls Tryz.prog 118 #[cp gd] W fun e w'=>e=.returned (fV (qdM a))∧DS w0 w' gd m a.tick∧qaP W w':=by
 have HBX:=aM (fun o:Obj=>qaA (Below.refl W.heap.size W) o);have H:=aM h;have c8:∀ o:Obj,(W.alloc o).cell? ⟨gd,8,none⟩=some (.int .i64 a.ops):=fun o=>(h.grow (HBX.out o)).cell 8
 have f8:∀ o:Obj,(W.alloc o).frozen? ⟨gd,8,none⟩=false:=fun o=>qaC (h.grow (HBX.out o)).c 8
 have hu71:=Tryz.underlying83;obtain ⟨A5,c5,e5⟩:=Kd.R_slice h.pln
 have HF5:=aM (show 0 < a.pl.length→∃ g5,A5=some ⟨g5,0,none⟩ from fun hpos=>by
  obtain ⟨g5,c,e,_⟩:=Kd.R_form h.pln hpos;rw [e5] at e;simp only [Value.slice.injEq] at e
  exact ⟨g5,e.1⟩)
 have HPV:=aM e5;have HPB0:=aM (show Kd.R kF 83 W w0.heap.size (fun k=>k < W.heap.size) m.plan a.pl from Kd.R_mono (Kd.R_bound h.pln) (fun k hk=>hk.2.2.1))
 have hmx:a.pl.length≤9223372036854775807:=by
  have h7:=h.pln;rw [e5] at h7;exact Kd.C_max (Kd.R_reads' h7).2.2
 clear h e5;go_enter Tryz.func118,Tryz.ntmps118
 go_upto_region 2 with (fail)
 generalize hW:(W.alloc (.cells #[.int .i64 0,.int .i64 0,.int .i64 0] 83)).setCell ⟨gd,8,none⟩ (.int .i64 (wrap64 (a.ops+1)))=W1;have hg0:=H.out.grow (HBX.out (.cells #[.int .i64 0,.int .i64 0,.int .i64 0] 83));have H1:=aM (show DS w0 W1 gd m a.tick by rw [← hW];exact hg0.setC 8 _ rfl rfl rfl rfl);have HK:=aM (show qaP W W1 by rw [← hW];exact (qaP.of_below (HBX.out _)).set ⟨_,hg0.c⟩ (by decide) _ _);have HX:=aM (show W1.heap[W.heap.size]?=some (.cells #[.int .i64 0,.int .i64 0,.int .i64 0] 83 (0,0)) by rw [← hW];exact qaR (qaV _ _ _) (qbE (qaV W #[.int .i64 0,.int .i64 0,.int .i64 0] 83) hg0.c (by decide)) _);have HPB:=aM (show Kd.R kF 83 W1 w0.heap.size (fun k=>k < W.heap.size) m.plan a.pl by rw [← hW];exact Kd.R_set (Kd.R_below HPB0.out (HBX.out _)) hg0.c (by decide) _ _);have cp3:∀ w,Below W1.heap.size W1 w→w.cell? ⟨gd,6,none⟩=some (.slice A5 a.pl.length c5):=fun w hb=>by rw [(H1.out.grow hb).cell 6];simp [dC,HPV.out]
 have cp5:∀ w,Below W1.heap.size W1 w→w.cell? ⟨gd,8,none⟩=some (.int .i64 (wrap64 (a.ops+1))):=fun w hb=>(H1.out.grow hb).cell 8
 have cp4:∀ w,Below W1.heap.size W1 w→w.cell? ⟨gd,7,none⟩=some (.int .i64 a.frm):=fun w hb=>(H1.out.grow hb).cell 7
 clear hW hg0 c8 f8
 go_upto_region 3 with (fail)
 go_loopw [3] (fun v3 wr=>∃ i:Nat,i≤a.pl.length∧v3=.int .i64 i∧qaN (qdF (a.pl.take i) (wrap64 (wrap64 (a.ops+1) - a.frm))=none)∧qaN (Below W1.heap.size W1 wr)) (fun i _=>a.pl.length - (intOf i).toNat);case atStart=>exact ⟨0,Nat.zero_le _,rfl,⟨rfl⟩,⟨Below.refl _ _⟩⟩
 case round =>
  obtain ⟨i,hi,rfl,HM,HBr⟩:=hrel;have p3:=cp3 _ HBr.out;have HXr:=aM (qaE HX.out HBr.out)
  by_cases hlt:i < a.pl.length
  ·have d0:decide ((i:Int) < (a.pl.length:Int))=true:=decide_eq_true (by omega);have hq:(i < a.pl.length)=True:=eq_true hlt;have hqi:((i:Int) < (a.pl.length:Int))=True:=eq_true (by omega);have hqm:(a.pl.length≤i)=False:=eq_false (by omega);obtain ⟨g5,rfl⟩:=HF5.out (Nat.lt_of_le_of_lt (Nat.zero_le _) hlt);have hr6:=Kd.R_below (H1.out.pln) HBr.out;rw [show a.tick.pl=a.pl from rfl,HPV.out] at hr6;obtain ⟨ad,ead,z0,z1,z2⟩:=vdO (Kd.R_reads' hr6).2.2 (i:Int) (by omega) (by omega);obtain rfl:(⟨g5,0,none⟩:Addr)=ad:=by simpa using ead
   rw [vcI,Int.toNat_natCast] at z0 z1 z2
   have hget:a.pl[i]?=some (qpW a.pl (i:Int)):=by
    unfold qpW;rw [Int.toNat_natCast,List.getD_eq_getElem?_getD,List.getElem?_eq_getElem hlt];rfl
   generalize qpW a.pl (i:Int)=f at z0 z1 z2 hget;have HGT:=aM hget;clear ead hget hr6
   by_cases hf:f.f0=wrap64 (wrap64 (a.ops+1) - a.frm)
   ·have e1:(f.f0==IntKind.i64.wrap (wrap64 (a.ops+1) - a.frm))=true:=by rw [qbJ,← hf];simp
    have e2:(f.f0==wrap64 (wrap64 (a.ops+1) - a.frm))=true:=by rw [← hf];simp
    have HE:=aM (qoN HM.out HGT.out hf);clear hf
    go_upto_region 5 with (fail)
    refine Reg.det [(0,20,?r1v0),(1,21,?r1v1),(2,22,?r1v2),(3,23,?r1v3),(4,24,?r1v4),(5,25,?r1v5),(6,26,?r1v6),(7,27,?r1v7),(8,28,?r1v8),(9,29,?r1v9),(10,30,?r1v10),(11,31,?r1v11),(12,32,?r1v12),(13,33,?r1v13),(14,34,?r1v14),(15,35,?r1v15),(16,36,?r1v16),(17,37,?r1v17)] (fun w'=>Below wr.heap.size wr w') (by rfl) rfl (by kernel_rfl) ?r1S ?r1steps ?r1okv ?r1hlt ?r1fin;case r1S=>exact qaW (Below.refl _ _)
    case r1steps =>
     refine Reg.fS 0 rfl rfl (fun a w hS hK K hC=>?_) ?_
     ·refine Reg.sO ?_;have e0:=hK.off 0 _ rfl rfl;clear hK;go_simp;exact hC _ hS
     refine Reg.fS 1 rfl rfl (fun a w hS hK K hC=>?_) ?_
     ·refine Reg.sO ?_;have e20:=hK.sl 0 rfl;clear hK;go_simp;exact hC _ hS
     refine Reg.fS 2 rfl rfl (fun a w hS hK K hC=>?_) ?_
     ·refine Reg.sO ?_;have e21:=hK.sl 1 rfl;clear hK;go_simp;exact hC _ hS
     refine Reg.fS 3 rfl rfl (fun a w hS hK K hC=>?_) ?_
     ·refine Reg.sO ?_;have e22:=hK.sl 2 rfl;have y3:=cp3 w (qaF HBr.out hS);have y5:=cp5 w (qaF HBr.out hS);have y4:=cp4 w (qaF HBr.out hS);have y0:=(Below.cell hS (World.block_lt_of_cell? _ _ z0)).trans z0;clear hK;go_simp;exact hC _ hS
     refine Reg.fS 4 rfl rfl (fun a w hS hK K hC=>?_) ?_
     ·refine Reg.sO ?_;have e3:=hK.off 3 _ rfl rfl;clear hK;go_simp;exact hC _ hS
     refine Reg.fS 5 rfl rfl (fun a w hS hK K hC=>?_) ?_
     ·refine Reg.sO ?_;have e23:=hK.sl 3 rfl;have e24:=hK.sl 4 rfl;clear hK;go_simp;exact hC _ hS
     refine Reg.fS 6 rfl rfl (fun a w hS hK K hC=>?_) ?_
     ·refine Reg.sO ?_;have e25:=hK.sl 5 rfl;clear hK;go_simp;exact hC _ hS
     refine Reg.fS 7 rfl rfl (fun a w hS hK K hC=>?_) ?_
     ·refine Reg.sO ?_;have e26:=hK.sl 6 rfl;have y3:=cp3 w (qaF HBr.out hS);have y5:=cp5 w (qaF HBr.out hS);have y4:=cp4 w (qaF HBr.out hS);have y0:=(Below.cell hS (World.block_lt_of_cell? _ _ z0)).trans z0;clear hK;go_simp;exact hC _ hS
     refine Reg.fS 8 rfl rfl (fun a w hS hK K hC=>?_) ?_
     ·refine Reg.sO ?_;have e0:=hK.off 0 _ rfl rfl;clear hK;go_simp;exact hC _ hS
     refine Reg.fS 9 rfl rfl (fun a w hS hK K hC=>?_) ?_
     ·refine Reg.sO ?_;have e28:=hK.sl 8 rfl;clear hK;go_simp;exact hC _ hS
     refine Reg.fS 10 rfl rfl (fun a w hS hK K hC=>?_) ?_
     ·refine Reg.sO ?_;have e29:=hK.sl 9 rfl;clear hK;go_simp;exact hC _ hS
     refine Reg.fS 11 rfl rfl (fun a w hS hK K hC=>?_) ?_
     ·refine Reg.sO ?_;have e30:=hK.sl 10 rfl;have y3:=cp3 w (qaF HBr.out hS);have y5:=cp5 w (qaF HBr.out hS);have y4:=cp4 w (qaF HBr.out hS);have y0:=(Below.cell hS (World.block_lt_of_cell? _ _ z0)).trans z0;clear hK;go_simp;exact hC _ hS
     refine Reg.fS 12 rfl rfl (fun a w hS hK K hC=>?_) ?_
     ·refine Reg.sO ?_;have e0:=hK.off 0 _ rfl rfl;clear hK;go_simp;exact hC _ hS
     refine Reg.fS 13 rfl rfl (fun a w hS hK K hC=>?_) ?_
     ·refine Reg.sO ?_;have e32:=hK.sl 12 rfl;clear hK;go_simp;exact hC _ hS
     refine Reg.fS 14 rfl rfl (fun a w hS hK K hC=>?_) ?_
     ·refine Reg.sO ?_;have e33:=hK.sl 13 rfl;clear hK;go_simp;exact hC _ hS
     refine Reg.fS 15 rfl rfl (fun a w hS hK K hC=>?_) ?_
     ·refine Reg.sO ?_;have e34:=hK.sl 14 rfl;have y3:=cp3 w (qaF HBr.out hS);have y5:=cp5 w (qaF HBr.out hS);have y4:=cp4 w (qaF HBr.out hS);have y0:=(Below.cell hS (World.block_lt_of_cell? _ _ z0)).trans z0;clear hK;go_simp;exact hC _ hS
     refine Reg.fS 16 rfl rfl (fun a w hS hK K hC=>?_) ?_
     ·refine Reg.sO ?_;have e31:=hK.sl 11 rfl;have e35:=hK.sl 15 rfl;clear hK;go_simp;exact hC _ hS
     refine Reg.fS 17 rfl rfl (fun a w hS hK K hC=>?_) ?_
     ·refine Reg.sO ?_;have e27:=hK.sl 7 rfl;have e36:=hK.sl 16 rfl;clear hK;go_simp;exact hC _ hS
     exact Reg.from_nil
    case r1okv=>rfl
    case r1hlt=>rfl
    case r1fin =>
     intro wz hS;simp only [Reg.putV,List.foldl_cons,List.foldl_nil,Act.put,List.setIfInBounds_toArray,List.set_cons_zero,List.set_cons_succ];have HBz:=aM (qaF HBr.out hS);have HXz:=aM (qaE HX.out HBz.out);have p3z:=cp3 _ HBz.out;have y0:=(Below.cell hS (World.block_lt_of_cell? _ _ z0)).trans z0;have y1:=(Below.cell hS (World.block_lt_of_cell? _ _ z1)).trans z1;have y2:=(Below.cell hS (World.block_lt_of_cell? _ _ z2)).trans z2;have x0:=jC HXz.out 0;have x1:=jC HXz.out 1;have x2:=jC HXz.out 2;have fx0:=qaC HXz.out 0;have fx1:=qaC HXz.out 1;have fx2:=qaC HXz.out 2;clear hS z0 z1 z2;go_wp2;refine bodyPost_ret (results_cell_row rfl _ _ W.heap.size 83 #[.int .i64 f.f0,.int .i64 f.f1,.int .i64 f.f2] (0,0) _ rfl (qxG HXz.out _ _ _) Tryz.underlying83 rfl (by kernel_rfl)) rfl ?_;have hF:qdM a=f:=by unfold qdM AC.hit;rw [HE.out]
     rw [hF];exact ⟨rfl,(H1.out.grow HBz.out).other3 HXz.out (qaG H.out.below) (fun k hk=>Nat.ne_of_lt hk) (Kd.R_below HPB.out HBz.out) _ _ _,(HK.out.trans (qaP.of_below HBz.out)).set3 (Nat.le_refl _) _ _ _⟩
   ·have e1:(f.f0==IntKind.i64.wrap (wrap64 (a.ops+1) - a.frm))=false:=by simp only [beq_eq_false_iff_ne];rw [qbJ];exact hf
    have e2:(f.f0==wrap64 (wrap64 (a.ops+1) - a.frm))=false:=by simp only [beq_eq_false_iff_ne];exact hf
    have HM2:=aM (qmA HM.out HGT.out hf);clear hf
    go_upto_region 5 with (fail)
    refine Reg.det [(0,20,?r2v0),(1,21,?r2v1),(2,22,?r2v2),(3,23,?r2v3),(4,24,?r2v4),(5,25,?r2v5),(6,26,?r2v6),(7,27,?r2v7),(8,28,?r2v8),(9,29,?r2v9),(10,30,?r2v10),(11,31,?r2v11),(12,32,?r2v12),(13,33,?r2v13),(14,34,?r2v14),(15,35,?r2v15),(16,36,?r2v16),(17,37,?r2v17)] (fun w'=>Below wr.heap.size wr w') (by rfl) rfl (by kernel_rfl) ?r2S ?r2steps ?r2okv ?r2hlt ?r2fin;case r2S=>exact qaW (Below.refl _ _)
    case r2steps =>
     refine Reg.fS 0 rfl rfl (fun a w hS hK K hC=>?_) ?_
     ·refine Reg.sO ?_;have e0:=hK.off 0 _ rfl rfl;clear hK;go_simp;exact hC _ hS
     refine Reg.fS 1 rfl rfl (fun a w hS hK K hC=>?_) ?_
     ·refine Reg.sO ?_;have e20:=hK.sl 0 rfl;clear hK;go_simp;exact hC _ hS
     refine Reg.fS 2 rfl rfl (fun a w hS hK K hC=>?_) ?_
     ·refine Reg.sO ?_;have e21:=hK.sl 1 rfl;clear hK;go_simp;exact hC _ hS
     refine Reg.fS 3 rfl rfl (fun a w hS hK K hC=>?_) ?_
     ·refine Reg.sO ?_;have e22:=hK.sl 2 rfl;have y3:=cp3 w (qaF HBr.out hS);have y5:=cp5 w (qaF HBr.out hS);have y4:=cp4 w (qaF HBr.out hS);have y0:=(Below.cell hS (World.block_lt_of_cell? _ _ z0)).trans z0;clear hK;go_simp;exact hC _ hS
     refine Reg.fS 4 rfl rfl (fun a w hS hK K hC=>?_) ?_
     ·refine Reg.sO ?_;have e3:=hK.off 3 _ rfl rfl;clear hK;go_simp;exact hC _ hS
     refine Reg.fS 5 rfl rfl (fun a w hS hK K hC=>?_) ?_
     ·refine Reg.sO ?_;have e23:=hK.sl 3 rfl;have e24:=hK.sl 4 rfl;clear hK;go_simp;exact hC _ hS
     refine Reg.fS 6 rfl rfl (fun a w hS hK K hC=>?_) ?_
     ·refine Reg.sO ?_;have e25:=hK.sl 5 rfl;clear hK;go_simp;exact hC _ hS
     refine Reg.fS 7 rfl rfl (fun a w hS hK K hC=>?_) ?_
     ·refine Reg.sO ?_;have e26:=hK.sl 6 rfl;have y3:=cp3 w (qaF HBr.out hS);have y5:=cp5 w (qaF HBr.out hS);have y4:=cp4 w (qaF HBr.out hS);have y0:=(Below.cell hS (World.block_lt_of_cell? _ _ z0)).trans z0;clear hK;go_simp;exact hC _ hS
     refine Reg.fS 8 rfl rfl (fun a w hS hK K hC=>?_) ?_
     ·refine Reg.sO ?_;have e0:=hK.off 0 _ rfl rfl;clear hK;go_simp;exact hC _ hS
     refine Reg.fS 9 rfl rfl (fun a w hS hK K hC=>?_) ?_
     ·refine Reg.sO ?_;have e28:=hK.sl 8 rfl;clear hK;go_simp;exact hC _ hS
     refine Reg.fS 10 rfl rfl (fun a w hS hK K hC=>?_) ?_
     ·refine Reg.sO ?_;have e29:=hK.sl 9 rfl;clear hK;go_simp;exact hC _ hS
     refine Reg.fS 11 rfl rfl (fun a w hS hK K hC=>?_) ?_
     ·refine Reg.sO ?_;have e30:=hK.sl 10 rfl;have y3:=cp3 w (qaF HBr.out hS);have y5:=cp5 w (qaF HBr.out hS);have y4:=cp4 w (qaF HBr.out hS);have y0:=(Below.cell hS (World.block_lt_of_cell? _ _ z0)).trans z0;clear hK;go_simp;exact hC _ hS
     refine Reg.fS 12 rfl rfl (fun a w hS hK K hC=>?_) ?_
     ·refine Reg.sO ?_;have e0:=hK.off 0 _ rfl rfl;clear hK;go_simp;exact hC _ hS
     refine Reg.fS 13 rfl rfl (fun a w hS hK K hC=>?_) ?_
     ·refine Reg.sO ?_;have e32:=hK.sl 12 rfl;clear hK;go_simp;exact hC _ hS
     refine Reg.fS 14 rfl rfl (fun a w hS hK K hC=>?_) ?_
     ·refine Reg.sO ?_;have e33:=hK.sl 13 rfl;clear hK;go_simp;exact hC _ hS
     refine Reg.fS 15 rfl rfl (fun a w hS hK K hC=>?_) ?_
     ·refine Reg.sO ?_;have e34:=hK.sl 14 rfl;have y3:=cp3 w (qaF HBr.out hS);have y5:=cp5 w (qaF HBr.out hS);have y4:=cp4 w (qaF HBr.out hS);have y0:=(Below.cell hS (World.block_lt_of_cell? _ _ z0)).trans z0;clear hK;go_simp;exact hC _ hS
     refine Reg.fS 16 rfl rfl (fun a w hS hK K hC=>?_) ?_
     ·refine Reg.sO ?_;have e31:=hK.sl 11 rfl;have e35:=hK.sl 15 rfl;clear hK;go_simp;exact hC _ hS
     refine Reg.fS 17 rfl rfl (fun a w hS hK K hC=>?_) ?_
     ·refine Reg.sO ?_;have e27:=hK.sl 7 rfl;have e36:=hK.sl 16 rfl;clear hK;go_simp;exact hC _ hS
     exact Reg.from_nil
    case r2okv=>rfl
    case r2hlt=>rfl
    case r2fin =>
     intro wz hS;simp only [Reg.putV,List.foldl_cons,List.foldl_nil,Act.put,List.setIfInBounds_toArray,List.set_cons_zero,List.set_cons_succ];have HBz:=aM (qaF HBr.out hS);clear hS;go_wp2;go_roundw;case rel=>exact ⟨i+1,by omega,by push_cast;rfl,HM2,HBz⟩
     case measure=>simp [intOf];omega
  ·obtain rfl:i=a.pl.length:=by omega
   have x0:=jC HXr.out 0;have x1:=jC HXr.out 1;have x2:=jC HXr.out 2;have fx0:=qaC HXr.out 0;have fx1:=qaC HXr.out 1;have fx2:=qaC HXr.out 2;go_wp2;refine bodyPost_ret (results_cell_row rfl _ _ W.heap.size 83 #[.int .i64 0,.int .i64 0,.int .i64 2] (0,0) _ rfl (qxG HXr.out _ _ _) Tryz.underlying83 rfl (by kernel_rfl)) rfl ?_;have HM3:=HM.out;rw [List.take_length] at HM3;have hF:qdM a=⟨0,0,2⟩:=by unfold qdM AC.hit;rw [HM3]
   rw [hF];exact ⟨rfl,(H1.out.grow HBr.out).other3 HXr.out (qaG H.out.below) (fun k hk=>Nat.ne_of_lt hk) (Kd.R_below HPB.out HBr.out) _ _ _,(HK.out.trans (qaP.of_below HBr.out)).set3 (Nat.le_refl _) _ _ _⟩
end
section
theorem qiD {W W':World} (h:W.grownBy W' none):Below W.heap.size W W':=(Below.refl _ W).grown h (Nat.le_refl _) (fun k e=>by cases e)
theorem qkY {P:Program} {W:World} {t e ty:TypeId} {i:TypeInfo} (g0:Addr) (ad:Addr) (m c:Nat) (hm:0 < m) (ht:P.underlying t=some (.slice e)) (hi:P.info? e=some i) (hb0:0 < i.bytes) (hb:m*i.bytes≤140737488355328) :
  (Builtin.append_ #[t,t] ty #[.slice (some g0) 0 0,.slice (some ad) m c]).run P W=(Builtin.append_ #[t,t] ty #[.slice none 0 0,.slice (some ad) m c]).run P W:=by
 have h1:¬ m=0:=by omega
 have h2:Builtin.nextslicecap m 0=m:=by unfold Builtin.nextslicecap;rw [if_pos (by omega)]
 have h3:¬ 281474976710656 < m*i.bytes:=by omega
 have h4:i.bytes ≠ 0:=by omega
 simp [Builtin.append_,run_underlying ht,sizeOf,typeInfo,hi,Builtin.lenOf,Builtin.firstCells,h1,h2,h3,h4,loadCells,loadCellsFrom]
section
variable {P:Program} {ops:Array Oper} {o:Oper} {a:Act} {Q:Exit→Act→World→Prop} {Kc:Act→World→Prop} {α:Type}
theorem qfR (d:Kd α) {w0 W:World} (base:Nat) (hw:Region.wanted o (yielded ops a.tmps)=true) (s x:Operand) (t e:TypeId) (z:Value) (bytes:Nat)
  (ho:o.op=.call { callee:=.builtin .append,args:=#[s,x],argTypes:=#[t,t] })
  (ht:P.underlying t=some (.slice e)) (hinfo:(P.info? e).map (fun i=>(i.zero,i.size,i.bytes))=some (some z,d.sz,bytes)) (hz:z.cells.size=d.sz) (hs0:0 < d.sz) (hb0:0 < bytes)
  (g0:Addr) (ys:List α) (A:Option Addr) (m c:Nat) (ok okp:Nat→Prop) (hs:a.eval s=.slice (some g0) 0 0) (hx:a.eval x=.slice A m c)
  (HO:d.R e W base ok (.slice (some g0) 0 0) []) {Rr:α→List Value→Prop} (HR:qcF Rr d.sz W A m ys) (hKM:∀ x cs,Rr x cs→d.M W base okp x cs) (hokp:∀ k,okp k→ok k) (hfresh:∀ k,W.heap.size≤k→ok k)
  (HB:Below base w0 W) (hbase:base≤W.heap.size) (hl:m*bytes≤140737488355328)
  (h:∀ v1 w1,d.R e w1 base ok v1 ys→Below W.heap.size W w1→Kc (a.put o.dst v1) w1) :
  if Region.wanted o (yielded ops a.tmps)=true then Oper.wp P o a W Kc Q else Kc (a.put o.dst undef) W:=by
 obtain ⟨i0,hi,hzz⟩:=Option.map_eq_some_iff.1 hinfo;simp only [Prod.mk.injEq] at hzz;obtain ⟨hz0,hz1,hz2⟩:=hzz;have hm:ys.length=m:=HR.1
 have hrun:∃ v1 w1,(Builtin.append_ #[t,t] o.type #[.slice (some g0) 0 0,.slice A m c]).run P W=.ok v1 w1∧d.R e w1 base ok v1 ys∧Below W.heap.size W w1:=by
  rcases Nat.eq_zero_or_pos m with h0|h0
  ·subst h0;obtain rfl:ys=[]:=List.eq_nil_of_length_eq_zero hm;refine ⟨_,W,?_,HO,Below.refl _ _⟩
   rcases A with _|ad
   ·simp [Builtin.append_,run_underlying ht,sizeOf,typeInfo,hi,Builtin.lenOf,Builtin.firstCells,storeCells]
   ·simp [Builtin.append_,run_underlying ht,sizeOf,typeInfo,hi,Builtin.lenOf,Builtin.firstCells,storeCells,loadCells,loadCellsFrom]
  ·obtain ⟨ad,rfl,-⟩:=HR.2.2 h0;rw [qkY g0 ad m c h0 ht hi (by omega) (by rw [hz2];exact hl)];obtain ⟨news,hnr,hnc⟩:=qcF.inner_ HR;have hnM:qfK (d.M W base okp) d.sz ys news:=hnr.imp_ (fun p c hp=>hKM p c hp)
   have hone:∀ u ∈ news,u.oneCell'=true:=by
    intro u hu;obtain ⟨q,hq,rfl⟩:=List.mem_iff_getElem.1 hu
    have hql:q / d.sz < ys.length:=by
     rw [Nat.div_lt_iff_lt_mul hs0];rw [← hnM.1];exact hq
    have hc:=hnM.2 (q / d.sz) _ (List.getElem?_eq_getElem hql);refine d.K_one (d.K_of_M hc) _ ?_;rw [List.mem_iff_getElem?];refine ⟨q % d.sz,?_⟩;rw [List.getElem?_take,if_pos (Nat.mod_lt _ hs0),List.getElem?_drop,Nat.mul_comm,Nat.div_add_mod,List.getElem?_eq_getElem hq]
   have hlm:m≤m*bytes:=Nat.le_mul_of_pos_right _ hb0
   obtain ⟨hok,inner,hown,hr⟩:=(Kd.R_nil d e W base ok:d.R e W base ok (.slice none 0 0) [])
   obtain ⟨v1,w1,hrun,h2,hg,_,hat⟩:=run_append_own_at (P:=P) W base t o.type e i0 z d.sz bytes ht hi hz0 hz1 hz2 hz hs0 (.slice none 0 0) 0 inner hown ad m c news (by rw [hnM.1,hm]) hnc hone (by simp only [maxLen];omega) (by rw [Nat.zero_add];exact hl) hbase;have hbb:Below W.heap.size W w1:=qiD hg;obtain rfl:inner=[]:=by simpa using hown.1
   have hb1:∀ k,some k=v1.ownBlock→W.heap.size≤k:=by
    intro k hk
    rcases hat with hat|hat
    ·rw [hat] at hk;simp [Value.ownBlock] at hk
    ·rw [hat] at hk;injection hk with hk;omega
   refine ⟨v1,w1,hrun,⟨fun k hk=>hfresh k (hb1 k hk.symm),news,by rw [hm];simpa using h2,hnM.imp_ (fun p c hp=>?_)⟩,hbb⟩;exact d.M_mono (fun k hk=>⟨hokp k hk.1,fun he=>by have:=hb1 k he;have:=hk.2.2.1;omega⟩) (Kd.M_below (d.M_bound hp) hbb)
 obtain ⟨v1,w1,hr1,h1,hb⟩:=hrun;rw [if_pos hw];unfold Oper.wp execOp;simp only [ho,resolve,invoke,builtin,Sem.run_bind,Sem.run_pure,Result.andThen_ok,List.map_toArray,List.map_cons,List.map_nil,hs,hx,hr1];exact h v1 w1 h1 hb
end
theorem qhA {P:Program} {ops:Array Oper} {o:Oper} {ac:Act} {Q:Exit→Act→World→Prop} {Kc:Act→World→Prop} {w0 W:World} (e:Nat) (hw:Region.wanted o (yielded ops ac.tmps)=true)
  (hrun:(execOp ac.eval o).run P W=.ok (.value (.slice (some ⟨W.heap.size,0,none⟩) 0 0)) (W.alloc (.cells #[] e))) (HB:Below w0.heap.size w0 W) (hbase:w0.heap.size≤W.heap.size)
  (h:∀ v1 w1 b,v1=.slice (some ⟨b,0,none⟩) 0 0→Kd.R kB e w1 w0.heap.size (fun _=>True) (.slice (some ⟨b,0,none⟩) 0 0) []→Below W.heap.size W w1→Kc (ac.put o.dst v1) w1) :
  if Region.wanted o (yielded ops ac.tmps)=true then Oper.wp P o ac W Kc Q else Kc (ac.put o.dst undef) W:=by
 refine qiO hw hrun (h _ _ _ rfl ⟨fun k hk=>trivial,[],?_,qfK.none _ _⟩ (qaA (Below.refl _ _) _));have h2:=World.ownsRow_lit (base:=w0.heap.size) (e:=e) (size:=kB.sz) W #[] 0 hbase (by decide) (by simp)
 simpa using h2
theorem At.imp {W:World} {g t:Nat} {f f':Nat→Option Value} (h:At W g t f) (hf:∀ o v,f' o=some v→f o=some v):At W g t f':=by
 obtain ⟨cells,h1,h2⟩:=h;exact ⟨cells,h1,fun o v hv=>h2 o v (hf o v hv)⟩
abbrev put3 (W:World) (g o:Nat) (x y z:Value):World:=((W.setCell ⟨g,o,none⟩ x).setCell ⟨g,o+1,none⟩ y).setCell ⟨g,o+2,none⟩ z
theorem At.put3 {W:World} {g t:Nat} {f:Nat→Option Value} (h:At W g t f) {o:Nat} (x y z:Value) (h0:(f o).isSome) (h1:(f (o+1)).isSome) (h2:(f (o+2)).isSome):At (put3 W g o x y z) g t (fun q=>if q=o then some x else if q=o+1 then some y else if q=o+2 then some z else f q):=by
 obtain ⟨u0,e0⟩:=Option.isSome_iff_exists.1 h0;obtain ⟨u1,e1⟩:=Option.isSome_iff_exists.1 h1;obtain ⟨u2,e2⟩:=Option.isSome_iff_exists.1 h2;have a1:=h.set (f':=fun q=>if q=o then some x else f q) e0 (fun w hw=>by simpa using hw.symm) (fun q hq=>if_neg hq)
 have a2:=a1.set (f':=fun q=>if q=o then some x else if q=o+1 then some y else f q) (o:=o+1) (v:=y) (u:=u1) (by rw [if_neg (by omega)];exact e1) (fun w hw=>by simpa using hw.symm) (fun q hq=>by
  by_cases h:q=o
  ·rw [if_pos h,if_pos h]
  ·rw [if_neg h,if_neg h,if_neg hq])
 exact a2.set (o:=o+2) (v:=z) (u:=u2) (by rw [if_neg (by omega),if_neg (by omega)];exact e2) (fun w hw=>by simpa using hw.symm) (fun q hq=>by
  by_cases h:q=o
  ·rw [if_pos h,if_pos h]
  ·rw [if_neg h,if_neg h]
   by_cases h':q=o+1
   ·rw [if_pos h',if_pos h']
   ·rw [if_neg h',if_neg h',if_neg hq])
theorem qeM {W:World} {g o q:Nat} {x y z:Value} (h:q ≠ g):(put3 W g o x y z).heap[q]?=W.heap[q]?:=by
 unfold put3;rw [Below.heap_setCell _ _ _ _ h,Below.heap_setCell _ _ _ _ h,Below.heap_setCell _ _ _ _ h]
variable {w0 W:World} {gd:Nat} {m:DM} {a:AC}
def DM.setV (m:DM) (i j:Nat) (v:Value):DM:={ m with pv:=fun x y=>if x=i∧y=j then v else m.pv x y }
theorem DS.page (h:DS w0 W gd m a) (i:Nat) (hi:i < a.g.B) (j:Nat) (hj:j < a.g.P) (st:Int) (v:Value) (xs:List Int) (hv:Kd.R kB 5 W w0.heap.size (fun _=>True) v xs) :
  DS w0 (put3 W (m.gp i) (j*3) (.bool (!(st==0))) (.bool (st==2)) v) gd (m.setV i j v) (a.setBk i ((a.bk i).setPg j ⟨st,xs⟩)):=by
 have hne:∀ {q:Nat} {cs:Array Value} {t:Nat},W.heap[q]?=some (.cells cs t (0,0))→164 ≠ t→q ≠ m.gp i:=fun hq ht=>((h.p i hi).ne hq ht).symm
 have hR:∀ {u:Value} {l:List Int},Kd.R kB 5 W w0.heap.size (fun _=>True) u l→Kd.R kB 5 (put3 W (m.gp i) (j*3) (.bool (!(st==0))) (.bool (st==2)) v) w0.heap.size (fun _=>True) u l:=fun hu=>by
  obtain ⟨cs,h1,-⟩:=h.p i hi;exact Kd.R_set (Kd.R_set (Kd.R_set hu h1 (by decide) _ _) (qbW h1 _ _) (by decide) _ _) (qbW (qbW h1 _ _) _ _) (by decide) _ _
 have hB:dB (m.setV i j v).gp (a.setBk i ((a.bk i).setPg j ⟨st,xs⟩))=dB m.gp a:=by
  funext o
  unfold dB
  by_cases hx:o / 4=i <;> simp [AC.setBk,ABk.setPg,DM.setV,hx]
 have hsome:∀ o,o / 3 < a.g.P→(dP a.g.P (a.bk i) (m.pv i) o).isSome:=fun o ho=>by unfold dP;rw [if_pos ho];rfl
 refine ⟨?_,?_,fun x hx=>?_,h.inj,h.ec,h.eb,h.ep,fun x y hx hy=>?_,?_,qaH (qaH (qaH h.below (h.ep i hi)) (h.ep i hi)) (h.ep i hi),h.gok,h.cap⟩
 ·exact (qeM (hne h.c (by decide))).trans h.c
 ·rw [hB];exact h.b.keep (fun _ hk=>(qeM (hne hk (by decide))).trans hk)
 ·by_cases hxi:x=i
  ·subst hxi;refine ((h.p x hi).put3 (o:=j*3) (.bool (!(st==0))) (.bool (st==2)) v (hsome _ (by omega)) (hsome _ (by omega)) (hsome _ (by omega))).imp (fun o w hw=>?_);have hbk:(a.setBk x ((a.bk x).setPg j ⟨st,xs⟩)).bk x=(a.bk x).setPg j ⟨st,xs⟩:=by simp [AC.setBk]
   rw [hbk] at hw;change dP a.g.P _ _ o=some w at hw;unfold dP at hw
   by_cases hoj:o / 3=j
   ·rw [if_pos (by omega),hoj] at hw;have hpg:((a.bk x).setPg j ⟨st,xs⟩).pg j=⟨st,xs⟩:=by simp [ABk.setPg]
    have hpv:(m.setV x j v).pv x j=v:=by simp [DM.setV]
    rw [hpg,hpv] at hw
    by_cases h0:o % 3=0
    ·rw [if_pos h0] at hw;rw [if_pos (by omega)];exact hw
    ·rw [if_neg h0] at hw
     by_cases h1:o % 3=1
     ·rw [if_pos h1] at hw;rw [if_neg (by omega),if_pos (by omega)];exact hw
     ·rw [if_neg h1] at hw;rw [if_neg (by omega),if_neg (by omega),if_pos (by omega)];exact hw
   ·rw [if_neg (by omega),if_neg (by omega),if_neg (by omega)];unfold dP;have hpg:((a.bk x).setPg j ⟨st,xs⟩).pg (o / 3)=(a.bk x).pg (o / 3):=by simp [ABk.setPg,hoj]
    have hpv:(m.setV x j v).pv x (o / 3)=m.pv x (o / 3):=by simp [DM.setV,hoj]
    rw [hpg,hpv] at hw;exact hw
  ·have hbk:(a.setBk i ((a.bk i).setPg j ⟨st,xs⟩)).bk x=a.bk x:=by simp [AC.setBk,hxi]
   have hpv:(m.setV i j v).pv x=m.pv x:=by funext y;simp [DM.setV,hxi]
   rw [hbk,hpv];exact (h.p x hx).keep (fun _ hk=>(qeM (fun e=>hxi (h.inj x i hx hi e))).trans hk)
 ·by_cases hxy:x=i∧y=j
  ·obtain ⟨rfl,rfl⟩:=hxy;have e1:(m.setV x y v).pv x y=v:=by simp [DM.setV]
   have e2:((a.setBk x ((a.bk x).setPg y ⟨st,xs⟩)).bk x).pg y=⟨st,xs⟩:=by simp [AC.setBk,ABk.setPg]
   rw [e1,e2];exact hR hv
  ·have e1:(m.setV i j v).pv x y=m.pv x y:=by simp only [DM.setV,if_neg hxy]
   have e2:((a.setBk i ((a.bk i).setPg j ⟨st,xs⟩)).bk x).pg y=(a.bk x).pg y:=by
    by_cases hx2:x=i
    ·subst hx2;have:y ≠ j:=fun e=>hxy ⟨rfl,e⟩
     simp [AC.setBk,ABk.setPg,this]
    ·simp [AC.setBk,hx2]
   rw [e1,e2];exact hR (h.d x y hx hy)
 ·obtain ⟨cs,h1,-⟩:=h.p i hi;exact Kd.R_set (Kd.R_set (Kd.R_set h.pln h1 (by decide) _ _) (qbW h1 _ _) (by decide) _ _) (qbW (qbW h1 _ _) _ _) (by decide) _ _
theorem qcI (gp:Nat→Nat) (a:AC) (i:Nat) (hi:i < a.g.B):dB gp a (i*4)=some (.slice (some ⟨gp i,0,none⟩) a.g.P a.g.P)∧dB gp a (i*4+1)=some (.int .i64 (a.bk i).nx)∧dB gp a (i*4+2)=some (.bool (a.bk i).bad)∧dB gp a (i*4+3)=some (.int .i64 (a.bk i).er):=by
 unfold dB;refine ⟨?_,?_,?_,?_⟩
 ·rw [if_pos (by omega),if_pos (by omega),show i*4 / 4=i by omega]
 ·rw [if_pos (by omega),if_neg (by omega),if_pos (by omega),show (i*4+1) / 4=i by omega]
 ·rw [if_pos (by omega),if_neg (by omega),if_neg (by omega),if_pos (by omega),show (i*4+2) / 4=i by omega]
 ·rw [if_pos (by omega),if_neg (by omega),if_neg (by omega),if_neg (by omega),show (i*4+3) / 4=i by omega]
theorem DS.nx (h:DS w0 W gd m a) (i:Nat) (hi:i < a.g.B) (x:Int):DS w0 (W.setCell ⟨m.gb,i*4+1,none⟩ (.int .i64 x)) gd m (a.setBk i { a.bk i with nx:=x }):=by
 refine h.setB (i*4+1) _ (by omega) (fun w hw=>?_) (fun o ho=>?_) rfl rfl (fun j _=>?_) rfl
 ·have e:=(qcI m.gp (a.setBk i { a.bk i with nx:=x }) i hi).2.1;rw [e] at hw;simp [AC.setBk] at hw;exact hw.symm
 ·unfold dB;show (if o / 4 < a.g.B then _ else _)=_
  by_cases hxi:o / 4=i
  ·by_cases h2:o % 4=1
   ·exact absurd (by omega) ho
   ·simp [AC.setBk,hxi,h2]
  ·simp [AC.setBk,hxi]
 ·by_cases hj:j=i <;> simp [AC.setBk,hj]
theorem DS.er (h:DS w0 W gd m a) (i:Nat) (hi:i < a.g.B) (x:Int):DS w0 (W.setCell ⟨m.gb,i*4+3,none⟩ (.int .i64 x)) gd m (a.setBk i { a.bk i with er:=x }):=by
 refine h.setB (i*4+3) _ (by omega) (fun w hw=>?_) (fun o ho=>?_) rfl rfl (fun j _=>?_) rfl
 ·have e:=(qcI m.gp (a.setBk i { a.bk i with er:=x }) i hi).2.2.2;rw [e] at hw;simp [AC.setBk] at hw;exact hw.symm
 ·unfold dB;show (if o / 4 < a.g.B then _ else _)=_
  by_cases hxi:o / 4=i
  ·by_cases h2:o % 4=3
   ·exact absurd (by omega) ho
   ·by_cases h0:o % 4=0
    ·simp [AC.setBk,hxi,h0]
    ·by_cases h1:o % 4=1
     ·simp [AC.setBk,hxi,h1]
     ·have h3:o % 4=2:=by omega
      simp [AC.setBk,hxi,h3]
  ·simp [AC.setBk,hxi]
 ·by_cases hj:j=i <;> simp [AC.setBk,hj]
end
section
variable {w0 W:World} {gd:Nat} {m:DM} {a:AC}
theorem qsP {P:Program} {o:Oper} {y:Nat→Option Bool} {a:Act} {w:World} {K:Act→World→Prop} {Q:Exit→Act→World→Prop} {E:Prop} (h:Region.wanted o y=true) (hx:if Region.wanted o y=true then Oper.wp P o a w K Q else E):Oper.wp P o a w K Q:=by rwa [if_pos h] at hx
theorem qgG (P:Nat) (b:ABk) (v:Nat→Value) (j:Nat) (hj:j < P):dP P b v (j*3)=some (.bool (!((b.pg j).st==0)))∧dP P b v (j*3+1)=some (.bool ((b.pg j).st==2))∧dP P b v (j*3+2)=some (v j):=by
 unfold dP;refine ⟨?_,?_,?_⟩
 ·rw [if_pos (by omega),if_pos (by omega),show j*3 / 3=j by omega]
 ·rw [if_pos (by omega),if_neg (by omega),if_pos (by omega),show (j*3+1) / 3=j by omega]
 ·rw [if_pos (by omega),if_neg (by omega),if_neg (by omega),show (j*3+2) / 3=j by omega]
theorem qrL (a:AC) (i:Nat) (b:ABk) (x:Int):(a.setBk i b).setBk i { (a.setBk i b).bk i with nx:=x }=a.setBk i { b with nx:=x }:=by
 unfold AC.setBk
 congr 1
 funext y
 by_cases hy:y=i <;> simp [hy]
theorem qaP.put3 {W w':World} (h:qaP W w') {g:Nat} {f:Nat→Option Value} (hg:At w' g 164 f) (o:Nat) (x y z:Value):qaP W (put3 w' g o x y z):=by
 obtain ⟨cs,h1,-⟩:=hg;exact ((h.set ⟨_,h1⟩ (by decide) _ _).set ⟨_,qbW h1 _ _⟩ (by decide) _ _).set ⟨_,qbW (qbW h1 _ _) _ _⟩ (by decide) _ _
theorem qtW (h:DS w0 W gd m a) (t:Int) (hf:qdM a=⟨t,2,0⟩) (ho:a.off=false) (i:Nat) (hi:i < a.g.B) (j:Nat) (hj:j < a.g.P) (hbd:(a.bk i).bad=false) (hnx:(a.bk i).nx=(j:Int)) (A:Option Addr) (c:Nat) (l:List Int) (hr:∀ w',Below w0.heap.size w0 w'→qaP W w'→Kd.C kB w' A l.length l) (hc:l.length≤c) (hlz:l.length≤a.g.Z) :
  Calls Tryz.prog 62 #[cp gd,.int .i64 i,.int .i64 j,.slice A l.length c] W fun e w'=>e=.returned (.int .i64 5)∧qbT w0 w' gd (a.tick.put i j 2 [])∧qaP W w':=by
 have HASK:=aM (qcE h (i:Int));rw [show qhD a (i:Int)=0 from (if_neg (by rw [ho];decide)).trans (if_neg (by omega))] at HASK;have H:=aM h
 have HFA:=aM (fun (w1:World) (hb:Below W.heap.size W w1)=>(show Calls Tryz.prog 118 #[cp gd] w1 (fun e w'=>e=.returned (.agg #[.int .i64 t,.int .i64 2,.int .i64 0])∧DS w0 w' gd m a.tick∧qaP w1 w') from by
  have h1:=qeF (h.grow hb);rw [hf] at h1
  exact h1))
 have HI:=aM hi;have HJ:=aM hj;have HLZ:=aM hlz;have HRD:=aM hr;have HCC:=aM hc;have HBD:=aM hbd;have HNX:=aM hnx;have hq:(i < a.g.B)=True:=eq_true hi;have hqi:((i:Int) < (a.g.B:Int))=True:=eq_true (by omega);have hp:(j < a.g.P)=True:=eq_true hj;have hpi:((j:Int) < (a.g.P:Int))=True:=eq_true (by omega);have d1:decide ((j:Int) < 0)=false:=decide_eq_false (by omega);have d2:decide ((a.g.P:Int)≤(j:Int))=false:=decide_eq_false (by omega);have d3:decide ((a.g.Z:Int) < (l.length:Int))=false:=decide_eq_false (by omega);have d2n:(a.g.P≤j)=False:=eq_false (by omega);have d3n:(a.g.Z < l.length)=False:=eq_false (by omega);have hu71:=Tryz.underlying83;have hu103:=Tryz.underlying103;have hu122:=Tryz.underlying164;have hu100:=Tryz.underlying100;clear h hf ho hi hj hbd hnx hr hc hlz;go_enter Tryz.func62,Tryz.ntmps62
 go_upto_region 11 with (first
  | (go_at_call 117;(with_reducible refine HASK.out.mono ?_);rintro e w1 ⟨rfl,hb1⟩;have HB1:=aM hb1;have h1:=H.out.grow hb1;have H1:=aM h1;have c1:w1.cell? ⟨gd,1,none⟩=some (.int .i64 a.g.P):=h1.cell 1;have c2:w1.cell? ⟨gd,2,none⟩=some (.int .i64 a.g.Z):=h1.cell 2;have c4:w1.cell? ⟨gd,4,none⟩=some (.slice (some ⟨m.gb,0,none⟩) a.g.B m.cap):=h1.cell 4;have cb:w1.cell? ⟨m.gb,i*4+2,none⟩=some (.bool false):=(h1.b.cell (qcI m.gp a i HI.out).2.2.1).trans (by rw [HBD.out]);have cn:w1.cell? ⟨m.gb,i*4+1,none⟩=some (.int .i64 (j:Int)):=(h1.b.cell (qcI m.gp a i HI.out).2.1).trans (by rw [HNX.out]);clear hb1 h1)
  | (go_at_call 118;(with_reducible refine (HFA.out _ HB1.out).mono ?_);rintro e w2 ⟨rfl,h2,hk2⟩;have H2:=aM h2;have HK2:=aM ((qaP.of_below HB1.out).trans hk2);clear h2 hk2))
 obtain ⟨gx,hgx⟩:∃ gx,gx=w2.heap.size:=⟨_,rfl⟩
 generalize hW:w2.alloc (.cells #[.int .i64 t,.int .i64 2,.int .i64 0] 83)=W3;have HBX:=aM (show Below w2.heap.size w2 W3 by rw [← hW];exact qaA (Below.refl _ _) _);have HX3:=aM (show W3.heap[gx]?=some (.cells #[.int .i64 t,.int .i64 2,.int .i64 0] 83 (0,0)) by rw [← hW,hgx];exact qaV _ _ _);have H3:=aM (H2.out.grow HBX.out);have HK3:=aM (HK2.out.trans (qaP.of_below HBX.out));have HGX:=aM (show w0.heap.size≤gx by rw [hgx];exact qaG H2.out.below);rw [← hgx];clear hW c1 c2 c4 cb cn;have HPB3:=aM (show Kd.R kF 83 W3 w0.heap.size (fun k=>k < gx) m.plan a.pl from Kd.R_below (Kd.R_mono (Kd.R_bound H2.out.pln) (fun k hk=>by rw [hgx];exact hk.2.2.1)) HBX.out)
 have HGK:=aM (show ∀ (k:Nat) (cs:Array Value) (t:Nat) (fr:Nat × Nat),W.heap[k]?=some (.cells cs t fr)→t ≠ 100→t ≠ 103→t ≠ 164→k ≠ gx from fun k cs t fr hk h1 h2 h3 e=>by
  have:=qbR (HK2.out k cs t fr h1 h2 h3 hk)
  omega)
 clear hgx;have x1:=jC HX3.out 1;have x2:=jC HX3.out 2;have fx2:=qaC HX3.out 2
 go_upto_region 13 with (fail)
 generalize hW4:W3.setCell ⟨gx,2,none⟩ (.int .i64 1)=W4;have HX4:=aM (show W4.heap[gx]?=some (.cells #[.int .i64 t,.int .i64 2,.int .i64 1] 83 (0,0)) by rw [← hW4];exact qaU HX3.out 2 _ rfl);have H4:=aM (show DS w0 W4 gd m a.tick by rw [← hW4];exact H3.out.other HX3.out HGX.out 2 _ (Kd.R_mono (Kd.R_far HPB3.out (p:=⟨gx,2,none⟩) (fun k hk=>Nat.ne_of_lt hk) _) (fun _ _=>trivial)))
 have HK4:=aM (show qaP W W4 by
  rw [← hW4];intro k cs t fr h1 h2 h3 hk
  exact (Below.heap_setCell W3 ⟨gx,2,none⟩ _ k (HGK.out k cs t fr hk h1 h2 h3)).trans (HK3.out k cs t fr h1 h2 h3 hk))
 clear hW4 x1 x2 fx2;have x0:=jC HX4.out 0;have x1:=jC HX4.out 1;have x2:=jC HX4.out 2;have hb4:=H4.out.b.cell (qcI m.gp a.tick i HI.out).1;have hpp:=H4.out.p i HI.out;have r0:=hpp.cell (qgG a.g.P (a.tick.bk i) (m.pv i) j HJ.out).1;have r1:=hpp.cell (qgG a.g.P (a.tick.bk i) (m.pv i) j HJ.out).2.1;have r2:=hpp.cell (qgG a.g.P (a.tick.bk i) (m.pv i) j HJ.out).2.2;have fr0:=hpp.frozen (j*3);have fr1:=hpp.frozen (j*3+1);have fr2:=hpp.frozen (j*3+2);change _=some (Value.slice (some ⟨m.gp i,0,none⟩) a.g.P a.g.P) at hb4;clear hpp
 go_upto_region 15 with (fail)
 generalize hW5:((W4.setCell ⟨m.gp i,j*3,none⟩ (.bool true)).setCell ⟨m.gp i,j*3+1,none⟩ (.bool true)).setCell ⟨m.gp i,j*3+2,none⟩ (.slice none 0 0)=W5;have H5:=aM (show DS w0 W5 gd (m.setV i j (.slice none 0 0)) (a.tick.setBk i ((a.tick.bk i).setPg j ⟨2,[]⟩)) by rw [← hW5];exact H4.out.page i HI.out j HJ.out 2 (.slice none 0 0) [] (Kd.R_nil _ _ _ _ _));have HX5:=aM (show W5.heap[gx]?=some (.cells #[.int .i64 t,.int .i64 2,.int .i64 1] 83 (0,0)) by rw [← hW5];exact (qeM (Ne.symm ((H4.out.p i HI.out).ne HX4.out (by decide)))).trans HX4.out);have HK5:=aM (show qaP W W5 by rw [← hW5];exact HK4.out.put3 (H4.out.p i HI.out) _ _ _ _);clear hW5 hb4 r0 r1 r2 fr0 fr1 fr2 x0 x1 x2;have x0:=jC HX5.out 0;have x1:=jC HX5.out 1;have x2:=jC HX5.out 2
 have cn:W5.cell? ⟨m.gb,i*4+1,none⟩=some (.int .i64 (j:Int)):=by
  have e5:=H5.out.b.cell (qcI (m.setV i j (.slice none 0 0)).gp (a.tick.setBk i ((a.tick.bk i).setPg j ⟨2,[]⟩)) i HI.out).2.1;have this:((a.tick.setBk i ((a.tick.bk i).setPg j ⟨2,[]⟩)).bk i).nx=(a.bk i).nx:=by simp [AC.setBk,ABk.setPg,AC.tick]
  rw [this,HNX.out] at e5;exact e5
 have fn:W5.frozen? ⟨m.gb,i*4+1,none⟩=false:=H5.out.b.frozen (i*4+1)
 go_upto_region 19 with (fail)
 generalize hW6:W5.setCell ⟨m.gb,i*4+1,none⟩ (.int .i64 (wrap64 ((j:Int)+1)))=W6
 have H6:=aM (show DS w0 W6 gd (m.setV i j (.slice none 0 0)) (a.tick.put i j 2 []) by
  rw [← hW6];have h6:=H5.out.nx i HI.out (wrap64 ((j:Int)+1));rw [qrL] at h6
  exact h6)
 have HX6:=aM (show W6.heap[gx]?=some (.cells #[.int .i64 t,.int .i64 2,.int .i64 1] 83 (0,0)) by rw [← hW6];exact qaR HX5.out (H5.out.b.ne HX5.out (by decide)).symm _);have HK6:=aM (show qaP W W6 by rw [← hW6];exact HK5.out.set (by obtain ⟨cs,h1,-⟩:=H5.out.b;exact ⟨cs,h1⟩) (by decide) _ _);clear hW6 x0 x1 x2 cn fn;have x0:=jC HX6.out 0;have x1:=jC HX6.out 1;have x2:=jC HX6.out 2;have HTD:=aM (show Calls Tryz.prog 119 #[cp gd,.agg #[.int .i64 t,.int .i64 2,.int .i64 1]] W6 (fun e w'=>e=.returned (.int .i64 5)∧DS w0 w' gd (m.setV i j (.slice none 0 0)) ((a.tick.put i j 2 []))∧qaP W6 w') from qfH H6.out ⟨t,2,1⟩)
 go_wp2_with (first
  | (go_at_call 119;(with_reducible refine HTD.out.mono ?_);rintro e w7 ⟨rfl,h7,hk7⟩;have H7:=aM h7;have HK7:=aM (HK6.out.trans hk7);clear h7 hk7))
 go_ret;exact ⟨rfl,⟨_,H7.out⟩,HK7.out⟩
theorem qtZ (h:DS w0 W gd m a) (t:Int) (hf:qdM a=⟨t,1,0⟩) (ho:a.off=false) (i:Nat) (hi:i < a.g.B) (j:Nat) (hj:j < a.g.P) (hbd:(a.bk i).bad=false) (hnx:(a.bk i).nx=(j:Int)) (A:Option Addr) (c:Nat) (l:List Int) (hr:∀ w',Below w0.heap.size w0 w'→qaP W w'→Kd.C kB w' A l.length l) (hc:l.length≤c) (hlz:l.length≤a.g.Z) :
  Calls Tryz.prog 62 #[cp gd,.int .i64 i,.int .i64 j,.slice A l.length c] W fun e w'=>e=.returned (.int .i64 6)∧qbT w0 w' gd (a.tick.cut)∧qaP W w':=by
 have HASK:=aM (qcE h (i:Int));rw [show qhD a (i:Int)=0 from (if_neg (by rw [ho];decide)).trans (if_neg (by omega))] at HASK;have H:=aM h
 have HFA:=aM (fun (w1:World) (hb:Below W.heap.size W w1)=>(show Calls Tryz.prog 118 #[cp gd] w1 (fun e w'=>e=.returned (.agg #[.int .i64 t,.int .i64 1,.int .i64 0])∧DS w0 w' gd m a.tick∧qaP w1 w') from by
  have h1:=qeF (h.grow hb);rw [hf] at h1
  exact h1))
 have HI:=aM hi;have HJ:=aM hj;have HLZ:=aM hlz;have HRD:=aM hr;have HCC:=aM hc;have HBD:=aM hbd;have HNX:=aM hnx;have hq:(i < a.g.B)=True:=eq_true hi;have hqi:((i:Int) < (a.g.B:Int))=True:=eq_true (by omega);have hp:(j < a.g.P)=True:=eq_true hj;have hpi:((j:Int) < (a.g.P:Int))=True:=eq_true (by omega);have d1:decide ((j:Int) < 0)=false:=decide_eq_false (by omega);have d2:decide ((a.g.P:Int)≤(j:Int))=false:=decide_eq_false (by omega);have d3:decide ((a.g.Z:Int) < (l.length:Int))=false:=decide_eq_false (by omega);have d2n:(a.g.P≤j)=False:=eq_false (by omega);have d3n:(a.g.Z < l.length)=False:=eq_false (by omega);have hu71:=Tryz.underlying83;have hu103:=Tryz.underlying103;have hu122:=Tryz.underlying164;have hu100:=Tryz.underlying100;clear h hf ho hi hj hbd hnx hr hc hlz;go_enter Tryz.func62,Tryz.ntmps62
 go_upto_region 11 with (first
  | (go_at_call 117;(with_reducible refine HASK.out.mono ?_);rintro e w1 ⟨rfl,hb1⟩;have HB1:=aM hb1;have h1:=H.out.grow hb1;have H1:=aM h1;have c1:w1.cell? ⟨gd,1,none⟩=some (.int .i64 a.g.P):=h1.cell 1;have c2:w1.cell? ⟨gd,2,none⟩=some (.int .i64 a.g.Z):=h1.cell 2;have c4:w1.cell? ⟨gd,4,none⟩=some (.slice (some ⟨m.gb,0,none⟩) a.g.B m.cap):=h1.cell 4;have cb:w1.cell? ⟨m.gb,i*4+2,none⟩=some (.bool false):=(h1.b.cell (qcI m.gp a i HI.out).2.2.1).trans (by rw [HBD.out]);have cn:w1.cell? ⟨m.gb,i*4+1,none⟩=some (.int .i64 (j:Int)):=(h1.b.cell (qcI m.gp a i HI.out).2.1).trans (by rw [HNX.out]);clear hb1 h1)
  | (go_at_call 118;(with_reducible refine (HFA.out _ HB1.out).mono ?_);rintro e w2 ⟨rfl,h2,hk2⟩;have H2:=aM h2;have HK2:=aM ((qaP.of_below HB1.out).trans hk2);clear h2 hk2))
 obtain ⟨gx,hgx⟩:∃ gx,gx=w2.heap.size:=⟨_,rfl⟩
 generalize hW:w2.alloc (.cells #[.int .i64 t,.int .i64 1,.int .i64 0] 83)=W3;have HBX:=aM (show Below w2.heap.size w2 W3 by rw [← hW];exact qaA (Below.refl _ _) _);have HX3:=aM (show W3.heap[gx]?=some (.cells #[.int .i64 t,.int .i64 1,.int .i64 0] 83 (0,0)) by rw [← hW,hgx];exact qaV _ _ _);have H3:=aM (H2.out.grow HBX.out);have HK3:=aM (HK2.out.trans (qaP.of_below HBX.out));have HGX:=aM (show w0.heap.size≤gx by rw [hgx];exact qaG H2.out.below);rw [← hgx];clear hW c1 c2 c4 cb cn;clear hgx;have x0:=jC HX3.out 0;have x1:=jC HX3.out 1;have x2:=jC HX3.out 2;have HTD:=aM (show Calls Tryz.prog 119 #[cp gd,.agg #[.int .i64 t,.int .i64 1,.int .i64 0]] W3 (fun e w'=>e=.returned (.int .i64 6)∧DS w0 w' gd m (a.tick.cut)∧qaP W3 w') from qfH H3.out ⟨t,1,0⟩)
 go_wp2_with (first
  | (go_at_call 119;(with_reducible refine HTD.out.mono ?_);rintro e w7 ⟨rfl,h7,hk7⟩;have H7:=aM h7;have HK7:=aM (HK3.out.trans hk7);clear h7 hk7))
 go_ret;exact ⟨rfl,⟨_,H7.out⟩,HK7.out⟩
theorem qtY (h:DS w0 W gd m a) (t:Int) (hf:qdM a=⟨t,1,1⟩) (ho:a.off=false) (i:Nat) (hi:i < a.g.B) (j:Nat) (hj:j < a.g.P) (hbd:(a.bk i).bad=false) (hnx:(a.bk i).nx=(j:Int)) (A:Option Addr) (c:Nat) (l:List Int) (hr:∀ w',Below w0.heap.size w0 w'→qaP W w'→Kd.C kB w' A l.length l) (hc:l.length≤c) (hlz:l.length≤a.g.Z) :
  Calls Tryz.prog 62 #[cp gd,.int .i64 i,.int .i64 j,.slice A l.length c] W fun e w'=>e=.returned (.int .i64 6)∧qbT w0 w' gd (a.tick.cut.put i j 2 [])∧qaP W w':=by
 have HASK:=aM (qcE h (i:Int));rw [show qhD a (i:Int)=0 from (if_neg (by rw [ho];decide)).trans (if_neg (by omega))] at HASK;have H:=aM h
 have HFA:=aM (fun (w1:World) (hb:Below W.heap.size W w1)=>(show Calls Tryz.prog 118 #[cp gd] w1 (fun e w'=>e=.returned (.agg #[.int .i64 t,.int .i64 1,.int .i64 1])∧DS w0 w' gd m a.tick∧qaP w1 w') from by
  have h1:=qeF (h.grow hb);rw [hf] at h1
  exact h1))
 have HI:=aM hi;have HJ:=aM hj;have HLZ:=aM hlz;have HRD:=aM hr;have HCC:=aM hc;have HBD:=aM hbd;have HNX:=aM hnx;have hq:(i < a.g.B)=True:=eq_true hi;have hqi:((i:Int) < (a.g.B:Int))=True:=eq_true (by omega);have hp:(j < a.g.P)=True:=eq_true hj;have hpi:((j:Int) < (a.g.P:Int))=True:=eq_true (by omega);have d1:decide ((j:Int) < 0)=false:=decide_eq_false (by omega);have d2:decide ((a.g.P:Int)≤(j:Int))=false:=decide_eq_false (by omega);have d3:decide ((a.g.Z:Int) < (l.length:Int))=false:=decide_eq_false (by omega);have d2n:(a.g.P≤j)=False:=eq_false (by omega);have d3n:(a.g.Z < l.length)=False:=eq_false (by omega);have hu71:=Tryz.underlying83;have hu103:=Tryz.underlying103;have hu122:=Tryz.underlying164;have hu100:=Tryz.underlying100;clear h hf ho hi hj hbd hnx hr hc hlz;go_enter Tryz.func62,Tryz.ntmps62
 go_upto_region 11 with (first
  | (go_at_call 117;(with_reducible refine HASK.out.mono ?_);rintro e w1 ⟨rfl,hb1⟩;have HB1:=aM hb1;have h1:=H.out.grow hb1;have H1:=aM h1;have c1:w1.cell? ⟨gd,1,none⟩=some (.int .i64 a.g.P):=h1.cell 1;have c2:w1.cell? ⟨gd,2,none⟩=some (.int .i64 a.g.Z):=h1.cell 2;have c4:w1.cell? ⟨gd,4,none⟩=some (.slice (some ⟨m.gb,0,none⟩) a.g.B m.cap):=h1.cell 4;have cb:w1.cell? ⟨m.gb,i*4+2,none⟩=some (.bool false):=(h1.b.cell (qcI m.gp a i HI.out).2.2.1).trans (by rw [HBD.out]);have cn:w1.cell? ⟨m.gb,i*4+1,none⟩=some (.int .i64 (j:Int)):=(h1.b.cell (qcI m.gp a i HI.out).2.1).trans (by rw [HNX.out]);clear hb1 h1)
  | (go_at_call 118;(with_reducible refine (HFA.out _ HB1.out).mono ?_);rintro e w2 ⟨rfl,h2,hk2⟩;have H2:=aM h2;have HK2:=aM ((qaP.of_below HB1.out).trans hk2);clear h2 hk2))
 obtain ⟨gx,hgx⟩:∃ gx,gx=w2.heap.size:=⟨_,rfl⟩
 generalize hW:w2.alloc (.cells #[.int .i64 t,.int .i64 1,.int .i64 1] 83)=W3;have HBX:=aM (show Below w2.heap.size w2 W3 by rw [← hW];exact qaA (Below.refl _ _) _);have HX3:=aM (show W3.heap[gx]?=some (.cells #[.int .i64 t,.int .i64 1,.int .i64 1] 83 (0,0)) by rw [← hW,hgx];exact qaV _ _ _);have H3:=aM (H2.out.grow HBX.out);have HK3:=aM (HK2.out.trans (qaP.of_below HBX.out));have HGX:=aM (show w0.heap.size≤gx by rw [hgx];exact qaG H2.out.below);rw [← hgx];clear hW c1 c2 c4 cb cn;clear hgx;have x0:=jC HX3.out 0;have x1:=jC HX3.out 1;have x2:=jC HX3.out 2;have hb4:=H3.out.b.cell (qcI m.gp a.tick i HI.out).1;have hpp:=H3.out.p i HI.out;have r0:=hpp.cell (qgG a.g.P (a.tick.bk i) (m.pv i) j HJ.out).1;have r1:=hpp.cell (qgG a.g.P (a.tick.bk i) (m.pv i) j HJ.out).2.1;have r2:=hpp.cell (qgG a.g.P (a.tick.bk i) (m.pv i) j HJ.out).2.2;have fr0:=hpp.frozen (j*3);have fr1:=hpp.frozen (j*3+1);have fr2:=hpp.frozen (j*3+2);change _=some (Value.slice (some ⟨m.gp i,0,none⟩) a.g.P a.g.P) at hb4;clear hpp
 go_upto_region 15 with (fail)
 generalize hW5:((W3.setCell ⟨m.gp i,j*3,none⟩ (.bool true)).setCell ⟨m.gp i,j*3+1,none⟩ (.bool true)).setCell ⟨m.gp i,j*3+2,none⟩ (.slice none 0 0)=W5;have H5:=aM (show DS w0 W5 gd (m.setV i j (.slice none 0 0)) (a.tick.setBk i ((a.tick.bk i).setPg j ⟨2,[]⟩)) by rw [← hW5];exact H3.out.page i HI.out j HJ.out 2 (.slice none 0 0) [] (Kd.R_nil _ _ _ _ _));have HX5:=aM (show W5.heap[gx]?=some (.cells #[.int .i64 t,.int .i64 1,.int .i64 1] 83 (0,0)) by rw [← hW5];exact (qeM (Ne.symm ((H3.out.p i HI.out).ne HX3.out (by decide)))).trans HX3.out);have HK5:=aM (show qaP W W5 by rw [← hW5];exact HK3.out.put3 (H3.out.p i HI.out) _ _ _ _);clear hW5 hb4 r0 r1 r2 fr0 fr1 fr2 x0 x1 x2;have x0:=jC HX5.out 0;have x1:=jC HX5.out 1;have x2:=jC HX5.out 2
 have cn:W5.cell? ⟨m.gb,i*4+1,none⟩=some (.int .i64 (j:Int)):=by
  have e5:=H5.out.b.cell (qcI (m.setV i j (.slice none 0 0)).gp (a.tick.setBk i ((a.tick.bk i).setPg j ⟨2,[]⟩)) i HI.out).2.1;have this:((a.tick.setBk i ((a.tick.bk i).setPg j ⟨2,[]⟩)).bk i).nx=(a.bk i).nx:=by simp [AC.setBk,ABk.setPg,AC.tick]
  rw [this,HNX.out] at e5;exact e5
 have fn:W5.frozen? ⟨m.gb,i*4+1,none⟩=false:=H5.out.b.frozen (i*4+1)
 go_upto_region 19 with (fail)
 generalize hW6:W5.setCell ⟨m.gb,i*4+1,none⟩ (.int .i64 (wrap64 ((j:Int)+1)))=W6
 have H6:=aM (show DS w0 W6 gd (m.setV i j (.slice none 0 0)) (a.tick.put i j 2 []) by
  rw [← hW6];have h6:=H5.out.nx i HI.out (wrap64 ((j:Int)+1));rw [qrL] at h6
  exact h6)
 have HX6:=aM (show W6.heap[gx]?=some (.cells #[.int .i64 t,.int .i64 1,.int .i64 1] 83 (0,0)) by rw [← hW6];exact qaR HX5.out (H5.out.b.ne HX5.out (by decide)).symm _);have HK6:=aM (show qaP W W6 by rw [← hW6];exact HK5.out.set (by obtain ⟨cs,h1,-⟩:=H5.out.b;exact ⟨cs,h1⟩) (by decide) _ _);clear hW6 x0 x1 x2 cn fn;have x0:=jC HX6.out 0;have x1:=jC HX6.out 1;have x2:=jC HX6.out 2;have HTD:=aM (show Calls Tryz.prog 119 #[cp gd,.agg #[.int .i64 t,.int .i64 1,.int .i64 1]] W6 (fun e w'=>e=.returned (.int .i64 6)∧DS w0 w' gd (m.setV i j (.slice none 0 0)) ((a.tick.put i j 2 []).cut)∧qaP W6 w') from qfH H6.out ⟨t,1,1⟩)
 go_wp2_with (first
  | (go_at_call 119;(with_reducible refine HTD.out.mono ?_);rintro e w7 ⟨rfl,h7,hk7⟩;have H7:=aM h7;have HK7:=aM (HK6.out.trans hk7);clear h7 hk7))
 go_ret;exact ⟨rfl,⟨_,H7.out⟩,HK7.out⟩
end
section
variable {w0 W:World} {gd:Nat} {m:DM} {a:AC}
theorem qyQ (h:DS w0 W gd m a) (hf:qdM a=⟨0,0,2⟩) (ho:a.off=false) (i:Nat) (hi:i < a.g.B) (j:Nat) (hj:j < a.g.P) (hbd:(a.bk i).bad=false) (hnx:(a.bk i).nx=(j:Int)) (A:Option Addr) (c:Nat) (l:List Int) (hr:∀ w',Below w0.heap.size w0 w'→qaP W w'→Kd.C kB w' A l.length l) (hc:l.length≤c) (hlz:l.length≤a.g.Z) :
  Calls Tryz.prog 62 #[cp gd,.int .i64 i,.int .i64 j,.slice A l.length c] W fun e w'=>e=.returned (.int .i64 0)∧qbT w0 w' gd (a.tick.put i j 1 l)∧qaP W w':=by
 have HASK:=aM (qcE h (i:Int));rw [show qhD a (i:Int)=0 from (if_neg (by rw [ho];decide)).trans (if_neg (by omega))] at HASK;have H:=aM h
 have HFA:=aM (fun (w1:World) (hb:Below W.heap.size W w1)=>(show Calls Tryz.prog 118 #[cp gd] w1 (fun e w'=>e=.returned (.agg #[.int .i64 0,.int .i64 0,.int .i64 2])∧DS w0 w' gd m a.tick∧qaP w1 w') from by
  have h1:=qeF (h.grow hb);rw [hf] at h1
  exact h1))
 have HI:=aM hi;have HJ:=aM hj;have HLZ:=aM hlz;have HRD:=aM hr;have HCC:=aM hc;have HBD:=aM hbd;have HNX:=aM hnx;have hq:(i < a.g.B)=True:=eq_true hi;have hqi:((i:Int) < (a.g.B:Int))=True:=eq_true (by omega);have hp:(j < a.g.P)=True:=eq_true hj;have hpi:((j:Int) < (a.g.P:Int))=True:=eq_true (by omega);have d1:decide ((j:Int) < 0)=false:=decide_eq_false (by omega);have d2:decide ((a.g.P:Int)≤(j:Int))=false:=decide_eq_false (by omega);have d3:decide ((a.g.Z:Int) < (l.length:Int))=false:=decide_eq_false (by omega);have d2n:(a.g.P≤j)=False:=eq_false (by omega);have d3n:(a.g.Z < l.length)=False:=eq_false (by omega);have hu71:=Tryz.underlying83;have hu103:=Tryz.underlying103;have hu122:=Tryz.underlying164;have hu100:=Tryz.underlying100;clear h hf ho hi hj hbd hnx hr hc hlz;go_enter Tryz.func62,Tryz.ntmps62
 go_upto_region 11 with (first
  | (go_at_call 117;(with_reducible refine HASK.out.mono ?_);rintro e w1 ⟨rfl,hb1⟩;have HB1:=aM hb1;have h1:=H.out.grow hb1;have H1:=aM h1;have c1:w1.cell? ⟨gd,1,none⟩=some (.int .i64 a.g.P):=h1.cell 1;have c2:w1.cell? ⟨gd,2,none⟩=some (.int .i64 a.g.Z):=h1.cell 2;have c4:w1.cell? ⟨gd,4,none⟩=some (.slice (some ⟨m.gb,0,none⟩) a.g.B m.cap):=h1.cell 4;have cb:w1.cell? ⟨m.gb,i*4+2,none⟩=some (.bool false):=(h1.b.cell (qcI m.gp a i HI.out).2.2.1).trans (by rw [HBD.out]);have cn:w1.cell? ⟨m.gb,i*4+1,none⟩=some (.int .i64 (j:Int)):=(h1.b.cell (qcI m.gp a i HI.out).2.1).trans (by rw [HNX.out]);clear hb1 h1)
  | (go_at_call 118;(with_reducible refine (HFA.out _ HB1.out).mono ?_);rintro e w2 ⟨rfl,h2,hk2⟩;have H2:=aM h2;have HK2:=aM ((qaP.of_below HB1.out).trans hk2);clear h2 hk2))
 obtain ⟨gx,hgx⟩:∃ gx,gx=w2.heap.size:=⟨_,rfl⟩
 generalize hW:w2.alloc (.cells #[.int .i64 0,.int .i64 0,.int .i64 2] 83)=W3;have HBX:=aM (show Below w2.heap.size w2 W3 by rw [← hW];exact qaA (Below.refl _ _) _);have HX3:=aM (show W3.heap[gx]?=some (.cells #[.int .i64 0,.int .i64 0,.int .i64 2] 83 (0,0)) by rw [← hW,hgx];exact qaV _ _ _);have H3:=aM (H2.out.grow HBX.out);have HK3:=aM (HK2.out.trans (qaP.of_below HBX.out));have HGX:=aM (show w0.heap.size≤gx by rw [hgx];exact qaG H2.out.below);rw [← hgx];clear hW c1 c2 c4 cb cn;clear hgx;have x0:=jC HX3.out 0;have x1:=jC HX3.out 1;have x2:=jC HX3.out 2
 go_upto_region 16 with (fail)
 refine Rel.tail (m:=10) [(0,87,.inl ?r1v0),(1,88,.inl ?r1v1),(2,89,.inl ?r1v2),(3,90,.inl ?r1v3),(4,91,.inl ?r1v4),(5,92,.inr (fun v w'=>∃ b,v=.slice (some ⟨b,0,none⟩) 0 0∧Kd.R kB 5 w' w0.heap.size (fun _=>True) (.slice (some ⟨b,0,none⟩) 0 0) [])),(6,93,.inl ?r1v6),(7,94,.inr (fun v w'=>Kd.R kB 5 w' w0.heap.size (fun _=>True) v l)),(8,95,.inr (fun v w'=>∃ A6 c6,v=.agg #[.bool true,.bool false,.slice A6 l.length c6]∧Kd.R kB 5 w' w0.heap.size (fun _=>True) (.slice A6 l.length c6) l)),(9,96,.inl ?r1v9)] (fun w'=>Below W3.heap.size W3 w') (fun w' w''=>Below w'.heap.size w' w'') (by rfl) rfl (by kernel_rfl) (by kernel_rfl) (by kernel_rfl) ?r1S (Rel.stable_inl (Rel.stable_inl (Rel.stable_inl (Rel.stable_inl (Rel.stable_inl (Rel.stable_inr (fun v w w' hb h=>by obtain ⟨b,e6,h6⟩:=h;exact ⟨b,e6,Kd.R_below h6 hb⟩) (Rel.stable_inl (Rel.stable_inr (fun v w w' hb h=>Kd.R_below h hb) (Rel.stable_inr (fun v w w' hb h=>by obtain ⟨A6,c6,e6,h6⟩:=h;exact ⟨A6,c6,e6,Kd.R_below h6 hb⟩) (Rel.stable_inl Rel.stable_nil)))))))))) ?r1steps ?r1okv ?r1hlt ?r1fin;case r1S=>exact qaW (Below.refl _ _)
 case r1steps =>
  refine Rel.from_some 0 rfl rfl (fun ac wq hS hK K hC=>?_) ?_
  ·refine Reg.sO ?_;have e10:=hK.off 10 _ rfl rfl;clear hK;go_simp;exact hC _ hS (Below.refl _ _)
  refine Rel.from_some 1 rfl rfl (fun ac wq hS hK K hC=>?_) ?_
  ·refine Reg.sO ?_;have e87:=hK.sl 0 rfl;clear hK;go_simp;exact hC _ hS (Below.refl _ _)
  refine Rel.from_some 2 rfl rfl (fun ac wq hS hK K hC=>?_) ?_
  ·refine Reg.sO ?_;have e88:=hK.sl 1 rfl;clear hK;go_simp;exact hC _ hS (Below.refl _ _)
  refine Rel.from_some 3 rfl rfl (fun ac wq hS hK K hC=>?_) ?_
  ·refine Reg.sO ?_;have e89:=hK.sl 2 rfl;have zz:=(H3.out.grow hS).b.cell (qcI m.gp a.tick i HI.out).1;change _=some (Value.slice (some ⟨m.gp i,0,none⟩) a.g.P a.g.P) at zz;clear hK;go_simp;exact hC _ hS (Below.refl _ _)
  refine Rel.from_some 4 rfl rfl (fun ac wq hS hK K hC=>?_) ?_
  ·refine Reg.sO ?_;have e2:=hK.off 2 _ rfl rfl;clear hK;go_simp;exact hC _ hS (Below.refl _ _)
  refine Rel.from_rel 5 rfl rfl (fun ac wq hS hK K hC=>?_) ?_
  ·refine Reg.sO ?_;refine qsP (y:=yielded #[] ac.tmps) (by rfl) (qhA (w0:=w0) 5 (by rfl) (by first|(go_simp;done)|(go_simp;rfl)) (H3.out.grow hS).below (qaG (H3.out.grow hS).below) (fun v1 w1 b hv ho hb=>?_));exact hC v1 w1 (qaF hS hb) hb ⟨b,hv,ho⟩
  refine Rel.from_some 6 rfl rfl (fun ac wq hS hK K hC=>?_) ?_
  ·refine Reg.sO ?_;have e3:=hK.off 3 _ rfl rfl;clear hK;go_simp;exact hC _ hS (Below.refl _ _)
  refine Rel.from_rel 7 rfl rfl (fun ac wq hS hK K hC=>?_) ?_
  ·refine Reg.sO ?_;obtain ⟨u92,e92,q92⟩:=hK.rel 5 _ _ _ rfl (by kernel_rfl);have e93:=hK.sl 6 rfl;obtain ⟨b92,e92',q92'⟩:=q92;rw [e92'] at e92;clear e92';refine qsP (y:=yielded #[] ac.tmps) (by rfl) (qfR kB (w0:=w0) w0.heap.size (by rfl) (.tmp 92) (.tmp 93) 35 5 (.int .u8 0) 1 rfl Tryz.underlying35 qiZ rfl Nat.zero_lt_one Nat.zero_lt_one ⟨b92,0,none⟩ l A l.length c (fun _=>True) (fun _=>False) (by first|(go_simp;done)|(go_simp;rfl)) (by first|(go_simp;done)|(go_simp;rfl)) q92' (HRD.out wq (H3.out.grow hS).below (HK3.out.trans (qaP.of_below hS))) (fun _ _ h=>h) (fun _ h=>h.elim) (fun _ _=>trivial) (H3.out.grow hS).below (qaG (H3.out.grow hS).below) ?len (fun v1 w1 ho hb=>?_));case len=>have:=HLZ.out;have:=H.out.gok.2.2;omega
   exact hC v1 w1 (qaF hS hb) hb ho
  refine Rel.from_rel 8 rfl rfl (fun ac wq hS hK K hC=>?_) ?_
  ·refine Reg.sO ?_;obtain ⟨u94,e94,q94⟩:=hK.rel 7 _ _ _ rfl (by kernel_rfl);obtain ⟨A6,c6,e6⟩:=Kd.R_slice q94;rw [e6] at q94 e94;have HQ94:=aM q94;clear q94 e6;clear hK;go_simp;exact hC _ _ hS (Below.refl _ _) ⟨A6,c6,rfl,HQ94.out⟩
  refine Rel.from_some 9 rfl rfl (fun ac wq hS hK K hC=>?_) ?_
  ·refine Reg.sO ?_;have e90:=hK.sl 3 rfl;have e91:=hK.sl 4 rfl;clear hK;go_simp;exact hC _ hS (Below.refl _ _)
  exact Rel.from_nil
 case r1okv=>rfl
 case r1hlt=>rfl
 case r1fin =>
  intro U wz hS hU;have q5:=hU 5 _ _ _ rfl;have q7:=hU 7 _ _ _ rfl;have q8:=hU 8 _ _ _ rfl;clear hU;simp only [Rel.inst,Nat.zero_add,Nat.reduceAdd,Reg.putV,List.foldl_cons,List.foldl_nil,Act.put,List.setIfInBounds_toArray,List.set_cons_zero,List.set_cons_succ];have hz:=H3.out.grow hS;have Hz:=aM hz;have HXz:=aM (qaE HX3.out hS);have HKz:=aM (HK3.out.trans (qaP.of_below hS));have hpp:=hz.p i HI.out;have r0:=hpp.cell (qgG a.g.P (a.tick.bk i) (m.pv i) j HJ.out).1;have r1:=hpp.cell (qgG a.g.P (a.tick.bk i) (m.pv i) j HJ.out).2.1;have r2:=hpp.cell (qgG a.g.P (a.tick.bk i) (m.pv i) j HJ.out).2.2;have fr0:=hpp.frozen (j*3);have fr1:=hpp.frozen (j*3+1);have fr2:=hpp.frozen (j*3+2);obtain ⟨A6,c6,e6,hq6⟩:=q8;have HQ:=aM hq6;rw [e6];clear hS hz q5 q7 hq6 e6 hpp;refine Rel.tail_cons (fun K hK=>?_);refine Reg.sO ?_;go_simp;refine hK _ _ ?_;clear hK r0 r1 r2 fr0 fr1 fr2;refine Rel.tail_nil ?_;generalize hW5:((wz.setCell ⟨m.gp i,j*3,none⟩ (.bool true)).setCell ⟨m.gp i,j*3+1,none⟩ (.bool false)).setCell ⟨m.gp i,j*3+2,none⟩ (.slice A6 l.length c6)=W5;have H5:=aM (show DS w0 W5 gd (m.setV i j (.slice A6 l.length c6)) (a.tick.setBk i ((a.tick.bk i).setPg j ⟨1,l⟩)) by rw [← hW5];exact Hz.out.page i HI.out j HJ.out 1 (.slice A6 l.length c6) l HQ.out);have HX5:=aM (show W5.heap[gx]?=some (.cells #[.int .i64 0,.int .i64 0,.int .i64 2] 83 (0,0)) by rw [← hW5];exact (qeM (Ne.symm ((Hz.out.p i HI.out).ne HXz.out (by decide)))).trans HXz.out)
  have HK5:=aM (show qaP W W5 by rw [← hW5];exact HKz.out.put3 (Hz.out.p i HI.out) _ _ _ _);clear hW5 x0 x1 x2;have x0:=jC HX5.out 0;have x1:=jC HX5.out 1;have x2:=jC HX5.out 2
  have cn:W5.cell? ⟨m.gb,i*4+1,none⟩=some (.int .i64 (j:Int)):=by
   have e5:=H5.out.b.cell (qcI (m.setV i j (.slice A6 l.length c6)).gp (a.tick.setBk i ((a.tick.bk i).setPg j ⟨1,l⟩)) i HI.out).2.1;have this:((a.tick.setBk i ((a.tick.bk i).setPg j ⟨1,l⟩)).bk i).nx=(a.bk i).nx:=by simp [AC.setBk,ABk.setPg,AC.tick]
   rw [this,HNX.out] at e5;exact e5
  have fn:W5.frozen? ⟨m.gb,i*4+1,none⟩=false:=H5.out.b.frozen (i*4+1)
  go_upto_region 19 with (fail)
  generalize hW6:W5.setCell ⟨m.gb,i*4+1,none⟩ (.int .i64 (wrap64 ((j:Int)+1)))=W6
  have H6:=aM (show DS w0 W6 gd (m.setV i j (.slice A6 l.length c6)) (a.tick.put i j 1 l) by
   rw [← hW6];have h6:=H5.out.nx i HI.out (wrap64 ((j:Int)+1));rw [qrL] at h6
   exact h6)
  have HX6:=aM (show W6.heap[gx]?=some (.cells #[.int .i64 0,.int .i64 0,.int .i64 2] 83 (0,0)) by rw [← hW6];exact qaR HX5.out (H5.out.b.ne HX5.out (by decide)).symm _);have HK6:=aM (show qaP W W6 by rw [← hW6];exact HK5.out.set (by obtain ⟨cs,h1,-⟩:=H5.out.b;exact ⟨cs,h1⟩) (by decide) _ _);clear hW6 x0 x1 x2 cn fn;have x0:=jC HX6.out 0;have x1:=jC HX6.out 1;have x2:=jC HX6.out 2;have HTD:=aM (show Calls Tryz.prog 119 #[cp gd,.agg #[.int .i64 0,.int .i64 0,.int .i64 2]] W6 (fun e w'=>e=.returned (.int .i64 0)∧DS w0 w' gd (m.setV i j (.slice A6 l.length c6)) ((a.tick.put i j 1 l))∧qaP W6 w') from qfH H6.out ⟨0,0,2⟩)
  go_wp2_with (first
   | (go_at_call 119;(with_reducible refine HTD.out.mono ?_);rintro e w7 ⟨rfl,h7,hk7⟩;have H7:=aM h7;have HK7:=aM (HK6.out.trans hk7);clear h7 hk7))
  go_ret;exact ⟨rfl,⟨_,H7.out⟩,HK7.out⟩
theorem qtX (h:DS w0 W gd m a) (t:Int) (hf:qdM a=⟨t,1,2⟩) (ho:a.off=false) (i:Nat) (hi:i < a.g.B) (j:Nat) (hj:j < a.g.P) (hbd:(a.bk i).bad=false) (hnx:(a.bk i).nx=(j:Int)) (A:Option Addr) (c:Nat) (l:List Int) (hr:∀ w',Below w0.heap.size w0 w'→qaP W w'→Kd.C kB w' A l.length l) (hc:l.length≤c) (hlz:l.length≤a.g.Z) :
  Calls Tryz.prog 62 #[cp gd,.int .i64 i,.int .i64 j,.slice A l.length c] W fun e w'=>e=.returned (.int .i64 6)∧qbT w0 w' gd (a.tick.cut.put i j 1 l)∧qaP W w':=by
 have HASK:=aM (qcE h (i:Int));rw [show qhD a (i:Int)=0 from (if_neg (by rw [ho];decide)).trans (if_neg (by omega))] at HASK;have H:=aM h
 have HFA:=aM (fun (w1:World) (hb:Below W.heap.size W w1)=>(show Calls Tryz.prog 118 #[cp gd] w1 (fun e w'=>e=.returned (.agg #[.int .i64 t,.int .i64 1,.int .i64 2])∧DS w0 w' gd m a.tick∧qaP w1 w') from by
  have h1:=qeF (h.grow hb);rw [hf] at h1
  exact h1))
 have HI:=aM hi;have HJ:=aM hj;have HLZ:=aM hlz;have HRD:=aM hr;have HCC:=aM hc;have HBD:=aM hbd;have HNX:=aM hnx;have hq:(i < a.g.B)=True:=eq_true hi;have hqi:((i:Int) < (a.g.B:Int))=True:=eq_true (by omega);have hp:(j < a.g.P)=True:=eq_true hj;have hpi:((j:Int) < (a.g.P:Int))=True:=eq_true (by omega);have d1:decide ((j:Int) < 0)=false:=decide_eq_false (by omega);have d2:decide ((a.g.P:Int)≤(j:Int))=false:=decide_eq_false (by omega);have d3:decide ((a.g.Z:Int) < (l.length:Int))=false:=decide_eq_false (by omega);have d2n:(a.g.P≤j)=False:=eq_false (by omega);have d3n:(a.g.Z < l.length)=False:=eq_false (by omega);have hu71:=Tryz.underlying83;have hu103:=Tryz.underlying103;have hu122:=Tryz.underlying164;have hu100:=Tryz.underlying100;clear h hf ho hi hj hbd hnx hr hc hlz;go_enter Tryz.func62,Tryz.ntmps62
 go_upto_region 11 with (first
  | (go_at_call 117;(with_reducible refine HASK.out.mono ?_);rintro e w1 ⟨rfl,hb1⟩;have HB1:=aM hb1;have h1:=H.out.grow hb1;have H1:=aM h1;have c1:w1.cell? ⟨gd,1,none⟩=some (.int .i64 a.g.P):=h1.cell 1;have c2:w1.cell? ⟨gd,2,none⟩=some (.int .i64 a.g.Z):=h1.cell 2;have c4:w1.cell? ⟨gd,4,none⟩=some (.slice (some ⟨m.gb,0,none⟩) a.g.B m.cap):=h1.cell 4;have cb:w1.cell? ⟨m.gb,i*4+2,none⟩=some (.bool false):=(h1.b.cell (qcI m.gp a i HI.out).2.2.1).trans (by rw [HBD.out]);have cn:w1.cell? ⟨m.gb,i*4+1,none⟩=some (.int .i64 (j:Int)):=(h1.b.cell (qcI m.gp a i HI.out).2.1).trans (by rw [HNX.out]);clear hb1 h1)
  | (go_at_call 118;(with_reducible refine (HFA.out _ HB1.out).mono ?_);rintro e w2 ⟨rfl,h2,hk2⟩;have H2:=aM h2;have HK2:=aM ((qaP.of_below HB1.out).trans hk2);clear h2 hk2))
 obtain ⟨gx,hgx⟩:∃ gx,gx=w2.heap.size:=⟨_,rfl⟩
 generalize hW:w2.alloc (.cells #[.int .i64 t,.int .i64 1,.int .i64 2] 83)=W3;have HBX:=aM (show Below w2.heap.size w2 W3 by rw [← hW];exact qaA (Below.refl _ _) _);have HX3:=aM (show W3.heap[gx]?=some (.cells #[.int .i64 t,.int .i64 1,.int .i64 2] 83 (0,0)) by rw [← hW,hgx];exact qaV _ _ _);have H3:=aM (H2.out.grow HBX.out);have HK3:=aM (HK2.out.trans (qaP.of_below HBX.out));have HGX:=aM (show w0.heap.size≤gx by rw [hgx];exact qaG H2.out.below);rw [← hgx];clear hW c1 c2 c4 cb cn;clear hgx;have x0:=jC HX3.out 0;have x1:=jC HX3.out 1;have x2:=jC HX3.out 2
 go_upto_region 16 with (fail)
 refine Rel.tail (m:=10) [(0,87,.inl ?r2v0),(1,88,.inl ?r2v1),(2,89,.inl ?r2v2),(3,90,.inl ?r2v3),(4,91,.inl ?r2v4),(5,92,.inr (fun v w'=>∃ b,v=.slice (some ⟨b,0,none⟩) 0 0∧Kd.R kB 5 w' w0.heap.size (fun _=>True) (.slice (some ⟨b,0,none⟩) 0 0) [])),(6,93,.inl ?r2v6),(7,94,.inr (fun v w'=>Kd.R kB 5 w' w0.heap.size (fun _=>True) v l)),(8,95,.inr (fun v w'=>∃ A6 c6,v=.agg #[.bool true,.bool false,.slice A6 l.length c6]∧Kd.R kB 5 w' w0.heap.size (fun _=>True) (.slice A6 l.length c6) l)),(9,96,.inl ?r2v9)] (fun w'=>Below W3.heap.size W3 w') (fun w' w''=>Below w'.heap.size w' w'') (by rfl) rfl (by kernel_rfl) (by kernel_rfl) (by kernel_rfl) ?r2S (Rel.stable_inl (Rel.stable_inl (Rel.stable_inl (Rel.stable_inl (Rel.stable_inl (Rel.stable_inr (fun v w w' hb h=>by obtain ⟨b,e6,h6⟩:=h;exact ⟨b,e6,Kd.R_below h6 hb⟩) (Rel.stable_inl (Rel.stable_inr (fun v w w' hb h=>Kd.R_below h hb) (Rel.stable_inr (fun v w w' hb h=>by obtain ⟨A6,c6,e6,h6⟩:=h;exact ⟨A6,c6,e6,Kd.R_below h6 hb⟩) (Rel.stable_inl Rel.stable_nil)))))))))) ?r2steps ?r2okv ?r2hlt ?r2fin;case r2S=>exact qaW (Below.refl _ _)
 case r2steps =>
  refine Rel.from_some 0 rfl rfl (fun ac wq hS hK K hC=>?_) ?_
  ·refine Reg.sO ?_;have e10:=hK.off 10 _ rfl rfl;clear hK;go_simp;exact hC _ hS (Below.refl _ _)
  refine Rel.from_some 1 rfl rfl (fun ac wq hS hK K hC=>?_) ?_
  ·refine Reg.sO ?_;have e87:=hK.sl 0 rfl;clear hK;go_simp;exact hC _ hS (Below.refl _ _)
  refine Rel.from_some 2 rfl rfl (fun ac wq hS hK K hC=>?_) ?_
  ·refine Reg.sO ?_;have e88:=hK.sl 1 rfl;clear hK;go_simp;exact hC _ hS (Below.refl _ _)
  refine Rel.from_some 3 rfl rfl (fun ac wq hS hK K hC=>?_) ?_
  ·refine Reg.sO ?_;have e89:=hK.sl 2 rfl;have zz:=(H3.out.grow hS).b.cell (qcI m.gp a.tick i HI.out).1;change _=some (Value.slice (some ⟨m.gp i,0,none⟩) a.g.P a.g.P) at zz;clear hK;go_simp;exact hC _ hS (Below.refl _ _)
  refine Rel.from_some 4 rfl rfl (fun ac wq hS hK K hC=>?_) ?_
  ·refine Reg.sO ?_;have e2:=hK.off 2 _ rfl rfl;clear hK;go_simp;exact hC _ hS (Below.refl _ _)
  refine Rel.from_rel 5 rfl rfl (fun ac wq hS hK K hC=>?_) ?_
  ·refine Reg.sO ?_;refine qsP (y:=yielded #[] ac.tmps) (by rfl) (qhA (w0:=w0) 5 (by rfl) (by first|(go_simp;done)|(go_simp;rfl)) (H3.out.grow hS).below (qaG (H3.out.grow hS).below) (fun v1 w1 b hv ho hb=>?_));exact hC v1 w1 (qaF hS hb) hb ⟨b,hv,ho⟩
  refine Rel.from_some 6 rfl rfl (fun ac wq hS hK K hC=>?_) ?_
  ·refine Reg.sO ?_;have e3:=hK.off 3 _ rfl rfl;clear hK;go_simp;exact hC _ hS (Below.refl _ _)
  refine Rel.from_rel 7 rfl rfl (fun ac wq hS hK K hC=>?_) ?_
  ·refine Reg.sO ?_;obtain ⟨u92,e92,q92⟩:=hK.rel 5 _ _ _ rfl (by kernel_rfl);have e93:=hK.sl 6 rfl;obtain ⟨b92,e92',q92'⟩:=q92;rw [e92'] at e92;clear e92';refine qsP (y:=yielded #[] ac.tmps) (by rfl) (qfR kB (w0:=w0) w0.heap.size (by rfl) (.tmp 92) (.tmp 93) 35 5 (.int .u8 0) 1 rfl Tryz.underlying35 qiZ rfl Nat.zero_lt_one Nat.zero_lt_one ⟨b92,0,none⟩ l A l.length c (fun _=>True) (fun _=>False) (by first|(go_simp;done)|(go_simp;rfl)) (by first|(go_simp;done)|(go_simp;rfl)) q92' (HRD.out wq (H3.out.grow hS).below (HK3.out.trans (qaP.of_below hS))) (fun _ _ h=>h) (fun _ h=>h.elim) (fun _ _=>trivial) (H3.out.grow hS).below (qaG (H3.out.grow hS).below) ?len (fun v1 w1 ho hb=>?_));case len=>have:=HLZ.out;have:=H.out.gok.2.2;omega
   exact hC v1 w1 (qaF hS hb) hb ho
  refine Rel.from_rel 8 rfl rfl (fun ac wq hS hK K hC=>?_) ?_
  ·refine Reg.sO ?_;obtain ⟨u94,e94,q94⟩:=hK.rel 7 _ _ _ rfl (by kernel_rfl);obtain ⟨A6,c6,e6⟩:=Kd.R_slice q94;rw [e6] at q94 e94;have HQ94:=aM q94;clear q94 e6;clear hK;go_simp;exact hC _ _ hS (Below.refl _ _) ⟨A6,c6,rfl,HQ94.out⟩
  refine Rel.from_some 9 rfl rfl (fun ac wq hS hK K hC=>?_) ?_
  ·refine Reg.sO ?_;have e90:=hK.sl 3 rfl;have e91:=hK.sl 4 rfl;clear hK;go_simp;exact hC _ hS (Below.refl _ _)
  exact Rel.from_nil
 case r2okv=>rfl
 case r2hlt=>rfl
 case r2fin =>
  intro U wz hS hU;have q5:=hU 5 _ _ _ rfl;have q7:=hU 7 _ _ _ rfl;have q8:=hU 8 _ _ _ rfl;clear hU;simp only [Rel.inst,Nat.zero_add,Nat.reduceAdd,Reg.putV,List.foldl_cons,List.foldl_nil,Act.put,List.setIfInBounds_toArray,List.set_cons_zero,List.set_cons_succ];have hz:=H3.out.grow hS;have Hz:=aM hz;have HXz:=aM (qaE HX3.out hS);have HKz:=aM (HK3.out.trans (qaP.of_below hS));have hpp:=hz.p i HI.out;have r0:=hpp.cell (qgG a.g.P (a.tick.bk i) (m.pv i) j HJ.out).1;have r1:=hpp.cell (qgG a.g.P (a.tick.bk i) (m.pv i) j HJ.out).2.1;have r2:=hpp.cell (qgG a.g.P (a.tick.bk i) (m.pv i) j HJ.out).2.2;have fr0:=hpp.frozen (j*3);have fr1:=hpp.frozen (j*3+1);have fr2:=hpp.frozen (j*3+2);obtain ⟨A6,c6,e6,hq6⟩:=q8;have HQ:=aM hq6;rw [e6];clear hS hz q5 q7 hq6 e6 hpp;refine Rel.tail_cons (fun K hK=>?_);refine Reg.sO ?_;go_simp;refine hK _ _ ?_;clear hK r0 r1 r2 fr0 fr1 fr2;refine Rel.tail_nil ?_;generalize hW5:((wz.setCell ⟨m.gp i,j*3,none⟩ (.bool true)).setCell ⟨m.gp i,j*3+1,none⟩ (.bool false)).setCell ⟨m.gp i,j*3+2,none⟩ (.slice A6 l.length c6)=W5;have H5:=aM (show DS w0 W5 gd (m.setV i j (.slice A6 l.length c6)) (a.tick.setBk i ((a.tick.bk i).setPg j ⟨1,l⟩)) by rw [← hW5];exact Hz.out.page i HI.out j HJ.out 1 (.slice A6 l.length c6) l HQ.out);have HX5:=aM (show W5.heap[gx]?=some (.cells #[.int .i64 t,.int .i64 1,.int .i64 2] 83 (0,0)) by rw [← hW5];exact (qeM (Ne.symm ((Hz.out.p i HI.out).ne HXz.out (by decide)))).trans HXz.out)
  have HK5:=aM (show qaP W W5 by rw [← hW5];exact HKz.out.put3 (Hz.out.p i HI.out) _ _ _ _);clear hW5 x0 x1 x2;have x0:=jC HX5.out 0;have x1:=jC HX5.out 1;have x2:=jC HX5.out 2
  have cn:W5.cell? ⟨m.gb,i*4+1,none⟩=some (.int .i64 (j:Int)):=by
   have e5:=H5.out.b.cell (qcI (m.setV i j (.slice A6 l.length c6)).gp (a.tick.setBk i ((a.tick.bk i).setPg j ⟨1,l⟩)) i HI.out).2.1;have this:((a.tick.setBk i ((a.tick.bk i).setPg j ⟨1,l⟩)).bk i).nx=(a.bk i).nx:=by simp [AC.setBk,ABk.setPg,AC.tick]
   rw [this,HNX.out] at e5;exact e5
  have fn:W5.frozen? ⟨m.gb,i*4+1,none⟩=false:=H5.out.b.frozen (i*4+1)
  go_upto_region 19 with (fail)
  generalize hW6:W5.setCell ⟨m.gb,i*4+1,none⟩ (.int .i64 (wrap64 ((j:Int)+1)))=W6
  have H6:=aM (show DS w0 W6 gd (m.setV i j (.slice A6 l.length c6)) (a.tick.put i j 1 l) by
   rw [← hW6];have h6:=H5.out.nx i HI.out (wrap64 ((j:Int)+1));rw [qrL] at h6
   exact h6)
  have HX6:=aM (show W6.heap[gx]?=some (.cells #[.int .i64 t,.int .i64 1,.int .i64 2] 83 (0,0)) by rw [← hW6];exact qaR HX5.out (H5.out.b.ne HX5.out (by decide)).symm _);have HK6:=aM (show qaP W W6 by rw [← hW6];exact HK5.out.set (by obtain ⟨cs,h1,-⟩:=H5.out.b;exact ⟨cs,h1⟩) (by decide) _ _);clear hW6 x0 x1 x2 cn fn;have x0:=jC HX6.out 0;have x1:=jC HX6.out 1;have x2:=jC HX6.out 2;have HTD:=aM (show Calls Tryz.prog 119 #[cp gd,.agg #[.int .i64 t,.int .i64 1,.int .i64 2]] W6 (fun e w'=>e=.returned (.int .i64 6)∧DS w0 w' gd (m.setV i j (.slice A6 l.length c6)) ((a.tick.put i j 1 l).cut)∧qaP W6 w') from qfH H6.out ⟨t,1,2⟩)
  go_wp2_with (first
   | (go_at_call 119;(with_reducible refine HTD.out.mono ?_);rintro e w7 ⟨rfl,h7,hk7⟩;have H7:=aM h7;have HK7:=aM (HK6.out.trans hk7);clear h7 hk7))
  go_ret;exact ⟨rfl,⟨_,H7.out⟩,HK7.out⟩
end
section
variable {w0 W:World} {gd:Nat} {m:DM} {a:AC}
theorem qvJ {l:List F3} (h:qcJ l=true) {f:F3} (hf:f ∈ l):qgI f=true:=by
 have h0:qeG [] l=true:=by
  unfold qcJ at h;simp only [Bool.and_eq_true] at h;exact h.2
 have key:∀ i,qeG (l.take i) (l.drop i)=true:=by
  intro i
  induction i with
  | zero=>simpa using h0
  | succ i ih =>
   by_cases hi:i < l.length
   ·rw [qhU (List.getElem?_eq_getElem hi)] at ih;simp only [Bool.and_eq_true] at ih;exact ih.2
   ·rw [List.drop_eq_nil_of_le (by omega)];rfl
 obtain ⟨i,hi,rfl⟩:=List.mem_iff_getElem.1 hf;have h1:=key i;rw [qhU (List.getElem?_eq_getElem hi)] at h1;simp only [Bool.and_eq_true] at h1;exact h1.1.1.2
theorem qrX {a:AC} (hp:qcJ a.pl=true) {f:F3} (hf:a.hit=some f):(f.f1=1∧(f.f2=0∨f.f2=1∨f.f2=2))∨(f.f1=2∧f.f2=0):=by
 have h:=qvJ hp (List.mem_of_find?_eq_some hf);unfold qgI at h;simp at h;omega
theorem qoZ (h:DS w0 W gd m a) (n p:Int) (v:Value) {k:Int} (hk:decide (k=0)=false) (he:qhD a n=k):Calls Tryz.prog 62 #[cp gd,.int .i64 n,.int .i64 p,v] W fun e w'=>e=.returned (.int .i64 k)∧Below W.heap.size W w':=by
 have HA:=aM (qcE h n);rw [he] at HA;have k1:(k==0)=false:=by simpa using hk
 have k2:(k != 0)=true:=by simpa using hk
 have k3:(k=0)=False:=eq_false (by simpa using hk);clear h he;go_enter Tryz.func62,Tryz.ntmps62;go_wp2_with (first|(go_at_call 117;(with_reducible refine HA.out.mono ?_);rintro e w1 ⟨rfl,hb1⟩;have HB1:=aM hb1;clear hb1));go_ret;exact ⟨rfl,HB1.out⟩
theorem qqN (h:DS w0 W gd m a) (ho:a.off=false) (i:Nat) (hi:i < a.g.B) (p:Int) (A:Option Addr) (ll c:Nat) (hr:p < 0∨a.g.P≤p∨a.g.Z < ll):Calls Tryz.prog 62 #[cp gd,.int .i64 i,.int .i64 p,.slice A ll c] W fun e w'=>e=.returned (.int .i64 22)∧Below W.heap.size W w':=by
 have HA:=aM (qcE h (i:Int));rw [show qhD a (i:Int)=0 from (if_neg (by rw [ho];decide)).trans (if_neg (by omega))] at HA;have H:=aM h
 by_cases h1:p < 0
 ·have d0:decide (p < 0)=true:=decide_eq_true h1;clear h ho hi hr h1;go_enter Tryz.func62,Tryz.ntmps62;go_wp2_with (first|(go_at_call 117;(with_reducible refine HA.out.mono ?_);rintro e w1 ⟨rfl,hb1⟩;have HB1:=aM hb1;clear hb1));go_ret;exact ⟨rfl,HB1.out⟩
 have d0:decide (p < 0)=false:=decide_eq_false h1
 by_cases h2:(a.g.P:Int)≤p
 ·have d1:decide ((a.g.P:Int)≤p)=true:=decide_eq_true h2;clear h ho hi hr h1 h2;go_enter Tryz.func62,Tryz.ntmps62;go_wp2_with (first|(go_at_call 117;(with_reducible refine HA.out.mono ?_);rintro e w1 ⟨rfl,hb1⟩;have HB1:=aM hb1;have c1:w1.cell? ⟨gd,1,none⟩=some (.int .i64 a.g.P):=(H.out.grow hb1).cell 1;clear hb1));go_ret;exact ⟨rfl,HB1.out⟩
 have d1:decide ((a.g.P:Int)≤p)=false:=decide_eq_false h2;have h3:a.g.Z < ll:=by omega
 have d3:decide ((a.g.Z:Int) < (ll:Int))=true:=decide_eq_true (by omega);have d3n:(a.g.Z < ll)=True:=eq_true h3;clear h ho hi hr h1 h2 h3;go_enter Tryz.func62,Tryz.ntmps62;go_wp2_with (first|(go_at_call 117;(with_reducible refine HA.out.mono ?_);rintro e w1 ⟨rfl,hb1⟩;have HB1:=aM hb1;have c1:w1.cell? ⟨gd,1,none⟩=some (.int .i64 a.g.P):=(H.out.grow hb1).cell 1;have c2:w1.cell? ⟨gd,2,none⟩=some (.int .i64 a.g.Z):=(H.out.grow hb1).cell 2;clear hb1));go_ret;exact ⟨rfl,HB1.out⟩
theorem qtV (h:DS w0 W gd m a) (ho:a.off=false) (i:Nat) (hi:i < a.g.B) (j:Nat) (hj:j < a.g.P) (A:Option Addr) (ll c:Nat) (hz:ll≤a.g.Z) (hbn:(a.bk i).bad=true∨(a.bk i).nx ≠ j):Calls Tryz.prog 62 #[cp gd,.int .i64 i,.int .i64 j,.slice A ll c] W fun e w'=>e=.returned (.int .i64 1)∧DS w0 w' gd m a.err∧qaP W w':=by
 have HA:=aM (qcE h (i:Int));rw [show qhD a (i:Int)=0 from (if_neg (by rw [ho];decide)).trans (if_neg (by omega))] at HA;have H:=aM h;have HI:=aM hi;have hq:(i < a.g.B)=True:=eq_true hi;have hqi:((i:Int) < (a.g.B:Int))=True:=eq_true (by omega);have d1:decide ((j:Int) < 0)=false:=decide_eq_false (by omega);have d2:decide ((a.g.P:Int)≤(j:Int))=false:=decide_eq_false (by omega);have d3:decide ((a.g.Z:Int) < (ll:Int))=false:=decide_eq_false (by omega);have d2n:(a.g.P≤j)=False:=eq_false (by omega);have d3n:(a.g.Z < ll)=False:=eq_false (by omega)
 obtain ⟨x,hx⟩:∃ x,(a.bk i).bad=x:=⟨_,rfl⟩
 obtain ⟨y,hy⟩:∃ y,(a.bk i).nx=y:=⟨_,rfl⟩
 have HX:=aM hx;have HY:=aM hy;rw [hx,hy] at hbn
 cases x with
 | true =>
  clear h ho hi hj hz hbn hx hy;go_enter Tryz.func62,Tryz.ntmps62;go_wp2_with (first|(go_at_call 117;(with_reducible refine HA.out.mono ?_);rintro e w1 ⟨rfl,hb1⟩;have HB1:=aM hb1;have h1:=H.out.grow hb1;have H1:=aM h1;have c1:w1.cell? ⟨gd,1,none⟩=some (.int .i64 a.g.P):=h1.cell 1;have c2:w1.cell? ⟨gd,2,none⟩=some (.int .i64 a.g.Z):=h1.cell 2;have c4:w1.cell? ⟨gd,4,none⟩=some (.slice (some ⟨m.gb,0,none⟩) a.g.B m.cap):=h1.cell 4;have c9:w1.cell? ⟨gd,9,none⟩=some (.int .i64 a.wrong):=h1.cell 9;have f9:=qaC h1.c 9;have cb:w1.cell? ⟨m.gb,i*4+2,none⟩=some (.bool true):=(h1.b.cell (qcI m.gp a i HI.out).2.2.1).trans (by rw [HX.out]);clear hb1 h1));go_ret;exact ⟨rfl,H1.out.setC 9 _ rfl rfl rfl rfl,(qaP.of_below HB1.out).set ⟨_,H1.out.c⟩ (by decide) _ _⟩
 | false =>
  have hne:¬ y=(j:Int):=by
   rcases hbn with h|h
   ·cases h
   ·exact h
  have e1:((j:Int) != y)=true:=by simp;omega
  have e2:((j:Int)==y)=false:=by simp;omega
  have e3:((j:Int)=y)=False:=eq_false (by omega);clear h ho hi hj hz hbn hx hy hne;go_enter Tryz.func62,Tryz.ntmps62;go_wp2_with (first|(go_at_call 117;(with_reducible refine HA.out.mono ?_);rintro e w1 ⟨rfl,hb1⟩;have HB1:=aM hb1;have h1:=H.out.grow hb1;have H1:=aM h1;have c1:w1.cell? ⟨gd,1,none⟩=some (.int .i64 a.g.P):=h1.cell 1;have c2:w1.cell? ⟨gd,2,none⟩=some (.int .i64 a.g.Z):=h1.cell 2;have c4:w1.cell? ⟨gd,4,none⟩=some (.slice (some ⟨m.gb,0,none⟩) a.g.B m.cap):=h1.cell 4;have c9:w1.cell? ⟨gd,9,none⟩=some (.int .i64 a.wrong):=h1.cell 9;have f9:=qaC h1.c 9;have cb:w1.cell? ⟨m.gb,i*4+2,none⟩=some (.bool false):=(h1.b.cell (qcI m.gp a i HI.out).2.2.1).trans (by rw [HX.out]);have cn:w1.cell? ⟨m.gb,i*4+1,none⟩=some (.int .i64 y):=(h1.b.cell (qcI m.gp a i HI.out).2.1).trans (by rw [HY.out]);clear hb1 h1));go_ret;exact ⟨rfl,H1.out.setC 9 _ rfl rfl rfl rfl,(qaP.of_below HB1.out).set ⟨_,H1.out.c⟩ (by decide) _ _⟩
theorem qbT.program (h:qbT w0 W gd a) (hpl:qcJ a.pl=true) (n p:Int) (A:Option Addr) (c:Nat) (l:List Int) (hr:∀ w',Below w0.heap.size w0 w'→qaP W w'→Kd.C kB w' A l.length l) (hc:l.length≤c):Calls Tryz.prog 62 #[cp gd,.int .i64 n,.int .i64 p,.slice A l.length c] W fun e w'=>e=.returned (.int .i64 (qcT a n p l).1)∧qbT w0 w' gd (qcT a n p l).2∧qaP W w':=by
 obtain ⟨m,h⟩:=h
 by_cases ho:a.off=true
 ·rw [show qcT a n p l=(6,a) from if_pos ho];refine (qoZ h n p _ (k:=6) (by decide) (if_pos ho)).mono ?_;rintro e w' ⟨rfl,hb⟩;exact ⟨rfl,⟨m,h.grow hb⟩,qaP.of_below hb⟩
 have hof:a.off=false:=by simpa using ho
 by_cases hn:n < 0∨a.g.B≤n
 ·rw [show qcT a n p l=(22,a) from (if_neg ho).trans (if_pos hn)];refine (qoZ h n p _ (k:=22) (by decide) ((if_neg ho).trans (if_pos hn))).mono ?_;rintro e w' ⟨rfl,hb⟩;exact ⟨rfl,⟨m,h.grow hb⟩,qaP.of_below hb⟩
 obtain ⟨i,rfl⟩:∃ i:Nat,n=i:=⟨n.toNat,by omega⟩
 by_cases hp:p < 0∨a.g.P≤p∨a.g.Z < l.length
 ·rw [show qcT a i p l=(22,a) from (if_neg ho).trans ((if_neg hn).trans (if_pos hp))];refine (qqN h hof i (by omega) p A l.length c hp).mono ?_;rintro e w' ⟨rfl,hb⟩;exact ⟨rfl,⟨m,h.grow hb⟩,qaP.of_below hb⟩
 obtain ⟨j,rfl⟩:∃ j:Nat,p=j:=⟨p.toNat,by omega⟩
 have hlz:l.length≤a.g.Z:=by omega
 by_cases hb:(a.bk i).bad=true∨(a.bk i).nx ≠ j
 ·rw [show qcT a i j l=(1,a.err) from (if_neg ho).trans ((if_neg hn).trans ((if_neg hp).trans (if_pos hb)))];refine (qtV h hof i (by omega) j (by omega) A l.length c hlz hb).mono ?_;rintro e w' ⟨rfl,h2,hk⟩;exact ⟨rfl,⟨m,h2⟩,hk⟩
 have hbd:(a.bk i).bad=false:=by
  cases hh:(a.bk i).bad with
  | false=>rfl
  | true=>exact absurd (.inl hh) hb
 have hnx:(a.bk i).nx=j:=Decidable.not_not.1 (fun hh=>hb (.inr hh))
 have e0:qcT a i j l=match a.hit with
  | none=>(0,a.tick.put i j 1 l)
  | some f=>if f.f1=2 then (5,a.tick.put i j 2 [])
   else if f.f2=0 then (6,a.tick.cut) else if f.f2=1 then (6,a.tick.cut.put i j 2 []) else (6,a.tick.cut.put i j 1 l):=(if_neg ho).trans ((if_neg hn).trans ((if_neg hp).trans (if_neg hb)))
 rw [e0]
 cases hh:a.hit with
 | none=>exact qyQ h (by unfold qdM;rw [hh]) hof i (by omega) j (by omega) hbd hnx A c l hr hc hlz
 | some f =>
  have hfa:qdM a=f:=by unfold qdM;rw [hh]
  simp only
  rcases qrX hpl hh with ⟨h1,h2⟩|⟨h1,h2⟩
  ·have hn2:¬ f.f1=2:=by omega
   rw [if_neg hn2]
   rcases h2 with h2|h2|h2
   ·rw [if_pos h2];exact qtZ h f.f0 (by rw [hfa];cases f;simp_all) hof i (by omega) j (by omega) hbd hnx A c l hr hc hlz
   ·rw [if_neg (by omega),if_pos h2];exact qtY h f.f0 (by rw [hfa];cases f;simp_all) hof i (by omega) j (by omega) hbd hnx A c l hr hc hlz
   ·rw [if_neg (by omega),if_neg (by omega)];exact qtX h f.f0 (by rw [hfa];cases f;simp_all) hof i (by omega) j (by omega) hbd hnx A c l hr hc hlz
  ·rw [if_pos h1];exact qtW h f.f0 (by rw [hfa];cases f;simp_all) hof i (by omega) j (by omega) hbd hnx A c l hr hc hlz
end
end Go.Proofs.YtdlimghdimkadaaGreatDoor.PAll

/- Part 8 of what the law EbmFormats rests on. -/
import Derived.Test.YtdlimghdimkadaaGreatDoorU7
import Derived.Test.YtdlimghdimkadaaGreatDoorU4
import Derived.OrdersIn
import Derived.OwnWalkIn
import Derived.Maps.OwnIn
set_option maxRecDepth 100000
set_option maxHeartbeats 32000000
set_option linter.unusedSimpArgs false
set_option linter.unusedVariables false
namespace Go.Proofs.YtdlimghdimkadaaGreatDoor.PAll
open Go Go.RowKit YtdlimghdimkadaaGreatDoorW.PrintWords YtdlimghdimkadaaGreatDoorW.PrintLast YtdlimghdimkadaaGreatDoorW.PrintMore
attribute [local go_sem] qdG qdE qdY qdX qcJ qcI qdF qdD
section
instance:Inhabited Blk:=⟨⟨0,0,0,0,0,false⟩⟩
def qbK (a:AC) (n:Nat):List (Blk × Bool):=(List.range n).map fun (i:Nat)=>qdO a (i:Int)
theorem qkK (a:AC) (n:Nat):qbK a (n+1)=qbK a n ++ [qdO a (n:Int)]:=by simp [qbK,List.range_succ]
theorem qfB (a:AC) (n:Nat):(qbK a n).length=n:=by simp [qbK]
theorem qtB (a:AC) (n k:Nat) (h:k < n):(qbK a n)[k]?=some (qdO a (k:Int)):=by
 simp [qbK,List.getElem?_map,List.getElem?_range h]
def quU (s:Int × Int) (x:Blk × Bool):Int × Int:=if x.2=true then (wrap64 (s.1+x.1.f1),wrap64 (s.2+1)) else s
def qjC (l:List (Blk × Bool)):Int × Int:=l.foldl quU (0,0)
def qiI (s:Int × Int) (x:Blk × Bool):Blk:=if ¬ x.1.f0=1∧x.2=false∧0 < s.2 then { x.1 with f1:=wrap64 (Int.tdiv s.1 s.2) } else x.1
def qmP (b:Blk):Blk:=⟨3,b.f1,0,0,0,false⟩
def vbW {xs:List Blk} (f:Int→Option Nat) (x:Ent xs):Int→Option Nat:=fun l =>
 if l=x.1.2.f2 then (match f l with|none=>some x.1.1|some k=>if (xs.getD k default).f4 < x.1.2.f4 then some x.1.1 else some k) else f l
def qiM {xs:List Blk} (ys:List (Ent xs)):Int→Option Nat:=ys.foldl vbW (fun _=>none)
def qkH (xs:List Blk):Nat→Int→Option Nat
 | 0,_=>none
 | m+1,l=>if (xs.getD m default).f0=4∧l=(xs.getD m default).f2 then (match qkH xs m l with|none=>some m|some k=>if (xs.getD k default).f4 < (xs.getD m default).f4 then some m else some k) else qkH xs m l
theorem qbO {xs:List Blk} {m:Nat} (h:m < xs.length):xs.getD m default=xs[m]:=by
 rw [List.getD_eq_getElem?_getD,List.getElem?_eq_getElem h];rfl
theorem qrJ (xs:List Blk):∀ m,m≤xs.length→qiM (fil xs 4 m)=qkH xs m
 | 0,_=>rfl
 | m+1,h=>by
  have hm:m < xs.length:=by omega
  have ih:=qrJ xs m (by omega)
  by_cases hs:xs[m].f0=4
  ·rw [qkU hm hs];unfold qiM at ih ⊢;rw [List.foldl_append,ih]
   funext l
   simp only [List.foldl_cons,List.foldl_nil,vbW,qlS,qkH,qbO hm,hs,true_and]
  ·rw [qiH hm hs,ih]
   funext l
   rw [qkH,qbO hm,if_neg (fun h=>hs h.1)]
def vcO (nw:Int→Option Nat) {xs:List Blk} (l:List Blk) (x:Ent xs):List Blk:=if (nw x.1.2.f2).getD 0=x.1.1 then l else l.set x.1.1 (qmP x.1.2)
def qnN (nw:Int→Option Nat) {xs:List Blk} (ys:List (Ent xs)):List Blk:=ys.foldl (vcO nw) xs
theorem qrT (nw:Int→Option Nat) {xs:List Blk} (l:List Blk) (x:Ent xs):(vcO nw l x).length=l.length:=by
 unfold vcO;split
 ·rfl
 ·simp
theorem qrU (nw:Int→Option Nat) {xs:List Blk} (ys:List (Ent xs)):(qnN nw ys).length=xs.length:=by
 unfold qnN
 have key:∀ (ys:List (Ent xs)) (l:List Blk),(ys.foldl (vcO nw) l).length=l.length:=by
  intro ys
  induction ys with
  | nil=>intro l;rfl
  | cons y r ih=>intro l;rw [List.foldl_cons,ih,qrT]
 exact key ys xs
theorem qkZ (nw:Int→Option Nat) {xs:List Blk} (ys:List (Ent xs)) (x:Ent xs):qnN nw (ys ++ [x])=vcO nw (qnN nw ys) x:=by simp [qnN,List.foldl_append]
theorem qjN (nw:Int→Option Nat) (xs:List Blk) (i:Nat) (hi:i < xs.length):∀ m,m≤xs.length →
  (qnN nw (fil xs 4 m)).length=xs.length∧(qnN nw (fil xs 4 m))[i]?=some (if i < m∧xs[i].f0=4∧¬ (nw xs[i].f2).getD 0=i then qmP xs[i] else xs[i])
 | 0,_=>⟨rfl,by
   rw [if_neg (fun h=>by omega)]
   exact List.getElem?_eq_getElem hi⟩
 | m+1,h=>by
  obtain ⟨il,ih⟩:=qjN nw xs i hi m (by omega);have hm:m < xs.length:=by omega
  by_cases hs:xs[m].f0=4
  ·rw [qkU hm hs,qkZ];refine ⟨by rw [qrT,il],?_⟩;show (if (nw xs[m].f2).getD 0=m then qnN nw (fil xs 4 m) else (qnN nw (fil xs 4 m)).set m (qmP xs[m]))[i]?=_
   by_cases hn:(nw xs[m].f2).getD 0=m
   ·rw [if_pos hn,ih]
    by_cases him:i=m
    ·subst him;rw [if_neg (fun h=>by omega),if_neg (fun h=>h.2.2 hn)]
    ·congr 1
     by_cases h1:i < m∧xs[i].f0=4∧¬ (nw xs[i].f2).getD 0=i
     ·rw [if_pos h1,if_pos ⟨by omega,h1.2⟩]
     ·rw [if_neg h1,if_neg (fun h2=>h1 ⟨by omega,h2.2⟩)]
   ·rw [if_neg hn]
    by_cases him:i=m
    ·subst him;rw [if_pos ⟨by omega,hs,hn⟩];rw [List.getElem?_set_self (by rw [il];exact hi)]
    ·have e:((qnN nw (fil xs 4 m)).set m (qmP xs[m]))[i]?=(qnN nw (fil xs 4 m))[i]?:=List.getElem?_set_ne (fun e=>him e.symm);rw [e,ih]
     congr 1
     by_cases h1:i < m∧xs[i].f0=4∧¬ (nw xs[i].f2).getD 0=i
     ·rw [if_pos h1,if_pos ⟨by omega,h1.2⟩]
     ·rw [if_neg h1,if_neg (fun h2=>h1 ⟨by omega,h2.2⟩)]
  ·rw [qiH hm hs];refine ⟨il,?_⟩;rw [ih]
   congr 1
   by_cases h1:i < m∧xs[i].f0=4∧¬ (nw xs[i].f2).getD 0=i
   ·rw [if_pos h1,if_pos ⟨by omega,h1.2⟩]
   ·rw [if_neg h1,if_neg (fun h2=>h1 ⟨by
     by_cases him:i=m
     ·subst him;exact absurd h2.2.1 hs
     ·omega,h2.2⟩)]
theorem quA (nw:Int→Option Nat) (xs:List Blk) (k:Nat) (hk:k < xs.length):(qnN nw (fil xs 4 k))[k]?=some xs[k]:=by
 rw [(qjN nw xs k hk k (by omega)).2,if_neg (fun h=>by omega)]
def qnM (l:List (Blk × Bool)):List Blk:=l.map (qiI (qjC l))
def qoN (xs:List Blk):List Blk:=qnN (qkH xs xs.length) (fil xs 4 xs.length)
def qcM (a:AC):List Blk:=qoN (qnM (qbK a a.g.B))
theorem qoM (xs:List Blk):(qoN xs).length=xs.length:=by
 cases h:xs with
 | nil=>rfl
 | cons b r=>exact (qjN _ _ 0 (by simp) _ (Nat.le_refl _)).1
theorem qwB (xs:List Blk) (i:Nat) (hi:i < xs.length):(qoN xs)[i]?=some (if xs[i].f0=4∧¬ (qkH xs xs.length xs[i].f2).getD 0=i then qmP xs[i] else xs[i]):=by
 unfold qoN;rw [(qjN _ xs i hi _ (Nat.le_refl _)).2]
 congr 1
 by_cases h1:xs[i].f0=4∧¬ (qkH xs xs.length xs[i].f2).getD 0=i
 ·rw [if_pos h1,if_pos ⟨hi,h1⟩]
 ·rw [if_neg h1,if_neg (fun h=>h1 h.2)]
theorem qwO (l:List (Blk × Bool)):(qnM l).length=l.length:=by simp [qnM]
theorem qgA (a:AC):(qcM a).length=a.g.B:=by unfold qcM;rw [qoM,qwO,qfB]
def qfO (leb:Int):List Blk→Nat→Int
 | [],_=>-1
 | b :: r,k=>if b.f0=4∧b.f2=leb then (k:Int) else qfO leb r (k+1)
theorem qoW {xs:List Blk} {st:Int} {i:Nat} (hi:i < xs.length) (hs:xs[i].f0=st):∀ {k:Nat},i < k→qlS xs i hi ∈ fil xs st k
 | 0,h=>by omega
 | k+1,h=>by
  by_cases hk:k < xs.length
  ·by_cases hsk:xs[k].f0=st
   ·rw [qkU hk hsk]
    by_cases hik:i=k
    ·subst hik;simp
    ·exact List.mem_append.2 (.inl (qoW hi hs (by omega)))
   ·rw [qiH hk hsk]
    by_cases hik:i=k
    ·subst hik;exact absurd hs hsk
    ·exact qoW hi hs (by omega)
  ·rw [fil,dif_neg hk];exact qoW hi hs (by omega)
theorem qiG (leb:Int):∀ (xs:List Blk) (j k:Nat) (hk:k < xs.length),xs[k].f0=4→xs[k].f2=leb→(∀ i,(h:i < xs.length)→i < k→¬ (xs[i].f0=4∧xs[i].f2=leb))→qfO leb xs j=((j+k:Nat):Int)
 | [],_,_,hk,_,_,_=>by simp at hk
 | b :: r,j,0,_,h1,h2,_=>by
  unfold qfO;rw [if_pos ⟨h1,h2⟩];rfl
 | b :: r,j,k+1,hk,h1,h2,h3=>by
  unfold qfO;rw [if_neg (show ¬ (b.f0=4∧b.f2=leb) from h3 0 (by simp) (by omega)),qiG leb r (j+1) k (by simpa using hk) h1 h2 (fun i h hi=>h3 (i+1) (by simpa using h) (by omega))]
  congr 1
  omega
theorem qiT (leb:Int):∀ (xs:List Blk) (j:Nat),(∀ i,(h:i < xs.length)→¬ (xs[i].f0=4∧xs[i].f2=leb))→qfO leb xs j=-1
 | [],_,_=>rfl
 | b :: r,j,h=>by
  unfold qfO;rw [if_neg (show ¬ (b.f0=4∧b.f2=leb) from h 0 (by simp)),qiT leb r (j+1) (fun i hi=>h (i+1) (by simpa using hi))]
def qbR {xs:List Blk} (ys:List (Ent xs)):Int:=ys.foldl (fun b x=>if b < 0∨x.1.2.f1 < (xs.getD b.toNat default).f1 then (x.1.1:Int) else b) (-1)
theorem qkN {xs:List Blk} (ys:List (Ent xs)) (x:Ent xs):qbR (ys ++ [x])=if qbR ys < 0∨x.1.2.f1 < (xs.getD (qbR ys).toNat default).f1 then (x.1.1:Int) else qbR ys:=by simp [qbR,List.foldl_append]
def qgH (xs:List Blk):Int:=qbR (fil xs 2 xs.length)
end
section
open Go.Shelf
attribute [local go_sem] Oper.semAt_some
theorem qiK {β:Type} (B:Nat) (t:TypeId) (cs:Array Value):Own (fun (_:β) W=>W.heap[B]?=some (.cells cs t (0,0))):=fun s X Y row hs hg hrow =>
 (hg.block B (Array.getElem?_eq_some_iff.1 hs).1 (fun e'=>by obtain ⟨o,ho,hc⟩:=hrow B e'.symm;rw [hs] at ho;cases ho;cases hc)).trans hs
theorem vdC (F:Fence) (n:Nat) (h7:F.fn 59) (h27:F.fn 71) (h50:F.fn 125) (hro:F.round=none) (hn:4≤n) (A:Option Addr) (c:Nat) (xs:List Blk) (leb:Int) (w:World) (hr:Kd.C quL w A xs.length xs) (hlen:xs.length≤4611686018427387904) :
  CallsIn F n Tryz.prog 59 #[.slice A xs.length c,.int .i64 leb] w fun e W'=>e=.returned (.int .i64 (qfO leb xs 0))∧Below w.heap.size w W':=by
 have h1:1≤n:=by omega
 refine callsIn_of_wp_marks Tryz.func59 rfl h7 ?_ hro;simp only [Tryz.ntmps59,List.size_toArray,List.length_cons,List.length_nil,Nat.reduceAdd,Nat.reduceSub,Array.replicate_succ,Array.replicate_zero,List.push_toArray,List.append_toArray,List.nil_append,List.cons_append]
 gi_wp2_with (gi_at_call 71;refine (qlE F (n - 1) h27 hro _ _ _ _ _).mono ?_;rintro e w' ⟨rfl,rfl⟩)
 have bK:=(((Boxed.new w 3 (.int .i64 leb)).alloc (.cells #[.int .i64 0] 3)).alloc (.cells #[.slice A xs.length c] 40)).alloc (.cells #[.int .i64 4] 3);have bR:=((Boxed.new (w.alloc (.cells #[.int .i64 leb] 3)) 3 (.int .i64 0)).alloc (.cells #[.slice A xs.length c] 40)).alloc (.cells #[.int .i64 4] 3);have bS:=(Boxed.new ((w.alloc (.cells #[.int .i64 leb] 3)).alloc (.cells #[.int .i64 0] 3)) 40 (.slice A xs.length c)).alloc (.cells #[.int .i64 4] 3);have bT:=Boxed.new (((w.alloc (.cells #[.int .i64 leb] 3)).alloc (.cells #[.int .i64 0] 3)).alloc (.cells #[.slice A xs.length c] 40)) 3 (.int .i64 4);simp only [World.size_alloc] at bK bR bS bT;have hB0:Below w.heap.size w ((((w.alloc (.cells #[.int .i64 leb] 3)).alloc (.cells #[.int .i64 0] 3)).alloc (.cells #[.slice A xs.length c] 40)).alloc (.cells #[.int .i64 4] 3)):=((((Below.refl _ w).alloc (Nat.le_refl _) _).alloc (by simp) _).alloc (by simp;omega) _).alloc (by simp;omega) _;have hsz:((((w.alloc (.cells #[.int .i64 leb] 3)).alloc (.cells #[.int .i64 0] 3)).alloc (.cells #[.slice A xs.length c] 40)).alloc (.cells #[.int .i64 4] 3)).heap.size=w.heap.size+4:=by simp
 obtain ⟨W0,hW0⟩:∃ W0,(((w.alloc (.cells #[.int .i64 leb] 3)).alloc (.cells #[.int .i64 0] 3)).alloc (.cells #[.slice A xs.length c] 40)).alloc (.cells #[.int .i64 4] 3)=W0:=⟨_,rfl⟩
 rw [hW0] at bK bR bS bT hB0 hsz ⊢;clear hW0
 refine qeO hro (by omega) h50 (w.heap.size+1+1) (w.heap.size+1+1+1) 4 A c xs rfl rfl hlen
  (fun pre W=>(((∀ p ∈ pre,¬ p.1.2.f2=leb)∧Boxed W w.heap.size 3 (.int .i64 leb))∧Boxed W (w.heap.size+1) 3 (.int .i64 0))∧(Boxed W (w.heap.size+1+1) 40 (.slice A xs.length c)∧Boxed W (w.heap.size+1+1+1) 3 (.int .i64 4))∧Below w.heap.size w W)
  (fun pre W=>(∃ ini last,pre=ini ++ [last]∧(∀ p ∈ ini,¬ p.1.2.f2=leb)∧last.1.2.f2=leb∧Boxed W (w.heap.size+1) 3 (.int .i64 (last.1.1:Int)))∧Below w.heap.size w W)
  (OwnFrom.and (OwnFrom.and (OwnFrom.and (ownFrom_pure _ _) (Own.from (boxed_own _ _ _) _)) (Own.from (boxed_own _ _ _) _)) (OwnFrom.and (OwnFrom.and (Own.from (boxed_own _ _ _) _) (Own.from (boxed_own _ _ _) _)) (ownFrom_below (Nat.le_refl _) (by omega))))
  (OwnFrom.and (Own.from (fun s X Y row hs hg hrow=>by obtain ⟨ini,last,e1,e2,e3,e4⟩:=hs;exact ⟨ini,last,e1,e2,e3,boxed_own (w.heap.size+1) 3 (fun (_:Unit)=>Value.int .i64 (last.1.1:Int)) () X Y row e4 hg hrow⟩) _) (ownFrom_below (Nat.le_refl _) (by omega)))
  (fun pre W' h=>h.2.1.1.cell) (fun pre W' h=>h.2.1.2.cell) (fun k W' h hi=>qjM (Kd.C_below hr hi.2.2) k h)
  ⟨⟨⟨by simp,bK⟩,bR⟩,⟨bS,bT⟩,hB0⟩
  (fun x a' W=>∃ Bx,w.heap.size+4≤Bx∧W.heap[Bx]?=some (.cells (bC x.1.2) 68 (0,0))∧a'={ tmps:=#[.slice A xs.length c,.int .i64 leb,undef,.pointer (some ⟨w.heap.size,0,none⟩),.pointer (some ⟨w.heap.size+1,0,none⟩),.int .i64 (x.1.1:Int),.pointer (some ⟨Bx,0,none⟩),.slice A xs.length c,.func (.func 125) #[] #[.pointer (some ⟨w.heap.size+1+1,0,none⟩),.pointer (some ⟨w.heap.size+1+1+1,0,none⟩)],.int .i64 (x.1.1:Int),.agg (bC x.1.2),undef,undef,undef,undef,undef],defers:=[] })
  (fun x a' _ X Y row hs hg hrow=>by obtain ⟨Bx,h1,h2,h3⟩:=hs;exact ⟨Bx,h1,qiK (β:=Unit) Bx 68 (bC x.1.2) () X Y row h2 hg (fun r e=>(hrow r e).2),h3⟩)
  ?assign ?body ?done ?stop
 case assign =>
  rintro l pre x W K ⟨⟨⟨hp,bK1⟩,bR1⟩,⟨bS1,bT1⟩,hB1⟩ hK;have hu49:=Tryz.underlying68;have hs1:w.heap.size+1+1+1 < W.heap.size:=(Array.getElem?_eq_some_iff.1 (show W.heap[w.heap.size+1+1+1]?=_ from bT1)).1;simp only [vaK]
  gi_wp2
  exact hK _ _ ((KeepsOthers.alloc _ _).from _) ⟨⟨⟨hp,bK1.alloc _⟩,bR1.alloc _⟩,⟨bS1.alloc _,bT1.alloc _⟩,hB1.alloc hB1.size _⟩ ⟨W.heap.size,by omega,World.alloc_heap_new W _,rfl⟩
 case body =>
  rintro l pre x a' W ⟨⟨⟨hp,bK1⟩,bR1⟩,⟨bS1,bT1⟩,hB1⟩ ⟨Bx,hBx,bX,rfl⟩ hlt;have cK:=bK1.cell;have fR:=bR1.frozen;have cR:=bR1.cell;have cX:W.cell? ⟨Bx,2,none⟩=some (.int .i64 x.1.2.f2):=jC bX 2
  by_cases hle:x.1.2.f2=leb
  ·have e1:(x.1.2.f2==leb)=true:=by simp only [beq_iff_eq];exact hle
   have HLE:=aM hle;clear hle
   gi_wp2
   exact ⟨(KeepsOthers.setCell _ _ _).from _,⟨pre,x,rfl,hp,HLE.out,bR1.set _⟩,hB1.setCell (p:=⟨w.heap.size+1,0,none⟩) (by simp) _⟩
  ·have e1:(x.1.2.f2==leb)=false:=by simp only [beq_eq_false_iff_ne];exact hle
   have HLE:=aM hle;clear hle
   gi_wp2
   exact ⟨KeepsFrom.refl _ _,⟨⟨fun p hp'=>(List.mem_append.1 hp').elim (hp p) (fun e=>by simp at e;subst e;exact HLE.out),bK1⟩,bR1⟩,⟨bS1,bT1⟩,hB1⟩
 case done =>
  rintro W ⟨⟨⟨hp,bK1⟩,bR1⟩,⟨bS1,bT1⟩,hB1⟩ hK;have hcr:=bR1.cell;have hfr:=bR1.frozen
  gi_wp2
  have hK':=(KeepsOthers.setCell W ⟨w.heap.size+1,0,none⟩ (.int .i64 (-1))).same W0.heap.size _ hK rfl;refine ⟨by simp,.inl ⟨_,_,rfl,run_takeDeferred hK',?_⟩⟩;have hc5:=cell_kept (World.cell?_setCell_same' W ⟨w.heap.size+1,0,none⟩ (.int .i64 (-1)) (by rw [hcr];rfl)) (grownBy_putObj' _ W0.heap.size (.deferred none)) (fun r e=>by cases e;exact ⟨_,hK',rfl⟩);refine ⟨.int .i64 (-1),?_,?_,(hB1.setCell (p:=⟨w.heap.size+1,0,none⟩) (by simp) _).trans (belowK_b (w:=w) (Nat.le_refl _) _ W0.heap.size _ _ (by omega) hK' rfl rfl)⟩
  ·simp [results,Tryz.f59,go_sem,hc5]
  ·rw [qiT leb xs 0 (fun i h hh=>hp _ (qoW h hh.1 h) hh.2)]
 case stop =>
  rintro k hk W hs ⟨⟨ini,last,e1,e2,e3,bR1⟩,hB⟩ hK
  gi_wp2
  refine ⟨by simp,.inl ⟨_,_,rfl,run_takeDeferred hK,?_⟩⟩;have hc5:=cell_kept bR1.cell (grownBy_putObj' _ W0.heap.size (.deferred none)) (fun r e=>by cases e;exact ⟨_,hK,rfl⟩);obtain ⟨rfl,e5⟩:=List.append_inj' e1 rfl;obtain rfl:qlS xs k hk=last:=by simpa using e5
  refine ⟨.int .i64 (k:Int),?_,?_,hB.trans (belowK_b (w:=w) (Nat.le_refl _) W W0.heap.size _ _ (by omega) hK rfl rfl)⟩
  ·simp [results,Tryz.f59,go_sem,hc5,qlS]
  ·rw [qiG leb xs 0 k hk hs e3 (fun i h hi hh=>e2 _ (qoW h hh.1 hi) hh.2),Nat.zero_add]
end
end Go.Proofs.YtdlimghdimkadaaGreatDoor.PAll
namespace Go.Proofs.YtdlimghdimkadaaGreatDoor.Reg
open Go Go.RowKit YtdlimghdimkadaaGreatDoorW.PrintLast YtdlimghdimkadaaGreatDoorW.PrintWords
def qrZ:Op→Bool
 | .move _ | .assign _ | .pick .. | .load .. | .store .. | .binOp .. | .unOp .. | .fieldAddr .. | .indexAddr .. | .lookup .. | .extract ..=>true
 | _=>false
section
variable {P:Program} {Q:Exit→Act→World→Prop}
theorem qzQ {F:Fence} {n:Nat} {o:Oper} {a:Act} {next:Act→World→Prop} {w:World} (s:Sem Value) (h:o.upon P a next Q ((do pure (.value (← s)):Sem Next).run P w)):o.uponIn F n P a next Q ((do pure (.value (← s)):Sem Next).run P w):=by
 rw [Sem.run_bind] at h ⊢;generalize Sem.run P s w=r at h ⊢
 cases r with
 | ok v w'=>simpa [Result.andThen,Sem.run_pure,Oper.upon_value,Oper.uponIn_value] using h
 | halt y w'=>cases y <;> first|exact h|exact h.elim
theorem qwV {F:Fence} {n:Nat} {o:Oper} {a:Act} {next:Act→World→Prop} {w:World} (s:Sem Unit) (h:o.upon P a next Q ((do s;pure .skip:Sem Next).run P w)):o.uponIn F n P a next Q ((do s;pure .skip:Sem Next).run P w):=by
 rw [Sem.run_bind] at h ⊢;generalize Sem.run P s w=r at h ⊢
 cases r with
 | ok v w'=>simpa [Result.andThen,Sem.run_pure,Oper.upon_skip,Oper.uponIn_skip] using h
 | halt y w'=>cases y <;> first|exact h|exact h.elim
theorem vcQ {F:Fence} {n:Nat} {o:Oper} (hc:qrZ o.op=true) {a:Act} {w:World} {next:Act→World→Prop} (h:o.wp P a w next Q):o.wpIn F n P a w next Q:=by
  unfold Oper.wp at h
  unfold Oper.wpIn
  rw [Oper.semAt_plain F _ _ (by intro c hc';rw [hc'] at hc;cases hc)]
  refine ⟨by
    intro f hf
    unfold Oper.about at hf
    cases ho:o.op <;> rw [ho] at hc hf <;> first|(cases hf;done)|(cases hc;done),?_⟩
  unfold execOp at h ⊢
  cases ho:o.op <;> rw [ho] at hc h <;> first
    | (cases hc;done)
    | exact qzQ _ h
    | exact qwV _ h
    | exact h
    | (simp only [Sem.run_bind] at h ⊢
       generalize Sem.run P (asBool _) w=r at h ⊢
       cases r with
       | ok v w'=>simpa [Result.andThen,Sem.run_pure,Oper.upon_value,Oper.uponIn_value] using h
       | halt y w'=>cases y <;> first|exact h|exact h.elim)
theorem qsE {F:Fence} {f:Nat} {ops:Array Oper} (hcl:ops.toList.all (fun o=>qrZ o.op)=true) (hlo:¬ LetsOut Q) :
  ∀ (fuel:Nat) (l:Array Bool) (a:Act) (w:World),wpAny P .any ops Q fuel l a w→wpAnyIn F f P .any ops Q fuel l a w
 | 0,_,_,_,h=>h
 | fuel+1,l,a,w,h=>by
  refine ⟨h.1,fun i hi=>?_⟩;have h2:=h.2 i hi;unfold wpOp at h2;unfold wpOpIn
  cases ho:ops[i]? with
  | none=>rw [ho] at h2;exact qsE hcl hlo fuel _ a w h2
  | some o =>
   rw [ho] at h2
   have hc:qrZ o.op=true:=by
    have hm:o ∈ ops.toList:=by
     obtain ⟨hlt,he⟩:=Array.getElem?_eq_some_iff.1 ho;rw [← he];simp
    exact List.all_eq_true.1 hcl o hm
   by_cases hw:Region.wanted o (yielded ops a.tmps)=true
   ·simp only [hw,if_true] at h2 ⊢
    rcases h2 with h2|h2
    ·exact Oper.wpIn_mono (fun a w h=>qsE hcl hlo fuel _ a w h) (vcQ hc h2)
    ·exact absurd h2.2 hlo
   ·simp only [hw] at h2 ⊢;refine ⟨?_,qsE hcl hlo fuel _ _ w (by simpa using h2)⟩;intro g hg;unfold Oper.about at hg
    cases hp:o.op <;> rw [hp] at hc hg <;> first|(cases hg;done)|(cases hc;done)
end
section
variable {P:Program} {ops:Array Oper} {Q:Exit→Act→World→Prop} {T:Bool × List (List Nat × List Nat)} {B:List Nat}
theorem vcN {n:Nat} {a0:Act} {w0:World} (V:List (Nat × Tmp × Value)) (S:World→Prop) (hn:ops.size=n)
  (hT:qeN .any ops=T) (hw:qdQ T.2 B=true) (hk:qeL T.2 (List.range n)=true) (hl:T.2.length=n)
  (h0:S w0.drew) (hs:∀ i ∈ List.range n,Det P ops Q B n a0 V S i) (hV:okV V a0.tmps.size=true) (hlt:V.all (fun e=>decide (e.1 < n))=true)
  (hend:∀ w,S w→Q .normal (putV a0 V) w):wpAny P .any ops Q n (Array.replicate n false) a0 w0.drew:=by
 refine qfF (S:=fun _=>True) (ds:=[]) n (Array.replicate n false) a0 w0.drew ?_;refine veW (T:=T) (B:=B) (md:=.any) (List.range n) (fun b a w=>a=qbC a0 b V∧S w) hT hw hk ?_ ⟨?_,h0⟩ ?_ ?_
 ·rw [Bool.and_eq_true,beq_iff_eq,beq_iff_eq];refine ⟨?_,by simp⟩;apply List.ext_getElem?;intro j;simp only [lof,hl]
  by_cases hj:j < n
  ·simp [hj]
  ·simp [hj]
 ·have:∀ (V:List (Nat × Tmp × Value)) (a:Act),qbC a (fun _=>false) V=a:=by
   intro V
   induction V with
   | nil=>intro a;rfl
   | cons e r ih=>intro a;unfold qbC;simpa using ih a
  exact (this V a0).symm
 ·intro i hi b a w hI hb hdep hlat;obtain ⟨rfl,hS⟩:=hI;obtain ⟨oi,v,ho,hv,hd⟩:=hs i hi;refine ⟨oi,ho,fun K hK=>?_⟩;have hin:∀ j,j < n→(List.range n).contains j=true:=fun j hj=>by simp [hj]
  have hD:∀ j,(qkY B n i).contains j=true→b j=true:=fun j hj=>by
   have h1:=List.contains_iff_mem.1 hj;obtain ⟨h2,h3⟩:=List.mem_filter.1 h1;exact hdep j (by rw [hin j (List.mem_range.1 h2),h3];rfl)
  have hL:∀ j,(qdA B n i).contains j=true→b j=false:=fun j hj=>by
   have h1:=List.contains_iff_mem.1 hj;obtain ⟨h2,h3⟩:=List.mem_filter.1 h1;exact hlat j (by rw [hin j (List.mem_range.1 h2),h3];rfl)
  have hslot:∀ (k:Nat) (e:Nat × Tmp × Value),V[k]?=some e→(qkY B n i).contains e.1=true→(qbC a0 b V).tmps[e.2.1]?=some e.2.2:=by
   intro k e hk hDe;obtain ⟨h1,h2⟩:=qgF hV hk;refine qgB k hk ?_ (hD _ hDe) h2;rw [List.all_append,Bool.and_eq_true] at h1;refine List.all_eq_true.2 (fun x hx=>?_);have:=List.all_eq_true.1 h1.2 x hx;rw [Bool.and_eq_true] at this;exact this.2
  refine hd (qbC a0 b V) w hS ⟨fun t v ht h0t=>by rw [qdT ht];exact h0t,fun t v j hj ht h0t=>by rw [qeE (hL j hj) ht];exact h0t,fun k i t v hk hDe=>hslot k (i,t,v) hk hDe⟩ K (fun w' hS'=>?_);refine hK _ _ ⟨?_,hS'⟩
  rcases hdst:oi.dst with _|t
  ·rw [hdst] at hv;exact qfK hv
  ·rw [hdst] at hv;obtain ⟨k,hk⟩:=hv;obtain ⟨h1,_⟩:=qgF hV hk;refine qeD (L:=V) (L':=V) k hb hk ?_ h1
   have hk2:=(List.getElem?_eq_some_iff.1 hk)
   obtain ⟨hk3,hk4⟩:=hk2;rw [← hk4,List.set_getElem_self]
 ·intro b a w hb hI;obtain ⟨rfl,hS⟩:=hI
  rw [qeZ (fun e he=>hb e.1 (by
   have:=List.all_eq_true.1 hlt e he;simp only [decide_eq_true_eq] at this
   simp [this]))]
  exact hend w hS
theorem detIn {F:Fence} {f:Nat} {id n:Nat} {a0:Act} {w0:World} (V:List (Nat × Tmp × Value)) (S:World→Prop) (hm:P.follows .mixedOrders=true) (hn:ops.size=n) (hcl:ops.toList.all (fun o=>qrZ o.op)=true) (hlo:¬ LetsOut Q) (hc:qnW ops n=true)
  (h0:S w0.drew) (hs:qfR P ops Q (bits ops) n a0 V S 0 ops.toList) (hV:okV V a0.tmps.size=true) (hlt:V.all (fun e=>decide (e.1 < n))=true)
  (hend:∀ w,S w→Q .normal (putV a0 V) w):(Code.region id ops true).wpIn F f P Q a0 w0:=by
 unfold qnW at hc;rw [Bool.and_eq_true,Bool.and_eq_true,beq_iff_eq] at hc;refine wpIn_region_any hm ?_;rw [hn];refine qsE hcl hlo _ _ _ _ (vcN V S hn rfl hc.1.1 hc.1.2 hc.2 h0 (fun i hi=>?_) hV hlt hend);have h2:=qnI ops.toList 0 hs (fun j=>by simp) i (by simpa [hn] using hi)
 rwa [Nat.zero_add] at h2
end
end Go.Proofs.YtdlimghdimkadaaGreatDoor.Reg
namespace Go.Proofs.YtdlimghdimkadaaGreatDoor.PAll
open Go Go.RowKit YtdlimghdimkadaaGreatDoorW.PrintWords YtdlimghdimkadaaGreatDoorW.PrintLast YtdlimghdimkadaaGreatDoorW.PrintMore
attribute [local go_sem] qdG qdE qdY qdX qcJ qcI qdF qdD
section
open Go.Shelf
attribute [local go_sem] Oper.semAt_some
theorem qaL {W W':World} (h:W'.heap=W.heap) (p:Addr):W'.cell? p=W.cell? p:=by unfold World.cell?;rw [h]
theorem qgU {W W':World} (h:W'.heap=W.heap):KeepsOthers W W':=⟨by rw [h];exact Nat.le_refl _,fun k o hk _=>by rw [h];exact hk⟩
theorem qbJ {W W':World} (h:W'.heap=W.heap) {B:Nat} {t:TypeId} {v:Value} (hb:Boxed W B t v):Boxed W' B t v:=by
 unfold Boxed at hb ⊢;rw [h];exact hb
theorem vaA (F:Fence) (n:Nat) (h9:F.fn 60) (h27:F.fn 71) (h50:F.fn 125) (hro:F.round=none) (hn:4≤n) (A:Option Addr) (c:Nat) (xs:List Blk) (w:World) (hr:Kd.C quL w A xs.length xs) (hlen:xs.length≤4611686018427387904) :
  CallsIn F n Tryz.prog 60 #[.slice A xs.length c] w fun e W'=>e=.returned (.int .i64 (qgH xs))∧Below w.heap.size w W':=by
 have h1:1≤n:=by omega
 refine callsIn_of_wp_marks Tryz.func60 rfl h9 ?_ hro;simp only [Tryz.ntmps60,List.size_toArray,List.length_cons,List.length_nil,Nat.reduceAdd,Nat.reduceSub,Array.replicate_succ,Array.replicate_zero,List.push_toArray,List.append_toArray,List.nil_append,List.cons_append]
 gi_wp2_with (gi_at_call 71;refine (qlE F (n - 1) h27 hro _ _ _ _ _).mono ?_;rintro e w' ⟨rfl,rfl⟩)
 have bS0:=(((Boxed.new w 40 (.slice A xs.length c)).alloc (.cells #[.int .i64 (-1)] 3)).alloc (.cells #[.slice A xs.length c] 40)).alloc (.cells #[.int .i64 2] 3);have bR:=((Boxed.new (w.alloc (.cells #[.slice A xs.length c] 40)) 3 (.int .i64 (-1))).alloc (.cells #[.slice A xs.length c] 40)).alloc (.cells #[.int .i64 2] 3);have bS:=(Boxed.new ((w.alloc (.cells #[.slice A xs.length c] 40)).alloc (.cells #[.int .i64 (-1)] 3)) 40 (.slice A xs.length c)).alloc (.cells #[.int .i64 2] 3);have bT:=Boxed.new (((w.alloc (.cells #[.slice A xs.length c] 40)).alloc (.cells #[.int .i64 (-1)] 3)).alloc (.cells #[.slice A xs.length c] 40)) 3 (.int .i64 2);simp only [World.size_alloc] at bS0 bR bS bT;have hB0:Below w.heap.size w ((((w.alloc (.cells #[.slice A xs.length c] 40)).alloc (.cells #[.int .i64 (-1)] 3)).alloc (.cells #[.slice A xs.length c] 40)).alloc (.cells #[.int .i64 2] 3)):=((((Below.refl _ w).alloc (Nat.le_refl _) _).alloc (by simp) _).alloc (by simp;omega) _).alloc (by simp;omega) _;have hsz:((((w.alloc (.cells #[.slice A xs.length c] 40)).alloc (.cells #[.int .i64 (-1)] 3)).alloc (.cells #[.slice A xs.length c] 40)).alloc (.cells #[.int .i64 2] 3)).heap.size=w.heap.size+4:=by simp
 obtain ⟨W0,hW0⟩:∃ W0,(((w.alloc (.cells #[.slice A xs.length c] 40)).alloc (.cells #[.int .i64 (-1)] 3)).alloc (.cells #[.slice A xs.length c] 40)).alloc (.cells #[.int .i64 2] 3)=W0:=⟨_,rfl⟩
 rw [hW0] at bS0 bR bS bT hB0 hsz ⊢;clear hW0
 refine qeO hro (by omega) h50 (w.heap.size+1+1) (w.heap.size+1+1+1) 2 A c xs rfl rfl hlen
  (fun pre W=>(((-1≤qbR pre∧qbR pre < (xs.length:Int))∧Boxed W w.heap.size 40 (.slice A xs.length c))∧Boxed W (w.heap.size+1) 3 (.int .i64 (qbR pre)))∧(Boxed W (w.heap.size+1+1) 40 (.slice A xs.length c)∧Boxed W (w.heap.size+1+1+1) 3 (.int .i64 2))∧Below w.heap.size w W)
  (fun pre W=>False)
  (OwnFrom.and (OwnFrom.and (OwnFrom.and (ownFrom_pure _ _) (Own.from (boxed_own _ _ _) _)) (Own.from (boxed_own _ _ (fun pre=>Value.int .i64 (qbR pre))) _)) (OwnFrom.and (OwnFrom.and (Own.from (boxed_own _ _ _) _) (Own.from (boxed_own _ _ _) _)) (ownFrom_below (Nat.le_refl _) (by omega))))
  (ownFrom_pure _ _)
  (fun pre W' h=>h.2.1.1.cell) (fun pre W' h=>h.2.1.2.cell) (fun k W' h hi=>qjM (Kd.C_below hr hi.2.2) k h)
  ⟨⟨⟨⟨by show (-1:Int)≤-1;omega,by show (-1:Int) < _;omega⟩,bS0⟩,bR⟩,⟨bS,bT⟩,hB0⟩
  (fun x a' W=>∃ Bx,w.heap.size+4≤Bx∧W.heap[Bx]?=some (.cells (bC x.1.2) 68 (0,0))∧a'={ tmps:=#[.slice A xs.length c,.pointer (some ⟨w.heap.size,0,none⟩),.int .i64 0,.pointer (some ⟨w.heap.size+1,0,none⟩),.int .i64 (x.1.1:Int),.pointer (some ⟨Bx,0,none⟩),.slice A xs.length c,.func (.func 125) #[] #[.pointer (some ⟨w.heap.size+1+1,0,none⟩),.pointer (some ⟨w.heap.size+1+1+1,0,none⟩)],.int .i64 (x.1.1:Int),.agg (bC x.1.2),undef,undef,undef,undef,undef,undef,undef,undef,undef,undef,undef,undef,undef,undef],defers:=[] })
  (fun x a' _ X Y row hs hg hrow=>by obtain ⟨Bx,h1,h2,h3⟩:=hs;exact ⟨Bx,h1,qiK (β:=Unit) Bx 68 (bC x.1.2) () X Y row h2 hg (fun r e=>(hrow r e).2),h3⟩)
  ?assign ?body ?done ?stop
 case assign =>
  rintro l pre x W K ⟨⟨⟨hp,bS1⟩,bR1⟩,⟨bB1,bT1⟩,hB1⟩ hK;have hu49:=Tryz.underlying68;have hs1:w.heap.size+1+1+1 < W.heap.size:=(Array.getElem?_eq_some_iff.1 (show W.heap[w.heap.size+1+1+1]?=_ from bT1)).1;simp only [vaK]
  gi_wp2
  exact hK _ _ ((KeepsOthers.alloc _ _).from _) ⟨⟨⟨hp,bS1.alloc _⟩,bR1.alloc _⟩,⟨bB1.alloc _,bT1.alloc _⟩,hB1.alloc hB1.size _⟩ ⟨W.heap.size,by omega,World.alloc_heap_new W _,rfl⟩
 case body =>
  rintro l pre x a' W ⟨⟨⟨⟨hp1,hp2⟩,bS1⟩,bR1⟩,⟨bB1,bT1⟩,hB1⟩ ⟨Bx,hBx,bX,rfl⟩ hlt;have HLS:=aM (qkN pre x);have HBS:=aM bS1;have HBR:=aM bR1;have HBB:=aM bB1;have HBT:=aM bT1;have HB1:=aM hB1;have HXL:=aM x.2.1;have cB:=bR1.cell;have cS:=bS1.cell;have cX:W.cell? ⟨Bx,1,none⟩=some (.int .i64 x.1.2.f1):=jC bX 1;clear bS1 bB1 bT1 bR1
  have Done:∀ W',W'.heap=W.heap→Below W.heap.size W W'→qbR (pre ++ [x])=qbR pre→vbO W0.heap.size (fun pre W=>(((-1≤qbR pre∧qbR pre < (xs.length:Int))∧Boxed W w.heap.size 40 (.slice A xs.length c))∧Boxed W (w.heap.size+1) 3 (.int .i64 (qbR pre)))∧(Boxed W (w.heap.size+1+1) 40 (.slice A xs.length c)∧Boxed W (w.heap.size+1+1+1) 3 (.int .i64 2))∧Below w.heap.size w W) (fun pre W=>False) (pre ++ [x]) W .normal { tmps:=#[],defers:=[] } W':=fun W' hh hb he=>by
   refine ⟨(qgU hh).from _,⟨⟨⟨by rw [he];exact ⟨hp1,hp2⟩,qbJ hh HBS.out⟩,by rw [he];exact qbJ hh HBR.out⟩,⟨qbJ hh HBB.out,qbJ hh HBT.out⟩,qaC HB1.out hb⟩⟩
  have Put:∀ W',W'.heap=W.heap→Below W.heap.size W W'→qbR (pre ++ [x])=(x.1.1:Int)→vbO W0.heap.size (fun pre W=>(((-1≤qbR pre∧qbR pre < (xs.length:Int))∧Boxed W w.heap.size 40 (.slice A xs.length c))∧Boxed W (w.heap.size+1) 3 (.int .i64 (qbR pre)))∧(Boxed W (w.heap.size+1+1) 40 (.slice A xs.length c)∧Boxed W (w.heap.size+1+1+1) 3 (.int .i64 2))∧Below w.heap.size w W) (fun pre W=>False) (pre ++ [x]) W .normal { tmps:=#[],defers:=[] } (W'.setCell ⟨w.heap.size+1,0,none⟩ (.int .i64 (x.1.1:Int))):=fun W' hh hb he=>by
   refine ⟨((qgU hh).trans (KeepsOthers.setCell _ _ _)).from _,⟨⟨⟨by rw [he];exact ⟨by omega,by have:=HXL.out;omega⟩,(qbJ hh HBS.out).other (by omega) _⟩,by rw [he];exact (qbJ hh HBR.out).set _⟩,⟨(qbJ hh HBB.out).other (by omega) _,(qbJ hh HBT.out).other (by omega) _⟩,(qaC HB1.out hb).setCell (p:=⟨w.heap.size+1,0,none⟩) (by simp) _⟩⟩
  have HDONE:=aM Done;have HPUT:=aM Put;clear Done Put hB1
  by_cases hb0:qbR pre < 0
  ·have hm1:qbR pre=-1:=by omega
   have HE:=aM (show qbR (pre ++ [x])=(x.1.1:Int) by rw [HLS.out,if_pos (.inl hb0)]);rw [hm1] at cB;clear hm1 hb0 hp1 hp2
   gi_wp2
   refine Reg.detIn [(0,10,?r1v0),(1,11,?r1v1),(2,12,?r1v2),(3,13,undef),(4,14,undef),(5,15,undef),(6,16,undef),(7,17,undef),(8,18,undef),(9,19,undef),(10,20,undef),(11,21,?r1v11)] (fun w'=>w'.heap=W.heap∧Below W.heap.size W w') (by rfl) rfl (by rfl) (by rintro ⟨_,_,h⟩;exact h) (by kernel_rfl) ?r1S ?r1steps ?r1okv ?r1hlt ?r1fin;case r1S=>exact ⟨rfl,qaO (Below.refl _ _)⟩
   case r1steps =>
    refine Reg.fS 0 rfl rfl (fun a w hS hK K hC=>?_) ?_
    ·refine Reg.sO ?_;have e3:=hK.off 3 _ rfl rfl;have zb:=(qaL hS.1 _).trans cB;have zs:=(qaL hS.1 _).trans cS;have zx:=(qaL hS.1 _).trans cX;clear hK;go_simp;exact hC _ hS
    refine Reg.fS 1 rfl rfl (fun a w hS hK K hC=>?_) ?_
    ·refine Reg.sO ?_;have e10:=hK.sl 0 rfl;clear hK;go_simp;exact hC _ hS
    refine Reg.fS 2 rfl rfl (fun a w hS hK K hC=>?_) ?_
    ·refine Reg.sO ?_;have e11:=hK.sl 1 rfl;clear hK;go_simp;exact hC _ hS
    refine Reg.fS 3 rfl rfl (fun a w hS hK K hC=>?_) ?_
    ·refine Reg.step_off (qaN (g:=2) rfl rfl rfl (hK.sl 2 rfl)) ?_;exact hC _ hS
    refine Reg.fS 4 rfl rfl (fun a w hS hK K hC=>?_) ?_
    ·refine Reg.step_off (qaN (g:=2) rfl rfl rfl (hK.sl 2 rfl)) ?_;exact hC _ hS
    refine Reg.fS 5 rfl rfl (fun a w hS hK K hC=>?_) ?_
    ·refine Reg.step_off (qaN (g:=2) rfl rfl rfl (hK.sl 2 rfl)) ?_;exact hC _ hS
    refine Reg.fS 6 rfl rfl (fun a w hS hK K hC=>?_) ?_
    ·refine Reg.step_off (qaN (g:=2) rfl rfl rfl (hK.sl 2 rfl)) ?_;exact hC _ hS
    refine Reg.fS 7 rfl rfl (fun a w hS hK K hC=>?_) ?_
    ·refine Reg.step_off (qaN (g:=2) rfl rfl rfl (hK.sl 2 rfl)) ?_;exact hC _ hS
    refine Reg.fS 8 rfl rfl (fun a w hS hK K hC=>?_) ?_
    ·refine Reg.step_off (qaN (g:=2) rfl rfl rfl (hK.sl 2 rfl)) ?_;exact hC _ hS
    refine Reg.fS 9 rfl rfl (fun a w hS hK K hC=>?_) ?_
    ·refine Reg.step_off (qaN (g:=2) rfl rfl rfl (hK.sl 2 rfl)) ?_;exact hC _ hS
    refine Reg.fS 10 rfl rfl (fun a w hS hK K hC=>?_) ?_
    ·refine Reg.step_off (qaN (g:=2) rfl rfl rfl (hK.sl 2 rfl)) ?_;exact hC _ hS
    refine Reg.fS 11 rfl rfl (fun a w hS hK K hC=>?_) ?_
    ·refine Reg.sO ?_;have e12:=hK.sl 2 rfl;have e20:=hK.sl 10 rfl;clear hK;go_simp;exact hC _ hS
    exact Reg.from_nil
   case r1okv=>rfl
   case r1hlt=>rfl
   case r1fin =>
    intro wz hS;simp only [Reg.putV,List.foldl_cons,List.foldl_nil,Act.put,List.setIfInBounds_toArray,List.set_cons_zero,List.set_cons_succ];have HS1:=aM hS.1;have HS2:=aM hS.2;have zb:=(qaL hS.1 _).trans cB;have zf:=(qbJ hS.1 HBR.out).frozen;clear hS
    gi_wp2
    exact HPUT.out _ HS1.out HS2.out HE.out
  ·obtain ⟨k,hk⟩:∃ k:Nat,qbR pre=(k:Int):=⟨(qbR pre).toNat,by omega⟩
   have hkl:k < xs.length:=by omega
   obtain ⟨ad,eA,-,cK,-⟩:=qjM (Kd.C_below hr HB1.out) k hkl;subst eA
   have HE:=aM (show qbR (pre ++ [x])=if x.1.2.f1 < xs[k].f1 then (x.1.1:Int) else (k:Int) by
    rw [HLS.out,hk,Int.toNat_natCast,qbO hkl]
    by_cases h:x.1.2.f1 < xs[k].f1
    ·rw [if_pos h,if_pos (.inr h)]
    ·rw [if_neg h,if_neg (by rintro (h2|h2) <;> first|omega|exact h h2)])
   have HK:=aM hk;rw [hk] at cB;have d0:decide ((k:Int) < 0)=false:=decide_eq_false (by omega);have hq:(k < xs.length)=True:=eq_true hkl;have hqi:((k:Int) < (xs.length:Int))=True:=eq_true (by omega);clear hk hb0 hp1 hp2;generalize xs[k].f1=fk at cK HE
   by_cases hlt2:x.1.2.f1 < fk
   ·have d1:decide (x.1.2.f1 < fk)=true:=decide_eq_true hlt2;have HE2:=aM (HE.out.trans (if_pos hlt2));clear hlt2
    gi_wp2
    refine Reg.detIn [(0,10,?r2v0),(1,11,?r2v1),(2,12,?r2v2),(3,13,?r2v3),(4,14,?r2v4),(5,15,?r2v5),(6,16,?r2v6),(7,17,?r2v7),(8,18,?r2v8),(9,19,?r2v9),(10,20,?r2v10),(11,21,?r2v11)] (fun w'=>w'.heap=W.heap∧Below W.heap.size W w') (by rfl) rfl (by rfl) (by rintro ⟨_,_,h⟩;exact h) (by kernel_rfl) ?r2S ?r2steps ?r2okv ?r2hlt ?r2fin;case r2S=>exact ⟨rfl,qaO (Below.refl _ _)⟩
    case r2steps =>
     refine Reg.fS 0 rfl rfl (fun a w hS hK K hC=>?_) ?_
     ·refine Reg.sO ?_;have e3:=hK.off 3 _ rfl rfl;have zb:=(qaL hS.1 _).trans cB;have zs:=(qaL hS.1 _).trans cS;have zx:=(qaL hS.1 _).trans cX;have zk:=(qaL hS.1 _).trans cK;clear hK;go_simp;exact hC _ hS
     refine Reg.fS 1 rfl rfl (fun a w hS hK K hC=>?_) ?_
     ·refine Reg.sO ?_;have e10:=hK.sl 0 rfl;clear hK;go_simp;exact hC _ hS
     refine Reg.fS 2 rfl rfl (fun a w hS hK K hC=>?_) ?_
     ·refine Reg.sO ?_;have e11:=hK.sl 1 rfl;clear hK;go_simp;exact hC _ hS
     refine Reg.fS 3 rfl rfl (fun a w hS hK K hC=>?_) ?_
     ·refine Reg.step_on (qaG (g:=2) rfl rfl rfl (hK.sl 2 rfl)) ?_;have e5:=hK.off 5 _ rfl rfl;clear hK;go_simp;exact hC _ hS
     refine Reg.fS 4 rfl rfl (fun a w hS hK K hC=>?_) ?_
     ·refine Reg.step_on (qaG (g:=2) rfl rfl rfl (hK.sl 2 rfl)) ?_;have e13:=hK.sl 3 rfl;have zb:=(qaL hS.1 _).trans cB;have zs:=(qaL hS.1 _).trans cS;have zx:=(qaL hS.1 _).trans cX;have zk:=(qaL hS.1 _).trans cK;clear hK;go_simp;exact hC _ hS
     refine Reg.fS 5 rfl rfl (fun a w hS hK K hC=>?_) ?_
     ·refine Reg.step_on (qaG (g:=2) rfl rfl rfl (hK.sl 2 rfl)) ?_;have e1:=hK.off 1 _ rfl rfl;have zb:=(qaL hS.1 _).trans cB;have zs:=(qaL hS.1 _).trans cS;have zx:=(qaL hS.1 _).trans cX;have zk:=(qaL hS.1 _).trans cK;clear hK;go_simp;exact hC _ hS
     refine Reg.fS 6 rfl rfl (fun a w hS hK K hC=>?_) ?_
     ·refine Reg.step_on (qaG (g:=2) rfl rfl rfl (hK.sl 2 rfl)) ?_;have e3:=hK.off 3 _ rfl rfl;have zb:=(qaL hS.1 _).trans cB;have zs:=(qaL hS.1 _).trans cS;have zx:=(qaL hS.1 _).trans cX;have zk:=(qaL hS.1 _).trans cK;clear hK;go_simp;exact hC _ hS
     refine Reg.fS 7 rfl rfl (fun a w hS hK K hC=>?_) ?_
     ·refine Reg.step_on (qaG (g:=2) rfl rfl rfl (hK.sl 2 rfl)) ?_;have e15:=hK.sl 5 rfl;have e16:=hK.sl 6 rfl;clear hK;go_simp;exact hC _ hS
     refine Reg.fS 8 rfl rfl (fun a w hS hK K hC=>?_) ?_
     ·refine Reg.step_on (qaG (g:=2) rfl rfl rfl (hK.sl 2 rfl)) ?_;have e17:=hK.sl 7 rfl;clear hK;go_simp;exact hC _ hS
     refine Reg.fS 9 rfl rfl (fun a w hS hK K hC=>?_) ?_
     ·refine Reg.step_on (qaG (g:=2) rfl rfl rfl (hK.sl 2 rfl)) ?_;have e18:=hK.sl 8 rfl;have zb:=(qaL hS.1 _).trans cB;have zs:=(qaL hS.1 _).trans cS;have zx:=(qaL hS.1 _).trans cX;have zk:=(qaL hS.1 _).trans cK;clear hK;go_simp;exact hC _ hS
     refine Reg.fS 10 rfl rfl (fun a w hS hK K hC=>?_) ?_
     ·refine Reg.step_on (qaG (g:=2) rfl rfl rfl (hK.sl 2 rfl)) ?_;have e14:=hK.sl 4 rfl;have e19:=hK.sl 9 rfl;clear hK;go_simp;exact hC _ hS
     refine Reg.fS 11 rfl rfl (fun a w hS hK K hC=>?_) ?_
     ·refine Reg.sO ?_;have e12:=hK.sl 2 rfl;have e20:=hK.sl 10 rfl;clear hK;go_simp;exact hC _ hS
     exact Reg.from_nil
    case r2okv=>rfl
    case r2hlt=>rfl
    case r2fin =>
     intro wz hS;simp only [Reg.putV,List.foldl_cons,List.foldl_nil,Act.put,List.setIfInBounds_toArray,List.set_cons_zero,List.set_cons_succ];have HS1:=aM hS.1;have HS2:=aM hS.2;have zb:=(qaL hS.1 _).trans cB;have zf:=(qbJ hS.1 HBR.out).frozen;clear hS
     gi_wp2
     exact HPUT.out _ HS1.out HS2.out HE2.out
   ·have d1:decide (x.1.2.f1 < fk)=false:=decide_eq_false hlt2;have HE2:=aM (HE.out.trans (if_neg hlt2));clear hlt2
    gi_wp2
    refine Reg.detIn [(0,10,?r3v0),(1,11,?r3v1),(2,12,?r3v2),(3,13,?r3v3),(4,14,?r3v4),(5,15,?r3v5),(6,16,?r3v6),(7,17,?r3v7),(8,18,?r3v8),(9,19,?r3v9),(10,20,?r3v10),(11,21,?r3v11)] (fun w'=>w'.heap=W.heap∧Below W.heap.size W w') (by rfl) rfl (by rfl) (by rintro ⟨_,_,h⟩;exact h) (by kernel_rfl) ?r3S ?r3steps ?r3okv ?r3hlt ?r3fin;case r3S=>exact ⟨rfl,qaO (Below.refl _ _)⟩
    case r3steps =>
     refine Reg.fS 0 rfl rfl (fun a w hS hK K hC=>?_) ?_
     ·refine Reg.sO ?_;have e3:=hK.off 3 _ rfl rfl;have zb:=(qaL hS.1 _).trans cB;have zs:=(qaL hS.1 _).trans cS;have zx:=(qaL hS.1 _).trans cX;have zk:=(qaL hS.1 _).trans cK;clear hK;go_simp;exact hC _ hS
     refine Reg.fS 1 rfl rfl (fun a w hS hK K hC=>?_) ?_
     ·refine Reg.sO ?_;have e10:=hK.sl 0 rfl;clear hK;go_simp;exact hC _ hS
     refine Reg.fS 2 rfl rfl (fun a w hS hK K hC=>?_) ?_
     ·refine Reg.sO ?_;have e11:=hK.sl 1 rfl;clear hK;go_simp;exact hC _ hS
     refine Reg.fS 3 rfl rfl (fun a w hS hK K hC=>?_) ?_
     ·refine Reg.step_on (qaG (g:=2) rfl rfl rfl (hK.sl 2 rfl)) ?_;have e5:=hK.off 5 _ rfl rfl;clear hK;go_simp;exact hC _ hS
     refine Reg.fS 4 rfl rfl (fun a w hS hK K hC=>?_) ?_
     ·refine Reg.step_on (qaG (g:=2) rfl rfl rfl (hK.sl 2 rfl)) ?_;have e13:=hK.sl 3 rfl;have zb:=(qaL hS.1 _).trans cB;have zs:=(qaL hS.1 _).trans cS;have zx:=(qaL hS.1 _).trans cX;have zk:=(qaL hS.1 _).trans cK;clear hK;go_simp;exact hC _ hS
     refine Reg.fS 5 rfl rfl (fun a w hS hK K hC=>?_) ?_
     ·refine Reg.step_on (qaG (g:=2) rfl rfl rfl (hK.sl 2 rfl)) ?_;have e1:=hK.off 1 _ rfl rfl;have zb:=(qaL hS.1 _).trans cB;have zs:=(qaL hS.1 _).trans cS;have zx:=(qaL hS.1 _).trans cX;have zk:=(qaL hS.1 _).trans cK;clear hK;go_simp;exact hC _ hS
     refine Reg.fS 6 rfl rfl (fun a w hS hK K hC=>?_) ?_
     ·refine Reg.step_on (qaG (g:=2) rfl rfl rfl (hK.sl 2 rfl)) ?_;have e3:=hK.off 3 _ rfl rfl;have zb:=(qaL hS.1 _).trans cB;have zs:=(qaL hS.1 _).trans cS;have zx:=(qaL hS.1 _).trans cX;have zk:=(qaL hS.1 _).trans cK;clear hK;go_simp;exact hC _ hS
     refine Reg.fS 7 rfl rfl (fun a w hS hK K hC=>?_) ?_
     ·refine Reg.step_on (qaG (g:=2) rfl rfl rfl (hK.sl 2 rfl)) ?_;have e15:=hK.sl 5 rfl;have e16:=hK.sl 6 rfl;clear hK;go_simp;exact hC _ hS
     refine Reg.fS 8 rfl rfl (fun a w hS hK K hC=>?_) ?_
     ·refine Reg.step_on (qaG (g:=2) rfl rfl rfl (hK.sl 2 rfl)) ?_;have e17:=hK.sl 7 rfl;clear hK;go_simp;exact hC _ hS
     refine Reg.fS 9 rfl rfl (fun a w hS hK K hC=>?_) ?_
     ·refine Reg.step_on (qaG (g:=2) rfl rfl rfl (hK.sl 2 rfl)) ?_;have e18:=hK.sl 8 rfl;have zb:=(qaL hS.1 _).trans cB;have zs:=(qaL hS.1 _).trans cS;have zx:=(qaL hS.1 _).trans cX;have zk:=(qaL hS.1 _).trans cK;clear hK;go_simp;exact hC _ hS
     refine Reg.fS 10 rfl rfl (fun a w hS hK K hC=>?_) ?_
     ·refine Reg.step_on (qaG (g:=2) rfl rfl rfl (hK.sl 2 rfl)) ?_;have e14:=hK.sl 4 rfl;have e19:=hK.sl 9 rfl;clear hK;go_simp;exact hC _ hS
     refine Reg.fS 11 rfl rfl (fun a w hS hK K hC=>?_) ?_
     ·refine Reg.sO ?_;have e12:=hK.sl 2 rfl;have e20:=hK.sl 10 rfl;clear hK;go_simp;exact hC _ hS
     exact Reg.from_nil
    case r3okv=>rfl
    case r3hlt=>rfl
    case r3fin =>
     intro wz hS;simp only [Reg.putV,List.foldl_cons,List.foldl_nil,Act.put,List.setIfInBounds_toArray,List.set_cons_zero,List.set_cons_succ];have HS1:=aM hS.1;have HS2:=aM hS.2;clear hS
     gi_wp2
     exact HDONE.out _ HS1.out HS2.out (HE2.out.trans HK.out.symm)
 case done =>
  rintro W ⟨⟨⟨hp,bS1⟩,bR1⟩,⟨bB1,bT1⟩,hB1⟩ hK;have hcr:=bR1.cell
  gi_wp2
  refine ⟨by simp,.inl ⟨_,_,rfl,run_takeDeferred hK,?_⟩⟩;refine ⟨.int .i64 (qgH xs),?_,?_,hB1.trans (belowK_b (w:=w) (Nat.le_refl _) _ W0.heap.size _ _ (by omega) hK rfl rfl)⟩
  ·simp [results,Tryz.f60,go_sem,qgH]
  ·rfl
 case stop=>rintro k hk W hs h hK;exact h.elim
end
section
open Go.Shelf Plain
def Rows (W:World) (g:Nat) (xs:List Blk):Prop:=∃ cells:Array Value,W.heap[g]?=some (.cells cells 68 (0,0))∧∀ k,(h:k < xs.length) →
 cells[k*6]?=some (.int .i64 xs[k].f0)∧cells[k*6+1]?=some (.int .i64 xs[k].f1)∧cells[k*6+2]?=some (.int .i64 xs[k].f2)∧cells[k*6+3]?=some (.int .i64 xs[k].f3)∧cells[k*6+4]?=some (.int .u64 xs[k].f4)∧cells[k*6+5]?=some (.bool xs[k].f5)
theorem Rows.keep {W W':World} {g:Nat} {xs:List Blk} (h:Rows W g xs) (e:W'.heap[g]?=W.heap[g]?):Rows W' g xs:=by
 obtain ⟨cells,h1,h2⟩:=h;exact ⟨cells,e.trans h1,h2⟩
theorem Rows.cell {W:World} {g:Nat} {xs:List Blk} (h:Rows W g xs) (k:Nat) (hk:k < xs.length):W.cell? ⟨g,k*6,none⟩=some (.int .i64 xs[k].f0)∧W.cell? ⟨g,k*6+1,none⟩=some (.int .i64 xs[k].f1)∧W.cell? ⟨g,k*6+2,none⟩=some (.int .i64 xs[k].f2)∧W.cell? ⟨g,k*6+3,none⟩=some (.int .i64 xs[k].f3)∧W.cell? ⟨g,k*6+4,none⟩=some (.int .u64 xs[k].f4)∧W.cell? ⟨g,k*6+5,none⟩=some (.bool xs[k].f5):=by
 obtain ⟨cells,h1,h2⟩:=h;obtain ⟨a0,a1,a2,a3,a4,a5⟩:=h2 k hk;exact ⟨(jC h1 _).trans a0,(jC h1 _).trans a1,(jC h1 _).trans a2,(jC h1 _).trans a3,(jC h1 _).trans a4,(jC h1 _).trans a5⟩
theorem Rows.frozen {W:World} {g:Nat} {xs:List Blk} (h:Rows W g xs) (o:Nat):W.frozen? ⟨g,o,none⟩=false:=by
 obtain ⟨cells,h1,h2⟩:=h;exact qaE h1 o
theorem Rows.entry {W:World} {g:Nat} {xs:List Blk} (h:Rows W g xs) (k:Nat) (hk:k < xs.length):vaB W (some ⟨g,0,none⟩) k xs[k]:=by
 have e:(⟨g,0,none⟩:Addr).add (k*6)=⟨g,k*6,none⟩:=veN g (k*6);obtain ⟨a0,a1,a2,a3,a4,a5⟩:=h.cell k hk;exact ⟨_,rfl,by rw [e];exact a0,by rw [e];exact a1,by rw [e];exact a2,by rw [e];exact a3,by rw [e];exact a4,by rw [e];exact a5⟩
theorem Rows.lt {W:World} {g:Nat} {xs:List Blk} (h:Rows W g xs):g < W.heap.size:=by
 obtain ⟨cells,h1,h2⟩:=h;exact (Array.getElem?_eq_some_iff.1 h1).1
theorem Rows.own {β:Type} (g:Nat) (f:β→List Blk):Own (fun (s:β) W=>Rows W g (f s)):=fun s X Y row hs hg hrow=>by
 obtain ⟨cells,h1,h2⟩:=hs;exact ⟨cells,qiK (β:=Unit) g 68 cells () X Y row h1 hg hrow,h2⟩
theorem Rows.count {W:World} {g:Nat} {xs:List Blk} (h:Rows W g xs) (k:Nat) (hk:k < xs.length) (v:Int):Rows (W.setCell ⟨g,k*6+1,none⟩ (.int .i64 v)) g (xs.set k { xs[k] with f1:=v }):=by
 obtain ⟨cells,h1,h2⟩:=h
 have hk6:k*6+1 < cells.size:=by
  have:=(h2 k hk).2.1;exact (Array.getElem?_eq_some_iff.1 this).1
 refine ⟨cells.setIfInBounds (k*6+1) (.int .i64 v),qaR h1 (k*6+1) _ rfl,fun j hj=>?_⟩;have hj':j < xs.length:=by simpa using hj
 obtain ⟨a0,a1,a2,a3,a4,a5⟩:=h2 j hj';have ne:∀ o,o ≠ k*6+1→(cells.setIfInBounds (k*6+1) (.int .i64 v))[o]?=cells[o]?:=fun o ho=>Array.getElem?_setIfInBounds_ne (Ne.symm ho)
 by_cases hjk:j=k
 ·subst hjk;simp only [List.getElem_set_self];exact ⟨(ne (j*6) (by omega)).trans a0,Array.getElem?_setIfInBounds_self_of_lt hk6,(ne (j*6+2) (by omega)).trans a2,(ne (j*6+3) (by omega)).trans a3,(ne (j*6+4) (by omega)).trans a4,(ne (j*6+5) (by omega)).trans a5⟩
 ·rw [ne _ (by omega),ne _ (by omega),ne _ (by omega),ne _ (by omega),ne _ (by omega),ne _ (by omega),List.getElem_set_ne (fun e=>hjk e.symm)];exact ⟨a0,a1,a2,a3,a4,a5⟩
theorem Rows.put {W:World} {g:Nat} {xs:List Blk} (h:Rows W g xs) (k:Nat) (hk:k < xs.length) (x:Blk):Rows ((((((W.setCell ⟨g,k*6,none⟩ (.int .i64 x.f0)).setCell ⟨g,k*6+1,none⟩ (.int .i64 x.f1)).setCell ⟨g,k*6+2,none⟩ (.int .i64 x.f2)).setCell ⟨g,k*6+3,none⟩ (.int .i64 x.f3)).setCell ⟨g,k*6+4,none⟩ (.int .u64 x.f4)).setCell ⟨g,k*6+5,none⟩ (.bool x.f5)) g (xs.set k x):=by
 obtain ⟨cells,h1,h2⟩:=h
 have hk6:k*6+5 < cells.size:=by
  have:=(h2 k hk).2.2.2.2.2;exact (Array.getElem?_eq_some_iff.1 this).1
 refine ⟨(((((cells.setIfInBounds (k*6) (.int .i64 x.f0)).setIfInBounds (k*6+1) (.int .i64 x.f1)).setIfInBounds (k*6+2) (.int .i64 x.f2)).setIfInBounds (k*6+3) (.int .i64 x.f3)).setIfInBounds (k*6+4) (.int .u64 x.f4)).setIfInBounds (k*6+5) (.bool x.f5),?_,fun j hj=>?_⟩
 ·refine qaR (qaR (qaR (qaR (qaR (qaR h1 (k*6) _ rfl) (k*6+1) _ rfl) (k*6+2) _ rfl) (k*6+3) _ rfl) (k*6+4) _ rfl) (k*6+5) _ rfl
 ·have hj':j < xs.length:=by simpa using hj
  obtain ⟨a0,a1,a2,a3,a4,a5⟩:=h2 j hj'
  by_cases hjk:j=k
  ·subst hjk;simp only [List.getElem_set_self];refine ⟨?_,?_,?_,?_,?_,?_⟩ <;> simp [Array.getElem?_setIfInBounds] <;> omega
  ·rw [List.getElem_set_ne (fun e=>hjk e.symm)];have ne:∀ (c:Array Value) (o p:Nat) (u:Value),o ≠ p→(c.setIfInBounds p u)[o]?=c[o]?:=fun c o p u ho=>Array.getElem?_setIfInBounds_ne (Ne.symm ho)
   refine ⟨?_,?_,?_,?_,?_,?_⟩ <;> (rw [ne _ _ _ _ (by omega),ne _ _ _ _ (by omega),ne _ _ _ _ (by omega),ne _ _ _ _ (by omega),ne _ _ _ _ (by omega),ne _ _ _ _ (by omega)];assumption)
theorem Rows.of_R {W:World} {base:Nat} {ok:Nat→Prop} {v:Value} {xs:List Blk} (h:Kd.R quL 68 W base ok v xs) (h0:0 < xs.length):∃ g c,v=.slice (some ⟨g,0,none⟩) xs.length c∧base≤g∧xs.length≤c∧Rows W g xs:=by
 obtain ⟨g,c,rfl,hb,hl,cells,hg⟩:=Kd.R_form h h0;obtain ⟨hle,hC⟩:=(Kd.R_reads' h).2;refine ⟨g,c,rfl,hb,hle,cells,hg,fun k hk=>?_⟩;obtain ⟨ad,e0,a0,a1,a2,a3,a4,a5⟩:=qjM hC k hk;obtain rfl:(⟨g,0,none⟩:Addr)=ad:=by simpa using e0
 have e:(⟨g,0,none⟩:Addr).add (k*6)=⟨g,k*6,none⟩:=veN g (k*6);rw [e] at a0 a1 a2 a3 a4 a5;have q:∀ o v,W.cell? ⟨g,o,none⟩=some v→cells[o]?=some v:=fun o v hv=>(jC hg o).symm.trans hv
 exact ⟨q _ _ a0,q _ _ a1,q _ _ a2,q _ _ a3,q _ _ a4,q _ _ a5⟩
theorem quR {W:World} {base:Nat} {ok:Nat→Prop} {e g n c:Nat} {xs:List Bool} (h:Kd.R Kd.bool e W base ok (.slice (some ⟨g,0,none⟩) n c) xs) (k:Nat) (hk:k < xs.length):W.cell? ⟨g,k,none⟩=some (.bool xs[k]):=by
 obtain ⟨hn,-,hC⟩:=Kd.R_reads' h;obtain ⟨ad,cs,e0,-,hK,hc⟩:=Kd.C_get hC false (k:Int) (by omega) (by omega);obtain rfl:(⟨g,0,none⟩:Addr)=ad:=by simpa using e0
 have hK':cs=[.bool (xs.getD (k:Int).toNat false)]:=hK;have:=hc 0 (.bool (xs.getD (k:Int).toNat false)) (by rw [hK'];rfl);rw [Int.toNat_natCast] at this
 have e1:(⟨g,0,none⟩:Addr).add (k*Kd.bool.sz+0)=⟨g,k,none⟩:=by
  have:k*Kd.bool.sz+0=k:=Nat.mul_one k;rw [this];exact veN g k
 rw [e1,List.getD_eq_getElem?_getD,List.getElem?_eq_getElem hk] at this;exact this
def qlJ (s:Int × Int) (l:List (Blk × Bool)) (j:Nat):List Blk:=(l.take j).map (qiI s) ++ (l.drop j).map (·.1)
theorem qvW (s:Int × Int) (l:List (Blk × Bool)):qlJ s l 0=l.map (·.1):=by simp [qlJ]
theorem qyO (s:Int × Int) (l:List (Blk × Bool)):qlJ s l l.length=l.map (qiI s):=by simp [qlJ]
theorem qyM (s:Int × Int) (l:List (Blk × Bool)) (j:Nat) (hj:j≤l.length):(qlJ s l j).length=l.length:=by simp [qlJ];omega
theorem qmZ (s:Int × Int) (l:List (Blk × Bool)) (j:Nat) (hj:j < l.length):(qlJ s l j)[j]?=some l[j].1:=by
 unfold qlJ;rw [List.getElem?_append_right (by simp;omega)];simp [hj,Nat.min_eq_left (Nat.le_of_lt hj)]
theorem qoJ (s:Int × Int) (l:List (Blk × Bool)) (j:Nat) (hj:j < l.length):qlJ s l (j+1)=(qlJ s l j).set j (qiI s l[j]):=by
 unfold qlJ
 have e1:l.take (j+1)=l.take j ++ [l[j]]:=by
  rw [List.take_add_one,List.getElem?_eq_getElem hj];rfl
 have e2:l.drop j=l[j] :: l.drop (j+1):=List.drop_eq_getElem_cons hj;have e3:((l.take j).map (qiI s)).length=j:=by simp;omega
 rw [e1,e2,List.set_append_right _ _ (by omega),e3,Nat.sub_self,List.map_append,List.append_assoc];rfl
theorem qvX (s:Int × Int) (l:List (Blk × Bool)) (j:Nat) (hj:j < l.length) (h:qiI s l[j]=l[j].1):qlJ s l (j+1)=qlJ s l j:=by
 rw [qoJ s l j hj,h];have hm:=qmZ s l j hj;obtain ⟨hlt,he⟩:=List.getElem?_eq_some_iff.1 hm;rw [← he,List.set_getElem_self]
theorem Rows.reads {W:World} {g:Nat} {xs:List Blk} (h:Rows W g xs) (hl:xs.length≤9223372036854775807):Kd.C quL W (some ⟨g,0,none⟩) xs.length xs:=by
 refine ⟨rfl,hl,fun _=>⟨_,rfl,fun j p hj=>?_⟩⟩;obtain ⟨hk,rfl⟩:=List.getElem?_eq_some_iff.1 hj;refine ⟨[.int .i64 xs[j].f0,.int .i64 xs[j].f1,.int .i64 xs[j].f2,.int .i64 xs[j].f3,.int .u64 xs[j].f4,.bool xs[j].f5],rfl,quL.K_of_M (qwC W 0 (fun _=>True) xs[j]),fun i u hi=>?_⟩;have e:∀ o,(⟨g,0,none⟩:Addr).add o=⟨g,o,none⟩:=veN g;obtain ⟨a0,a1,a2,a3,a4,a5⟩:=h.cell j hk;rw [e];show W.cell? ⟨g,j*6+i,none⟩=some u
 match i,hi with
 | 0,hi=>cases hi;exact a0
 | 1,hi=>cases hi;exact a1
 | 2,hi=>cases hi;exact a2
 | 3,hi=>cases hi;exact a3
 | 4,hi=>cases hi;exact a4
 | 5,hi=>cases hi;exact a5
 | n+6,hi=>simp at hi
theorem qmW {l:List Int} (h:qbA l):0≤(qbT l).1.1∧(qbT l).1.1 < 256:=by
 unfold qbT
 cases ho:qgE l 77 12 with
 | none=>simp
 | some p =>
  have hp:qbA p:=by
   unfold qgE at ho
   split at ho
   ·cases ho
   ·split at ho
    ·cases ho;exact qfH h
    ·cases ho
  simp only
  split
  ·simp
  ·have hb:=qnG (l:=(p.drop 1).take 2) (fun x hx=>hp x (List.mem_of_mem_drop (List.mem_of_mem_take hx)));refine ⟨hb.1,?_⟩;show qcT ((p.drop 1).take 2) < 256;omega
theorem quE {a:AC} (h:qbV a) (n:Int):0≤(qdO a n).1.f2∧(qdO a n).1.f2 < 256:=by
 unfold qdO
 split;· simp
 split;· simp
 split;· simp
 split;· simp
 split;· simp
 split
 ·exact qmW (qhG h n 1)
 ·simp
theorem qtA {a:AC} (h:qbV a) (m:Nat):∀ x ∈ qbK a m,0≤x.1.f2∧x.1.f2 < 256:=fun x hx=>by
 obtain ⟨i,-,rfl⟩:=List.mem_map.1 hx;exact quE h i
theorem qzJ (s:Int × Int) (x:Blk × Bool):(qiI s x).f2=x.1.f2:=by unfold qiI;split <;> rfl
theorem qyN {s:Int × Int} {l:List (Blk × Bool)} (h:∀ x ∈ l,0≤x.1.f2∧x.1.f2 < 256) (j:Nat):∀ b ∈ qlJ s l j,0≤b.f2∧b.f2 < 256:=fun b hb=>by
 rcases List.mem_append.1 hb with hb|hb
 ·obtain ⟨x,hx,rfl⟩:=List.mem_map.1 hb;rw [qzJ];exact h x (List.mem_of_mem_take hx)
 ·obtain ⟨x,hx,rfl⟩:=List.mem_map.1 hb;exact h x (List.mem_of_mem_drop hx)
def qlT (D:DataW Unit) (f:Int→Option Nat):Prop:=Maps.IsMap D∧∀ l:Int,Maps.has D (.int .i64 l)=(f l).isSome∧∀ k,f l=some k→D.atKey (.int .i64 l) (.lit (.int .i64 0))=.lit (.int .i64 (k:Int))
theorem qlT.empty:qlT (.map []) (fun _=>none):=⟨⟨[],rfl⟩,fun l=>⟨rfl,fun k h=>by cases h⟩⟩
theorem qlT.put {D:DataW Unit} {f:Int→Option Nat} (h:qlT D f) (leb:Int) (i:Nat):qlT (D.put (.int .i64 leb) (.lit (.int .i64 (i:Int)))) (fun l=>if l=leb then some i else f l):=by
 refine ⟨h.1.put _ _,fun l=>?_⟩;have hk:WideAt.IsKeyLit (Lit.int .i64 leb):=by simp [WideAt.IsKeyLit]
 by_cases hl:l=leb
 ·subst hl;have e:(fun x=>if x=l then some i else f x) l=some i:=if_pos rfl;rw [e];refine ⟨by rw [Maps.has_put_same h.1 hk];rfl,fun k hk'=>?_⟩
  cases hk'
  exact Maps.atKey_put_same h.1 hk _ _
 ·have hne:Lit.int .i64 l ≠ Lit.int .i64 leb:=fun e=>hl (by cases e;rfl)
  have e:(fun x=>if x=leb then some i else f x) l=f l:=if_neg hl;rw [e];refine ⟨by rw [Maps.has_put_other hne];exact (h.2 l).1,fun k hk'=>?_⟩;rw [Maps.atKey_put_other hne];exact (h.2 l).2 k hk'
theorem qlT.getD {D:DataW Unit} {f:Int→Option Nat} (h:qlT D f) (l:Int):D.atKey (.int .i64 l) (.lit (.int .i64 0))=.lit (.int .i64 (((f l).getD 0:Nat):Int)):=by
 obtain ⟨h1,h2⟩:=h.2 l
 cases hf:f l with
 | none=>rw [hf] at h1;rw [Maps.atKey_of_not_has h1];rfl
 | some k=>rw [h2 k hf];rfl
theorem qgD {W W':World} (e:W'.heap=W.heap) {P:Program} {k:TypeId} {R:Value→Option (DataW Unit × List MemPlace)} {b n:Nat} {D:DataW Unit} (h:W.ownsMap P k R b n D):W'.ownsMap P k R b n D:=by
 obtain ⟨es,clock,hb,h2⟩:=h;exact ⟨es,clock,by rw [e];exact hb,h2⟩
theorem qqE {β:Type} {B b:Nat} {P:Program} {k:TypeId} {R:Value→Option (DataW Unit × List MemPlace)} (hB:b < B) (p:β→Nat→DataW Unit→Prop):OwnFrom B (fun (s:β) W=>∃ n D,W.ownsMap P k R b n D∧p s n D):=fun s X Y row hs hg hr=>by
 obtain ⟨n,D,h,hp⟩:=hs;exact ⟨n,D,h.kept hg (fun e=>by have:=(hr b e.symm).1;omega),hp⟩
theorem qjX {W W':World} (e:W'.heap=W.heap) {g:Nat} {xs:List Blk} (h:Rows W g xs):Rows W' g xs:=h.keep (by rw [e])
theorem vaC {l:Int} (h:0≤l∧l < 256):(Lit.int .i64 l).wf=true:=WalkArith.wf_i64 (by omega)
theorem qkP:Maps.Keyed Tryz.prog 3:=Maps.int_keyed Tryz.underlying3
theorem qjR (w:World):(zeroValue 3).run Tryz.prog w=.ok (.int .i64 0) w:=by kernel_rfl
end
end Go.Proofs.YtdlimghdimkadaaGreatDoor.PAll

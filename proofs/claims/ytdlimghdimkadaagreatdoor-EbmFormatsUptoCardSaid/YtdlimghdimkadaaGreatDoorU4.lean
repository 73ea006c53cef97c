/- Part 4 of what the law EbmFormats rests on. -/
import Derived.Test.YtdlimghdimkadaaGreatDoorU3
import Derived.LaidEql
import Derived.Stop.Asserts
import Derived.RowKitTokens
import Derived.Test.YtdlimghdimkadaaGreatDoorU1
import Derived.Lib.AppendStr
import Derived.Lib.SmallJoins
import Derived.Deep.RegionLaw
import Derived.WalkSpells
import Derived.Outline
import Derived.Lib.IfaceEq
import Derived.Deep.CutBlock
set_option maxRecDepth 100000
set_option maxHeartbeats 32000000
set_option linter.unusedSimpArgs false
set_option linter.unusedVariables false
namespace Go.Proofs.YtdlimghdimkadaaGreatDoor.PAll
open Go Go.RowKit YtdlimghdimkadaaGreatDoorW.PrintWords YtdlimghdimkadaaGreatDoorW.PrintLast YtdlimghdimkadaaGreatDoorW.PrintMore
attribute [local go_sem] qdG qdE qdY qdX qcJ qcI qdF qdD
section
open Plain
theorem Ev.succ {α:Type} {g:Nat→Option α} {r:α} (h:Ev (fun k=>g (k+1)) r):Ev g r:=Ev.step (fun _=>rfl) h
theorem qoP (p:List Int) (hp:qbA p) (h0:p.length ≠ 0) (h1:p.length≤50) (page:Int):Ev (fun k=>header_image.f k p page) (if page < 64∨512 < page then ([],22) else (qbE p page,0)):=by
 unfold header_image.f
 by_cases h:page < 64∨512 < page
 ·rw [if_pos h];have hj:Ev (fun k=>header_image.j0 k p page true) ([],22):=Ev.succ (by simp only [header_image.j0,if_true];exact Ev.now _)
  by_cases h1:page < 64
  ·simp only [if_pos h1];exact hj
  ·simp only [if_neg h1,decide_eq_true (show page > 512 by omega)];exact hj
 ·rw [if_neg h]
  obtain ⟨q,rfl⟩:∃ q:Nat,page=(q:Int):=⟨page.toNat,by omega⟩
  simp only [if_neg (show ¬ ((q:Int) < 64) by omega),decide_eq_false (show ¬ ((q:Int) > 512) by omega)];refine Ev.succ ?_;simp only [header_image.j0,Bool.false_eq_true,if_false];refine Ev.bind (qxC p hp (by omega)) ?_;rw [show (qgK p).2=0 by rw [qhK h0 (by omega)]];simp only [if_true];exact Ev.bind (qsD _ q (by omega)) (Ev.now _)
theorem qwH (n page:Int):Ev (fun k=>header_Count.f k n page) (qdN n page):=by
 unfold header_Count.f qdN
 by_cases h:n < 0∨2147483647 < n
 ·rw [if_pos (by omega)];have hj:Ev (fun k=>header_Count.j0 k n page true) ([],22):=Ev.succ (by simp only [header_Count.j0,if_true];exact Ev.now _)
  by_cases h1:n < 0
  ·simp only [if_pos h1];exact hj
  ·simp only [if_neg h1,decide_eq_true (show n > 2147483647 by omega)];exact hj
 ·simp only [if_neg (show ¬ (n < 0) by omega),decide_eq_false (show ¬ (n > 2147483647) by omega)];refine Ev.succ ?_;simp only [header_Count.j0,Bool.false_eq_true,if_false];rw [qdM (by omega) (by omega),qlF n 4 (by omega),show qfW 4=4 from rfl];simp only [Option.bind_some];have hc:=qgM n;have hl:=qeA n;simp only [if_pos (show ([69]:List Int).length+(putL 4 n).length < 140737488355328 by rw [qbD];decide)];have hi:=qoP (countP n) hc (by omega) (by omega) page
  have e:(if n < 0∨2147483647 < n∨page < 64∨512 < page then (([]:List Int),(22:Int)) else (qbE (countP n) page,0))=(if page < 64∨512 < page then (([]:List Int),(22:Int)) else (qbE (countP n) page,0)):=by
   by_cases h9:page < 64∨512 < page
   ·rw [if_pos h9,if_pos (by omega)]
   ·rw [if_neg h9,if_neg (by omega)]
  rw [e];exact Ev.bind hi (Ev.now _)
theorem qqG (leb seq pages page:Int) (hs:0≤seq):Ev (fun k=>header_Mapping.f k leb seq pages page) (qoL leb seq pages page):=by
 unfold header_Mapping.f qoL
 by_cases h:leb < 0∨256≤leb∨pages < 0∨64 < pages
 ·rw [if_pos (by omega)];have hj:Ev (fun k=>header_Mapping.j0 k page true leb seq pages) ([],22):=Ev.succ (by simp only [header_Mapping.j0,if_true];exact Ev.now _)
  by_cases h1:leb < 0
  ·simp only [if_pos h1];exact hj
  ·by_cases h2:leb ≥ 256
   ·simp only [if_neg h1,if_pos h2];exact hj
   ·by_cases h3:pages < 0
    ·simp only [if_neg h1,if_neg h2,if_pos h3];exact hj
    ·simp only [if_neg h1,if_neg h2,if_neg h3,decide_eq_true (show pages > 64 by omega)];exact hj
 ·simp only [if_neg (show ¬ (leb < 0) by omega),if_neg (show ¬ (leb ≥ 256) by omega),if_neg (show ¬ (pages < 0) by omega),decide_eq_false (show ¬ (pages > 64) by omega)];refine Ev.succ ?_;simp only [header_Mapping.j0,Bool.false_eq_true,if_false];rw [qdM (by omega) (by omega),qlF leb 2 (by omega),qlF seq 8 hs,show qfW 2=2 from rfl,show qfW 8=8 from rfl,show pages % 256=pages by omega];simp only [Option.bind_some];have hc:=qmE leb seq pages (by omega);have hl:=qfL leb seq pages;simp only [if_pos (show ([77]:List Int).length+(putL 2 leb).length < 140737488355328 by rw [qbD];decide),if_pos (show ([77] ++ putL 2 leb:List Int).length+(putL 8 seq).length < 140737488355328 by rw [List.length_append,qbD,qbD];decide),if_pos (show ([77] ++ putL 2 leb ++ putL 8 seq:List Int).length+([pages]:List Int).length < 140737488355328 by simp only [List.length_append,qbD,List.length_cons,List.length_nil];decide)];have hi:=qoP (qhM leb seq pages) hc (by omega) (by omega) page
  have e:(if leb < 0∨256≤leb∨pages < 0∨64 < pages∨page < 64∨512 < page then (([]:List Int),(22:Int)) else (qbE (qhM leb seq pages) page,0))=(if page < 64∨512 < page then (([]:List Int),(22:Int)) else (qbE (qhM leb seq pages) page,0)):=by
   by_cases h9:page < 64∨512 < page
   ·rw [if_pos h9,if_pos (by omega)]
   ·rw [if_neg h9,if_neg (by omega)]
  rw [e];exact Ev.bind hi (Ev.now _)
theorem qzN (n page:Int) (w:World):Calls Tryz.prog 132 #[.int .i64 n,.int .i64 page] w fun e w'=>∃ v:Value,e=.returned (.tuple #[v,.int .i64 (qdN n page).2])∧Kd.R (Kd.int .u8) 5 w' w.heap.size (fun _=>True) v (qdN n page).1∧Below w.heap.size w w':=by
 obtain ⟨k,hk⟩:=(qwH n page).rounds;exact header_Count.calls k n page _ _ w hk
theorem qsZ (leb seq pages page:Int) (hs:0≤seq) (w:World):Calls Tryz.prog 169 #[.agg #[.int .i64 leb,.int .u64 seq,.int .i64 pages],.int .i64 page] w fun e w'=>∃ v:Value,e=.returned (.tuple #[v,.int .i64 (qoL leb seq pages page).2])∧Kd.R (Kd.int .u8) 5 w' w.heap.size (fun _=>True) v (qoL leb seq pages page).1∧Below w.heap.size w w':=by
 obtain ⟨k,hk⟩:=(qqG leb seq pages page hs).rounds;exact header_Mapping.calls k leb seq pages page _ _ w hk
section
variable (A:Option Addr) (c:Nat) (l:List Int) (w:World)
theorem qsK (hl:qbA l) (hn:l.length≤1000000) (hr:Kd.C (Kd.int .u8) w A l.length l) (hc:l.length≤c):Calls Tryz.prog 146 #[.slice A l.length c] w fun e w'=>∃ v:Value,e=.returned (.tuple #[v,.int .i64 (qbB l).2.1,.bool (qbB l).2.2])∧Kd.R (Kd.int .u8) 5 w' w.heap.size (fun _=>True) v (qbB l).1∧Below w.heap.size w w':=by
 obtain ⟨k,hk⟩:=(qqU l hl (by omega)).rounds;exact bits_Unframe.calls k A c l _ _ _ w hr hc hk
theorem veC (hl:qbA l) (hr:Kd.C (Kd.int .u8) w A l.length l) (hc:l.length≤c):Calls Tryz.prog 150 #[.slice A l.length c] w fun e w'=>e=.returned (.int .u64 (qcT l))∧Below w.heap.size w w':=by
 obtain ⟨k,hk⟩:=(qqV l hl).rounds;exact bits_Get.calls k A c l _ w hr hc hk
theorem qzT (hn:l.length≤9223372036854775806) (hr:Kd.C (Kd.int .u8) w A l.length l) (hc:l.length≤c):Calls Tryz.prog 147 #[.slice A l.length c] w fun e w'=>e=.returned (.bool (qfD l))∧Below w.heap.size w w':=by
 obtain ⟨k,hk⟩:=(qxD l hn).rounds
 exact (bits_Blank.calls k A c l _ w hr hc hk).mono fun e w' h=>⟨h.1,h.2.below⟩
end
end
section
open Plain Go.Extern.Stop Go.Stop Go.Extern
theorem qrP (v:Value) (w:World):(Extern.ReflectliteType.typeOf #[.iface 239 v]).run Tryz.prog w=.ok (.iface 221 (.agg #[typeHandle Tryz.prog 239])) w:=by kernel_rfl
theorem qjB (w:World):(callFunc 195 #[.agg #[typeHandle Tryz.prog 239]]).run Tryz.prog w=.ok (.value (.bool true)) w:=by kernel_rfl
theorem qcK (v:Value) (w:World):(Go.method 371 221 v "Comparable").run Tryz.prog w=.ok (195,v) w:=by kernel_rfl
theorem vaG:(Tryz.prog.info? 239).map (·.comparable)=some true:=by kernel_rfl
theorem vaF:(Tryz.prog.info? 259).map (·.size)=some 1:=by kernel_rfl
theorem vfM (v:Value) (xT:TypeId) (w:World):(Instr.typeAssert (.iface 195 v) xT 223 true).run Tryz.prog w=.ok (.tuple #[.nilIface,.bool false]) w:=run_typeAssert_lacksB Tryz.underlying223 (by kernel_rfl) (by kernel_rfl) v xT w
theorem qtJ (v:Value) (xT:TypeId) (w:World):(Instr.typeAssert (.iface 195 v) xT 226 true).run Tryz.prog w=.ok (.tuple #[.iface 195 v,.bool true]) w:=run_typeAssert_hasB Tryz.underlying226 (by kernel_rfl) v xT w
theorem qnA (v:Value) (w:World):(Go.method 371 195 v "Unwrap").run Tryz.prog w=.ok (189,v) w:=by kernel_rfl
abbrev gNone (w:World) (a:Addr):Prop:=w.cell? ⟨0,0,none⟩=some (.iface 239 (.pointer (some a)))
theorem qiZ (a:Addr) (w:World) :
  Calls Tryz.prog 129 #[.iface 239 (.pointer (some a)),.iface 239 (.pointer (some a))] w fun e w'=>e=.returned (.bool true)∧Below w.heap.size w w':=by
 obtain ⟨i,hi,hcmp⟩:=Option.map_eq_some_iff.1 vaG;obtain ⟨j,hj,hjs⟩:=Option.map_eq_some_iff.1 vaF;have h8:=@run_callFunc_extern Tryz.prog 148 _ Extern.ReflectliteType.typeOf Tryz.func148 (by kernel_rfl) (by kernel_rfl) (by kernel_rfl) (by kernel_rfl);have tT:=qrP;have cT:=qjB;have mR:=qcK;have heq:=run_eql_iface_ptr_same (P:=Tryz.prog) w a Tryz.underlying132 Tryz.underlying239 hi hcmp hj;go_enter Tryz.func129,Tryz.ntmps129;go_wp2;refine wp_loop_rounds 1 ?_;rw [rounds_succ];go_wp2;go_ret;exact ⟨rfl,Below.refl _ _⟩
theorem qfM (b:Addr) (w:World) :
  Calls Tryz.prog 129 #[.nilIface,.iface 239 (.pointer (some b))] w fun e w'=>e=.returned (.bool false)∧Below w.heap.size w w':=by
 have hn:=run_eql_iface_nil_left (P:=Tryz.prog) w 239 (.pointer (some b)) Tryz.underlying132;go_enter Tryz.func129,Tryz.ntmps129;go_wp2;go_ret;exact ⟨rfl,Below.refl _ _⟩
theorem qjA (k b:Addr) (w:World) (hg:gNone w b) :
  Calls Tryz.prog 129 #[.iface 195 (.pointer (some k)),.iface 239 (.pointer (some b))] w fun e w'=>e=.returned (.bool true)∧Below w.heap.size w w':=by
 obtain ⟨i,hi,hcmp⟩:=Option.map_eq_some_iff.1 vaG;obtain ⟨j,hj,hjs⟩:=Option.map_eq_some_iff.1 vaF;have h8:=@run_callFunc_extern Tryz.prog 148 _ Extern.ReflectliteType.typeOf Tryz.func148 (by kernel_rfl) (by kernel_rfl) (by kernel_rfl) (by kernel_rfl);have tT:=qrP;have cT:=qjB;have mR:=qcK;have nW:=vfM;have uW:=qtJ;have mU:=qnA;have heq:=run_eql_iface_ptr_same (P:=Tryz.prog) w b Tryz.underlying132 Tryz.underlying239 hi hcmp hj;have hty:=run_eql_iface_types (P:=Tryz.prog) 195 239 (.pointer (some k)) (.pointer (some b)) Tryz.underlying132 (by decide) w;have hnn:=fun v=>run_eql_iface_nil_left (P:=Tryz.prog) w 239 v Tryz.underlying132
 go_enter Tryz.func129,Tryz.ntmps129;go_wp2;refine wp_loop_rounds 2 ?_;rw [rounds_succ];go_wp2;rw [rounds_succ];go_wp2;go_ret;exact ⟨rfl,Below.refl _ _⟩
end
section
abbrev jC:=@Joins.cell_of_block
theorem qaB {W w1:World} {g t:Nat} {cs:Array Value} (h:W.heap[g]?=some (.cells cs t (0,0))) (hb:Below W.heap.size W w1):w1.heap[g]?=some (.cells cs t (0,0)):=by
 rw [hb.block g (qcG h)];exact h
theorem qaM (W:World) (cs:Array Value) (t:Nat):(W.alloc (.cells cs t)).heap[W.heap.size]?=some (.cells cs t (0,0)):=Array.getElem?_push_size
theorem qaH {W w1:World} {a:Addr} {v:Value} (h:W.cell? a=some v) (hb:Below W.heap.size W w1):w1.cell? a=some v:=by
 have hlt:=World.block_lt_of_cell? _ _ h;unfold World.cell? at h ⊢;rw [hb.block _ hlt];exact h
end
section
open Go.Extern.Stop Go.Stop Go.Extern Go.Lib
abbrev eno (e:Int):Value:=.iface 26 (.int .i64 e)
abbrev fai (g:Nat):Value:=.iface 230 (.pointer (some ⟨g,0,none⟩))
def EV (W:World) (v:Value) (e:Int):Prop:=(e=0∧v=.nilIface)∨(e ≠ 0∧(v=eno e∨∃ (g:Nat) (b:Int),v=fai g∧W.heap[g]?=some (.cells #[.int .i64 b,eno e] 232 (0,0))))
def FV (W:World) (v:Value) (e:Int):Prop:=(e=0∧v=.nilIface)∨(e ≠ 0∧∃ (g:Nat) (b:Int),v=fai g∧W.heap[g]?=some (.cells #[.int .i64 b,eno e] 232 (0,0)))
theorem FV.ev {W:World} {v:Value} {e:Int} (h:FV W v e):EV W v e:=by
 rcases h with h|⟨h,h2⟩
 ·exact .inl h
 ·exact .inr ⟨h,.inr h2⟩
theorem FV.keep {W W':World} {v:Value} {e:Int} (h:FV W v e) (hk:∀ (g:Nat) (cs:Array Value),W.heap[g]?=some (.cells cs 232 (0,0))→W'.heap[g]?=some (.cells cs 232 (0,0))):FV W' v e:=by
 rcases h with h|⟨h,⟨g,b,h3,h4⟩⟩
 ·exact .inl h
 ·exact .inr ⟨h,g,b,h3,hk g _ h4⟩
theorem FV.grow {W W':World} {v:Value} {e:Int} (h:FV W v e) (hb:Below W.heap.size W W'):FV W' v e:=h.keep fun g cs hg=>qaB hg hb
theorem qkV (b e:Int) (W:World):Calls Tryz.prog 151 #[.int .i64 b,.int .i64 e] W fun x w'=>∃ v:Value,x=.returned v∧FV w' v e∧Below W.heap.size W w':=by
 by_cases h0:e=0
 ·subst h0;go_enter Tryz.func151,Tryz.ntmps151;go_wp2;go_ret;exact ⟨_,rfl,.inl ⟨rfl,rfl⟩,Below.refl _ _⟩
 ·have d0:(e==0)=false:=by simp only [beq_eq_false_iff_ne];exact h0
  have d0p:(e=0)=False:=eq_false h0;have HN:=aM h0;clear h0;go_enter Tryz.func151,Tryz.ntmps151;go_wp2;go_ret;exact ⟨_,rfl,.inr ⟨HN.out,⟨_,b,rfl,qaM _ _ _⟩⟩,qaA (Below.refl _ _) _⟩
theorem qwS (v:Value) (w:World):(Extern.ReflectliteType.typeOf #[.iface 26 v]).run Tryz.prog w=.ok (.iface 221 (.agg #[typeHandle Tryz.prog 26])) w:=by kernel_rfl
theorem qkX (w:World):(callFunc 195 #[.agg #[typeHandle Tryz.prog 26]]).run Tryz.prog w=.ok (.value (.bool true)) w:=by kernel_rfl
theorem veE:(Tryz.prog.info? 26).map (·.comparable)=some true:=by kernel_rfl
theorem vaL:Tryz.prog.underlying 26=some (.int .i64):=by kernel_rfl
theorem veD (v:Value) (xT:TypeId) (w:World):(Instr.typeAssert (.iface 26 v) xT 223 true).run Tryz.prog w=.ok (.tuple #[.nilIface,.bool false]) w:=run_typeAssert_lacksB Tryz.underlying223 (by kernel_rfl) (by kernel_rfl) v xT w
theorem qoY (v:Value) (xT:TypeId) (w:World):(Instr.typeAssert (.iface 26 v) xT 226 true).run Tryz.prog w=.ok (.tuple #[.nilIface,.bool false]) w:=run_typeAssert_lacksB Tryz.underlying226 (by kernel_rfl) (by kernel_rfl) v xT w
theorem qmH (v:Value) (xT:TypeId) (w:World):(Instr.typeAssert (.iface 26 v) xT 227 true).run Tryz.prog w=.ok (.tuple #[.nilIface,.bool false]) w:=run_typeAssert_lacksB Tryz.underlying227 (by kernel_rfl) (by kernel_rfl) v xT w
theorem vfQ (v:Value) (xT:TypeId) (w:World):(Instr.typeAssert (.iface 230 v) xT 223 true).run Tryz.prog w=.ok (.tuple #[.nilIface,.bool false]) w:=run_typeAssert_lacksB Tryz.underlying223 (by kernel_rfl) (by kernel_rfl) v xT w
theorem qtQ (v:Value) (xT:TypeId) (w:World):(Instr.typeAssert (.iface 230 v) xT 226 true).run Tryz.prog w=.ok (.tuple #[.iface 230 v,.bool true]) w:=run_typeAssert_hasB Tryz.underlying226 (by kernel_rfl) v xT w
theorem qnL (v:Value) (w:World):(Go.method 371 230 v "Unwrap").run Tryz.prog w=.ok (205,v) w:=by kernel_rfl
theorem vdW (e k:Int) (w:World):Calls Tryz.prog 129 #[eno e,eno k] w fun x w'=>x=.returned (.bool (e==k))∧Below w.heap.size w w':=by
 have h8:=@run_callFunc_extern Tryz.prog 148 _ Extern.ReflectliteType.typeOf Tryz.func148 (by kernel_rfl) (by kernel_rfl) (by kernel_rfl) (by kernel_rfl);have tT:=qwS;have cT:=qkX;have mR:=qcK;have n1:=veD;have n2:=qoY;have n3:=qmH;have heq:=fun w=>run_eql_iface_int (P:=Tryz.prog) w (k:=.i64) e k Tryz.underlying132 veE vaL
 have hn1:=fun v=>run_eql_iface_nil_left (P:=Tryz.prog) w 26 v Tryz.underlying132
 cases hb:(e==k) with
 | true =>
  rw [hb] at heq;clear hb;go_enter Tryz.func129,Tryz.ntmps129;go_wp2;refine wp_loop_rounds 1 ?_;rw [rounds_succ];go_wp2;go_ret;exact ⟨rfl,Below.refl _ _⟩
 | false =>
  rw [hb] at heq;clear hb;go_enter Tryz.func129,Tryz.ntmps129;go_wp2;refine wp_loop_rounds 1 ?_;rw [rounds_succ];go_wp2;go_ret;exact ⟨rfl,Below.refl _ _⟩
theorem vcD (k:Int) (w:World):Calls Tryz.prog 129 #[.nilIface,eno k] w fun x w'=>x=.returned (.bool false)∧Below w.heap.size w w':=by
 have hn:=run_eql_iface_nil_left (P:=Tryz.prog) w 26 (.int .i64 k) Tryz.underlying132;go_enter Tryz.func129,Tryz.ntmps129;go_wp2;go_ret;exact ⟨rfl,Below.refl _ _⟩
theorem vdV (g:Nat) (b e k:Int) (w:World) (hg:w.heap[g]?=some (.cells #[.int .i64 b,eno e] 232 (0,0))):Calls Tryz.prog 129 #[fai g,eno k] w fun x w'=>x=.returned (.bool (e==k))∧Below w.heap.size w w':=by
 have h8:=@run_callFunc_extern Tryz.prog 148 _ Extern.ReflectliteType.typeOf Tryz.func148 (by kernel_rfl) (by kernel_rfl) (by kernel_rfl) (by kernel_rfl);have tT:=qwS;have cT:=qkX;have mR:=qcK;have n1:=veD;have n2:=qoY;have n3:=qmH;have n4:=vfQ;have u1:=qtQ;have mU:=qnL;have heq:=fun w=>run_eql_iface_int (P:=Tryz.prog) w (k:=.i64) e k Tryz.underlying132 veE vaL
 have hty:=run_eql_iface_types (P:=Tryz.prog) 230 26 (.pointer (some ⟨g,0,none⟩)) (.int .i64 k) Tryz.underlying132 (by decide) w;have hn1:=fun v=>run_eql_iface_nil_left (P:=Tryz.prog) w 26 v Tryz.underlying132
 have c1:w.cell? ⟨g,1,none⟩=some (eno e):=Joins.cell_of_block hg 1;clear hg
 cases hb:(e==k) with
 | true =>
  rw [hb] at heq;clear hb;go_enter Tryz.func129,Tryz.ntmps129;go_wp2;refine wp_loop_rounds 2 ?_;rw [rounds_succ];go_wp2;rw [rounds_succ];go_wp2;go_ret;exact ⟨rfl,Below.refl _ _⟩
 | false =>
  rw [hb] at heq;clear hb;go_enter Tryz.func129,Tryz.ntmps129;go_wp2;refine wp_loop_rounds 2 ?_;rw [rounds_succ];go_wp2;rw [rounds_succ];go_wp2;go_ret;exact ⟨rfl,Below.refl _ _⟩
theorem qeS {W:World} {v:Value} {e:Int} (h:EV W v e) (k:Int) (hk:k ≠ 0):Calls Tryz.prog 129 #[v,eno k] W fun x w'=>x=.returned (.bool (e==k))∧Below W.heap.size W w':=by
 rcases h with ⟨rfl,rfl⟩|⟨h,rfl|⟨g,b,rfl,hg⟩⟩
 ·rw [show ((0:Int)==k)=false by simp only [beq_eq_false_iff_ne];exact fun h=>hk h.symm];exact vcD k W
 ·exact vdW e k W
 ·exact vdV g b e k W hg
end
section
structure F3 where
 f0:Int
 f1:Int
 f2:Int
def zF:F3:=⟨(0:Int),(0:Int),(0:Int)⟩
def kF:Kd F3:=Kd.iso (Kd.pair (Kd.int .i64) (Kd.pair (Kd.int .i64) (Kd.int .i64))) (fun x:F3=>(x.f0,x.f1,x.f2))
theorem vcC {w:World} {x:F3} {cs:List Value} (h:kF.K w x cs):cs=[.int .i64 x.f0,.int .i64 x.f1,.int .i64 x.f2]:=by
 obtain ⟨_,_,rfl,rfl,⟨_,_,rfl,rfl,rfl⟩⟩:=h;exact rfl
def quK (xs:List F3) (i:Int):F3:=xs.getD i.toNat zF
theorem vfW {w:World} {A:Option Addr} {n:Nat} {xs:List F3} (h:Kd.C kF w A n xs) (i:Int) (h0:0≤i) (h1:i < n):∃ ad , A=some ad∧w.cell? (ad.add (i.toNat*3))=some (.int .i64 (quK xs i).f0)∧w.cell? ⟨(ad.add (i.toNat*3)).block,(ad.add (i.toNat*3)).off+1,none⟩=some (.int .i64 (quK xs i).f1)∧w.cell? ⟨(ad.add (i.toNat*3)).block,(ad.add (i.toNat*3)).off+2,none⟩=some (.int .i64 (quK xs i).f2):=by
 obtain ⟨ad,c,e,_,hK,hc0⟩:=Kd.C_get h zF i h0 h1;have hc:∀ j u,c[j]?=some u→w.cell? (ad.add (i.toNat*3+j))=some u:=hc0;obtain rfl:=vcC hK;exact ⟨ad,e,hc 0 _ rfl,by rw [← qdC _ _ 1 (by omega)];exact hc 1 _ rfl,by rw [← qdC _ _ 2 (by omega)];exact hc 2 _ rfl⟩
abbrev kB:Kd Int:=Kd.int .u8
structure Pg where
 st:Int
 d:Value
structure Bk where
 bad:Bool
 er:Int
 nx:Int
 pg:Nat→Pg
structure Geo where
 B:Nat
 P:Nat
 Z:Nat
 R:Int
def GOK (g:Geo):Prop:=(16≤g.B∧g.B≤256)∧(8≤g.P∧g.P≤64)∧(64≤g.Z∧g.Z≤512)
structure Ch where
 g:Geo
 plan:Value
 pl:List F3
 frm:Int
 off:Bool
 ops:Int
 wrong:Int
 bk:Nat→Bk
def Ch.setBk (m:Ch) (i:Nat) (b:Bk):Ch:={ m with bk:=fun x=>if x=i then b else m.bk x }
def Bk.setPg (b:Bk) (j:Nat) (p:Pg):Bk:={ b with pg:=fun x=>if x=j then p else b.pg x }
def cC (gb:Nat) (m:Ch):Array Value:=#[.int .i64 m.g.B,.int .i64 m.g.P,.int .i64 m.g.Z,.int .i64 m.g.R,.slice (some ⟨gb,0,none⟩) m.g.B m.g.B,m.plan,.int .i64 m.frm,.bool m.off,.int .i64 m.ops,.int .i64 m.wrong]
def qgY (gp:Nat→Nat) (m:Ch) (k:Nat):Value :=
 if k % 4=0 then .bool (m.bk (k / 4)).bad else if k % 4=1 then .int .i64 (m.bk (k / 4)).er else if k % 4=2 then .slice (some ⟨gp (k / 4),0,none⟩) m.g.P m.g.P else .int .i64 (m.bk (k / 4)).nx
def cB (gp:Nat→Nat) (m:Ch):Array Value:=Array.ofFn fun k:Fin (m.g.B*4)=>qgY gp m k.val
def qkD (b:Bk) (k:Nat):Value:=if k % 2=0 then .int .i64 (b.pg (k / 2)).st else (b.pg (k / 2)).d
def cP (P:Nat) (b:Bk):Array Value:=Array.ofFn fun k:Fin (P*2)=>qkD b k.val
theorem veJ (gp:Nat→Nat) (m:Ch) (k:Nat) (h:k < m.g.B*4):(cB gp m)[k]?=some (qgY gp m k):=by
 unfold cB;rw [Array.getElem?_ofFn,dif_pos h]
theorem vaN (P:Nat) (b:Bk) (k:Nat) (h:k < P*2):(cP P b)[k]?=some (qkD b k):=by
 unfold cP;rw [Array.getElem?_ofFn,dif_pos h]
theorem qgT {n:Nat} (f g:Nat→Value) (k:Nat) (v:Value) (hk:g k=v) (hne:∀ x,x ≠ k→g x=f x):(Array.ofFn fun x:Fin n=>f x.val).setIfInBounds k v=Array.ofFn fun x:Fin n=>g x.val:=by
 apply Array.ext_getElem?;intro i;rw [Array.getElem?_setIfInBounds,Array.getElem?_ofFn,Array.getElem?_ofFn]
 by_cases hi:i < n
 ·by_cases hik:k=i
  ·subst hik;rw [if_pos rfl,if_pos (by simpa using hi),dif_pos hi,hk]
  ·rw [if_neg hik,dif_pos hi,dif_pos hi,hne i (fun h=>hik h.symm)]
 ·by_cases hik:k=i
  ·subst hik;rw [if_pos rfl,if_neg (by simpa using hi),dif_neg hi]
  ·rw [if_neg hik,dif_neg hi,dif_neg hi]
structure St (w0 W:World) (gc gb:Nat) (gp:Nat→Nat) (m:Ch) (D:Nat→Nat→List Int):Prop where
 c:W.heap[gc]?=some (.cells (cC gb m) 92 (0,0))
 b:W.heap[gb]?=some (.cells (cB gp m) 97 (0,0))
 p:∀ i,i < m.g.B→W.heap[gp i]?=some (.cells (cP m.g.P (m.bk i)) 159 (0,0))
 inj:∀ i j,i < m.g.B→j < m.g.B→gp i=gp j→i=j
 ec:w0.heap.size≤gc
 eb:w0.heap.size≤gb
 ep:∀ i,i < m.g.B→w0.heap.size≤gp i
 d:∀ i j,i < m.g.B→j < m.g.P→Kd.R kB 5 W w0.heap.size (fun _=>True) ((m.bk i).pg j).d (D i j)
 pln:Kd.R kF 83 W w0.heap.size (fun _=>True) m.plan m.pl
 below:Below w0.heap.size w0 W
 gok:GOK m.g
section
variable {w0 W W':World} {gc gb:Nat} {gp:Nat→Nat} {m m':Ch} {D D':Nat→Nat→List Int}
theorem St.grow (h:St w0 W gc gb gp m D) (hb:Below W.heap.size W W'):St w0 W' gc gb gp m D :=
 ⟨qaB h.c hb,qaB h.b hb,fun i hi=>qaB (h.p i hi) hb,h.inj,h.ec,h.eb,h.ep,fun i j hi hj=>Kd.R_below (h.d i j hi hj) hb,Kd.R_below h.pln hb,qaC h.below hb,h.gok⟩
theorem qaW {W:World} {g g' t t':Nat} {cs cs':Array Value} (h:W.heap[g]?=some (.cells cs t (0,0))) (h':W.heap[g']?=some (.cells cs' t' (0,0))) (ht:t ≠ t'):g ≠ g':=fun e=>by
 subst e;rw [h] at h';simp only [Option.some.injEq,Obj.cells.injEq] at h';exact ht h'.2.1
theorem St.setC (h:St w0 W gc gb gp m D) (k:Nat) (v:Value) (hm:(cC gb m).setIfInBounds k v=cC gb m') (hgo:m'.g=m.g) (hb:m'.bk=m.bk) (hpl:Kd.R kF 83 W w0.heap.size (fun _=>True) m'.plan m'.pl):St w0 (W.setCell ⟨gc,k,none⟩ v) gc gb gp m' D:=by
 have hB:cB gp m'=cB gp m:=by unfold cB qgY;rw [hb,hgo]
 refine ⟨hm ▸ qcB h.c k v,?_,fun i hi=>?_,by rw [hgo];exact h.inj,h.ec,h.eb,by rw [hgo];exact h.ep,fun i j hi hj=>?_,Kd.R_set hpl h.c (by decide) _ _,qaK h.below h.ec,by rw [hgo];exact h.gok⟩
 ·rw [hB];exact qaT h.b (qaW h.b h.c (by decide)) _
 ·rw [hgo] at hi ⊢;rw [hb];exact qaT (h.p i hi) (qaW (h.p i hi) h.c (by decide)) _
 ·rw [hgo] at hi hj;rw [hb];exact Kd.R_set (h.d i j hi hj) h.c (by decide) _ _
theorem St.setB (h:St w0 W gc gb gp m D) (k:Nat) (v:Value) (hm:(cB gp m).setIfInBounds k v=cB gp m') (hgo:m'.g=m.g) (hC:cC gb m'=cC gb m) (hp:∀ i,i < m.g.B→(m'.bk i).pg=(m.bk i).pg) (hpl:m'.plan=m.plan∧m'.pl=m.pl):St w0 (W.setCell ⟨gb,k,none⟩ v) gc gb gp m' D:=by
 have hP:∀ i,i < m.g.B→cP m.g.P (m'.bk i)=cP m.g.P (m.bk i):=fun i hi=>by unfold cP qkD;rw [hp i hi]
 refine ⟨?_,hm ▸ qcB h.b k v,fun i hi=>?_,by rw [hgo];exact h.inj,h.ec,h.eb,by rw [hgo];exact h.ep,fun i j hi hj=>?_,by rw [hpl.1,hpl.2];exact Kd.R_set h.pln h.b (by decide) _ _,qaK h.below h.eb,by rw [hgo];exact h.gok⟩
 ·rw [hC];exact qaT h.c (qaW h.c h.b (by decide)) _
 ·rw [hgo] at hi ⊢;rw [hP i hi];exact qaT (h.p i hi) (qaW (h.p i hi) h.b (by decide)) _
 ·rw [hgo] at hi hj;rw [hp i hi];exact Kd.R_set (h.d i j hi hj) h.b (by decide) _ _
theorem St.setP (h:St w0 W gc gb gp m D) (i:Nat) (hi:i < m.g.B) (k:Nat) (v:Value) (hm:(cP m.g.P (m.bk i)).setIfInBounds k v=cP m.g.P (m'.bk i)) (hgo:m'.g=m.g) (hC:cC gb m'=cC gb m) (hB:cB gp m'=cB gp m) (ho:∀ x,x < m.g.B→x ≠ i→m'.bk x=m.bk x)
  (hd:∀ x j,x < m.g.B→j < m.g.P→Kd.R kB 5 W w0.heap.size (fun _=>True) ((m'.bk x).pg j).d (D' x j)) (hpl:m'.plan=m.plan∧m'.pl=m.pl):St w0 (W.setCell ⟨gp i,k,none⟩ v) gc gb gp m' D':=by
 refine ⟨?_,?_,fun x hx=>?_,by rw [hgo];exact h.inj,h.ec,h.eb,by rw [hgo];exact h.ep,fun x j hx hj=>?_,by rw [hpl.1,hpl.2];exact Kd.R_set h.pln (h.p i hi) (by decide) _ _,qaK h.below (h.ep i hi),by rw [hgo];exact h.gok⟩
 ·rw [hC];exact qaT h.c (qaW h.c (h.p i hi) (by decide)) _
 ·rw [hB];exact qaT h.b (qaW h.b (h.p i hi) (by decide)) _
 ·rw [hgo] at hx ⊢
  by_cases hxi:x=i
  ·subst hxi;exact hm ▸ qcB (h.p x hx) k v
  ·rw [ho x hx hxi];exact qaT (h.p x hx) (fun e=>hxi (h.inj x i hx hi e)) _
 ·rw [hgo] at hx hj;exact Kd.R_set (hd x j hx hj) (h.p i hi) (by decide) _ _
end
theorem vfT (gp:Nat→Nat) (m:Ch) (i:Nat) (x:Int):(cB gp m).setIfInBounds (i*4+3) (.int .i64 x)=cB gp (m.setBk i { m.bk i with nx:=x }):=by
 refine qgT (qgY gp m) _ _ _ ?_ (fun k hk=>?_)
 ·unfold qgY Ch.setBk;rw [show (i*4+3) % 4=3 by omega,show (i*4+3) / 4=i by omega];simp
 ·unfold qgY Ch.setBk
  by_cases h:k / 4=i
  ·have h4:k % 4=0∨k % 4=1∨k % 4=2:=by omega
   rcases h4 with h4|h4|h4 <;> simp [h,h4]
  ·simp [h]
theorem vfU (gp:Nat→Nat) (m:Ch) (i:Nat) (x:Int):(cB gp m).setIfInBounds (i*4+1) (.int .i64 x)=cB gp (m.setBk i { m.bk i with er:=x }):=by
 refine qgT (qgY gp m) _ _ _ ?_ (fun k hk=>?_)
 ·unfold qgY Ch.setBk;rw [show (i*4+1) % 4=1 by omega,show (i*4+1) / 4=i by omega];simp
 ·unfold qgY Ch.setBk
  by_cases h:k / 4=i
  ·have h4:k % 4=0∨k % 4=2∨k % 4=3:=by omega
   rcases h4 with h4|h4|h4 <;> simp [h,h4]
  ·simp [h]
theorem veK (gp:Nat→Nat) (m:Ch) (i:Nat) (x:Bool):(cB gp m).setIfInBounds (i*4) (.bool x)=cB gp (m.setBk i { m.bk i with bad:=x }):=by
 refine qgT (qgY gp m) _ _ _ ?_ (fun k hk=>?_)
 ·unfold qgY Ch.setBk;rw [show (i*4) % 4=0 by omega,show (i*4) / 4=i by omega];simp
 ·unfold qgY Ch.setBk
  by_cases h:k / 4=i
  ·have h4:k % 4=1∨k % 4=2∨k % 4=3:=by omega
   rcases h4 with h4|h4|h4 <;> simp [h,h4]
  ·simp [h]
theorem vfS (P:Nat) (b:Bk) (j:Nat) (x:Int):(cP P b).setIfInBounds (j*2) (.int .i64 x)=cP P (b.setPg j { b.pg j with st:=x }):=by
 refine qgT (qkD b) _ _ _ ?_ (fun k hk=>?_)
 ·unfold qkD Bk.setPg;rw [show (j*2) % 2=0 by omega,show (j*2) / 2=j by omega];simp
 ·unfold qkD Bk.setPg
  by_cases h:k / 2=j
  ·have h4:k % 2=1:=by omega
   rcases h4 with h4 <;> simp [h,h4]
  ·simp [h]
theorem cP_d (P:Nat) (b:Bk) (j:Nat) (v:Value):(cP P b).setIfInBounds (j*2+1) v=cP P (b.setPg j { b.pg j with d:=v }):=by
 refine qgT (qkD b) _ _ _ ?_ (fun k hk=>?_)
 ·unfold qkD Bk.setPg;rw [show (j*2+1) % 2=1 by omega,show (j*2+1) / 2=j by omega];simp
 ·unfold qkD Bk.setPg
  by_cases h:k / 2=j
  ·have h4:k % 2=0:=by omega
   rcases h4 with h4 <;> simp [h,h4]
  ·simp [h]
theorem St.cellC {w0 W:World} {gc gb:Nat} {gp:Nat→Nat} {m:Ch} {D:Nat→Nat→List Int} (h:St w0 W gc gb gp m D) (k:Nat):W.cell? ⟨gc,k,none⟩=(cC gb m)[k]?:=qaP h.c k
theorem St.cellB {w0 W:World} {gc gb:Nat} {gp:Nat→Nat} {m:Ch} {D:Nat→Nat→List Int} (h:St w0 W gc gb gp m D) (i:Nat) (hi:i < m.g.B) :
  W.cell? ⟨gb,i*4,none⟩=some (.bool (m.bk i).bad)∧W.cell? ⟨gb,i*4+1,none⟩=some (.int .i64 (m.bk i).er)∧W.cell? ⟨gb,i*4+2,none⟩=some (.slice (some ⟨gp i,0,none⟩) m.g.P m.g.P)∧W.cell? ⟨gb,i*4+3,none⟩=some (.int .i64 (m.bk i).nx):=by
 refine ⟨?_,?_,?_,?_⟩ <;> rw [qaP h.b,veJ _ _ _ (by omega)] <;> unfold qgY
 ·rw [if_pos (by omega),show i*4 / 4=i by omega]
 ·rw [if_neg (by omega),if_pos (by omega),show (i*4+1) / 4=i by omega]
 ·rw [if_neg (by omega),if_neg (by omega),if_pos (by omega),show (i*4+2) / 4=i by omega]
 ·rw [if_neg (by omega),if_neg (by omega),if_neg (by omega),show (i*4+3) / 4=i by omega]
theorem St.cellP {w0 W:World} {gc gb:Nat} {gp:Nat→Nat} {m:Ch} {D:Nat→Nat→List Int} (h:St w0 W gc gb gp m D) (i:Nat) (hi:i < m.g.B) (j:Nat) (hj:j < m.g.P) :
  W.cell? ⟨gp i,j*2,none⟩=some (.int .i64 ((m.bk i).pg j).st)∧W.cell? ⟨gp i,j*2+1,none⟩=some ((m.bk i).pg j).d:=by
 refine ⟨?_,?_⟩ <;> rw [qaP (h.p i hi),vaN _ _ _ (by omega)] <;> unfold qkD
 ·rw [if_pos (by omega),show j*2 / 2=j by omega]
 ·rw [if_neg (by omega),show (j*2+1) / 2=j by omega]
end
section
variable {w0 W:World} {gc gb:Nat} {gp:Nat→Nat} {m:Ch} {D:Nat→Nat→List Int}
abbrev cp (gc:Nat):Value:=.pointer (some ⟨gc,0,none⟩)
abbrev bp (gb n:Nat):Value:=.pointer (some ⟨gb,n*4,none⟩)
def qaY (W w':World):Prop:=∀ (k:Nat) (cs:Array Value) (t:Nat) (fr:Nat × Nat),t ≠ 92→t ≠ 97→t ≠ 159→W.heap[k]?=some (.cells cs t fr)→w'.heap[k]?=some (.cells cs t fr)
theorem qaY.of_below {W w':World} (h:Below W.heap.size W w'):qaY W w':=fun k cs t fr _ _ _ hk=>by rw [h.block k (qcG hk)];exact hk
theorem qaY.refl (W:World):qaY W W:=fun _ _ _ _ _ _ _ h=>h
theorem qaY.trans {W w1 w2:World} (h:qaY W w1) (h2:qaY w1 w2):qaY W w2:=fun k cs t fr a b c hk=>h2 k cs t fr a b c (h k cs t fr a b c hk)
theorem qaY.set {W w':World} (h:qaY W w') {g t:Nat} {cs:Array Value} (hg:w'.heap[g]?=some (.cells cs t (0,0))) (ht:t=92∨t=97∨t=159) (k:Nat) (v:Value):qaY W (w'.setCell ⟨g,k,none⟩ v):=fun x cs2 t2 fr h1 h2 h3 hx=>by
 have h5:=h x cs2 t2 fr h1 h2 h3 hx
 have hne:x ≠ g:=fun e=>by
  subst e;rw [h5] at hg;simp only [Option.some.injEq,Obj.cells.injEq] at hg;have e2:=hg.2.1
  rcases ht with h|h|h
  ·exact h1 (e2.trans h)
  ·exact h2 (e2.trans h)
  ·exact h3 (e2.trans h)
 exact (Below.heap_setCell w' ⟨g,k,none⟩ v x hne).trans h5
theorem qaY.fresh {W w':World} (h:qaY W w') {p:Addr} (hp:W.heap.size≤p.block) (v:Value):qaY W (w'.setCell p v):=fun x cs2 t2 fr h1 h2 h3 hx=>by
 have hlt:=qcG hx;exact (Below.heap_setCell w' p v x (by omega)).trans (h x cs2 t2 fr h1 h2 h3 hx)
theorem qpK (h:St w0 W gc gb gp m D) (n:Nat) (hn:n < m.g.B) :
  Calls Tryz.prog 98 #[cp gc,.int .i64 n] W fun e w'=>e=.returned (bp gb n)∧Below W.heap.size W w':=by
 have c4:W.cell? ⟨gc,4,none⟩=some (.slice (some ⟨gb,0,none⟩) m.g.B m.g.B):=h.cellC 4;have d1:decide ((n:Int) < 0)=false:=decide_eq_false (by omega);have d2:decide ((m.g.B:Int)≤(n:Int))=false:=decide_eq_false (by omega);have d3:decide (m.g.B≤n)=false:=decide_eq_false (by omega);have hq:(n < m.g.B)=True:=eq_true hn;clear h;go_enter Tryz.func98,Tryz.ntmps98;go_wp2;go_ret;exact ⟨rfl,Below.refl _ _⟩
theorem qxE (h:St w0 W gc gb gp m D) (n:Int) (hn:n < 0∨m.g.B≤n) :
  Calls Tryz.prog 98 #[cp gc,.int .i64 n] W fun e w'=>e=.returned (.pointer none)∧Below W.heap.size W w':=by
 have c4:W.cell? ⟨gc,4,none⟩=some (.slice (some ⟨gb,0,none⟩) m.g.B m.g.B):=h.cellC 4;clear h
 by_cases h0:n < 0
 ·have d1:decide (n < 0)=true:=decide_eq_true h0;go_enter Tryz.func98,Tryz.ntmps98;go_wp2;go_ret;exact ⟨rfl,Below.refl _ _⟩
 ·have d1:decide (n < 0)=false:=decide_eq_false h0;have d2:decide ((m.g.B:Int)≤n)=true:=decide_eq_true (by omega);go_enter Tryz.func98,Tryz.ntmps98;go_wp2;go_ret;exact ⟨rfl,Below.refl _ _⟩
theorem qbP (h:St w0 W gc gb gp m D) (hoff:m.off=false) (n:Nat) (hn:n < m.g.B) :
  Calls Tryz.prog 114 #[cp gc,.int .i64 n] W fun e w'=>e=.returned (.tuple #[bp gb n,.int .i64 0])∧Below W.heap.size W w':=by
 have c7:∀ w',Below W.heap.size W w'→w'.cell? ⟨gc,7,none⟩=some (.bool false):=fun w' hb=>qaH (by rw [h.cellC 7];simp [cC,hoff]) hb
 have HA:=aM (qpK h n hn);have HC:=aM c7;clear h hoff c7;go_enter Tryz.func114,Tryz.ntmps114
 go_wp2_with (first
  | (go_at_call 98;(with_reducible refine HA.out.mono ?_);rintro e w1 ⟨rfl,hb1⟩;have HB1:=aM hb1;have z7:=HC.out w1 hb1;clear hb1))
 go_ret2;exact ⟨rfl,HB1.out⟩
theorem qjH (h:St w0 W gc gb gp m D) (hoff:m.off=false) (n:Int) (hn:n < 0∨m.g.B≤n) :
  Calls Tryz.prog 114 #[cp gc,.int .i64 n] W fun e w'=>e=.returned (.tuple #[.pointer none,.int .i64 22])∧Below W.heap.size W w':=by
 have c7:∀ w',Below W.heap.size W w'→w'.cell? ⟨gc,7,none⟩=some (.bool false):=fun w' hb=>qaH (by rw [h.cellC 7];simp [cC,hoff]) hb
 have HA:=aM (qxE h n hn);have HC:=aM c7;clear h hoff c7;go_enter Tryz.func114,Tryz.ntmps114
 go_wp2_with (first
  | (go_at_call 98;(with_reducible refine HA.out.mono ?_);rintro e w1 ⟨rfl,hb1⟩;have HB1:=aM hb1;have z7:=HC.out w1 hb1;clear hb1))
 go_ret2;exact ⟨rfl,HB1.out⟩
theorem qhU (h:St w0 W gc gb gp m D) (hoff:m.off=true) (n:Int) :
  Calls Tryz.prog 114 #[cp gc,.int .i64 n] W fun e w'=>e=.returned (.tuple #[.pointer none,.int .i64 6])∧Below W.heap.size W w':=by
 have c7:∀ w',Below W.heap.size W w'→w'.cell? ⟨gc,7,none⟩=some (.bool true):=fun w' hb=>qaH (by rw [h.cellC 7];simp [cC,hoff]) hb
 have hat:∃ v:Value,Calls Tryz.prog 98 #[cp gc,.int .i64 n] W fun e w'=>e=.returned v∧Below W.heap.size W w':=by
  by_cases hn:0≤n∧n < m.g.B
  ·obtain ⟨k,rfl⟩:∃ k:Nat,n=(k:Int):=⟨n.toNat,by omega⟩
   exact ⟨_,qpK h k (by omega)⟩
  ·exact ⟨_,qxE h n (by omega)⟩
 obtain ⟨v,hat⟩:=hat;have HA:=aM hat;have HC:=aM c7;clear h hoff c7 hat;go_enter Tryz.func114,Tryz.ntmps114
 go_wp2_with (first
  | (go_at_call 98;(with_reducible refine HA.out.mono ?_);rintro e w1 ⟨rfl,hb1⟩;have HB1:=aM hb1;have z7:=HC.out w1 hb1;clear hb1))
 go_ret2;exact ⟨rfl,HB1.out⟩
theorem qyK (h:St w0 W gc gb gp m D) (n:Nat) (hn:n < m.g.B) :
  Calls Tryz.prog 81 #[cp gc,.int .i64 n] W fun e w'=>e=.returned (.int .i64 (m.bk n).nx)∧Below W.heap.size W w':=by
 have c3:∀ w',Below W.heap.size W w'→w'.cell? ⟨gb,n*4+3,none⟩=some (.int .i64 (m.bk n).nx):=fun w' hb=>qaH (h.cellB n hn).2.2.2 hb
 have HA:=aM (qpK h n hn);have HC:=aM c3;clear h c3;go_enter Tryz.func81,Tryz.ntmps81
 go_wp2_with (first
  | (go_at_call 98;(with_reducible refine HA.out.mono ?_);rintro e w1 ⟨rfl,hb1⟩;have HB1:=aM hb1;have z7:=HC.out w1 hb1;clear hb1))
 go_ret;exact ⟨rfl,HB1.out⟩
theorem vbU (h:St w0 W gc gb gp m D) (n:Int) (hn:n < 0∨m.g.B≤n) :
  Calls Tryz.prog 81 #[cp gc,.int .i64 n] W fun e w'=>e=.returned (.int .i64 0)∧Below W.heap.size W w':=by
 have HA:=aM (qxE h n hn);clear h;go_enter Tryz.func81,Tryz.ntmps81
 go_wp2_with (first
  | (go_at_call 98;(with_reducible refine HA.out.mono ?_);rintro e w1 ⟨rfl,hb1⟩;have HB1:=aM hb1;clear hb1))
 go_ret;exact ⟨rfl,HB1.out⟩
theorem vfL (h:St w0 W gc gb gp m D):Calls Tryz.prog 48 #[cp gc] W fun e w'=>e=.returned (.bool !m.off)∧Below W.heap.size W w':=by
 have c7:W.cell? ⟨gc,7,none⟩=some (.bool m.off):=h.cellC 7;clear h;go_enter Tryz.func48,Tryz.ntmps48;go_wp2;go_ret;exact ⟨rfl,Below.refl _ _⟩
theorem qtT (h:St w0 W gc gb gp m D) (n:Nat) (hn:n < m.g.B) :
  Calls Tryz.prog 35 #[cp gc,.int .i64 n] W fun e w'=>e=.returned (.int .i64 (m.bk n).er)∧Below W.heap.size W w':=by
 have c3:∀ w',Below W.heap.size W w'→w'.cell? ⟨gb,n*4+1,none⟩=some (.int .i64 (m.bk n).er):=fun w' hb=>qaH (h.cellB n hn).2.1 hb
 have HA:=aM (qpK h n hn);have HC:=aM c3;clear h c3;go_enter Tryz.func35,Tryz.ntmps35
 go_wp2_with (first
  | (go_at_call 98;(with_reducible refine HA.out.mono ?_);rintro e w1 ⟨rfl,hb1⟩;have HB1:=aM hb1;have z7:=HC.out w1 hb1;clear hb1))
 go_ret;exact ⟨rfl,HB1.out⟩
theorem qwP (h:St w0 W gc gb gp m D) (n:Int) (hn:n < 0∨m.g.B≤n) :
  Calls Tryz.prog 35 #[cp gc,.int .i64 n] W fun e w'=>e=.returned (.int .i64 0)∧Below W.heap.size W w':=by
 have HA:=aM (qxE h n hn);clear h;go_enter Tryz.func35,Tryz.ntmps35
 go_wp2_with (first
  | (go_at_call 98;(with_reducible refine HA.out.mono ?_);rintro e w1 ⟨rfl,hb1⟩;have HB1:=aM hb1;clear hb1))
 go_ret;exact ⟨rfl,HB1.out⟩
theorem vcT (h:St w0 W gc gb gp m D) (n:Nat) (hn:n < m.g.B) :
  Calls Tryz.prog 79 #[cp gc,.int .i64 n] W fun e w'=>e=.returned (.bool (m.bk n).bad)∧Below W.heap.size W w':=by
 have c3:∀ w',Below W.heap.size W w'→w'.cell? ⟨gb,n*4,none⟩=some (.bool (m.bk n).bad):=fun w' hb=>qaH (h.cellB n hn).1 hb
 have HA:=aM (qpK h n hn);have HC:=aM c3;clear h c3;go_enter Tryz.func79,Tryz.ntmps79
 go_wp2_with (first
  | (go_at_call 98;(with_reducible refine HA.out.mono ?_);rintro e w1 ⟨rfl,hb1⟩;have HB1:=aM hb1;have z7:=HC.out w1 hb1;clear hb1))
 go_ret;exact ⟨rfl,HB1.out⟩
theorem veM (h:St w0 W gc gb gp m D) (n:Int) (hn:n < 0∨m.g.B≤n) :
  Calls Tryz.prog 79 #[cp gc,.int .i64 n] W fun e w'=>e=.returned (.bool false)∧Below W.heap.size W w':=by
 have HA:=aM (qxE h n hn);clear h;go_enter Tryz.func79,Tryz.ntmps79
 go_wp2_with (first
  | (go_at_call 98;(with_reducible refine HA.out.mono ?_);rintro e w1 ⟨rfl,hb1⟩;have HB1:=aM hb1;clear hb1))
 go_ret;exact ⟨rfl,HB1.out⟩
end
end Go.Proofs.YtdlimghdimkadaaGreatDoor.PAll
namespace Go.Proofs.YtdlimghdimkadaaGreatDoor.Reg
open Go Go.RowKit YtdlimghdimkadaaGreatDoorW.PrintLast YtdlimghdimkadaaGreatDoorW.PrintWords
structure qfQ (a0:Act) (V:List (Nat × Tmp × Value)) (D L:List Nat) (a:Act):Prop where
 off:∀ t v,(V.all fun e=>!(e.2.1==t))=true→a0.tmps[t]?=some v→a.tmps[t]?=some v
 pre:∀ t v j,L.contains j=true→(V.all fun e=>!(e.2.1==t) || e.1==j)=true→a0.tmps[t]?=some v→a.tmps[t]?=some v
 slot:∀ (k:Nat) (i:Nat) (t:Tmp) (v:Value),V[k]?=some (i,t,v)→D.contains i=true→a.tmps[t]?=some v
theorem qfQ.sl {a0:Act} {V:List (Nat × Tmp × Value)} {D L:List Nat} {a:Act} (h:qfQ a0 V D L a) (k:Nat) {i:Nat} {t:Tmp} {v:Value} (h1:V[k]?=some (i,t,v)) (h2:D.contains i=true:=by kernel_rfl):a.tmps[t]?=some v:=h.slot k i t v h1 h2
def qkY (B:List Nat) (n i:Nat):List Nat:=(List.range n).filter fun j=>(B.getD i 0).testBit j
def qdA (B:List Nat) (n i:Nat):List Nat:=(List.range n).filter fun d=>(B.getD d 0).testBit i
def Det (P:Program) (ops:Array Oper) (Q:Exit→Act→World→Prop) (B:List Nat) (n:Nat) (a0:Act) (V:List (Nat × Tmp × Value)) (S:World→Prop) (i:Nat):Prop :=
 ∃ oi v,ops[i]?=some oi∧(match oi.dst with
   | some t=>∃ k:Nat,V[k]?=some (i,t,v)
   | none=>(V.all fun e=>!(e.1==i))=true) ∧
  ∀ a w,S w→qfQ a0 V (qkY B n i) (qdA B n i) a→∀ K:Act→World→Prop,(∀ w',S w'→K (a.put oi.dst v) w') →
   if Region.wanted oi (yielded ops a.tmps)=true then Oper.wp P oi a w K Q else K (a.put oi.dst undef) w
def okV (V:List (Nat × Tmp × Value)) (size:Nat):Bool :=
 (List.range V.length).all fun k=>match V[k]? with
  | some e=>((V.take k ++ V.drop (k+1)).all fun x=>!(x.1==e.1) && !(x.2.1==e.2.1)) && Nat.ble (e.2.1+1) size
  | none=>true
theorem qgF {V:List (Nat × Tmp × Value)} {size:Nat} (h:okV V size=true) {k:Nat} {e:Nat × Tmp × Value} (hk:V[k]?=some e) :
  ((V.take k ++ V.drop (k+1)).all fun x=>!(x.1==e.1) && !(x.2.1==e.2.1))=true∧Nat.ble (e.2.1+1) size=true:=by
 have h1:=List.all_eq_true.1 h k (List.mem_range.2 (List.getElem?_eq_some_iff.1 hk).1);rw [hk] at h1
 simpa only [Bool.and_eq_true] using h1
def putV (a:Act) (V:List (Nat × Tmp × Value)):Act:=V.foldl (fun a e=>a.put (some e.2.1) e.2.2) a
theorem qeZ {b:Nat→Bool}:∀ {V:List (Nat × Tmp × Value)} {a:Act},(∀ e ∈ V,b e.1=true)→qbC a b V=putV a V
 | [],_,_=>rfl
 | e :: r,a,h=>by
  unfold qbC;rw [if_pos (h e List.mem_cons_self),qeZ (fun x hx=>h x (List.mem_cons_of_mem _ hx))];rfl
section
variable {P:Program} {ops:Array Oper} {Q:Exit→Act→World→Prop} {T:Bool × List (List Nat × List Nat)} {B:List Nat}
theorem qtZ {id n:Nat} {a0:Act} {w0:World} (V:List (Nat × Tmp × Value)) (S:World→Prop) (hm:P.follows .mixedOrders=true) (hn:ops.size=n)
  (hT:qeN .any ops=T) (hw:qdQ T.2 B=true) (hk:qeL T.2 (List.range n)=true) (hl:T.2.length=n)
  (h0:S w0.drew) (hs:∀ i ∈ List.range n,Det P ops Q B n a0 V S i) (hV:okV V a0.tmps.size=true) (hlt:V.all (fun e=>decide (e.1 < n))=true)
  (hend:∀ w,S w→Q .normal (putV a0 V) w):(Code.region id ops true).wp P Q a0 w0:=by
 refine qlX (n:=n) (S:=fun _=>True) (ds:=[]) (Array.replicate n false) hm hn rfl trivial (fun _=>?_);refine veW (T:=T) (B:=B) (md:=.any) (List.range n) (fun b a w=>a=qbC a0 b V∧S w) hT hw hk ?_ ⟨?_,h0⟩ ?_ ?_
 ·rw [Bool.and_eq_true,beq_iff_eq,beq_iff_eq];refine ⟨?_,by simp⟩;apply List.ext_getElem?;intro j;simp only [lof,hl]
  by_cases hj:j < n
  ·simp [hj]
  ·simp [hj]
 ·have:∀ (V:List (Nat × Tmp × Value)) (a:Act),qbC a (fun _=>false) V=a:=by
   intro V
   induction V with
   | nil=>intro a;rfl
   | cons e r ih=>intro a;unfold qbC;simpa using ih a
  exact (this V a0).symm
 ·intro i hi b a w hI hb hdep hlat;obtain ⟨rfl,hS⟩:=hI;obtain ⟨oi,v,ho,hv,hd⟩:=hs i hi;refine ⟨oi,ho,fun K hK=>?_⟩;have hin:∀ j,j < n→(List.range n).contains j=true:=fun j hj=>by simp [hj]
  have hD:∀ j,(qkY B n i).contains j=true→b j=true:=fun j hj=>by
   have h1:=List.contains_iff_mem.1 hj;obtain ⟨h2,h3⟩:=List.mem_filter.1 h1;exact hdep j (by rw [hin j (List.mem_range.1 h2),h3];rfl)
  have hL:∀ j,(qdA B n i).contains j=true→b j=false:=fun j hj=>by
   have h1:=List.contains_iff_mem.1 hj;obtain ⟨h2,h3⟩:=List.mem_filter.1 h1;exact hlat j (by rw [hin j (List.mem_range.1 h2),h3];rfl)
  have hslot:∀ (k:Nat) (e:Nat × Tmp × Value),V[k]?=some e→(qkY B n i).contains e.1=true→(qbC a0 b V).tmps[e.2.1]?=some e.2.2:=by
   intro k e hk hDe;obtain ⟨h1,h2⟩:=qgF hV hk;refine qgB k hk ?_ (hD _ hDe) h2;rw [List.all_append,Bool.and_eq_true] at h1;refine List.all_eq_true.2 (fun x hx=>?_);have:=List.all_eq_true.1 h1.2 x hx;rw [Bool.and_eq_true] at this;exact this.2
  refine hd (qbC a0 b V) w hS ⟨fun t v ht h0t=>by rw [qdT ht];exact h0t,fun t v j hj ht h0t=>by rw [qeE (hL j hj) ht];exact h0t,fun k i t v hk hDe=>hslot k (i,t,v) hk hDe⟩ K (fun w' hS'=>?_);refine hK _ _ ⟨?_,hS'⟩
  rcases hdst:oi.dst with _|t
  ·rw [hdst] at hv;exact qfK hv
  ·rw [hdst] at hv;obtain ⟨k,hk⟩:=hv;obtain ⟨h1,_⟩:=qgF hV hk;refine qeD (L:=V) (L':=V) k hb hk ?_ h1
   have hk2:=(List.getElem?_eq_some_iff.1 hk)
   obtain ⟨hk3,hk4⟩:=hk2;rw [← hk4,List.set_getElem_self]
 ·intro b a w hb hI;obtain ⟨rfl,hS⟩:=hI
  rw [qeZ (fun e he=>hb e.1 (by
   have:=List.all_eq_true.1 hlt e he;simp only [decide_eq_true_eq] at this
   simp [this]))]
  exact hend w hS
def vaO (T:List (List Nat × List Nat)):List Nat:=T.foldl (fun B r=>B ++ [r.1.foldl (fun m n=>m ||| (1 <<< n) ||| B.getD n 0) 0]) []
def qnW (ops:Array Oper) (n:Nat):Bool:=qdQ (qeN .any ops).2 (vaO (qeN .any ops).2) && qeL (qeN .any ops).2 (List.range n) && (qeN .any ops).2.length==n
abbrev bits (ops:Array Oper):List Nat:=vaO (qeN .any ops).2
def qfR (P:Program) (ops:Array Oper) (Q:Exit→Act→World→Prop) (B:List Nat) (n:Nat) (a0:Act) (V:List (Nat × Tmp × Value)) (S:World→Prop):Nat→List Oper→Prop
 | _,[]=>True
 | i,o :: r=>(∃ v,(match o.dst with
   | some t=>∃ k:Nat,V[k]?=some (i,t,v)
   | none=>(V.all fun e=>!(e.1==i))=true) ∧
  ∀ a w,S w→qfQ a0 V (qkY B n i) (qdA B n i) a→∀ K:Act→World→Prop,(∀ w',S w'→K (a.put o.dst v) w') →
   if Region.wanted o (yielded ops a.tmps)=true then Oper.wp P o a w K Q else K (a.put o.dst undef) w)∧qfR P ops Q B n a0 V S (i+1) r
theorem qnI {n:Nat} {a0:Act} {V:List (Nat × Tmp × Value)} {S:World→Prop}:∀ (l:List Oper) (i:Nat),qfR P ops Q B n a0 V S i l→(∀ j,l[j]?=ops[i+j]?)→∀ j,j < l.length→Det P ops Q B n a0 V S (i+j)
 | [],_,_,_,j,hj=>by simp at hj
 | o :: r,i,h,hg,0,_=>by
  obtain ⟨⟨v,hv,hd⟩,_⟩:=h;have h0:=hg 0;simp only [List.getElem?_cons_zero,Nat.add_zero] at h0;exact ⟨o,v,h0.symm,hv,hd⟩
 | o :: r,i,h,hg,j+1,hj=>by
  have h2:=qnI r (i+1) h.2 (fun m=>by
   have:=hg (m+1);simp only [List.getElem?_cons_succ] at this
   rw [this,show i+(m+1)=i+1+m by omega]) j (by simp at hj;omega)
  rwa [show i+1+j=i+(j+1) by omega] at h2
theorem from_nil {n i:Nat} {a0:Act} {V:List (Nat × Tmp × Value)} {S:World→Prop}:qfR P ops Q B n a0 V S i []:=trivial
theorem from_some {n i:Nat} {a0:Act} {V:List (Nat × Tmp × Value)} {S:World→Prop} {o:Oper} {r:List Oper} {t:Tmp} {v:Value} (k:Nat) (ht:o.dst=some t) (hk:V[k]?=some (i,t,v))
  (h:∀ a w,S w→qfQ a0 V (qkY B n i) (qdA B n i) a→∀ K:Act→World→Prop,(∀ w',S w'→K (a.put (some t) v) w')→if Region.wanted o (yielded ops a.tmps)=true then Oper.wp P o a w K Q else K (a.put (some t) undef) w)
  (hr:qfR P ops Q B n a0 V S (i+1) r):qfR P ops Q B n a0 V S i (o :: r):=by
 refine ⟨⟨v,?_,?_⟩,hr⟩
 ·rw [ht];exact ⟨k,hk⟩
 ·rw [ht];exact h
theorem fS {n i:Nat} {a0:Act} {V:List (Nat × Tmp × Value)} {S:World→Prop} {o:Oper} {r:List Oper} {t:Tmp} {v:Value} (k:Nat) (ht:o.dst=some t) (hk:V[k]?=some (i,t,v)) (h:∀ a w,S w→qfQ a0 V (qkY B n i) (qdA B n i) a→∀ K:Act→World→Prop,(∀ w',S w'→K (a.put (some t) v) w')→if Region.wanted o (yielded ops a.tmps)=true then Oper.wp P o a w K Q else K (a.put (some t) undef) w) (hr:qfR P ops Q B n a0 V S (i+1) r):qfR P ops Q B n a0 V S i (o :: r):=from_some k ht hk h hr
theorem det {id n:Nat} {a0:Act} {w0:World} (V:List (Nat × Tmp × Value)) (S:World→Prop) (hm:P.follows .mixedOrders=true) (hn:ops.size=n) (hc:qnW ops n=true)
  (h0:S w0.drew) (hs:qfR P ops Q (bits ops) n a0 V S 0 ops.toList) (hV:okV V a0.tmps.size=true) (hlt:V.all (fun e=>decide (e.1 < n))=true)
  (hend:∀ w,S w→Q .normal (putV a0 V) w):(Code.region id ops true).wp P Q a0 w0:=by
 unfold qnW at hc;rw [Bool.and_eq_true,Bool.and_eq_true,beq_iff_eq] at hc;refine qtZ V S hm hn rfl hc.1.1 hc.1.2 hc.2 h0 (fun i hi=>?_) hV hlt hend;have h2:=qnI ops.toList 0 hs (fun j=>by simp) i (by simpa [hn] using hi)
 rwa [Nat.zero_add] at h2
theorem step_on {o:Oper} {y:Nat→Option Bool} {a:Act} {w:World} {K:Act→World→Prop} {E:Prop} (h:Region.wanted o y=true) (hx:Oper.wp P o a w K Q):if Region.wanted o y=true then Oper.wp P o a w K Q else E:=by rw [if_pos h];exact hx
theorem sO {o:Oper} {y:Nat→Option Bool} {a:Act} {w:World} {K:Act→World→Prop} {E:Prop} (hx:Oper.wp P o a w K Q) (h:Region.wanted o y=true:=by rfl):if Region.wanted o y=true then Oper.wp P o a w K Q else E:=step_on h hx
theorem step_off {o:Oper} {y:Nat→Option Bool} {E F:Prop} (h:Region.wanted o y=false) (hx:F):if Region.wanted o y=true then E else F:=by rw [if_neg (by rw [h];simp)];exact hx
end
end Go.Proofs.YtdlimghdimkadaaGreatDoor.Reg
namespace Go.Proofs.YtdlimghdimkadaaGreatDoor.Rel
open Go Go.RowKit YtdlimghdimkadaaGreatDoorW.PrintLast YtdlimghdimkadaaGreatDoorW.PrintWords Reg
abbrev Ent:=Nat × Tmp × (Value ⊕ (Value→World→Prop))
def inst (U:Nat→Value):Nat→List Ent→List (Nat × Tmp × Value)
 | _,[]=>[]
 | m,(i,t,.inl c) :: r=>(i,t,c) :: inst U (m+1) r
 | m,(i,t,.inr _) :: r=>(i,t,U m) :: inst U (m+1) r
theorem qfN {U:Nat→Value}:∀ {V:List Ent} {m k:Nat} {i:Nat} {t:Tmp} {c:Value},V[k]?=some (i,t,.inl c)→(inst U m V)[k]?=some (i,t,c)
 | [],_,_,_,_,_,h=>by simp at h
 | (_,_,.inl _) :: r,m,0,i,t,c,h=>by simpa [inst] using h
 | (_,_,.inr _) :: r,m,0,i,t,c,h=>by simp at h
 | (_,_,.inl _) :: r,m,k+1,i,t,c,h=>by simpa [inst] using qfN (V:=r) (m:=m+1) (k:=k) (by simpa using h)
 | (_,_,.inr _) :: r,m,k+1,i,t,c,h=>by simpa [inst] using qfN (V:=r) (m:=m+1) (k:=k) (by simpa using h)
theorem qdS {U:Nat→Value}:∀ {V:List Ent} {m k:Nat} {i:Nat} {t:Tmp} {Q:Value→World→Prop},V[k]?=some (i,t,.inr Q)→(inst U m V)[k]?=some (i,t,U (m+k))
 | [],_,_,_,_,_,h=>by simp at h
 | (_,_,.inl _) :: r,m,0,i,t,c,h=>by simp at h
 | (_,_,.inr _) :: r,m,0,i,t,c,h=>by
  simp at h;simp [inst,h.1,h.2.1]
 | (_,_,.inl _) :: r,m,k+1,i,t,c,h=>by
  have:=qdS (U:=U) (V:=r) (m:=m+1) (k:=k) (by simpa using h)
  simpa [inst,show m+1+k=m+(k+1) by omega] using this
 | (_,_,.inr _) :: r,m,k+1,i,t,c,h=>by
  have:=qdS (U:=U) (V:=r) (m:=m+1) (k:=k) (by simpa using h)
  simpa [inst,show m+1+k=m+(k+1) by omega] using this
theorem qjL {U:Nat→Value} {V:List Ent} {k:Nat} {e:Ent} (h:V[k]?=some e):∃ v,(inst U 0 V)[k]?=some (e.1,e.2.1,v):=by
 obtain ⟨i,t,x⟩:=e
 cases x with
 | inl c=>exact ⟨c,qfN h⟩
 | inr Q=>exact ⟨_,qdS h⟩
theorem qkQ {U U':Nat→Value}:∀ {V:List Ent} {m:Nat},(∀ j,m≤j→U' j=U j)→inst U' m V=inst U m V
 | [],_,_=>rfl
 | (_,_,.inl _) :: r,m,h=>by simp only [inst];rw [qkQ (V:=r) (m:=m+1) (fun j hj=>h j (by omega))]
 | (_,_,.inr _) :: r,m,h=>by simp only [inst];rw [qkQ (V:=r) (m:=m+1) (fun j hj=>h j (by omega)),h m (Nat.le_refl _)]
theorem qjK {U:Nat→Value} {v:Value}:∀ {V:List Ent} {m k:Nat} {i:Nat} {t:Tmp} {Q:Value→World→Prop},V[k]?=some (i,t,.inr Q)→(inst U m V).set k (i,t,v)=inst (fun j=>if j=m+k then v else U j) m V
 | [],_,_,_,_,_,h=>by simp at h
 | (_,_,.inl _) :: r,m,0,i,t,c,h=>by simp at h
 | (_,_,.inr _) :: r,m,0,i,t,c,h=>by
  simp at h;simp only [inst,List.set_cons_zero,Nat.add_zero,if_true,h.1,h.2.1];rw [qkQ (U:=U) (U':=fun j=>if j=m then v else U j) (V:=r) (m:=m+1) (fun j hj=>by simp;omega)]
 | (_,_,.inl _) :: r,m,k+1,i,t,c,h=>by
  have:=qjK (U:=U) (v:=v) (V:=r) (m:=m+1) (k:=k) (by simpa using h);simp only [inst,List.set_cons_succ,this,show m+1+k=m+(k+1) by omega]
 | (_,_,.inr _) :: r,m,k+1,i,t,c,h=>by
  have:=qjK (U:=U) (v:=v) (V:=r) (m:=m+1) (k:=k) (by simpa using h);simp only [inst,List.set_cons_succ,this,show m+1+k=m+(k+1) by omega];rw [if_neg (by omega)]
def key (e:Nat × Tmp × Value):Nat × Tmp:=(e.1,e.2.1)
theorem qdI {U U':Nat→Value}:∀ {V:List Ent} {m:Nat},(inst U m V).map key=(inst U' m V).map key
 | [],_=>rfl
 | (_,_,.inl _) :: r,m=>by simp only [inst,List.map_cons];rw [qdI (U:=U) (U':=U') (V:=r)]
 | (_,_,.inr _) :: r,m=>by simp only [inst,List.map_cons];rw [qdI (U:=U) (U':=U') (V:=r)];rfl
theorem qfP {p:Nat × Tmp→Bool} {L L':List (Nat × Tmp × Value)} (h:L.map key=L'.map key):(L.all fun e=>p (e.1,e.2.1))=(L'.all fun e=>p (e.1,e.2.1)):=by
 have h1:∀ L:List (Nat × Tmp × Value),(L.all fun e=>p (e.1,e.2.1))=(L.map key).all p:=fun L=>by rw [List.all_map];rfl
 rw [h1,h1,h]
theorem qvS {L L':List (Nat × Tmp × Value)} {size:Nat} (h:L.map key=L'.map key):okV L size=okV L' size:=by
 unfold okV;have hl:L.length=L'.length:=by simpa using congrArg List.length h
 rw [hl]
 congr 1
 funext k
 have hk:(L.map key)[k]?=(L'.map key)[k]?:=by rw [h]
 rw [List.getElem?_map,List.getElem?_map] at hk
 cases e:L[k]? with
 | none =>
  rw [e] at hk
  cases e':L'[k]? with
  | none=>rfl
  | some y=>rw [e'] at hk;simp at hk
 | some x =>
  rw [e] at hk
  cases e':L'[k]? with
  | none=>rw [e'] at hk;simp at hk
  | some y =>
   rw [e'] at hk;simp only [Option.map_some,Option.some.injEq] at hk;have h1:x.1=y.1:=(Prod.mk.inj (show (x.1,x.2.1)=(y.1,y.2.1) from hk)).1;have h2:x.2.1=y.2.1:=(Prod.mk.inj (show (x.1,x.2.1)=(y.1,y.2.1) from hk)).2;simp only [h1,h2]
   congr 1
   refine qfP (p:=fun z=>!(z.1==y.1) && !(z.2==y.2.1)) ?_;rw [List.map_append,List.map_append,List.map_take,List.map_drop,List.map_take,List.map_drop,h]
theorem qrI {L:List (Nat × Tmp × Value)} {size k k':Nat} {i:Nat} {t t':Tmp} {v v':Value} (h:okV L size=true) (hk:L[k]?=some (i,t,v)) (hk':L[k']?=some (i,t',v')) (hne:k' ≠ k):False:=by
 obtain ⟨h1,_⟩:=qgF h hk
 have hm:(i,t',v') ∈ L.take k ++ L.drop (k+1):=by
  rw [List.mem_append]
  rcases Nat.lt_or_ge k' k with h2|h2
  ·left
   exact List.mem_of_getElem? (i:=k') (by rw [List.getElem?_take,if_pos h2];exact hk')
  ·right
   exact List.mem_of_getElem? (i:=k' - (k+1)) (by rw [List.getElem?_drop,show k+1+(k' - (k+1))=k' by omega];exact hk')
 have:=List.all_eq_true.1 h1 _ hm;simp at this
def U0:Nat→Value:=fun _=>undef
structure qfQ (a0:Act) (V:List Ent) (D L:List Nat) (a:Act) (w:World):Prop where
 off:∀ t v,((inst U0 0 V).all fun e=>!(e.2.1==t))=true→a0.tmps[t]?=some v→a.tmps[t]?=some v
 pre:∀ t v j,L.contains j=true→((inst U0 0 V).all fun e=>!(e.2.1==t) || e.1==j)=true→a0.tmps[t]?=some v→a.tmps[t]?=some v
 slot:∀ (k:Nat) (i:Nat) (t:Tmp) (v:Value),V[k]?=some (i,t,.inl v)→D.contains i=true→a.tmps[t]?=some v
 rel:∀ (k:Nat) (i:Nat) (t:Tmp) (Q:Value→World→Prop),V[k]?=some (i,t,.inr Q)→D.contains i=true→∃ v,a.tmps[t]?=some v∧Q v w
theorem qfQ.sl {a0:Act} {V:List Ent} {D L:List Nat} {a:Act} {w:World} (h:qfQ a0 V D L a w) (k:Nat) {i:Nat} {t:Tmp} {v:Value} (h1:V[k]?=some (i,t,.inl v)) (h2:D.contains i=true:=by kernel_rfl):a.tmps[t]?=some v:=h.slot k i t v h1 h2
def vdH (P:Program) (ops:Array Oper) (Q:Exit→Act→World→Prop) (B:List Nat) (n:Nat) (a0:Act) (V:List Ent) (S:World→Prop) (G:World→World→Prop) (i:Nat) (oi:Oper):Prop :=
 (match oi.dst with
   | some t=>∃ (k:Nat) (e:Value ⊕ (Value→World→Prop)),V[k]?=some (i,t,e)∧∀ a w,S w→qfQ a0 V (qkY B n i) (qdA B n i) a w→∀ K:Act→World→Prop,
     (∀ v w',S w'→G w w'→(match e with | .inl c=>v=c | .inr q=>q v w')→K (a.put (some t) v) w') →
     if Region.wanted oi (yielded ops a.tmps)=true then Oper.wp P oi a w K Q else K (a.put (some t) undef) w
   | none=>((inst U0 0 V).all fun e=>!(e.1==i))=true∧∀ a w,S w→qfQ a0 V (qkY B n i) (qdA B n i) a w→∀ K:Act→World→Prop,(∀ w',S w'→G w w'→K a w') →
     if Region.wanted oi (yielded ops a.tmps)=true then Oper.wp P oi a w K Q else K a w)
section
variable {P:Program} {ops:Array Oper} {Q:Exit→Act→World→Prop} {T:Bool × List (List Nat × List Nat)} {B:List Nat}
def vaR (P:Program) (ops:Array Oper) (Q:Exit→Act→World→Prop) (B:List Nat) (n:Nat) (a0:Act) (V:List Ent) (S:World→Prop) (G:World→World→Prop):Nat→List Oper→Prop
 | _,[]=>True
 | i,o :: r=>vdH P ops Q B n a0 V S G i o∧vaR P ops Q B n a0 V S G (i+1) r
theorem from_nil {n i:Nat} {a0:Act} {V:List Ent} {S:World→Prop} {G:World→World→Prop}:vaR P ops Q B n a0 V S G i []:=trivial
theorem from_some {n i:Nat} {a0:Act} {V:List Ent} {S:World→Prop} {G:World→World→Prop} {o:Oper} {r:List Oper} {t:Tmp} {v:Value} (k:Nat) (ht:o.dst=some t) (hk:V[k]?=some (i,t,.inl v))
  (h:∀ a w,S w→qfQ a0 V (qkY B n i) (qdA B n i) a w→∀ K:Act→World→Prop,(∀ w',S w'→G w w'→K (a.put (some t) v) w')→if Region.wanted o (yielded ops a.tmps)=true then Oper.wp P o a w K Q else K (a.put (some t) undef) w)
  (hr:vaR P ops Q B n a0 V S G (i+1) r):vaR P ops Q B n a0 V S G i (o :: r):=by
 refine ⟨?_,hr⟩;unfold vdH;rw [ht];exact ⟨k,_,hk,fun a w hS hK K hC=>h a w hS hK K (fun w' hS' hG=>hC v w' hS' hG rfl)⟩
theorem from_rel {n i:Nat} {a0:Act} {V:List Ent} {S:World→Prop} {G:World→World→Prop} {o:Oper} {r:List Oper} {t:Tmp} {q:Value→World→Prop} (k:Nat) (ht:o.dst=some t) (hk:V[k]?=some (i,t,.inr q))
  (h:∀ a w,S w→qfQ a0 V (qkY B n i) (qdA B n i) a w→∀ K:Act→World→Prop,(∀ v w',S w'→G w w'→q v w'→K (a.put (some t) v) w')→if Region.wanted o (yielded ops a.tmps)=true then Oper.wp P o a w K Q else K (a.put (some t) undef) w)
  (hr:vaR P ops Q B n a0 V S G (i+1) r):vaR P ops Q B n a0 V S G i (o :: r):=by
 refine ⟨?_,hr⟩;unfold vdH;rw [ht];exact ⟨k,_,hk,h⟩
theorem stable_nil {G:World→World→Prop}:∀ (k:Nat) (i:Nat) (t:Tmp) (q:Value→World→Prop),([]:List Ent)[k]?=some (i,t,.inr q)→∀ v w w',G w w'→q v w→q v w':=fun k i t q h=>by simp at h
theorem stable_inl {V:List Ent} {G:World→World→Prop} {i0:Nat} {t0:Tmp} {c:Value} (h:∀ (k:Nat) (i:Nat) (t:Tmp) (q:Value→World→Prop),V[k]?=some (i,t,.inr q)→∀ v w w',G w w'→q v w→q v w') :
  ∀ (k:Nat) (i:Nat) (t:Tmp) (q:Value→World→Prop),((i0,t0,.inl c) :: V:List Ent)[k]?=some (i,t,.inr q)→∀ v w w',G w w'→q v w→q v w'
 | 0,i,t,q,hk=>by simp at hk
 | k+1,i,t,q,hk=>h k i t q (by simpa using hk)
theorem stable_inr {V:List Ent} {G:World→World→Prop} {i0:Nat} {t0:Tmp} {q0:Value→World→Prop} (h0:∀ v w w',G w w'→q0 v w→q0 v w') (h:∀ (k:Nat) (i:Nat) (t:Tmp) (q:Value→World→Prop),V[k]?=some (i,t,.inr q)→∀ v w w',G w w'→q v w→q v w') :
  ∀ (k:Nat) (i:Nat) (t:Tmp) (q:Value→World→Prop),((i0,t0,.inr q0) :: V:List Ent)[k]?=some (i,t,.inr q)→∀ v w w',G w w'→q v w→q v w'
 | 0,i,t,q,hk=>by
  simp only [List.getElem?_cons_zero,Option.some.injEq,Prod.mk.injEq,Sum.inr.injEq] at hk;obtain ⟨_,_,rfl⟩:=hk;exact h0
 | k+1,i,t,q,hk=>h k i t q (by simpa using hk)
end
end Go.Proofs.YtdlimghdimkadaaGreatDoor.Rel
namespace Go.Proofs.YtdlimghdimkadaaGreatDoor.Rel
open Go Go.RowKit YtdlimghdimkadaaGreatDoorW.PrintLast YtdlimghdimkadaaGreatDoorW.PrintWords Reg
def qiU (P:Program) (ops:Array Oper) (Q:Exit→Act→World→Prop):List Oper→Act→World→Prop
 | [],a,w=>Q .normal a w
 | o :: r,a,w=>∀ K:Act→World→Prop,Shut (∀ a' w',qiU P ops Q r a' w'→K a' w')→if Region.wanted o (yielded ops a.tmps)=true then Oper.wp P o a w K Q else K (a.put o.dst undef) w
section
variable {P:Program} {ops:Array Oper} {Q:Exit→Act→World→Prop} {T:Bool × List (List Nat × List Nat)} {B:List Nat}
theorem qoS (m:Nat) {n:Nat} {a0:Act} {V:List Ent} {S:World→Prop} {G:World→World→Prop} (os:List Oper):∀ (l:List Oper) (i:Nat),vaR P ops Q B n a0 V S G i l→(∀ j,i+j < m→l[j]?=os[i+j]?)→∀ j,j < l.length→i+j < m→∃ oi,os[i+j]?=some oi∧vdH P ops Q B n a0 V S G (i+j) oi
 | [],_,_,_,j,hj,_=>by simp at hj
 | o :: r,i,h,hg,0,_,hm=>by
  have h0:=hg 0 hm;simp only [List.getElem?_cons_zero,Nat.add_zero] at h0;exact ⟨o,h0.symm,h.1⟩
 | o :: r,i,h,hg,j+1,hj,hm=>by
  have h2:=qoS m os r (i+1) h.2 (fun q hq=>by
   have:=hg (q+1) (by omega);simp only [List.getElem?_cons_succ] at this
   rw [this,show i+(q+1)=i+1+q by omega]) j (by simp at hj;omega) (by omega)
  rwa [show i+1+j=i+(j+1) by omega] at h2
theorem qpX {id n m:Nat} {a0:Act} {w0:World} (V:List Ent) (S:World→Prop) (G:World→World→Prop) (hm:P.follows .mixedOrders=true) (hn:ops.size=n) (hmn:m < n)
  (hT:qeN .any ops=T) (hw:qdQ T.2 B=true) (hk:qeL T.2 (List.range n)=true) (hl:T.2.length=n) (htl:((List.range n).all fun j=>decide (j < m) || (List.range j).all fun i=>(B.getD j 0).testBit i)=true)
  (h0:S w0.drew) (hst:∀ (k:Nat) (i:Nat) (t:Tmp) (q:Value→World→Prop),V[k]?=some (i,t,.inr q)→∀ v w w',G w w'→q v w→q v w')
  (hs:∀ i,i < m→∃ oi,ops[i]?=some oi∧vdH P ops Q B n a0 V S G i oi) (hV:okV (inst U0 0 V) a0.tmps.size=true) (hlt:(inst U0 0 V).all (fun e=>decide (e.1 < m))=true)
  (hend:∀ U w,S w→(∀ (k:Nat) (i:Nat) (t:Tmp) (q:Value→World→Prop),V[k]?=some (i,t,.inr q)→q (U k) w)→qiU P ops Q (ops.toList.drop m) (putV a0 (inst U 0 V)) w):(Code.region id ops true).wp P Q a0 w0:=by
 have hVU:∀ U,okV (inst U 0 V) a0.tmps.size=true:=fun U=>by rw [qvS (qdI (U:=U) (U':=U0))];exact hV
 have htb:∀ j,j < n→m≤j→∀ i,i < j→(B.getD j 0).testBit i=true:=fun j hj hmj i hij=>by
  have h1:=List.all_eq_true.1 htl j (List.mem_range.2 hj);rw [Bool.or_eq_true,decide_eq_true_eq] at h1
  rcases h1 with h1|h1
  ·omega
  ·exact List.all_eq_true.1 h1 i (List.mem_range.2 hij)
 refine qlX (n:=n) (S:=fun _=>True) (ds:=[]) (Array.replicate n false) hm hn rfl trivial (fun _=>?_);refine veW (T:=T) (B:=B) (md:=.any) (List.range n) (fun b a w=>(b m=false∧∃ U,a=qbC a0 b (inst U 0 V)∧S w∧∀ (k:Nat) (i:Nat) (t:Tmp) (q:Value→World→Prop),V[k]?=some (i,t,.inr q)→b i=true→q (U k) w)∨(∃ t,m < t∧t≤n∧(∀ j,j < t→b j=true)∧(∀ j,t≤j→j < n→b j=false)∧qiU P ops Q (ops.toList.drop t) a w)) hT hw hk ?_ ?_ ?_ ?_
 ·rw [Bool.and_eq_true,beq_iff_eq,beq_iff_eq];refine ⟨?_,by simp⟩;apply List.ext_getElem?;intro j;simp only [lof,hl]
  by_cases hj:j < n
  ·simp [hj]
  ·simp [hj]
 ·refine .inl ⟨rfl,U0,?_,h0,fun _ _ _ _ _ hb=>by cases hb⟩
  have:∀ (V:List (Nat × Tmp × Value)) (a:Act),qbC a (fun _=>false) V=a:=by
   intro V
   induction V with
   | nil=>intro a;rfl
   | cons e r ih=>intro a;unfold qbC;simpa using ih a
  exact (this _ a0).symm
 ·intro i hi b a w hI hb hdep hlat;have hin0:i < n:=List.mem_range.1 hi;have hin:∀ j,j < n→(List.range n).contains j=true:=fun j hj=>by simp [hj]
  by_cases him:i < m
  ·have hbm:b m=false:=hlat m (by rw [hin m hmn,htb m hmn (Nat.le_refl _) i him];rfl)
   rcases hI with ⟨_,U,rfl,hS,hU⟩|⟨t,ht,_,h1,_⟩
   ·obtain ⟨oi,ho,hd⟩:=hs i him;refine ⟨oi,ho,fun K hK=>?_⟩
    have hD:∀ j,(qkY B n i).contains j=true→b j=true:=fun j hj=>by
     have h1:=List.contains_iff_mem.1 hj;obtain ⟨h2,h3⟩:=List.mem_filter.1 h1;exact hdep j (by rw [hin j (List.mem_range.1 h2),h3];rfl)
    have hL:∀ j,(qdA B n i).contains j=true→b j=false:=fun j hj=>by
     have h1:=List.contains_iff_mem.1 hj;obtain ⟨h2,h3⟩:=List.mem_filter.1 h1;exact hlat j (by rw [hin j (List.mem_range.1 h2),h3];rfl)
    have hslot:∀ (k:Nat) (e:Nat × Tmp × Value),(inst U 0 V)[k]?=some e→(qkY B n i).contains e.1=true→(qbC a0 b (inst U 0 V)).tmps[e.2.1]?=some e.2.2:=by
     intro k e hk hDe;obtain ⟨h1,h2⟩:=qgF (hVU U) hk;refine qgB k hk ?_ (hD _ hDe) h2;rw [List.all_append,Bool.and_eq_true] at h1;refine List.all_eq_true.2 (fun x hx=>?_);have:=List.all_eq_true.1 h1.2 x hx;rw [Bool.and_eq_true] at this;exact this.2
    have hK0:qfQ a0 V (qkY B n i) (qdA B n i) (qbC a0 b (inst U 0 V)) w:=by
     refine ⟨fun t v ht h0t=>?_,fun t v j hj ht h0t=>?_,fun k i t v hk hDe=>hslot k (i,t,v) (qfN hk) hDe,fun k i t q hk hDe=>⟨U k,?_,hU k i t q hk (hD _ hDe)⟩⟩
     ·rw [qdT (by rw [qfP (p:=fun z=>!(z.2==t)) (qdI (U:=U) (U':=U0))];exact ht)];exact h0t
     ·rw [qeE (hL j hj) (by rw [qfP (p:=fun z=>!(z.2==t) || z.1==j) (qdI (U:=U) (U':=U0))];exact ht)];exact h0t
     ·have:=hslot k _ (qdS (U:=U) (m:=0) hk) hDe;rw [Nat.zero_add] at this;exact this
    have hbm2:up b i m=false:=by rw [qfZ (by omega)];exact hbm
    unfold vdH at hd
    rcases hdst:oi.dst with _|t
    ·rw [hdst] at hd;obtain ⟨hv,hd⟩:=hd;refine hd (qbC a0 b (inst U 0 V)) w hS hK0 (fun a w=>K a w) (fun w' hS' hG=>?_);refine hK (qbC a0 b (inst U 0 V)) w' (.inl ⟨hbm2,U,?_,hS',fun k j t q hk hbj=>?_⟩)
     ·exact qfK (a:=a0) (b:=b) (v:=undef) (i:=i) (L:=inst U 0 V) (by rw [qfP (p:=fun z=>!(z.1==i)) (qdI (U:=U) (U':=U0))];exact hv)
     ·have hji:j ≠ i:=fun hji=>by
       subst hji;obtain ⟨v,hg⟩:=qjL (U:=U0) hk;have:=List.all_eq_true.1 hv _ (List.mem_of_getElem? hg);simp at this
      rw [qfZ hji] at hbj;exact hst k j t q hk _ _ _ hG (hU k j t q hk hbj)
    ·rw [hdst] at hd;obtain ⟨k,e,hk,hd⟩:=hd;refine hd (qbC a0 b (inst U 0 V)) w hS hK0 K (fun v w' hS' hG hv=>?_)
     cases e with
     | inl c =>
      obtain rfl:v=c:=hv;have hk1:=qfN (U:=U) (m:=0) hk;obtain ⟨h1,_⟩:=qgF (hVU U) hk1;refine hK _ w' (.inl ⟨hbm2,U,?_,hS',fun k' j t' q hk' hbj=>?_⟩)
      ·refine qeD (L:=inst U 0 V) (L':=inst U 0 V) k hb hk1 ?_ h1;obtain ⟨hk3,hk4⟩:=List.getElem?_eq_some_iff.1 hk1;rw [← hk4,List.set_getElem_self]
      ·have hji:j ≠ i:=fun hji=>by
        subst hji
        have hkk:k' ≠ k:=by
         rintro rfl;rw [hk] at hk';simp at hk'
        exact qrI (hVU U) hk1 (qdS (U:=U) (m:=0) hk') (fun h=>hkk h)
       rw [qfZ hji] at hbj;exact hst k' j t' q hk' _ _ _ hG (hU k' j t' q hk' hbj)
     | inr q =>
      have hk1:=qdS (U:=U) (m:=0) hk;obtain ⟨h1,_⟩:=qgF (hVU U) hk1;refine hK _ w' (.inl ⟨hbm2,fun j=>if j=0+k then v else U j,?_,hS',fun k' j t' q' hk' hbj=>?_⟩)
      ·exact qeD (L:=inst U 0 V) k hb hk1 (qjK hk) h1
      ·rw [Nat.zero_add]
       by_cases hkk:k'=k
       ·subst hkk;rw [hk] at hk';simp only [Option.some.injEq,Prod.mk.injEq,Sum.inr.injEq] at hk';obtain ⟨rfl,rfl,rfl⟩:=hk';simp only [if_true];exact hv
       ·simp only [if_neg hkk]
        have hji:j ≠ i:=fun hji=>by
         subst hji;exact qrI (hVU U) hk1 (qdS (U:=U) (m:=0) hk') (fun h=>hkk h)
        rw [qfZ hji] at hbj;exact hst k' j t' q' hk' _ _ _ hG (hU k' j t' q' hk' hbj)
   ·rw [h1 m ht] at hbm
    cases hbm
  ·have hall:∀ j,j < i→b j=true:=fun j hj=>hdep j (by rw [hin j (by omega),htb i hin0 (by omega) j hj];rfl)
   have hno:∀ j,i≤j→j < n→b j=false:=fun j hij hj=>by
    rcases Nat.lt_or_ge i j with h|h
    ·exact hlat j (by rw [hin j hj,htb j hj (by omega) i h];rfl)
    ·rw [show j=i by omega];exact hb
   have hget:ops.toList.drop i=ops[i]'(by omega) :: ops.toList.drop (i+1):=by rw [List.drop_eq_getElem_cons (by simpa [hn] using hin0)];simp
   have htw:qiU P ops Q (ops.toList.drop i) a w:=by
    rcases hI with ⟨hbm,U,rfl,hS,hU⟩|⟨t,ht,htn,h1,h2,h3⟩
    ·have hi2:i=m:=by
      rcases Nat.lt_or_ge m i with h|h
      ·rw [hall m h] at hbm;cases hbm
      ·omega
     subst hi2
     rw [qeZ (fun e he=>hall e.1 (by
      have h2:(inst U 0 V).all (fun e=>decide (e.1 < i))=true:=by rw [qfP (p:=fun z=>decide (z.1 < i)) (qdI (U:=U) (U':=U0))];exact hlt
      have:=List.all_eq_true.1 h2 e he
      simpa using this))]
     refine hend U w hS (fun k j t q hk=>hU k j t q hk (hall j ?_));obtain ⟨v,hg⟩:=qjL (U:=U0) hk;have:=List.all_eq_true.1 hlt _ (List.mem_of_getElem? hg)
     simpa using this
    ·have hti:t=i:=by
      rcases Nat.lt_trichotomy t i with h|h|h
      ·have:=h2 t (Nat.le_refl _) (by omega);rw [hall t h] at this;cases this
      ·exact h
      ·rw [h1 i h] at hb;cases hb
     subst hti;exact h3
   rw [hget] at htw;refine ⟨ops[i]'(by omega),by simp [hin0,hn],fun K hK=>?_⟩;refine htw K (fun a' w' h'=>hK a' w' (.inr ⟨i+1,by omega,by omega,fun j hj=>?_,fun j hj hjn=>?_,h'⟩))
   ·by_cases hji:j=i
    ·subst hji;exact qiO b j
    ·rw [qfZ hji];exact hall j (by omega)
   ·rw [qfZ (by omega)];exact hno j (by omega) hjn
 ·intro b a w hb hI;have hb2:∀ j,j < n→b j=true:=fun j hj=>hb j (by simp [hj])
  rcases hI with ⟨hbm,_⟩|⟨t,ht,htn,h1,h2,h3⟩
  ·rw [hb2 m hmn] at hbm;cases hbm
  ·have:t=n:=by
    rcases Nat.lt_or_ge t n with h|h
    ·have:=h2 t (Nat.le_refl _) h;rw [hb2 t h] at this;cases this
    ·omega
   subst this;rw [List.drop_eq_nil_of_le (by simp [hn])] at h3;exact h3
theorem tail {id n m:Nat} {a0:Act} {w0:World} (V:List Ent) (S:World→Prop) (G:World→World→Prop) (hm:P.follows .mixedOrders=true) (hn:ops.size=n) (hmn:Nat.blt m n=true) (hc:qnW ops n=true)
  (htl:((List.range n).all fun j=>decide (j < m) || (List.range j).all fun i=>((Reg.bits ops).getD j 0).testBit i)=true)
  (h0:S w0.drew) (hst:∀ (k:Nat) (i:Nat) (t:Tmp) (q:Value→World→Prop),V[k]?=some (i,t,.inr q)→∀ v w w',G w w'→q v w→q v w')
  (hs:vaR P ops Q (Reg.bits ops) n a0 V S G 0 (ops.toList.take m)) (hV:okV (inst U0 0 V) a0.tmps.size=true) (hlt:(inst U0 0 V).all (fun e=>decide (e.1 < m))=true)
  (hend:∀ U w,S w→(∀ (k:Nat) (i:Nat) (t:Tmp) (q:Value→World→Prop),V[k]?=some (i,t,.inr q)→q (U k) w)→qiU P ops Q (ops.toList.drop m) (putV a0 (inst U 0 V)) w):(Code.region id ops true).wp P Q a0 w0:=by
 unfold qnW at hc;rw [Bool.and_eq_true,Bool.and_eq_true,beq_iff_eq] at hc;have hmn2:m+1≤n:=by simpa [Nat.blt] using hmn
 refine qpX V S G hm hn hmn2 rfl hc.1.1 hc.1.2 hc.2 htl h0 hst (fun i hi=>?_) hV hlt hend;have hlen:(ops.toList.take m).length=m:=by rw [List.length_take,Array.length_toList,hn];omega
 have h2:=qoS m ops.toList (ops.toList.take m) 0 hs (fun j hj=>by rw [List.getElem?_take,if_pos (by omega),Nat.zero_add]) i (by rw [hlen];exact hi) (by omega);rw [Nat.zero_add] at h2;obtain ⟨oi,ho,hd⟩:=h2;exact ⟨oi,by rw [← ho];simp,hd⟩
theorem tail_nil {a:Act} {w:World} (h:Q .normal a w):qiU P ops Q [] a w:=h
theorem tail_cons {o:Oper} {r:List Oper} {a:Act} {w:World} (h:∀ K:Act→World→Prop,(∀ a' w',qiU P ops Q r a' w'→K a' w')→if Region.wanted o (yielded ops a.tmps)=true then Oper.wp P o a w K Q else K (a.put o.dst undef) w):qiU P ops Q (o :: r) a w:=h
end
end Go.Proofs.YtdlimghdimkadaaGreatDoor.Rel
namespace Go.Proofs.YtdlimghdimkadaaGreatDoor.PAll
open Go Go.RowKit YtdlimghdimkadaaGreatDoorW.PrintWords YtdlimghdimkadaaGreatDoorW.PrintLast YtdlimghdimkadaaGreatDoorW.PrintMore
attribute [local go_sem] qdG qdE qdY qdX qcJ qcI qdF qdD
section
variable {w0 W:World} {gc gb:Nat} {gp:Nat→Nat} {m:Ch} {D:Nat→Nat→List Int}
theorem veN (g n:Nat):(⟨g,0,none⟩:Addr).add n=⟨g,n,none⟩:=by
 by_cases h:n=0
 ·subst h;simp [Addr.add]
 ·simp [Addr.add,h]
theorem qrR:(Tryz.prog.info? 5).map (fun i=>(i.zero,i.size,i.bytes))=some (some (.int .u8 0),1,1):=by kernel_rfl
theorem qhB (b:Bk) (j:Nat) (p q:Pg):(b.setPg j p).setPg j q=b.setPg j q:=by
 unfold Bk.setPg
 congr 1
 funext x
 by_cases h:x=j <;> simp [h]
theorem qeC (b:Bk) (j:Nat) (p:Pg):(b.setPg j p).pg j=p:=by simp [Bk.setPg]
theorem qaX (m:Ch) (i:Nat) (b:Bk):(m.setBk i b).bk i=b:=by simp [Ch.setBk]
theorem qbN (m:Ch) (i:Nat) (b c:Bk):(m.setBk i b).setBk i c=m.setBk i c:=by
 unfold Ch.setBk
 congr 1
 funext x
 by_cases h:x=i <;> simp [h]
theorem qdJ (m:Ch) (i x:Nat) (b:Bk) (h:x ≠ i):(m.setBk i b).bk x=m.bk x:=by simp [Ch.setBk,h]
def qiL (D:Nat→Nat→List Int) (i j:Nat) (xs:List Int):Nat→Nat→List Int:=fun x y=>if x=i∧y=j then xs else D x y
theorem vcR (gp:Nat→Nat) (m:Ch) (i:Nat) (b:Bk) (h1:b.bad=(m.bk i).bad) (h2:b.er=(m.bk i).er) (h3:b.nx=(m.bk i).nx):cB gp (m.setBk i b)=cB gp m:=by
 unfold cB
 congr 1
 funext k
 unfold qgY Ch.setBk
 by_cases h:k.val / 4=i <;> simp [h,h1,h2,h3]
theorem St.page (h:St w0 W gc gb gp m D) (i:Nat) (hi:i < m.g.B) (j:Nat) (hj:j < m.g.P) (st:Int) (v:Value) (xs:List Int) (hv:Kd.R kB 5 W w0.heap.size (fun _=>True) v xs) :
  St w0 ((W.setCell ⟨gp i,j*2,none⟩ (.int .i64 st)).setCell ⟨gp i,j*2+1,none⟩ v) gc gb gp (m.setBk i ((m.bk i).setPg j ⟨st,v⟩)) (qiL D i j xs):=by
 have h1:St w0 (W.setCell ⟨gp i,j*2,none⟩ (.int .i64 st)) gc gb gp (m.setBk i ((m.bk i).setPg j { (m.bk i).pg j with st:=st })) D:=by
  refine h.setP (m':=m.setBk i ((m.bk i).setPg j { (m.bk i).pg j with st:=st })) i hi (j*2) (.int .i64 st) ?_ rfl rfl (vcR gp m i _ rfl rfl rfl) (fun x _ hx=>qdJ m i x _ hx) (fun x y hx hy=>?_) ⟨rfl,rfl⟩
  ·rw [qaX];exact vfS _ _ _ _
  ·have hd:=h.d x y hx hy
   by_cases hxi:x=i
   ·subst hxi;rw [qaX]
    by_cases hyj:y=j
    ·subst hyj;rw [qeC];exact hd
    ·simp only [Bk.setPg,hyj,if_false];exact hd
   ·rw [qdJ m i x _ hxi];exact hd
 have h2:=h1.setP (m':=(m.setBk i ((m.bk i).setPg j { (m.bk i).pg j with st:=st })).setBk i (((m.bk i).setPg j { (m.bk i).pg j with st:=st }).setPg j ⟨st,v⟩)) (D':=qiL D i j xs) i hi (j*2+1) v ?_ rfl rfl (vcR gp _ i _ (by rw [qaX];rfl) (by rw [qaX];rfl) (by rw [qaX];rfl)) (fun x _ hx=>qdJ _ i x _ hx) (fun x y hx hy=>?_) ⟨rfl,rfl⟩
 ·rw [qbN,qhB] at h2;exact h2
 ·rw [qaX,qaX,cP_d,qeC]
 ·have hp:=h.p i hi
  by_cases hxi:x=i
  ·subst hxi;rw [qaX]
   by_cases hyj:y=j
   ·subst hyj;rw [qeC];unfold qiL;rw [if_pos ⟨rfl,rfl⟩];exact Kd.R_set hv hp (by decide) _ _
   ·have e:qiL D x j xs x y=D x y:=by unfold qiL;rw [if_neg (fun h=>hyj h.2)]
    rw [e];simp only [Bk.setPg,hyj,if_false];exact Kd.R_set (h.d x y hx hy) hp (by decide) _ _
  ·have e:qiL D i j xs x y=D x y:=by unfold qiL;rw [if_neg (fun h=>hxi h.1)]
   rw [e,qdJ _ i x _ hxi,qdJ _ i x _ hxi];exact Kd.R_set (h.d x y hx hy) hp (by decide) _ _
theorem St.pageD (h:St w0 W gc gb gp m D) (i:Nat) (hi:i < m.g.B) (j:Nat) (hj:j < m.g.P) (v:Value) (xs:List Int) (hv:Kd.R kB 5 W w0.heap.size (fun _=>True) v xs) :
  St w0 (W.setCell ⟨gp i,j*2+1,none⟩ v) gc gb gp (m.setBk i ((m.bk i).setPg j ⟨((m.bk i).pg j).st,v⟩)) (qiL D i j xs):=by
 refine h.setP (m':=m.setBk i ((m.bk i).setPg j ⟨((m.bk i).pg j).st,v⟩)) (D':=qiL D i j xs) i hi (j*2+1) v ?_ rfl rfl (vcR gp _ i _ rfl rfl rfl) (fun x _ hx=>qdJ _ i x _ hx) (fun x y hx hy=>?_) ⟨rfl,rfl⟩
 ·rw [qaX,cP_d]
 ·by_cases hxi:x=i
  ·subst hxi;rw [qaX]
   by_cases hyj:y=j
   ·subst hyj;rw [qeC];unfold qiL;rw [if_pos ⟨rfl,rfl⟩];exact hv
   ·have e:qiL D x j xs x y=D x y:=by unfold qiL;rw [if_neg (fun h=>hyj h.2)]
    rw [e];simp only [Bk.setPg,hyj,if_false];exact h.d x y hx hy
  ·have e:qiL D i j xs x y=D x y:=by unfold qiL;rw [if_neg (fun h=>hxi h.1)]
   rw [e,qdJ _ i x _ hxi];exact h.d x y hx hy
theorem qlV (D:Nat→Nat→List Int) (i j:Nat) (xs ys:List Int):qiL (qiL D i j xs) i j ys=qiL D i j ys:=by
 funext x y
 unfold qiL
 by_cases h:x=i∧y=j <;> simp [h]
theorem St.nx (h:St w0 W gc gb gp m D) (i:Nat) (x:Int):St w0 (W.setCell ⟨gb,i*4+3,none⟩ (.int .i64 x)) gc gb gp (m.setBk i { m.bk i with nx:=x }) D :=
 h.setB _ _ (vfT gp m i x) rfl rfl (fun k _=>by by_cases hk:k=i <;> simp [Ch.setBk,hk]) ⟨rfl,rfl⟩
theorem St.er (h:St w0 W gc gb gp m D) (i:Nat) (x:Int):St w0 (W.setCell ⟨gb,i*4+1,none⟩ (.int .i64 x)) gc gb gp (m.setBk i { m.bk i with er:=x }) D :=
 h.setB _ _ (vfU gp m i x) rfl rfl (fun k _=>by by_cases hk:k=i <;> simp [Ch.setBk,hk]) ⟨rfl,rfl⟩
theorem St.badS (h:St w0 W gc gb gp m D) (i:Nat) (x:Bool):St w0 (W.setCell ⟨gb,i*4,none⟩ (.bool x)) gc gb gp (m.setBk i { m.bk i with bad:=x }) D :=
 h.setB _ _ (veK gp m i x) rfl rfl (fun k _=>by by_cases hk:k=i <;> simp [Ch.setBk,hk]) ⟨rfl,rfl⟩
theorem St.ops (h:St w0 W gc gb gp m D) (x:Int):St w0 (W.setCell ⟨gc,8,none⟩ (.int .i64 x)) gc gb gp { m with ops:=x } D:=h.setC 8 _ rfl rfl rfl h.pln
theorem St.wrong (h:St w0 W gc gb gp m D) (x:Int):St w0 (W.setCell ⟨gc,9,none⟩ (.int .i64 x)) gc gb gp { m with wrong:=x } D:=h.setC 9 _ rfl rfl rfl h.pln
theorem St.other (h:St w0 W gc gb gp m D) {g:Nat} {cs:Array Value} (hg:W.heap[g]?=some (.cells cs 83 (0,0))) (hge:w0.heap.size≤g) (k:Nat) (v:Value) (hpl:Kd.R kF 83 (W.setCell ⟨g,k,none⟩ v) w0.heap.size (fun _=>True) m.plan m.pl):St w0 (W.setCell ⟨g,k,none⟩ v) gc gb gp m D :=
 ⟨qaT h.c (qaW h.c hg (by decide)) _,qaT h.b (qaW h.b hg (by decide)) _,fun i hi=>qaT (h.p i hi) (qaW (h.p i hi) hg (by decide)) _,h.inj,h.ec,h.eb,h.ep,fun i j hi hj=>Kd.R_set (h.d i j hi hj) hg (by decide) _ _,hpl,qaK h.below hge,h.gok⟩
theorem vdM {g:Nat} {a b c:Value} (h:W.heap[g]?=some (.cells #[a,b,c] 83 (0,0))) (x y z:Value):(((W.setCell ⟨g,0,none⟩ x).setCell ⟨g,1,none⟩ y).setCell ⟨g,2,none⟩ z).heap[g]?=some (.cells #[x,y,z] 83 (0,0)) :=
 qaR (qaR (qaR h 0 x (cs':=#[x,b,c]) rfl) 1 y (cs':=#[x,y,c]) rfl) 2 z rfl
theorem St.other3 (h:St w0 W gc gb gp m D) {g:Nat} {a b c:Value} (hg:W.heap[g]?=some (.cells #[a,b,c] 83 (0,0))) (hge:w0.heap.size≤g) {ok:Nat→Prop} (hok:∀ k,ok k→k ≠ g) (hpl:Kd.R kF 83 W w0.heap.size ok m.plan m.pl) (x y z:Value):St w0 (((W.setCell ⟨g,0,none⟩ x).setCell ⟨g,1,none⟩ y).setCell ⟨g,2,none⟩ z) gc gb gp m D:=by
 have p1:=Kd.R_far hpl (p:=⟨g,0,none⟩) hok x;have p2:=Kd.R_far p1 (p:=⟨g,1,none⟩) hok y;have p3:=Kd.R_far p2 (p:=⟨g,2,none⟩) hok z;exact ((h.other hg hge 0 x (Kd.R_mono p1 (fun _ _=>trivial))).other (qaR hg 0 x (cs':=#[x,b,c]) rfl) hge 1 y (Kd.R_mono p2 (fun _ _=>trivial))).other (qaR (qaR hg 0 x (cs':=#[x,b,c]) rfl) 1 y (cs':=#[x,y,c]) rfl) hge 2 z (Kd.R_mono p3 (fun _ _=>trivial))
theorem qaY.set3 {W W1:World} (h:qaY W W1) {g:Nat} (hg:W.heap.size≤g) (x y z:Value):qaY W (((W1.setCell ⟨g,0,none⟩ x).setCell ⟨g,1,none⟩ y).setCell ⟨g,2,none⟩ z) :=
 ((h.fresh (p:=⟨g,0,none⟩) hg x).fresh (p:=⟨g,1,none⟩) hg y).fresh (p:=⟨g,2,none⟩) hg z
theorem St.lower {w1:World} (h:St w1 W gc gb gp m D) (hb:Below w0.heap.size w0 w1):St w0 W gc gb gp m D :=
 ⟨h.c,h.b,h.p,h.inj,Nat.le_trans (qaI hb) h.ec,Nat.le_trans (qaI hb) h.eb,fun i hi=>Nat.le_trans (qaI hb) (h.ep i hi),fun i j hi hj=>Kd.R_lower (h.d i j hi hj) (qaI hb),Kd.R_lower h.pln (qaI hb),qaC hb h.below,h.gok⟩
theorem qlB (A:Option Addr) (c:Nat) (l:List Int) (w:World) (hr:Kd.C kB w A l.length l) (hc:l.length≤c) (hb:l.length≤140737488355328) :
  Calls Tryz.prog 116 #[.slice A l.length c] w fun e w'=>∃ v0_:Value,e=.returned (v0_)∧Kd.R kB 5 w' w.heap.size (fun _=>True) v0_ l∧Below w.heap.size w w':=by
 have HR:=aM hr;have HC:=aM hc;have HBs:=aM hb;clear hc hb
 rcases A with _|ad
 ·have h0:l=[]:=by
   rcases Nat.eq_zero_or_pos l.length with h0|h0
   ·exact List.eq_nil_of_length_eq_zero h0
   ·obtain ⟨ad,h,_⟩:=hr.2.2 h0
    cases h
  subst h0;clear hr;have hnil:=fun W:World=>Lib.run_eql_slice_nil (P:=Tryz.prog) W 35 5 none 0 c 0 0 Tryz.underlying35
  go_enter Tryz.func116,Tryz.ntmps116;go_wp2;go_ret;exact ⟨_,rfl,Kd.R_nil _ _ _ _ _,Below.refl _ _⟩
 ·clear hr;have hnil:=fun W:World=>Lib.run_eql_slice_nil (P:=Tryz.prog) W 35 5 (some ad) l.length c 0 0 Tryz.underlying35
  go_enter Tryz.func116,Tryz.ntmps116
  go_wp2_with (first
   | ((with_reducible refine qcL (N:=5) rfl ?_);refine Kd.R_lit kB w.heap.size 5 ?hg (N:=5) ?hd (xs:=([]:List Int)) (inner:=[]) (ok:=fun _=>True) (okp:=fun _=>True) ?hr ?hp (fun _ hk=>hk) trivial (Below.refl _ _) (Nat.le_refl _) (by simp) ?_;(case hd=>rfl);(case hg=>rfl);(case hr=>first|(go_simp;done)|(go_simp;rfl));(case hp=>exact (qeX.none _ _));intro v1 w1 ho hb _ _;have HO:=aM ho;have HB:=aM hb;clear ho hb)
   | ((with_reducible refine qbH (b:=.append) (xs:=#[.tmp 5,.tmp 6]) rfl ?_);at_builtin;refine Kd.R_append_rows kB (w0:=w) w.heap.size rfl (.tmp 5) (.tmp 6) 35 5 (.int .u8 0) 1 rfl Tryz.underlying35 qrR rfl Nat.zero_lt_one Nat.zero_lt_one v1 [] l _ _ _ (fun _=>True) (fun _=>False) rfl rfl ?aO ?aR (fun _ _ h=>h) (fun _ h=>h.elim) ?aF ?aB ?aS ?aL ?_;(case aO=>exact HO.out);(case aR=>exact Kd.C_below HR.out HB.out);(case aF=>exact fun _ _=>trivial);(case aB=>exact HB.out);(case aS=>exact qaI HB.out);(case aL=>have:=HBs.out;simp;exact this);intro v2 w2 ho2 hb2 _ _;have HO2:=aM ho2;have HB2:=aM hb2;clear ho2 hb2))
  go_ret;exact ⟨_,rfl,HO2.out,HB2.out⟩
def qcX (pl:List F3) (t:Int):Option F3:=pl.find? (fun f=>decide (f.f0=t))
def bgV (o:Option F3):Value:=.tuple #[.agg #[.int .i64 (o.getD zF).f0,.int .i64 (o.getD zF).f1,.int .i64 (o.getD zF).f2],.bool o.isSome]
theorem qwG {pl:List F3} {t:Int} {i:Nat} {f:F3} (h:qcX (pl.take i) t=none) (hg:pl[i]?=some f) (hf:f.f0=t):qcX pl t=some f:=by
 obtain ⟨hlt,he⟩:=List.getElem?_eq_some_iff.1 hg;have e:pl=pl.take i ++ f :: pl.drop (i+1):=by rw [← he,List.getElem_cons_drop,List.take_append_drop]
 unfold qcX at h ⊢;rw [e,List.find?_append,h];simp [hf]
theorem qtG {pl:List F3} {t:Int} {i:Nat} {f:F3} (h:qcX (pl.take i) t=none) (hg:pl[i]?=some f) (hf:f.f0 ≠ t):qcX (pl.take (i+1)) t=none:=by
 obtain ⟨hlt,rfl⟩:=List.getElem?_eq_some_iff.1 hg;unfold qcX at h ⊢;rw [List.take_add_one,List.getElem?_eq_getElem hlt,List.find?_append,h];simp [hf]
theorem qdB (h:St w0 W gc gb gp m D) :
  Calls Tryz.prog 115 #[cp gc] W fun e w'=>e=.returned (bgV (qcX m.pl (wrap64 (wrap64 (m.ops+1) - m.frm))))∧St w0 w' gc gb gp { m with ops:=wrap64 (m.ops+1) } D∧qaY W w':=by
 have c8:∀ o,(W.alloc o).cell? ⟨gc,8,none⟩=some (.int .i64 m.ops):=fun o=>(h.grow (qaA (Below.refl _ _) o)).cellC 8
 have f8:∀ o,(W.alloc o).frozen? ⟨gc,8,none⟩=false:=fun o=>qaE (h.grow (qaA (Below.refl _ _) o)).c 8
 have H:=aM h;have hu44:=Tryz.underlying83;obtain ⟨A5,c5,e5⟩:=Kd.R_slice h.pln
 have hform:0 < m.pl.length→∃ g5,A5=some ⟨g5,0,none⟩:=fun hpos=>by
  obtain ⟨g5,c,e,_⟩:=Kd.R_form h.pln hpos;rw [e5] at e;simp only [Value.slice.injEq] at e;exact ⟨g5,e.1⟩
 have HF5:=aM hform;have HPV:=aM e5;have hpb:Kd.R kF 83 W w0.heap.size (fun k=>k < W.heap.size) m.plan m.pl:=Kd.R_mono (Kd.R_bound h.pln) (fun k hk=>hk.2.2.1);have HPB0:=aM hpb
 have hmx:m.pl.length≤9223372036854775807:=by
  have h7:=h.pln;rw [e5] at h7;exact Kd.C_max (Kd.R_reads' h7).2.2
 clear h e5 hform hpb;go_enter Tryz.func115,Tryz.ntmps115
 go_upto_region 2 with (fail)
 generalize hW:(W.alloc (.cells #[.int .i64 0,.int .i64 0,.int .i64 0] 83)).setCell ⟨gc,8,none⟩ (.int .i64 (wrap64 (m.ops+1)))=W1;have h1:St w0 W1 gc gb gp { m with ops:=wrap64 (m.ops+1) } D:=by rw [← hW];exact (H.out.grow (qaA (Below.refl _ _) _)).ops _
 have hk:qaY W W1:=by rw [← hW];exact (qaY.of_below (qaA (Below.refl _ _) _)).set (H.out.grow (qaA (Below.refl _ _) _)).c (by decide) _ _
 have hx:W1.heap[W.heap.size]?=some (.cells #[.int .i64 0,.int .i64 0,.int .i64 0] 83 (0,0)):=by rw [← hW];exact qaT (qaM _ _ _) (qaW (qaM W #[.int .i64 0,.int .i64 0,.int .i64 0] 83) (H.out.grow (qaA (Below.refl _ _) (.cells #[.int .i64 0,.int .i64 0,.int .i64 0] 83))).c (by decide)) _
 have hpb1:Kd.R kF 83 W1 w0.heap.size (fun k=>k < W.heap.size) m.plan m.pl:=by rw [← hW];exact Kd.R_set (Kd.R_below HPB0.out (qaA (Below.refl _ _) _)) (H.out.grow (qaA (Below.refl _ _) _)).c (by decide) _ _
 have cc5:W1.cell? ⟨gc,5,none⟩=some (.slice A5 m.pl.length c5):=by rw [h1.cellC 5];simp [cC,HPV.out]
 have x0:=jC hx 0;have x1:=jC hx 1;have x2:=jC hx 2;have fx0:=qaE hx 0;have fx1:=qaE hx 1;have fx2:=qaE hx 2;have H1:=aM h1;have HK:=aM hk;have HX:=aM hx;have HPB:=aM hpb1;clear hW h1 hk hx c8 f8 hpb1
 go_upto_region 3 with (fail)
 go_loopw [18] (fun v18 wr=>∃ i:Nat,i≤m.pl.length∧v18=.int .i64 i∧qaJ (qcX (m.pl.take i) (wrap64 (wrap64 (m.ops+1) - m.frm))=none)∧qaJ (Below W1.heap.size W1 wr)) (fun i _=>m.pl.length - (intOf i).toNat);case atStart=>exact ⟨0,Nat.zero_le _,rfl,⟨rfl⟩,⟨Below.refl _ _⟩⟩
 case round =>
  obtain ⟨i,hi,rfl,HM,HBr⟩:=hrel;clear cc5 x0 x1 x2 fx0 fx1 fx2;have HXr:=aM (qaB HX.out HBr.out);have x0:=jC HXr.out 0;have x1:=jC HXr.out 1;have x2:=jC HXr.out 2;have fx0:=qaE HXr.out 0;have fx1:=qaE HXr.out 1;have fx2:=qaE HXr.out 2
  by_cases hlt:i < m.pl.length
  ·have d0:decide ((i:Int) < (m.pl.length:Int))=true:=decide_eq_true (by omega);have hq:(i < m.pl.length)=True:=eq_true hlt;have hqi:((i:Int) < (m.pl.length:Int))=True:=eq_true (by omega);have hqm:(m.pl.length≤i)=False:=eq_false (by omega);have hr5:=Kd.R_below (H1.out.pln) HBr.out;have hf5:=HF5.out (Nat.lt_of_le_of_lt (Nat.zero_le _) hlt);obtain ⟨g5,rfl⟩:=hf5;have hr6:=hr5;rw [show ({ m with ops:=wrap64 (m.ops+1) }:Ch).plan=m.plan from rfl,show ({ m with ops:=wrap64 (m.ops+1) }:Ch).pl=m.pl from rfl,HPV.out] at hr6;obtain ⟨ad,ead,y0,y1,y2⟩:=vfW (Kd.R_reads' hr6).2.2 (i:Int) (by omega) (by omega);obtain rfl:(⟨g5,0,none⟩:Addr)=ad:=by simpa using ead
   rw [veN,Int.toNat_natCast] at y0 y1 y2
   have hget:m.pl[i]?=some (quK m.pl (i:Int)):=by
    unfold quK;rw [Int.toNat_natCast,List.getD_eq_getElem?_getD,List.getElem?_eq_getElem hlt];rfl
   generalize quK m.pl (i:Int)=f at y0 y1 y2 hget;have HGT:=aM hget;have HQ9:=aM (fun o=>qaC HBr.out (qaA (Below.refl wr.heap.size wr) o));clear ead hget hr5 hr6
   by_cases hf:f.f0=wrap64 (wrap64 (m.ops+1) - m.frm)
   ·have e1:(f.f0==IntKind.i64.wrap (wrap64 (m.ops+1) - m.frm))=true:=by rw [qbL,← hf];simp
    have HE:=aM (qwG HM.out HGT.out hf);clear hf
    go_upto_region 5 with (fail)
    generalize hW6:wr.alloc (.cells #[.int .i64 f.f0,.int .i64 f.f1,.int .i64 f.f2] 83)=W6;have HF6:=aM (show W6.heap[wr.heap.size]?=some (.cells #[.int .i64 f.f0,.int .i64 f.f1,.int .i64 f.f2] 83 (0,0)) by rw [← hW6];exact qaM _ _ _);have HB6:=aM (show Below W1.heap.size W1 W6 by rw [← hW6];exact HQ9.out _);have H6:=aM (H1.out.grow HB6.out);clear hW6 y0 y1 y2;refine Reg.det [(0,22,?r1v0),(1,23,?r1v1),(2,24,?r1v2),(3,25,?r1v3),(4,26,?r1v4),(5,27,?r1v5),(6,28,?r1v6),(7,29,?r1v7),(8,30,?r1v8),(9,31,?r1v9),(10,32,?r1v10),(11,33,?r1v11)] (fun w'=>Below W6.heap.size W6 w') (by rfl) rfl (by kernel_rfl) ?r1S ?r1steps ?r1okv ?r1hlt ?r1fin;case r1S=>exact qaO (Below.refl _ _)
    case r1steps =>
     refine Reg.fS 0 rfl rfl (fun a w hS hK K hC=>?_) ?_
     ·refine Reg.sO ?_;have e5:=hK.off 5 _ rfl rfl;clear hK;go_simp;exact hC _ hS
     refine Reg.fS 1 rfl rfl (fun a w hS hK K hC=>?_) ?_
     ·refine Reg.sO ?_;have e22:=hK.sl 0 rfl;have k8:=(H6.out.grow hS).cellC 8;change _=some (Value.int .i64 (wrap64 (m.ops+1))) at k8;have k6:=(H6.out.grow hS).cellC 6;change _=some (Value.int .i64 m.frm) at k6;have kf:=jC (qaB HF6.out hS) 0;clear hK;go_simp;exact hC _ hS
     refine Reg.fS 2 rfl rfl (fun a w hS hK K hC=>?_) ?_
     ·refine Reg.sO ?_;have e0:=hK.off 0 _ rfl rfl;clear hK;go_simp;exact hC _ hS
     refine Reg.fS 3 rfl rfl (fun a w hS hK K hC=>?_) ?_
     ·refine Reg.sO ?_;have e24:=hK.sl 2 rfl;clear hK;go_simp;exact hC _ hS
     refine Reg.fS 4 rfl rfl (fun a w hS hK K hC=>?_) ?_
     ·refine Reg.sO ?_;have e25:=hK.sl 3 rfl;clear hK;go_simp;exact hC _ hS
     refine Reg.fS 5 rfl rfl (fun a w hS hK K hC=>?_) ?_
     ·refine Reg.sO ?_;have e26:=hK.sl 4 rfl;have k8:=(H6.out.grow hS).cellC 8;change _=some (Value.int .i64 (wrap64 (m.ops+1))) at k8;have k6:=(H6.out.grow hS).cellC 6;change _=some (Value.int .i64 m.frm) at k6;have kf:=jC (qaB HF6.out hS) 0;clear hK;go_simp;exact hC _ hS
     refine Reg.fS 6 rfl rfl (fun a w hS hK K hC=>?_) ?_
     ·refine Reg.sO ?_;have e0:=hK.off 0 _ rfl rfl;clear hK;go_simp;exact hC _ hS
     refine Reg.fS 7 rfl rfl (fun a w hS hK K hC=>?_) ?_
     ·refine Reg.sO ?_;have e28:=hK.sl 6 rfl;clear hK;go_simp;exact hC _ hS
     refine Reg.fS 8 rfl rfl (fun a w hS hK K hC=>?_) ?_
     ·refine Reg.sO ?_;have e29:=hK.sl 7 rfl;clear hK;go_simp;exact hC _ hS
     refine Reg.fS 9 rfl rfl (fun a w hS hK K hC=>?_) ?_
     ·refine Reg.sO ?_;have e30:=hK.sl 8 rfl;have k8:=(H6.out.grow hS).cellC 8;change _=some (Value.int .i64 (wrap64 (m.ops+1))) at k8;have k6:=(H6.out.grow hS).cellC 6;change _=some (Value.int .i64 m.frm) at k6;have kf:=jC (qaB HF6.out hS) 0;clear hK;go_simp;exact hC _ hS
     refine Reg.fS 10 rfl rfl (fun a w hS hK K hC=>?_) ?_
     ·refine Reg.sO ?_;have e27:=hK.sl 5 rfl;have e31:=hK.sl 9 rfl;clear hK;go_simp;exact hC _ hS
     refine Reg.fS 11 rfl rfl (fun a w hS hK K hC=>?_) ?_
     ·refine Reg.sO ?_;have e23:=hK.sl 1 rfl;have e32:=hK.sl 10 rfl;clear hK;go_simp;exact hC _ hS
     exact Reg.from_nil
    case r1okv=>rfl
    case r1hlt=>rfl
    case r1fin =>
     intro wz hS;simp only [Reg.putV,List.foldl_cons,List.foldl_nil,Act.put,List.setIfInBounds_toArray,List.set_cons_zero,List.set_cons_succ];have HBz:=aM (qaC HB6.out hS);have HXz:=aM (qaB HX.out HBz.out);have HFz:=aM (qaB HF6.out hS);have HB1z:=aM (H1.out.grow HBr.out);clear x0 x1 x2 fx0 fx1 fx2;have x0:=jC HXz.out 0;have x1:=jC HXz.out 1;have x2:=jC HXz.out 2;have fx0:=qaE HXz.out 0;have fx1:=qaE HXz.out 1;have fx2:=qaE HXz.out 2;have k0:=jC HFz.out 0;have k1:=jC HFz.out 1;have k2:=jC HFz.out 2;clear hS;go_wp2;refine bodyPost_ret (qbF rfl _ _ W.heap.size 83 #[.int .i64 f.f0,.int .i64 f.f1,.int .i64 f.f2] (0,0) _ rfl (vdM HXz.out _ _ _) Tryz.underlying83 rfl (by kernel_rfl)) rfl ?_;rw [HE.out];exact ⟨rfl,(H1.out.grow HBz.out).other3 HXz.out (qaI H.out.below) (fun k hk=>Nat.ne_of_lt hk) (Kd.R_below HPB.out HBz.out) _ _ _,(HK.out.trans (qaY.of_below HBz.out)).set3 (Nat.le_refl _) _ _ _⟩
   ·have e1:(f.f0==IntKind.i64.wrap (wrap64 (m.ops+1) - m.frm))=false:=by simp only [beq_eq_false_iff_ne];rw [qbL];exact hf
    have HM2:=aM (qtG HM.out HGT.out hf);clear hf
    go_upto_region 5 with (fail)
    generalize hW6:wr.alloc (.cells #[.int .i64 f.f0,.int .i64 f.f1,.int .i64 f.f2] 83)=W6;have HF6:=aM (show W6.heap[wr.heap.size]?=some (.cells #[.int .i64 f.f0,.int .i64 f.f1,.int .i64 f.f2] 83 (0,0)) by rw [← hW6];exact qaM _ _ _);have HB6:=aM (show Below W1.heap.size W1 W6 by rw [← hW6];exact HQ9.out _);have H6:=aM (H1.out.grow HB6.out);clear hW6 y0 y1 y2;refine Reg.det [(0,22,?r2v0),(1,23,?r2v1),(2,24,?r2v2),(3,25,?r2v3),(4,26,?r2v4),(5,27,?r2v5),(6,28,?r2v6),(7,29,?r2v7),(8,30,?r2v8),(9,31,?r2v9),(10,32,?r2v10),(11,33,?r2v11)] (fun w'=>Below W6.heap.size W6 w') (by rfl) rfl (by kernel_rfl) ?r2S ?r2steps ?r2okv ?r2hlt ?r2fin;case r2S=>exact qaO (Below.refl _ _)
    case r2steps =>
     refine Reg.fS 0 rfl rfl (fun a w hS hK K hC=>?_) ?_
     ·refine Reg.sO ?_;have e5:=hK.off 5 _ rfl rfl;clear hK;go_simp;exact hC _ hS
     refine Reg.fS 1 rfl rfl (fun a w hS hK K hC=>?_) ?_
     ·refine Reg.sO ?_;have e22:=hK.sl 0 rfl;have k8:=(H6.out.grow hS).cellC 8;change _=some (Value.int .i64 (wrap64 (m.ops+1))) at k8;have k6:=(H6.out.grow hS).cellC 6;change _=some (Value.int .i64 m.frm) at k6;have kf:=jC (qaB HF6.out hS) 0;clear hK;go_simp;exact hC _ hS
     refine Reg.fS 2 rfl rfl (fun a w hS hK K hC=>?_) ?_
     ·refine Reg.sO ?_;have e0:=hK.off 0 _ rfl rfl;clear hK;go_simp;exact hC _ hS
     refine Reg.fS 3 rfl rfl (fun a w hS hK K hC=>?_) ?_
     ·refine Reg.sO ?_;have e24:=hK.sl 2 rfl;clear hK;go_simp;exact hC _ hS
     refine Reg.fS 4 rfl rfl (fun a w hS hK K hC=>?_) ?_
     ·refine Reg.sO ?_;have e25:=hK.sl 3 rfl;clear hK;go_simp;exact hC _ hS
     refine Reg.fS 5 rfl rfl (fun a w hS hK K hC=>?_) ?_
     ·refine Reg.sO ?_;have e26:=hK.sl 4 rfl;have k8:=(H6.out.grow hS).cellC 8;change _=some (Value.int .i64 (wrap64 (m.ops+1))) at k8;have k6:=(H6.out.grow hS).cellC 6;change _=some (Value.int .i64 m.frm) at k6;have kf:=jC (qaB HF6.out hS) 0;clear hK;go_simp;exact hC _ hS
     refine Reg.fS 6 rfl rfl (fun a w hS hK K hC=>?_) ?_
     ·refine Reg.sO ?_;have e0:=hK.off 0 _ rfl rfl;clear hK;go_simp;exact hC _ hS
     refine Reg.fS 7 rfl rfl (fun a w hS hK K hC=>?_) ?_
     ·refine Reg.sO ?_;have e28:=hK.sl 6 rfl;clear hK;go_simp;exact hC _ hS
     refine Reg.fS 8 rfl rfl (fun a w hS hK K hC=>?_) ?_
     ·refine Reg.sO ?_;have e29:=hK.sl 7 rfl;clear hK;go_simp;exact hC _ hS
     refine Reg.fS 9 rfl rfl (fun a w hS hK K hC=>?_) ?_
     ·refine Reg.sO ?_;have e30:=hK.sl 8 rfl;have k8:=(H6.out.grow hS).cellC 8;change _=some (Value.int .i64 (wrap64 (m.ops+1))) at k8;have k6:=(H6.out.grow hS).cellC 6;change _=some (Value.int .i64 m.frm) at k6;have kf:=jC (qaB HF6.out hS) 0;clear hK;go_simp;exact hC _ hS
     refine Reg.fS 10 rfl rfl (fun a w hS hK K hC=>?_) ?_
     ·refine Reg.sO ?_;have e27:=hK.sl 5 rfl;have e31:=hK.sl 9 rfl;clear hK;go_simp;exact hC _ hS
     refine Reg.fS 11 rfl rfl (fun a w hS hK K hC=>?_) ?_
     ·refine Reg.sO ?_;have e23:=hK.sl 1 rfl;have e32:=hK.sl 10 rfl;clear hK;go_simp;exact hC _ hS
     exact Reg.from_nil
    case r2okv=>rfl
    case r2hlt=>rfl
    case r2fin =>
     intro wz hS;simp only [Reg.putV,List.foldl_cons,List.foldl_nil,Act.put,List.setIfInBounds_toArray,List.set_cons_zero,List.set_cons_succ];have HBz:=aM (qaC HB6.out hS);clear hS;go_wp2;go_roundw;case rel=>exact ⟨i+1,by omega,by push_cast;rfl,HM2,HBz⟩
     case measure=>simp [intOf];omega
  ·obtain rfl:i=m.pl.length:=by omega
   go_wp2;refine bodyPost_ret (qbF rfl _ _ W.heap.size 83 #[.int .i64 0,.int .i64 0,.int .i64 0] (0,0) _ rfl (vdM HXr.out _ _ _) Tryz.underlying83 rfl (by kernel_rfl)) rfl ?_;have HM3:=HM.out;rw [List.take_length] at HM3;rw [HM3];exact ⟨rfl,(H1.out.grow HBr.out).other3 HXr.out (qaI H.out.below) (fun k hk=>Nat.ne_of_lt hk) (Kd.R_below HPB.out HBr.out) _ _ _,(HK.out.trans (qaY.of_below HBr.out)).set3 (Nat.le_refl _) _ _ _⟩
end
end Go.Proofs.YtdlimghdimkadaaGreatDoor.PAll

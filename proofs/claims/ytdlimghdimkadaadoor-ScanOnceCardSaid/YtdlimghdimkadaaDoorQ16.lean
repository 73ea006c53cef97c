/- What the law ScanOnce rests on, part 16: texts of the session and what the print wrote for it, one behind the other; only what the proof names is kept. -/
import Derived.Deep.Slices
import Derived.SizedLaws
import Derived.ChangeArms
import Derived.Test.YtdlimghdimkadaaDoorQ0
import Derived.Test.YtdlimghdimkadaaDoorQ11
import Derived.Test.YtdlimghdimkadaaDoorQ15
namespace Go.Proofs.YtdlimghdimkadaaDoor.Opens
open Go Go.Deep Go.Proofs.YtdlimghdimkadaaDoorW.PrintWords
def Opens {α : Type} (P : Program) (t : TypeId) (d : Kd α) (G : α → Prop) : Prop :=
 ∀ {H : Type} (enc : TypeId × Value → H) (W : World) (held : Bool) (fuel : Nat) (cs : List Value) (x : DataW H) (ps : List MemPlace), DataW.trod enc P W 0 (fun _ => true) held fuel t cs = some (x, ps) → (∀ n ∈ x.weights P t, n ≤ reachBytes) → ∃ a : α, d.K W a cs ∧ G a
theorem Opens.int {P : Program} {t : TypeId} {k : IntKind} (ht : P.underlying t = some (.int k)) : Opens P t (Kd.int k) (fun n => (Lit.int k n).wf = true) := by
 intro H enc W held fuel cs x ps h _
 obtain ⟨n, rfl, _, hw⟩ := DataW.trod_int ht h
 exact ⟨n, rfl, hw⟩
theorem Opens.bool {P : Program} {t : TypeId} (ht : P.underlying t = some .bool) : Opens P t Kd.bool (fun _ => True) := by
 intro H enc W held fuel cs x ps h _
 obtain ⟨b, rfl, _⟩ := DataW.trod_bool ht h
 exact ⟨b, rfl, trivial⟩
theorem Opens.string {P : Program} {t : TypeId} (ht : P.underlying t = some .string) : Opens P t Kd.string (fun s => s.size ≤ reachBytes) := by
 intro H enc W held fuel cs x ps h hw
 obtain ⟨b, rfl, hx, _⟩ := DataW.trod_string ht h
 obtain ⟨rfl, _⟩ := Prod.mk.inj hx
 have h2 := hw b.data.toList.length (by unfold DataW.weights; exact List.mem_singleton.2 rfl)
 exact ⟨b, rfl, by show b.data.size ≤ _; rw [← Array.length_toList]; exact h2⟩
theorem cells_at {W : World} {base n : Nat} {a : Addr} {cs : List Value} (h : W.cells? base a n = some cs) : cs.length = n ∧ ∀ j u, cs[j]? = some u → W.cell? (a.add j) = some u := by
 obtain ⟨_, hl, he⟩ := World.cells?_some h
 refine ⟨hl, fun j u hu => ?_⟩
 have hj : j < n := by
  have := (List.getElem?_eq_some_iff.1 hu).1
  omega
 rw [he j hj]
 exact hu
theorem Opens.slice {α : Type} {P : Program} {t e : TypeId} {d : Kd α} {G : α → Prop} (ht : P.underlying t = some (.slice e)) (hsz : P.cellsOf e = d.sz) (he : Opens P e d G) :
  Opens P t (Kd.slice e d) (fun l => l.length * P.bytesOf e ≤ reachBytes ∧ ∀ a ∈ l, G a) := by
 intro H enc W held fuel cs x ps h hw
 rcases open_slice ht h with ⟨rfl, _⟩ | ⟨a, len, cap, m, n, D, Pl, rfl, _, hl, hm, hmm, hx, hel⟩
 ·exact ⟨[], ⟨none, 0, rfl, Nat.le_refl _, Kd.C_nil d W⟩, by simp, by simp⟩
 ·obtain rfl : m = cap := by simpa using hmm
  obtain ⟨rfl, _⟩ := Prod.mk.inj hx
  simp only [DataW.weights, ht, List.mem_cons, List.mem_append, List.length_map, List.length_range] at hw
  have hall : ∀ i, i < len → ∃ b : α, ∃ c : List Value, (d.K W b c ∧ ∀ j u, c[j]? = some u → W.cell? ((a.add (i * d.sz)).add j) = some u) ∧ G b := by
   intro i hi
   obtain ⟨cs', hc, htr⟩ := hel i (by omega)
   rw [hsz] at hc
   have hwi : ∀ n ∈ (D i).weights P e, n ≤ reachBytes := by
    intro n hn
    refine hw n (.inr (.inl ?_))
    clear hw hx hel
    have : ∀ (l : List Nat), i ∈ l → n ∈ DataW.weightsAll P e (l.map D) := by
     intro l
     induction l with
     | nil => simp
     | cons j l ih =>
      intro hm
      simp only [List.map_cons, DataW.weightsAll, List.mem_append]
      rcases List.mem_cons.1 hm with rfl | hm
      ·exact .inl hn
      ·exact .inr (ih hm)
    exact this _ (List.mem_range.2 hi)
   obtain ⟨b, hb, hG⟩ := he enc W held n cs' (D i) (Pl i) htr hwi
   exact ⟨b, cs', ⟨hb, (cells_at hc).2⟩, hG⟩
  have hf : ∃ l : List α, l.length = len ∧ ∀ i b, l[i]? = some b → (∃ c : List Value, d.K W b c ∧ ∀ j u, c[j]? = some u → W.cell? ((a.add (i * d.sz)).add j) = some u) ∧ G b := by
   clear hw hx hel hl hmm h
   induction len with
   | zero => exact ⟨[], rfl, by simp⟩
   | succ len ih =>
    obtain ⟨l, h1, h2⟩ := ih (fun i hi => hall i (by omega))
    obtain ⟨b, c, hb, hG⟩ := hall len (by omega)
    refine ⟨l ++ [b], by simp [h1], fun i b' hi => ?_⟩
    rcases Nat.lt_or_ge i l.length with hil | hil
    ·rw [List.getElem?_append_left hil] at hi
     exact h2 i b' hi
    ·rw [List.getElem?_append_right hil] at hi
     obtain rfl : i = len := by
      have := (List.getElem?_eq_some_iff.1 hi).1
      simp at this
      omega
     rw [h1] at hi
     simp at hi
     subst hi
     exact ⟨⟨c, hb⟩, hG⟩
  obtain ⟨l, hll, hl2⟩ := hf
  subst hll
  have hb : l.length * P.bytesOf e ≤ reachBytes := Nat.le_trans (Nat.mul_le_mul_right _ (by omega)) (hw _ (.inl rfl))
  clear hw hx hall h hmm
  refine ⟨l, ⟨some a, m, rfl, hl, rfl, by unfold maxLen at hm; omega, fun _ => ⟨a, rfl, fun j p hj => ?_⟩⟩, hb, ?_⟩
  ·obtain ⟨⟨c, hK, hc⟩, _⟩ := hl2 j p hj
   exact ⟨c, d.K_len hK, hK, fun i u hu => by rw [← Deep.add_add]; exact hc i u hu⟩
  ·intro b hb
   obtain ⟨i, hi⟩ := List.getElem?_of_mem hb
   exact (hl2 i b hi).2
def OpensF {α : Type} (P : Program) (fs : List Field) (off : Nat) (d : Kd α) (G : α → Prop) : Prop :=
 ∀ {H : Type} (enc : TypeId × Value → H) (W : World) (held : Bool) (fuel : Nat) (cs : List Value) (xs : List (DataW H × List MemPlace)),
  (∀ (i : Nat) (f : Field), fs[i]? = some f → DataW.trod enc P W 0 (fun _ => true) held fuel f.type ((cs.drop f.offset).take (P.cellsOf f.type)) = xs[i]?) → xs.length = fs.length →
  (∀ n ∈ DataW.weightsEach P (fs.map (·.type)) (xs.map (·.1)), n ≤ reachBytes) → ∃ a : α, d.K W a ((cs.drop off).take d.sz) ∧ G a
theorem OpensF.one {α : Type} {P : Program} {f : Field} {d : Kd α} {G : α → Prop} (hsz : P.cellsOf f.type = d.sz) (h : Opens P f.type d G) : OpensF P [f] f.offset d G := by
 intro H enc W held fuel cs xs hf hl hw
 match xs, hl with
 | [x], _ =>
  have h0 := hf 0 f rfl
  rw [hsz] at h0
  exact h enc W held fuel _ x.1 x.2 h0 (fun n hn => hw n (by simp [DataW.weightsEach, hn]))
theorem OpensF.cons {α β : Type} {P : Program} {f : Field} {fs : List Field} {off : Nat} {d : Kd α} {d2 : Kd β} {G : α → Prop} {G2 : β → Prop} (hsz : P.cellsOf f.type = d.sz) (hoff : off = f.offset + d.sz) (h : Opens P f.type d G) (h2 : OpensF P fs off d2 G2) :
  OpensF P (f :: fs) f.offset (Kd.pair d d2) (fun x => G x.1 ∧ G2 x.2) := by
 intro H enc W held fuel cs xs hf hl hw
 match xs, hl with
 | x :: xs, hl =>
  have h0 := hf 0 f rfl
  rw [hsz] at h0
  obtain ⟨a, ha, hG⟩ := h enc W held fuel _ x.1 x.2 h0 (fun n hn => hw n (by simp [DataW.weightsEach, hn]))
  obtain ⟨b, hb, hG2⟩ := h2 enc W held fuel cs xs (fun i g hg => by simpa using hf (i + 1) g (by simpa using hg)) (by simpa using hl) (fun n hn => hw n (by simp [DataW.weightsEach, hn]))
  refine ⟨(a, b), ⟨_, _, ?_, ha, hb⟩, hG, hG2⟩
  show (cs.drop f.offset).take (d.sz + d2.sz) = _
  rw [List.take_add, List.drop_drop, hoff]
theorem Opens.struct {α : Type} {P : Program} {t : TypeId} {fs : Array Field} {d : Kd α} {G : α → Prop} (ht : P.underlying t = some (.struct fs)) (hsz : P.cellsOf t = d.sz) (h : OpensF P fs.toList 0 d G) : Opens P t d G := by
 intro H enc W held fuel cs x ps hx hw
 obtain ⟨xs, n, _, he, hl, hlen, hf⟩ := DataW.trod_struct ht hx
 obtain ⟨rfl, _⟩ := Prod.mk.inj he
 obtain ⟨a, ha, hG⟩ := h enc W held n cs xs (fun i f hi => hf i f (by simpa using hi)) (by simpa using hlen) (fun n hn => hw n (by simpa [DataW.weights, ht] using hn))
 refine ⟨a, ?_, hG⟩
 rw [List.drop_zero, List.take_of_length_le (by omega)] at ha
 exact ha
theorem Opens.iso {α β : Type} {P : Program} {t : TypeId} {d : Kd α} {G : α → Prop} (f : β → α) (g : α → β) (hfg : ∀ a, f (g a) = a) (h : Opens P t d G) : Opens P t (Kd.iso d f) (fun b => G (f b)) := by
 intro H enc W held fuel cs x ps hx hw
 obtain ⟨a, ha, hG⟩ := h enc W held fuel cs x ps hx hw
 exact ⟨g a, by show d.K W (f (g a)) cs; rw [hfg]; exact ha, by show G (f (g a)); rw [hfg]; exact hG⟩
theorem Opens.imp {α : Type} {P : Program} {t : TypeId} {d : Kd α} {G G' : α → Prop} (h : Opens P t d G) (hg : ∀ a, G a → G' a) : Opens P t d G' := by
 intro H enc W held fuel cs x ps hx hw
 obtain ⟨a, ha, hG⟩ := h enc W held fuel cs x ps hx hw
 exact ⟨a, ha, hg a hG⟩
theorem Opens.arg {α : Type} {P : Program} {t : TypeId} {d : Kd α} {G : α → Prop} (h : Opens P t d G) {H : Type} {enc : TypeId × Value → H} {W : World} {held : Bool} {v : Value} {x : DataW H} {ps : List MemPlace} {ts : List TypeId} {ds : List (DataW H)} (j : Nat)
  (hsz : (DataW.weightsEach P ts ds).all (· ≤ reachBytes) = true) (ht : ts[j]? = some t) (hd : ds[j]? = some x) (hv : DataW.Trod enc P W 0 (fun _ => true) held t v x ps) : ∃ a : α, d.K W a v.cells.toList ∧ G a := by
 obtain ⟨fuel, hf⟩ := hv
 refine h enc W held fuel _ x ps hf (fun n hn => ?_)
 simpa using List.all_eq_true.1 hsz n (DataW.weights_mem_each ht hd n hn)
end Go.Proofs.YtdlimghdimkadaaDoor.Opens
namespace Go.Proofs.YtdlimghdimkadaaDoor.PAll
open Go Go.RowKit Go.Shelf Go.Proofs.YtdlimghdimkadaaDoorW.PrintWords Go.Proofs.YtdlimghdimkadaaDoorW.PrintLast Go.Proofs.YtdlimghdimkadaaDoorW.PrintMore Go.Proofs.YtdlimghdimkadaaDoor.Plain Go.Proofs.YtdlimghdimkadaaDoor.Opens
set_option linter.unusedSimpArgs false
set_option linter.unusedVariables false
attribute [local go_sem] max2_int min2_int max_two min_two max_three min_three max_four min_four
theorem bytes_nil : Bytes [] := fun _ h => nomatch h
theorem bytes_setBk {a : AC} (h : ABytes a) (n : Nat) (b : ABk) (hb : ∀ j, Bytes (b.pg j).d) : ABytes (a.setBk n b) := fun i j => by
 unfold AC.setBk
 by_cases hi : i = n
 ·subst hi; simp; exact hb j
 ·simp [hi]; exact h i j
theorem bytes_put {a : AC} (h : ABytes a) (n p : Nat) (st : Int) (d : List Int) (hd : Bytes d) : ABytes (a.put n p st d) := by
 unfold AC.put
 refine bytes_setBk h n _ (fun j => ?_)
 by_cases hj : j = p
 ·subst hj; simp [ABk.setPg]; exact hd
 ·simp [ABk.setPg, hj]; exact h n j
theorem bytes_erased {a : AC} (h : ABytes a) (n : Nat) (st nx : Int) : ABytes (a.erased n st nx) := by
 unfold AC.erased
 refine bytes_setBk h n _ (fun j => ?_)
 by_cases hj : j < a.g.P
 ·simp [ABk.clr, hj]; exact bytes_nil
 ·simp [ABk.clr, hj]; exact h n j
theorem step_bytes {a : AC} (h : ABytes a) (o : SOp) (ho : Bytes o.d) : ABytes (stepA a o) := by
 unfold stepA
 split
 ·unfold progA
  have ht : ABytes a.tick := h
  have hc : ABytes a.tick.cut := h
  repeat' split
  all_goals first | exact h | exact bytes_put ht _ _ _ _ ho | exact bytes_put hc _ _ _ _ ho | exact bytes_put ht _ _ _ _ bytes_nil | exact bytes_put hc _ _ _ _ bytes_nil
 split
 ·unfold eraseA
  have ht : ABytes a.tick := h
  have hc : ABytes a.tick.cut := h
  repeat' split
  all_goals first | exact h | exact bytes_erased ht _ _ _ | exact bytes_erased hc _ _ _ | exact bytes_setBk hc _ _ (fun j => h _ j)
 split
 ·unfold markA
  repeat' split
  all_goals first | exact h | exact bytes_setBk h _ _ (fun j => h _ j)
 split
 ·exact h
 split
 ·unfold armA
  split <;> exact h
 ·exact h
theorem step_g (a : AC) (o : SOp) : (stepA a o).g = a.g := by
 unfold stepA progA eraseA markA armA
 repeat' split
 all_goals rfl
set_option maxRecDepth 100000 in
set_option maxHeartbeats 4000000 in
theorem once_bad (B P Z R : Int) (A : Option Addr) (n c : Nat) (Wi : World) (hg : rightG B P Z R = false) (aE : Addr) (hgE : gNone Wi aE) :
  Calls Tryd.prog 5 #[gV B P Z R, .slice A n c] Wi fun e w' => e = .returned (.bool true) ∧ Below Wi.heap.size Wi w' := by
 have HGE := Aside0.mk hgE
 have HNB := Aside0.mk (show ∀ W : World, Calls Tryd.prog 14 #[gV B P Z R, .slice none 0 0] W (fun e w' => e = .returned (.tuple #[.pointer none, .int .i64 22]) ∧ Below W.heap.size W w') from fun W => new_bad B P Z R none 0 [] W ⟨rfl, by decide, fun h => absurd h (by decide)⟩ (Nat.le_refl _) (by rw [hg]; rfl))
 have hu28 := Tryd.underlying37
 clear hg hgE
 go_enter Tryd.func5, Tryd.ntmps5
 go_upto_region 1 with (fail)
 generalize hW : Wi.alloc (.cells #[.int .i64 B, .int .i64 P, .int .i64 Z, .int .i64 R] 37) = W1
 have hb : Below Wi.heap.size Wi W1 := by rw [← hW]; exact below_alloc (Below.refl _ _) _
 have hx : W1.heap[Wi.heap.size]? = some (.cells #[.int .i64 B, .int .i64 P, .int .i64 Z, .int .i64 R] 37 (0, 0)) := by rw [← hW]; exact new_blk _ _ _
 have HB := Aside0.mk hb
 have a0 := Joins.cell_of_block hx 0
 have a1 := Joins.cell_of_block hx 1
 have a2 := Joins.cell_of_block hx 2
 have a3 := Joins.cell_of_block hx 3
 clear hW hb hx
 go_wp2_with (first
  | (go_at_call 14; (with_reducible refine (HNB.out _).mono ?_); rintro e w2 ⟨rfl, hb2⟩; have HB2 := Aside0.mk (below_step HB.out hb2); have HAL := Aside0.mk (salive_is aE w2 (cell_below HGE.out HB2.out)); clear hb2)
  | (go_at_call 13; (with_reducible refine HAL.out.mono ?_); rintro e w3 ⟨rfl, hb3⟩; have HB3 := Aside0.mk (below_step HB2.out hb3); clear hb3))
 go_ret
 exact ⟨rfl, HB3.out⟩
set_option maxRecDepth 100000 in
set_option maxHeartbeats 32000000 in
theorem once_ok (g : Geo) (A : Option Addr) (c : Nat) (l : List SOp) (Wi : World) (hr : Kd.C kOp Wi A l.length l) (hc : l.length ≤ c) (hby : ∀ o ∈ l, Bytes o.d) (hg : rightG g.B g.P g.Z g.R = true) (aE : Addr) (hgE : gNone Wi aE) :
  Calls Tryd.prog 5 #[gV g.B g.P g.Z g.R, .slice A l.length c] Wi fun e w' => e = .returned (.bool true) ∧ Below Wi.heap.size Wi w' := by
 have hmx := Kd.C_max hr
 have HGE := Aside0.mk hgE
 have HR := Aside0.mk hr
 have HBY := Aside0.mk hby
 have HNW := Aside0.mk (show ∀ W : World, Calls Tryd.prog 14 #[gV g.B g.P g.Z g.R, .slice none 0 0] W (fun e w' => ∃ gc : Nat, e = .returned (.tuple #[cp gc, .int .i64 0]) ∧ Chip W w' gc (newA g [])) from fun W => chip_new g none 0 [] W ⟨rfl, by decide, fun h => absurd h (by decide)⟩ (Nat.le_refl _) hg rfl)
 have HDN := Aside0.mk (fun (W : World) => dnew_ok g W hg)
 have HGO := Aside0.mk (rightG_ok hg)
 have hu28 := Tryd.underlying37
 have hu58 := Tryd.underlying58
 have hu49 := Tryd.underlying49
 clear hg hgE hr hby
 go_enter Tryd.func5, Tryd.ntmps5
 go_upto_region 1 with (fail)
 obtain ⟨gx, hgx⟩ : ∃ gx, gx = Wi.heap.size := ⟨_, rfl⟩
 generalize hW : Wi.alloc (.cells #[.int .i64 g.B, .int .i64 g.P, .int .i64 g.Z, .int .i64 g.R] 37) = W1
 have hb : Below Wi.heap.size Wi W1 := by rw [← hW]; exact below_alloc (Below.refl _ _) _
 have hx : W1.heap[gx]? = some (.cells #[.int .i64 g.B, .int .i64 g.P, .int .i64 g.Z, .int .i64 g.R] 37 (0, 0)) := by rw [← hW, hgx]; exact new_blk _ _ _
 have HB1 := Aside0.mk hb
 have HG1 := Aside0.mk hx
 have a0 := Joins.cell_of_block hx 0
 have a1 := Joins.cell_of_block hx 1
 have a2 := Joins.cell_of_block hx 2
 have a3 := Joins.cell_of_block hx 3
 rw [← hgx]
 clear hW hb hx hgx
 go_upto_region 5 with (first
  | (go_at_call 14; (with_reducible refine (HNW.out _).mono ?_); rintro e w2 ⟨gc, rfl, h2⟩; have HC2 := Aside0.mk (h2.lower HB1.out); have HB2 := Aside0.mk h2.below; have HAL := Aside0.mk (salive_is aE w2 (cell_below HGE.out (below_step HB1.out h2.below))); clear h2)
  | (go_at_call 13; (with_reducible refine HAL.out.mono ?_); rintro e w3 ⟨rfl, hb3⟩; have HB3 := Aside0.mk (below_step HB2.out hb3); have HC3 := Aside0.mk (HC2.out.grow hb3); have b0 := Joins.cell_of_block (keep_below HG1.out HB3.out) 0; have b1 := Joins.cell_of_block (keep_below HG1.out HB3.out) 1; have b2 := Joins.cell_of_block (keep_below HG1.out HB3.out) 2; have b3 := Joins.cell_of_block (keep_below HG1.out HB3.out) 3; clear hb3)
  | (go_at_call 20; (with_reducible refine (HDN.out _).mono ?_); rintro e w4 ⟨gd, rfl, h4, hb4⟩; have HD4 := Aside0.mk (h4.lower (below_step HB1.out HB3.out)); have HC4 := Aside0.mk (HC3.out.grow hb4); have HB4 := Aside0.mk (below_step HB3.out hb4); clear h4 hb4))
 have HG4 := Aside0.mk (keep_below HG1.out HB4.out)
 clear a0 a1 a2 a3 b0 b1 b2 b3
 go_upto_region 6 with (fail)
 go_loopw [9] (fun v9 wr => ∃ (i : Nat) (a : AC), i ≤ l.length ∧ v9 = .int .i64 i ∧ Aside0 (Chip Wi wr gc a) ∧ Aside0 (DChip Wi wr gd a) ∧ Aside0 (planOK a.pl = true) ∧ Aside0 (ABytes a) ∧ Aside0 (a.g = g) ∧ Aside0 (wr.heap[gx]? = some (.cells #[.int .i64 g.B, .int .i64 g.P, .int .i64 g.Z, .int .i64 g.R] 37 (0, 0)))) (fun i _ => l.length - (intOf i).toNat)
 case atStart => exact ⟨0, newA g [], Nat.zero_le _, rfl, HC4, HD4, ⟨rfl⟩, ⟨fun _ _ => bytes_nil⟩, ⟨rfl⟩, HG4⟩
 case round =>
  obtain ⟨i, a, hi, rfl, HC5, HD5, HP5, HY5, HA5, HG5⟩ := hrel
  by_cases hlt : i < l.length
  ·have d0 : decide ((i : Int) < (l.length : Int)) = true := decide_eq_true (by omega)
   have hq : (i < l.length) = True := eq_true hlt
   have hqi : ((i : Int) < (l.length : Int)) = True := eq_true (by omega)
   have hqm : (l.length ≤ i) = False := eq_false (by omega)
   have HIL := Aside0.mk hlt
   obtain ⟨ad, A3, c3, A4, c4, rfl, y0, y1, y2, y3, y4, l3, g3, l4, g4⟩ := at_Op HR.out (i : Int) (by omega) (by omega)
   rw [Int.toNat_natCast] at y0 y1 y2 y3 y4
   have hmem : Bytes (l.getD i zOp).d := by
    rw [List.getD_eq_getElem?_getD, List.getElem?_eq_getElem hlt]
    exact HBY.out _ (List.getElem_mem hlt)
   rw [Int.toNat_natCast] at l3 g3 l4 g4
   generalize l.getD i zOp = o at y0 y1 y2 y3 y4 l3 g3 l4 g4 hmem
   replace y0 := cell_below y0 HC5.out.below
   replace y1 := cell_below y1 HC5.out.below
   replace y2 := cell_below y2 HC5.out.below
   replace y3 := cell_below y3 HC5.out.below
   replace y4 := cell_below y4 HC5.out.below
   have HDO := Aside0.mk (does_is HC5.out HD5.out HP5.out o A3 c3 A4 c4 l3 g3 l4 g4)
   have HMM := Aside0.mk hmem
   clear l3 g3 l4 g4 hmem
   go_wp2_with (first
    | (go_at_call 21; (with_reducible refine HDO.out.mono ?_); rintro e w6 ⟨rfl, h6, d6, k6⟩; have HC6 := Aside0.mk h6; have HD6 := Aside0.mk d6; have HK6 := Aside0.mk k6; clear h6 d6 k6))
   go_roundw
   case rel => exact ⟨i + 1, stepA a o, by have := HIL.out; omega, by push_cast; rfl, HC6, HD6, ⟨step_ok HP5.out o⟩, ⟨step_bytes HY5.out o HMM.out⟩, ⟨(step_g a o).trans HA5.out⟩, ⟨HK6.out _ _ _ _ (by decide) (by decide) (by decide) (by decide) (by decide) (by decide) HG5.out⟩⟩
   case measure => have := HIL.out; simp [intOf]; omega
  ·obtain rfl : i = l.length := by omega
   have d0 : decide ((l.length : Int) < (l.length : Int)) = false := decide_eq_false (by omega)
   have ea := HA5.out
   obtain ⟨b, hb⟩ : ∃ b : AC, b = { a with off := false } := ⟨_, rfl⟩
   have HPW := Aside0.mk (show Calls Tryd.prog 22 #[cp gc] wr fun e w' => e = .returned (.tuple #[]) ∧ Chip Wi w' gc b ∧ Keeps wr w' by rw [hb]; exact HC5.out.power)
   have HBG := Aside0.mk (show b.g = g by rw [hb]; exact ea)
   have HBB := Aside0.mk (show ABytes b by rw [hb]; exact HY5.out)
   have HBO := Aside0.mk (show b.off = false by rw [hb])
   have HLN := Aside0.mk (show (scanA b).length = g.B by rw [scanA_len, HBG.out])
   clear ea hb
   go_upto_region 13 with (first
    | (go_at_call 22; (with_reducible refine HPW.out.mono ?_); rintro e w6 ⟨rfl, h6, k6⟩; have HC6 := Aside0.mk h6; have HG6 := Aside0.mk (k6 _ _ _ _ (by decide) (by decide) (by decide) HG5.out); have HSC := Aside0.mk (Scan_is h6 HBB.out aE (cell_below HGE.out h6.below) HBO.out); clear h6 k6)
    | (go_at_call 19; (with_reducible refine HSC.out.mono ?_); rintro e wS ⟨g9, c9, rfl, hc9, hr9, hb9⟩; rw [HLN.out]; have HCS := Aside0.mk (HC6.out.grow hb9); have HRS := Aside0.mk hr9; have HGS := Aside0.mk (keep_below HG6.out hb9); have e0 := Joins.cell_of_block HGS.out 0; clear hc9 hr9 hb9))
   clear e0
   go_upto_region 14 with (fail)
   go_loopw [11] (fun v11 wr => ∃ (i : Nat), i ≤ g.B ∧ v11 = .int .i64 i ∧ Aside0 (Below wS.heap.size wS wr)) (fun i _ => g.B - (intOf i).toNat)
   case atStart => exact ⟨0, Nat.zero_le _, rfl, ⟨Below.refl _ _⟩⟩
   case round =>
    obtain ⟨i, hi, rfl, HBr⟩ := hrel
    have hgB := HGO.out.1
    by_cases hlt : i < g.B
    ·have d0 : decide ((i : Int) < (g.B : Int)) = true := decide_eq_true (by omega)
     have hq : (i < g.B) = True := eq_true hlt
     have hqi : ((i : Int) < (g.B : Int)) = True := eq_true (by omega)
     have hqm : (g.B ≤ i) = False := eq_false (by omega)
     have HIL := Aside0.mk hlt
     have hil : i < (scanA b).length := by rw [HLN.out]; exact hlt
     obtain ⟨hon, hfd⟩ := once_scan b (by rw [HBG.out]; have := HGO.out.2.1; omega) HBB.out i (by rw [HBG.out]; exact hlt) hil
     have HRr := Aside0.mk (HRS.out.keep (HBr.out.block _ HRS.out.lt))
     obtain ⟨r0, r1, r2, r3, r4, r5⟩ := HRr.out.cell i hil
     obtain ⟨x, hx⟩ : ∃ x : Blk, x = (scanA b)[i] := ⟨_, rfl⟩
     rw [← hx] at r0 r1 r2 r3 r4 r5 hon hfd
     have HON := Aside0.mk hon
     have HFD := Aside0.mk hfd
     clear hon hfd hx hil
     go_upto_region 17 with (fail)
     obtain ⟨go, hgo⟩ : ∃ go, go = wr.heap.size := ⟨_, rfl⟩
     generalize hW : wr.alloc (.cells #[.int .i64 x.f0, .int .i64 x.f1, .int .i64 x.f2, .int .i64 x.f3, .int .u64 x.f4, .bool x.f5] 49) = W7
     have hb7 : Below wr.heap.size wr W7 := by rw [← hW]; exact below_alloc (Below.refl _ _) _
     have HX7 := Aside0.mk (show W7.heap[go]? = some (.cells #[.int .i64 x.f0, .int .i64 x.f1, .int .i64 x.f2, .int .i64 x.f3, .int .u64 x.f4, .bool x.f5] 49 (0, 0)) by rw [← hW, hgo]; exact new_blk _ _ _)
     have HB7 := Aside0.mk (below_step HBr.out hb7)
     have HG7 := Aside0.mk (keep_below HGS.out HB7.out)
     have HC7 := Aside0.mk (HCS.out.grow HB7.out)
     rw [← hgo]
     clear hW hb7 hgo r0 r1 r2 r3 r4 r5
     have s1 : decide (x.f0 < 1) = false := decide_eq_false (by have := HON.out.1; omega)
     have s4 : decide (4 < x.f0) = false := decide_eq_false (by have := HON.out.2.1; omega)
     have s1p : (x.f0 < 1) = False := eq_false (by have := HON.out.1; omega)
     have s4p : (4 < x.f0) = False := eq_false (by have := HON.out.2.1; omega)
     have HBAD := Aside0.mk (show ∀ w', Below W7.heap.size W7 w' → Calls Tryd.prog 23 #[cp gc, .int .i64 i] w' (fun e w'' => e = .returned (.bool (x.f0 == 1)) ∧ Below w'.heap.size w' w'') from fun w' hb => by
      rw [HON.out.2.2.1]
      exact (HC7.out.grow hb).bad (i : Int))
     by_cases h4 : x.f0 = 4
     ·have f0 : x.f0 = 4 := h4
      have f1 : (x.f0 == 2) = false := by simp [h4]
      obtain ⟨hl1, hl2, hl3, hrd⟩ := HON.out.2.2.2.2.2 h4
      obtain ⟨hf1, hf2⟩ := HFD.out h4
      obtain ⟨u, hu⟩ : ∃ u : Nat, x.f3 = (u : Int) := ⟨x.f3.toNat, by omega⟩
      rw [hu] at hl3 hrd
      have HRD := Aside0.mk hrd
      have HF1 := Aside0.mk hf1
      have HUU := Aside0.mk hl3
      rw [HBG.out] at hl1 hl3
      have HLL := Aside0.mk hl1
      have HF2 := Aside0.mk hf2
      have HUP := Aside0.mk hl3
      have HF3 := Aside0.mk hu
      clear h4 hl1 hl2 hl3 hrd hf1 hf2 hu
      refine Reg.det [(0, 76, ?r1v0), (1, 77, ?r1v1), (2, 78, ?r1v2), (3, 79, ?r1v3), (4, 80, ?r1v4), (5, 81, ?r1v5), (6, 82, ?r1v6), (7, 83, ?r1v7), (8, 84, ?r1v8), (9, 85, ?r1v9), (10, 86, ?r1v10), (11, 87, ?r1v11), (12, 88, ?r1v12), (13, 89, ?r1v13), (14, 90, ?r1v14), (15, 91, ?r1v15), (16, 92, ?r1v16), (17, 93, ?r1v17), (18, 94, ?r1v18), (19, 95, ?r1v19), (20, 96, ?r1v20), (21, 97, ?r1v21), (22, 98, undef), (23, 99, undef), (24, 100, undef), (25, 101, undef), (26, 102, ?r1v26), (27, 103, ?r1v27)] (fun w' => Below W7.heap.size W7 w') (by rfl) rfl (by kernel_rfl) ?r1S ?r1steps ?r1okv ?r1hlt ?r1fin
      case r1S => exact below_drew (Below.refl _ _)
      case r1steps =>
       refine Reg.from_some 0 rfl rfl (fun a w hS hK K hC => ?_) ?_
       ·refine Reg.step_on (by rfl) ?_
        have e12 := hK.off 12 _ rfl rfl
        clear hK
        go_simp
        exact hC _ hS
       refine Reg.from_some 1 rfl rfl (fun a w hS hK K hC => ?_) ?_
       ·refine Reg.step_on (by rfl) ?_
        have e76 := hK.slot 0 _ _ _ rfl (by kernel_rfl)
        have hx := keep_below HX7.out hS
        have z0 := Joins.cell_of_block hx 0
        have z2 := Joins.cell_of_block hx 2
        have z3 := Joins.cell_of_block hx 3
        have hy := keep_below HG7.out hS
        have y0 := Joins.cell_of_block hy 0
        have y1 := Joins.cell_of_block hy 1
        have y2 := Joins.cell_of_block hy 2
        have y3 := Joins.cell_of_block hy 3
        clear hx hy
        clear hK
        go_simp
        exact hC _ hS
       refine Reg.from_some 2 rfl rfl (fun a w hS hK K hC => ?_) ?_
       ·refine Reg.step_on (by rfl) ?_
        have e77 := hK.slot 1 _ _ _ rfl (by kernel_rfl)
        clear hK
        go_simp
        exact hC _ hS
       refine Reg.from_some 3 rfl rfl (fun a w hS hK K hC => ?_) ?_
       ·refine Reg.step_on (by rfl) ?_
        have e78 := hK.slot 2 _ _ _ rfl (by kernel_rfl)
        clear hK
        go_simp
        exact hC _ hS
       refine Reg.from_some 4 rfl rfl (fun a w hS hK K hC => ?_) ?_
       ·refine Reg.step_on (wanted_on (g := 3) rfl rfl rfl (hK.slot 3 _ _ _ rfl (by kernel_rfl))) ?_
        have e12 := hK.off 12 _ rfl rfl
        clear hK
        go_simp
        exact hC _ hS
       refine Reg.from_some 5 rfl rfl (fun a w hS hK K hC => ?_) ?_
       ·refine Reg.step_on (wanted_on (g := 3) rfl rfl rfl (hK.slot 3 _ _ _ rfl (by kernel_rfl))) ?_
        have e80 := hK.slot 4 _ _ _ rfl (by kernel_rfl)
        have hx := keep_below HX7.out hS
        have z0 := Joins.cell_of_block hx 0
        have z2 := Joins.cell_of_block hx 2
        have z3 := Joins.cell_of_block hx 3
        have hy := keep_below HG7.out hS
        have y0 := Joins.cell_of_block hy 0
        have y1 := Joins.cell_of_block hy 1
        have y2 := Joins.cell_of_block hy 2
        have y3 := Joins.cell_of_block hy 3
        clear hx hy
        clear hK
        go_simp
        exact hC _ hS
       refine Reg.from_some 6 rfl rfl (fun a w hS hK K hC => ?_) ?_
       ·refine Reg.step_on (wanted_on (g := 3) rfl rfl rfl (hK.slot 3 _ _ _ rfl (by kernel_rfl))) ?_
        have e81 := hK.slot 5 _ _ _ rfl (by kernel_rfl)
        clear hK
        go_simp
        exact hC _ hS
       refine Reg.from_some 7 rfl rfl (fun a w hS hK K hC => ?_) ?_
       ·refine Reg.step_on (by rfl) ?_
        have e79 := hK.slot 3 _ _ _ rfl (by kernel_rfl)
        have e82 := hK.slot 6 _ _ _ rfl (by kernel_rfl)
        clear hK
        go_simp
        exact hC _ hS
       refine Reg.from_some 8 rfl rfl (fun a w hS hK K hC => ?_) ?_
       ·refine Reg.step_on (by rfl) ?_
        have e83 := hK.slot 7 _ _ _ rfl (by kernel_rfl)
        clear hK
        go_simp
        exact hC _ hS
       refine Reg.from_some 9 rfl rfl (fun a w hS hK K hC => ?_) ?_
       ·refine Reg.step_on (wanted_on (g := 8) rfl rfl rfl (hK.slot 8 _ _ _ rfl (by kernel_rfl))) ?_
        have e12 := hK.off 12 _ rfl rfl
        clear hK
        go_simp
        exact hC _ hS
       refine Reg.from_some 10 rfl rfl (fun a w hS hK K hC => ?_) ?_
       ·refine Reg.step_on (wanted_on (g := 8) rfl rfl rfl (hK.slot 8 _ _ _ rfl (by kernel_rfl))) ?_
        have e85 := hK.slot 9 _ _ _ rfl (by kernel_rfl)
        have hx := keep_below HX7.out hS
        have z0 := Joins.cell_of_block hx 0
        have z2 := Joins.cell_of_block hx 2
        have z3 := Joins.cell_of_block hx 3
        have hy := keep_below HG7.out hS
        have y0 := Joins.cell_of_block hy 0
        have y1 := Joins.cell_of_block hy 1
        have y2 := Joins.cell_of_block hy 2
        have y3 := Joins.cell_of_block hy 3
        clear hx hy
        clear hK
        go_simp
        exact hC _ hS
       refine Reg.from_some 11 rfl rfl (fun a w hS hK K hC => ?_) ?_
       ·refine Reg.step_on (wanted_on (g := 8) rfl rfl rfl (hK.slot 8 _ _ _ rfl (by kernel_rfl))) ?_
        have e86 := hK.slot 10 _ _ _ rfl (by kernel_rfl)
        clear hK
        go_simp
        exact hC _ hS
       refine Reg.from_some 12 rfl rfl (fun a w hS hK K hC => ?_) ?_
       ·refine Reg.step_on (wanted_on (g := 8) rfl rfl rfl (hK.slot 8 _ _ _ rfl (by kernel_rfl))) ?_
        have e5 := hK.off 5 _ rfl rfl
        clear hK
        go_simp
        exact hC _ hS
       refine Reg.from_some 13 rfl rfl (fun a w hS hK K hC => ?_) ?_
       ·refine Reg.step_on (wanted_on (g := 8) rfl rfl rfl (hK.slot 8 _ _ _ rfl (by kernel_rfl))) ?_
        have e11 := hK.off 11 _ rfl rfl
        clear hK
        go_simp
        exact hC _ hS
       refine Reg.from_some 14 rfl rfl (fun a w hS hK K hC => ?_) ?_
       ·refine Reg.step_on (wanted_on (g := 8) rfl rfl rfl (hK.slot 8 _ _ _ rfl (by kernel_rfl))) ?_
        have e88 := hK.slot 12 _ _ _ rfl (by kernel_rfl)
        have e89 := hK.slot 13 _ _ _ rfl (by kernel_rfl)
        clear hK
        go_simp
        go_at_call 23; (with_reducible refine (HBAD.out w hS).mono ?_)
        rintro e w' ⟨rfl, hb⟩
        exact hC w' (below_step hS hb)
       refine Reg.from_some 15 rfl rfl (fun a w hS hK K hC => ?_) ?_
       ·refine Reg.step_on (wanted_on (g := 8) rfl rfl rfl (hK.slot 8 _ _ _ rfl (by kernel_rfl))) ?_
        have e87 := hK.slot 11 _ _ _ rfl (by kernel_rfl)
        have e90 := hK.slot 14 _ _ _ rfl (by kernel_rfl)
        clear hK
        go_simp
        exact hC _ hS
       refine Reg.from_some 16 rfl rfl (fun a w hS hK K hC => ?_) ?_
       ·refine Reg.step_on (by rfl) ?_
        have e84 := hK.slot 8 _ _ _ rfl (by kernel_rfl)
        have e91 := hK.slot 15 _ _ _ rfl (by kernel_rfl)
        clear hK
        go_simp
        exact hC _ hS
       refine Reg.from_some 17 rfl rfl (fun a w hS hK K hC => ?_) ?_
       ·refine Reg.step_on (by rfl) ?_
        have e92 := hK.slot 16 _ _ _ rfl (by kernel_rfl)
        clear hK
        go_simp
        exact hC _ hS
       refine Reg.from_some 18 rfl rfl (fun a w hS hK K hC => ?_) ?_
       ·refine Reg.step_on (wanted_on (g := 17) rfl rfl rfl (hK.slot 17 _ _ _ rfl (by kernel_rfl))) ?_
        have e12 := hK.off 12 _ rfl rfl
        clear hK
        go_simp
        exact hC _ hS
       refine Reg.from_some 19 rfl rfl (fun a w hS hK K hC => ?_) ?_
       ·refine Reg.step_on (wanted_on (g := 17) rfl rfl rfl (hK.slot 17 _ _ _ rfl (by kernel_rfl))) ?_
        have e94 := hK.slot 18 _ _ _ rfl (by kernel_rfl)
        have hx := keep_below HX7.out hS
        have z0 := Joins.cell_of_block hx 0
        have z2 := Joins.cell_of_block hx 2
        have z3 := Joins.cell_of_block hx 3
        have hy := keep_below HG7.out hS
        have y0 := Joins.cell_of_block hy 0
        have y1 := Joins.cell_of_block hy 1
        have y2 := Joins.cell_of_block hy 2
        have y3 := Joins.cell_of_block hy 3
        clear hx hy
        clear hK
        go_simp
        exact hC _ hS
       refine Reg.from_some 20 rfl rfl (fun a w hS hK K hC => ?_) ?_
       ·refine Reg.step_on (wanted_on (g := 17) rfl rfl rfl (hK.slot 17 _ _ _ rfl (by kernel_rfl))) ?_
        have e95 := hK.slot 19 _ _ _ rfl (by kernel_rfl)
        clear hK
        go_simp
        exact hC _ hS
       refine Reg.from_some 21 rfl rfl (fun a w hS hK K hC => ?_) ?_
       ·refine Reg.step_on (wanted_on (g := 17) rfl rfl rfl (hK.slot 17 _ _ _ rfl (by kernel_rfl))) ?_
        have e96 := hK.slot 20 _ _ _ rfl (by kernel_rfl)
        clear hK
        go_simp
        exact hC _ hS
       refine Reg.from_some 22 rfl rfl (fun a w hS hK K hC => ?_) ?_
       ·refine Reg.step_off (wanted_off (g := 21) rfl rfl rfl (hK.slot 21 _ _ _ rfl (by kernel_rfl))) ?_
        exact hC _ hS
       refine Reg.from_some 23 rfl rfl (fun a w hS hK K hC => ?_) ?_
       ·refine Reg.step_off (wanted_off (g := 21) rfl rfl rfl (hK.slot 21 _ _ _ rfl (by kernel_rfl))) ?_
        exact hC _ hS
       refine Reg.from_some 24 rfl rfl (fun a w hS hK K hC => ?_) ?_
       ·refine Reg.step_off (wanted_off (g := 21) rfl rfl rfl (hK.slot 21 _ _ _ rfl (by kernel_rfl))) ?_
        exact hC _ hS
       refine Reg.from_some 25 rfl rfl (fun a w hS hK K hC => ?_) ?_
       ·refine Reg.step_off (wanted_off (g := 21) rfl rfl rfl (hK.slot 21 _ _ _ rfl (by kernel_rfl))) ?_
        exact hC _ hS
       refine Reg.from_some 26 rfl rfl (fun a w hS hK K hC => ?_) ?_
       ·refine Reg.step_on (wanted_on (g := 17) rfl rfl rfl (hK.slot 17 _ _ _ rfl (by kernel_rfl))) ?_
        have e97 := hK.slot 21 _ _ _ rfl (by kernel_rfl)
        have e101 := hK.slot 25 _ _ _ rfl (by kernel_rfl)
        clear hK
        go_simp
        exact hC _ hS
       refine Reg.from_some 27 rfl rfl (fun a w hS hK K hC => ?_) ?_
       ·refine Reg.step_on (by rfl) ?_
        have e93 := hK.slot 17 _ _ _ rfl (by kernel_rfl)
        have e102 := hK.slot 26 _ _ _ rfl (by kernel_rfl)
        clear hK
        go_simp
        exact hC _ hS
       exact Reg.from_nil
      case r1okv => rfl
      case r1hlt => rfl
      case r1fin =>
       intro wz hS
       simp only [Reg.putV, List.foldl_cons, List.foldl_nil, Act.put, List.setIfInBounds_toArray, List.set_cons_zero, List.set_cons_succ]
       have HB8 := Aside0.mk (below_step HB7.out hS)
       have HX8 := Aside0.mk (keep_below HX7.out hS)
       have HG8 := Aside0.mk (keep_below HG7.out hS)
       clear hS
       generalize wz = W8 at HB8 HX8 HG8 ⊢
       have z0 := Joins.cell_of_block HX8.out 0
       go_upto_region 22 with (fail)
       clear z0
       have HRr8 := Aside0.mk (HRS.out.keep (HB8.out.block _ HRS.out.lt))
       have HFND := Aside0.mk (show ∀ w', Below W8.heap.size W8 w' → Calls Tryd.prog 7 #[.slice (some ⟨g9, 0, none⟩) g.B c9, .int .i64 x.f2] w' (fun e w'' => e = .returned (.int .i64 (i : Int)) ∧ Below w'.heap.size w' w'') from fun w' hb => by
        have h := find_is (some ⟨g9, 0, none⟩) c9 (scanA b) x.f2 w' ((HRr8.out.keep (hb.block _ HRr8.out.lt)).reads (by rw [HLN.out]; have := HGO.out.1; omega)) (by rw [HLN.out]; have := HGO.out.1; omega)
        rw [HLN.out, HF1.out] at h
        exact h)
       obtain ⟨lb, hlb⟩ : ∃ lb, lb = lebsG g.B g.P g.Z g.R := ⟨_, rfl⟩
       have HLEB := Aside0.mk (show ∀ w', Below W8.heap.size W8 w' → Calls Tryd.prog 25 #[gV g.B g.P g.Z g.R] w' (fun e w'' => e = .returned (.int .i64 lb) ∧ Below w'.heap.size w' w'') from fun w' hb => by rw [hlb]; exact lebs_is g.B g.P g.Z g.R w')
       have t1 : decide (x.f2 < 0) = false := decide_eq_false (by have := HF2.out; omega)
       have t2 : decide (lb ≤ x.f2) = false := decide_eq_false (by have := HLL.out; omega)
       have t3 : decide (x.f3 < 0) = false := decide_eq_false (by have := HF3.out; omega)
       have t4 : decide ((g.P : Int) - 2 < x.f3) = false := decide_eq_false (by have := HF3.out; have := HUP.out; omega)
       have t1p : (x.f2 < 0) = False := eq_false (by have := HF2.out; omega)
       have t2p : (lb ≤ x.f2) = False := eq_false (by have := HLL.out; omega)
       have t3p : (x.f3 < 0) = False := eq_false (by have := HF3.out; omega)
       have t4p : ((g.P : Int) - 2 < x.f3) = False := eq_false (by have := HF3.out; have := HUP.out; omega)
       have hwP : IntKind.i64.wrap ((g.P : Int) - 2) = (g.P : Int) - 2 := by rw [i64_w]; unfold wrap64; have := HGO.out.2.1; omega
       clear hlb
       refine Reg.det [(0, 124, ?r4v0), (1, 125, ?r4v1), (2, 126, ?r4v2), (3, 127, ?r4v3), (4, 128, ?r4v4), (5, 129, ?r4v5), (6, 130, ?r4v6), (7, 131, ?r4v7), (8, 132, ?r4v8), (9, 133, ?r4v9), (10, 134, ?r4v10), (11, 135, ?r4v11), (12, 136, ?r4v12), (13, 137, ?r4v13), (14, 138, ?r4v14), (15, 139, ?r4v15), (16, 140, ?r4v16), (17, 141, ?r4v17), (18, 142, ?r4v18), (19, 143, ?r4v19), (20, 144, ?r4v20), (21, 145, ?r4v21), (22, 146, ?r4v22), (23, 147, ?r4v23), (24, 148, ?r4v24), (25, 149, ?r4v25), (26, 150, ?r4v26), (27, 151, ?r4v27), (28, 152, ?r4v28), (29, 153, ?r4v29), (30, 154, ?r4v30)] (fun w' => Below W8.heap.size W8 w') (by rfl) rfl (by kernel_rfl) ?r4S ?r4steps ?r4okv ?r4hlt ?r4fin
       case r4S => exact below_drew (Below.refl _ _)
       case r4steps =>
        refine Reg.from_some 0 rfl rfl (fun a w hS hK K hC => ?_) ?_
        ·refine Reg.step_on (by rfl) ?_
         have e10 := hK.off 10 _ rfl rfl
         clear hK
         go_simp
         exact hC _ hS
        refine Reg.from_some 1 rfl rfl (fun a w hS hK K hC => ?_) ?_
        ·refine Reg.step_on (by rfl) ?_
         have e12 := hK.off 12 _ rfl rfl
         clear hK
         go_simp
         exact hC _ hS
        refine Reg.from_some 2 rfl rfl (fun a w hS hK K hC => ?_) ?_
        ·refine Reg.step_on (by rfl) ?_
         have e125 := hK.slot 1 _ _ _ rfl (by kernel_rfl)
         have hx := keep_below HX8.out hS
         have z0 := Joins.cell_of_block hx 0
         have z2 := Joins.cell_of_block hx 2
         have z3 := Joins.cell_of_block hx 3
         have hy := keep_below HG8.out hS
         have y0 := Joins.cell_of_block hy 0
         have y1 := Joins.cell_of_block hy 1
         have y2 := Joins.cell_of_block hy 2
         have y3 := Joins.cell_of_block hy 3
         clear hx hy
         clear hK
         go_simp
         exact hC _ hS
        refine Reg.from_some 3 rfl rfl (fun a w hS hK K hC => ?_) ?_
        ·refine Reg.step_on (by rfl) ?_
         have e124 := hK.slot 0 _ _ _ rfl (by kernel_rfl)
         have e126 := hK.slot 2 _ _ _ rfl (by kernel_rfl)
         clear hK
         go_simp
         go_at_call 7; (with_reducible refine (HFND.out w hS).mono ?_)
         rintro e w' ⟨rfl, hb⟩
         exact hC w' (below_step hS hb)
        refine Reg.from_some 4 rfl rfl (fun a w hS hK K hC => ?_) ?_
        ·refine Reg.step_on (by rfl) ?_
         have e11 := hK.off 11 _ rfl rfl
         clear hK
         go_simp
         exact hC _ hS
        refine Reg.from_some 5 rfl rfl (fun a w hS hK K hC => ?_) ?_
        ·refine Reg.step_on (by rfl) ?_
         have e127 := hK.slot 3 _ _ _ rfl (by kernel_rfl)
         have e128 := hK.slot 4 _ _ _ rfl (by kernel_rfl)
         clear hK
         go_simp
         exact hC _ hS
        refine Reg.from_some 6 rfl rfl (fun a w hS hK K hC => ?_) ?_
        ·refine Reg.step_on (by rfl) ?_
         have e129 := hK.slot 5 _ _ _ rfl (by kernel_rfl)
         clear hK
         go_simp
         exact hC _ hS
        refine Reg.from_some 7 rfl rfl (fun a w hS hK K hC => ?_) ?_
        ·refine Reg.step_on (wanted_on (g := 6) rfl rfl rfl (hK.slot 6 _ _ _ rfl (by kernel_rfl))) ?_
         have e12 := hK.off 12 _ rfl rfl
         clear hK
         go_simp
         exact hC _ hS
        refine Reg.from_some 8 rfl rfl (fun a w hS hK K hC => ?_) ?_
        ·refine Reg.step_on (wanted_on (g := 6) rfl rfl rfl (hK.slot 6 _ _ _ rfl (by kernel_rfl))) ?_
         have e131 := hK.slot 7 _ _ _ rfl (by kernel_rfl)
         have hx := keep_below HX8.out hS
         have z0 := Joins.cell_of_block hx 0
         have z2 := Joins.cell_of_block hx 2
         have z3 := Joins.cell_of_block hx 3
         have hy := keep_below HG8.out hS
         have y0 := Joins.cell_of_block hy 0
         have y1 := Joins.cell_of_block hy 1
         have y2 := Joins.cell_of_block hy 2
         have y3 := Joins.cell_of_block hy 3
         clear hx hy
         clear hK
         go_simp
         exact hC _ hS
        refine Reg.from_some 9 rfl rfl (fun a w hS hK K hC => ?_) ?_
        ·refine Reg.step_on (wanted_on (g := 6) rfl rfl rfl (hK.slot 6 _ _ _ rfl (by kernel_rfl))) ?_
         have e132 := hK.slot 8 _ _ _ rfl (by kernel_rfl)
         clear hK
         go_simp
         exact hC _ hS
        refine Reg.from_some 10 rfl rfl (fun a w hS hK K hC => ?_) ?_
        ·refine Reg.step_on (by rfl) ?_
         have e130 := hK.slot 6 _ _ _ rfl (by kernel_rfl)
         have e133 := hK.slot 9 _ _ _ rfl (by kernel_rfl)
         clear hK
         go_simp
         exact hC _ hS
        refine Reg.from_some 11 rfl rfl (fun a w hS hK K hC => ?_) ?_
        ·refine Reg.step_on (by rfl) ?_
         have e134 := hK.slot 10 _ _ _ rfl (by kernel_rfl)
         clear hK
         go_simp
         exact hC _ hS
        refine Reg.from_some 12 rfl rfl (fun a w hS hK K hC => ?_) ?_
        ·refine Reg.step_on (wanted_on (g := 11) rfl rfl rfl (hK.slot 11 _ _ _ rfl (by kernel_rfl))) ?_
         have e12 := hK.off 12 _ rfl rfl
         clear hK
         go_simp
         exact hC _ hS
        refine Reg.from_some 13 rfl rfl (fun a w hS hK K hC => ?_) ?_
        ·refine Reg.step_on (wanted_on (g := 11) rfl rfl rfl (hK.slot 11 _ _ _ rfl (by kernel_rfl))) ?_
         have e136 := hK.slot 12 _ _ _ rfl (by kernel_rfl)
         have hx := keep_below HX8.out hS
         have z0 := Joins.cell_of_block hx 0
         have z2 := Joins.cell_of_block hx 2
         have z3 := Joins.cell_of_block hx 3
         have hy := keep_below HG8.out hS
         have y0 := Joins.cell_of_block hy 0
         have y1 := Joins.cell_of_block hy 1
         have y2 := Joins.cell_of_block hy 2
         have y3 := Joins.cell_of_block hy 3
         clear hx hy
         clear hK
         go_simp
         exact hC _ hS
        refine Reg.from_some 14 rfl rfl (fun a w hS hK K hC => ?_) ?_
        ·refine Reg.step_on (wanted_on (g := 11) rfl rfl rfl (hK.slot 11 _ _ _ rfl (by kernel_rfl))) ?_
         have e2 := hK.off 2 _ rfl rfl
         have hx := keep_below HX8.out hS
         have z0 := Joins.cell_of_block hx 0
         have z2 := Joins.cell_of_block hx 2
         have z3 := Joins.cell_of_block hx 3
         have hy := keep_below HG8.out hS
         have y0 := Joins.cell_of_block hy 0
         have y1 := Joins.cell_of_block hy 1
         have y2 := Joins.cell_of_block hy 2
         have y3 := Joins.cell_of_block hy 3
         clear hx hy
         clear hK
         go_simp
         exact hC _ hS
        refine Reg.from_some 15 rfl rfl (fun a w hS hK K hC => ?_) ?_
        ·refine Reg.step_on (wanted_on (g := 11) rfl rfl rfl (hK.slot 11 _ _ _ rfl (by kernel_rfl))) ?_
         have e138 := hK.slot 14 _ _ _ rfl (by kernel_rfl)
         clear hK
         go_simp
         go_at_call 25; (with_reducible refine (HLEB.out w hS).mono ?_)
         rintro e w' ⟨rfl, hb⟩
         exact hC w' (below_step hS hb)
        refine Reg.from_some 16 rfl rfl (fun a w hS hK K hC => ?_) ?_
        ·refine Reg.step_on (wanted_on (g := 11) rfl rfl rfl (hK.slot 11 _ _ _ rfl (by kernel_rfl))) ?_
         have e137 := hK.slot 13 _ _ _ rfl (by kernel_rfl)
         have e139 := hK.slot 15 _ _ _ rfl (by kernel_rfl)
         clear hK
         go_simp
         exact hC _ hS
        refine Reg.from_some 17 rfl rfl (fun a w hS hK K hC => ?_) ?_
        ·refine Reg.step_on (by rfl) ?_
         have e135 := hK.slot 11 _ _ _ rfl (by kernel_rfl)
         have e140 := hK.slot 16 _ _ _ rfl (by kernel_rfl)
         clear hK
         go_simp
         exact hC _ hS
        refine Reg.from_some 18 rfl rfl (fun a w hS hK K hC => ?_) ?_
        ·refine Reg.step_on (by rfl) ?_
         have e141 := hK.slot 17 _ _ _ rfl (by kernel_rfl)
         clear hK
         go_simp
         exact hC _ hS
        refine Reg.from_some 19 rfl rfl (fun a w hS hK K hC => ?_) ?_
        ·refine Reg.step_on (wanted_on (g := 18) rfl rfl rfl (hK.slot 18 _ _ _ rfl (by kernel_rfl))) ?_
         have e12 := hK.off 12 _ rfl rfl
         clear hK
         go_simp
         exact hC _ hS
        refine Reg.from_some 20 rfl rfl (fun a w hS hK K hC => ?_) ?_
        ·refine Reg.step_on (wanted_on (g := 18) rfl rfl rfl (hK.slot 18 _ _ _ rfl (by kernel_rfl))) ?_
         have e143 := hK.slot 19 _ _ _ rfl (by kernel_rfl)
         have hx := keep_below HX8.out hS
         have z0 := Joins.cell_of_block hx 0
         have z2 := Joins.cell_of_block hx 2
         have z3 := Joins.cell_of_block hx 3
         have hy := keep_below HG8.out hS
         have y0 := Joins.cell_of_block hy 0
         have y1 := Joins.cell_of_block hy 1
         have y2 := Joins.cell_of_block hy 2
         have y3 := Joins.cell_of_block hy 3
         clear hx hy
         clear hK
         go_simp
         exact hC _ hS
        refine Reg.from_some 21 rfl rfl (fun a w hS hK K hC => ?_) ?_
        ·refine Reg.step_on (wanted_on (g := 18) rfl rfl rfl (hK.slot 18 _ _ _ rfl (by kernel_rfl))) ?_
         have e144 := hK.slot 20 _ _ _ rfl (by kernel_rfl)
         clear hK
         go_simp
         exact hC _ hS
        refine Reg.from_some 22 rfl rfl (fun a w hS hK K hC => ?_) ?_
        ·refine Reg.step_on (by rfl) ?_
         have e142 := hK.slot 18 _ _ _ rfl (by kernel_rfl)
         have e145 := hK.slot 21 _ _ _ rfl (by kernel_rfl)
         clear hK
         go_simp
         exact hC _ hS
        refine Reg.from_some 23 rfl rfl (fun a w hS hK K hC => ?_) ?_
        ·refine Reg.step_on (by rfl) ?_
         have e146 := hK.slot 22 _ _ _ rfl (by kernel_rfl)
         clear hK
         go_simp
         exact hC _ hS
        refine Reg.from_some 24 rfl rfl (fun a w hS hK K hC => ?_) ?_
        ·refine Reg.step_on (wanted_on (g := 23) rfl rfl rfl (hK.slot 23 _ _ _ rfl (by kernel_rfl))) ?_
         have e12 := hK.off 12 _ rfl rfl
         clear hK
         go_simp
         exact hC _ hS
        refine Reg.from_some 25 rfl rfl (fun a w hS hK K hC => ?_) ?_
        ·refine Reg.step_on (wanted_on (g := 23) rfl rfl rfl (hK.slot 23 _ _ _ rfl (by kernel_rfl))) ?_
         have e148 := hK.slot 24 _ _ _ rfl (by kernel_rfl)
         have hx := keep_below HX8.out hS
         have z0 := Joins.cell_of_block hx 0
         have z2 := Joins.cell_of_block hx 2
         have z3 := Joins.cell_of_block hx 3
         have hy := keep_below HG8.out hS
         have y0 := Joins.cell_of_block hy 0
         have y1 := Joins.cell_of_block hy 1
         have y2 := Joins.cell_of_block hy 2
         have y3 := Joins.cell_of_block hy 3
         clear hx hy
         clear hK
         go_simp
         exact hC _ hS
        refine Reg.from_some 26 rfl rfl (fun a w hS hK K hC => ?_) ?_
        ·refine Reg.step_on (wanted_on (g := 23) rfl rfl rfl (hK.slot 23 _ _ _ rfl (by kernel_rfl))) ?_
         have e2 := hK.off 2 _ rfl rfl
         clear hK
         go_simp
         exact hC _ hS
        refine Reg.from_some 27 rfl rfl (fun a w hS hK K hC => ?_) ?_
        ·refine Reg.step_on (wanted_on (g := 23) rfl rfl rfl (hK.slot 23 _ _ _ rfl (by kernel_rfl))) ?_
         have e150 := hK.slot 26 _ _ _ rfl (by kernel_rfl)
         have hx := keep_below HX8.out hS
         have z0 := Joins.cell_of_block hx 0
         have z2 := Joins.cell_of_block hx 2
         have z3 := Joins.cell_of_block hx 3
         have hy := keep_below HG8.out hS
         have y0 := Joins.cell_of_block hy 0
         have y1 := Joins.cell_of_block hy 1
         have y2 := Joins.cell_of_block hy 2
         have y3 := Joins.cell_of_block hy 3
         clear hx hy
         clear hK
         go_simp
         exact hC _ hS
        refine Reg.from_some 28 rfl rfl (fun a w hS hK K hC => ?_) ?_
        ·refine Reg.step_on (wanted_on (g := 23) rfl rfl rfl (hK.slot 23 _ _ _ rfl (by kernel_rfl))) ?_
         have e151 := hK.slot 27 _ _ _ rfl (by kernel_rfl)
         clear hK
         go_simp
         exact hC _ hS
        refine Reg.from_some 29 rfl rfl (fun a w hS hK K hC => ?_) ?_
        ·refine Reg.step_on (wanted_on (g := 23) rfl rfl rfl (hK.slot 23 _ _ _ rfl (by kernel_rfl))) ?_
         have e149 := hK.slot 25 _ _ _ rfl (by kernel_rfl)
         have e152 := hK.slot 28 _ _ _ rfl (by kernel_rfl)
         clear hK
         go_simp
         exact hC _ hS
        refine Reg.from_some 30 rfl rfl (fun a w hS hK K hC => ?_) ?_
        ·refine Reg.step_on (by rfl) ?_
         have e147 := hK.slot 23 _ _ _ rfl (by kernel_rfl)
         have e153 := hK.slot 29 _ _ _ rfl (by kernel_rfl)
         clear hK
         go_simp
         exact hC _ hS
        exact Reg.from_nil
       case r4okv => rfl
       case r4hlt => rfl
       case r4fin =>
        intro wz hS
        simp only [Reg.putV, List.foldl_cons, List.foldl_nil, Act.put, List.setIfInBounds_toArray, List.set_cons_zero, List.set_cons_succ]
        have HB9 := Aside0.mk (below_step HB8.out hS)
        have HX9 := Aside0.mk (keep_below HX8.out hS)
        clear hS hwP f0 f1
        go_upto_region 25 with (fail)
        go_loopw [13] (fun v13 wp => ∃ (p : Nat), p ≤ u + 2 ∧ v13 = .int .i64 p ∧ Aside0 (Below wS.heap.size wS wp) ∧ Aside0 (wp.heap[go]? = some (.cells #[.int .i64 x.f0, .int .i64 x.f1, .int .i64 x.f2, .int .i64 x.f3, .int .u64 x.f4, .bool x.f5] 49 (0, 0)))) (fun i _ => u + 2 - (intOf i).toNat)
        case atStart => exact ⟨0, Nat.zero_le _, rfl, HB9, HX9⟩
        case round =>
         obtain ⟨p, hp, rfl, HBp, HXp⟩ := hrel
         have hu62 : u ≤ 62 := by have := HUP.out; have := HGO.out.2.1; omega
         have z3 : wr.cell? ⟨go, 3, none⟩ = some (.int .i64 u) := by rw [← HF3.out]; exact Joins.cell_of_block HXp.out 3
         have hwu : IntKind.i64.wrap ((u : Int) + 2) = (u : Int) + 2 := by rw [i64_w]; unfold wrap64; omega
         by_cases hlp : p < u + 2
         ·have d5 : decide ((p : Int) < (u : Int) + 2) = true := decide_eq_true (by omega)
          have d5n : (p < u + 2) = True := eq_true hlp
          have HPL := Aside0.mk hlp
          have HRE := Aside0.mk ((HCS.out.grow HBp.out).read (i : Int) (p : Int))
          rw [HRD.out p (by omega)] at HRE
          go_wp2_with (first
           | (go_at_call 26; (with_reducible refine HRE.out.mono ?_); rintro e w12 ⟨v12, rfl, hr12, hb12⟩; obtain ⟨A12, c12, e12⟩ := Kd.R_slice hr12; subst e12; have HB12 := Aside0.mk (below_step HBp.out hb12); have HX12 := Aside0.mk (keep_below HXp.out hb12); clear hr12 hb12))
          go_roundw
          case rel => exact ⟨p + 1, by have := HPL.out; omega, by push_cast; rfl, HB12, HX12⟩
          case measure => have := HPL.out; simp [intOf]; omega
         ·obtain rfl : p = u + 2 := by omega
          have d5 : decide (((u + 2 : Nat) : Int) < (u : Int) + 2) = false := decide_eq_false (by omega)
          have d5n : (u + 2 < u + 2) = False := eq_false (by omega)
          go_wp2
          go_roundw
          case rel => exact ⟨i + 1, by have := HIL.out; omega, by push_cast; rfl, HBp⟩
          case measure => have := HIL.out; simp [intOf]; omega
     ·have f4 : (x.f0 != 4) = true := by simp [h4]
      have f4b : (x.f0 == 4) = false := by simp [h4]
      have f4p : (x.f0 = 4) = False := eq_false h4
      obtain ⟨n2, n3, n4, n5⟩ := HON.out.2.2.2.2.1 h4
      have HN2 := Aside0.mk n2
      have HN3 := Aside0.mk n3
      have HN4 := Aside0.mk n4
      have HN5 := Aside0.mk n5
      clear n2 n3 n4 n5
      by_cases hf : x.f0 = 2
      ·have f1 : (x.f0 == 2) = true := by simp [hf]
       have HNXT := Aside0.mk (show ∀ w', Below W7.heap.size W7 w' → Calls Tryd.prog 24 #[cp gc, .int .i64 i] w' (fun e w'' => e = .returned (.int .i64 1) ∧ Below w'.heap.size w' w'') from fun w' hb => by
        have h := (HC7.out.grow hb).next (i : Int)
        rw [HON.out.2.2.2.1 hf] at h
        exact h)
       clear h4 hf
       refine Reg.det [(0, 76, ?r2v0), (1, 77, ?r2v1), (2, 78, ?r2v2), (3, 79, ?r2v3), (4, 80, ?r2v4), (5, 81, ?r2v5), (6, 82, ?r2v6), (7, 83, ?r2v7), (8, 84, ?r2v8), (9, 85, ?r2v9), (10, 86, ?r2v10), (11, 87, ?r2v11), (12, 88, ?r2v12), (13, 89, ?r2v13), (14, 90, ?r2v14), (15, 91, ?r2v15), (16, 92, ?r2v16), (17, 93, ?r2v17), (18, 94, ?r2v18), (19, 95, ?r2v19), (20, 96, ?r2v20), (21, 97, ?r2v21), (22, 98, ?r2v22), (23, 99, ?r2v23), (24, 100, ?r2v24), (25, 101, ?r2v25), (26, 102, ?r2v26), (27, 103, ?r2v27)] (fun w' => Below W7.heap.size W7 w') (by rfl) rfl (by kernel_rfl) ?r2S ?r2steps ?r2okv ?r2hlt ?r2fin
       case r2S => exact below_drew (Below.refl _ _)
       case r2steps =>
        refine Reg.from_some 0 rfl rfl (fun a w hS hK K hC => ?_) ?_
        ·refine Reg.step_on (by rfl) ?_
         have e12 := hK.off 12 _ rfl rfl
         clear hK
         go_simp
         exact hC _ hS
        refine Reg.from_some 1 rfl rfl (fun a w hS hK K hC => ?_) ?_
        ·refine Reg.step_on (by rfl) ?_
         have e76 := hK.slot 0 _ _ _ rfl (by kernel_rfl)
         have hx := keep_below HX7.out hS
         have z0 := Joins.cell_of_block hx 0
         have z2 := Joins.cell_of_block hx 2
         have z3 := Joins.cell_of_block hx 3
         have hy := keep_below HG7.out hS
         have y0 := Joins.cell_of_block hy 0
         have y1 := Joins.cell_of_block hy 1
         have y2 := Joins.cell_of_block hy 2
         have y3 := Joins.cell_of_block hy 3
         clear hx hy
         clear hK
         go_simp
         exact hC _ hS
        refine Reg.from_some 2 rfl rfl (fun a w hS hK K hC => ?_) ?_
        ·refine Reg.step_on (by rfl) ?_
         have e77 := hK.slot 1 _ _ _ rfl (by kernel_rfl)
         clear hK
         go_simp
         exact hC _ hS
        refine Reg.from_some 3 rfl rfl (fun a w hS hK K hC => ?_) ?_
        ·refine Reg.step_on (by rfl) ?_
         have e78 := hK.slot 2 _ _ _ rfl (by kernel_rfl)
         clear hK
         go_simp
         exact hC _ hS
        refine Reg.from_some 4 rfl rfl (fun a w hS hK K hC => ?_) ?_
        ·refine Reg.step_on (wanted_on (g := 3) rfl rfl rfl (hK.slot 3 _ _ _ rfl (by kernel_rfl))) ?_
         have e12 := hK.off 12 _ rfl rfl
         clear hK
         go_simp
         exact hC _ hS
        refine Reg.from_some 5 rfl rfl (fun a w hS hK K hC => ?_) ?_
        ·refine Reg.step_on (wanted_on (g := 3) rfl rfl rfl (hK.slot 3 _ _ _ rfl (by kernel_rfl))) ?_
         have e80 := hK.slot 4 _ _ _ rfl (by kernel_rfl)
         have hx := keep_below HX7.out hS
         have z0 := Joins.cell_of_block hx 0
         have z2 := Joins.cell_of_block hx 2
         have z3 := Joins.cell_of_block hx 3
         have hy := keep_below HG7.out hS
         have y0 := Joins.cell_of_block hy 0
         have y1 := Joins.cell_of_block hy 1
         have y2 := Joins.cell_of_block hy 2
         have y3 := Joins.cell_of_block hy 3
         clear hx hy
         clear hK
         go_simp
         exact hC _ hS
        refine Reg.from_some 6 rfl rfl (fun a w hS hK K hC => ?_) ?_
        ·refine Reg.step_on (wanted_on (g := 3) rfl rfl rfl (hK.slot 3 _ _ _ rfl (by kernel_rfl))) ?_
         have e81 := hK.slot 5 _ _ _ rfl (by kernel_rfl)
         clear hK
         go_simp
         exact hC _ hS
        refine Reg.from_some 7 rfl rfl (fun a w hS hK K hC => ?_) ?_
        ·refine Reg.step_on (by rfl) ?_
         have e79 := hK.slot 3 _ _ _ rfl (by kernel_rfl)
         have e82 := hK.slot 6 _ _ _ rfl (by kernel_rfl)
         clear hK
         go_simp
         exact hC _ hS
        refine Reg.from_some 8 rfl rfl (fun a w hS hK K hC => ?_) ?_
        ·refine Reg.step_on (by rfl) ?_
         have e83 := hK.slot 7 _ _ _ rfl (by kernel_rfl)
         clear hK
         go_simp
         exact hC _ hS
        refine Reg.from_some 9 rfl rfl (fun a w hS hK K hC => ?_) ?_
        ·refine Reg.step_on (wanted_on (g := 8) rfl rfl rfl (hK.slot 8 _ _ _ rfl (by kernel_rfl))) ?_
         have e12 := hK.off 12 _ rfl rfl
         clear hK
         go_simp
         exact hC _ hS
        refine Reg.from_some 10 rfl rfl (fun a w hS hK K hC => ?_) ?_
        ·refine Reg.step_on (wanted_on (g := 8) rfl rfl rfl (hK.slot 8 _ _ _ rfl (by kernel_rfl))) ?_
         have e85 := hK.slot 9 _ _ _ rfl (by kernel_rfl)
         have hx := keep_below HX7.out hS
         have z0 := Joins.cell_of_block hx 0
         have z2 := Joins.cell_of_block hx 2
         have z3 := Joins.cell_of_block hx 3
         have hy := keep_below HG7.out hS
         have y0 := Joins.cell_of_block hy 0
         have y1 := Joins.cell_of_block hy 1
         have y2 := Joins.cell_of_block hy 2
         have y3 := Joins.cell_of_block hy 3
         clear hx hy
         clear hK
         go_simp
         exact hC _ hS
        refine Reg.from_some 11 rfl rfl (fun a w hS hK K hC => ?_) ?_
        ·refine Reg.step_on (wanted_on (g := 8) rfl rfl rfl (hK.slot 8 _ _ _ rfl (by kernel_rfl))) ?_
         have e86 := hK.slot 10 _ _ _ rfl (by kernel_rfl)
         clear hK
         go_simp
         exact hC _ hS
        refine Reg.from_some 12 rfl rfl (fun a w hS hK K hC => ?_) ?_
        ·refine Reg.step_on (wanted_on (g := 8) rfl rfl rfl (hK.slot 8 _ _ _ rfl (by kernel_rfl))) ?_
         have e5 := hK.off 5 _ rfl rfl
         clear hK
         go_simp
         exact hC _ hS
        refine Reg.from_some 13 rfl rfl (fun a w hS hK K hC => ?_) ?_
        ·refine Reg.step_on (wanted_on (g := 8) rfl rfl rfl (hK.slot 8 _ _ _ rfl (by kernel_rfl))) ?_
         have e11 := hK.off 11 _ rfl rfl
         clear hK
         go_simp
         exact hC _ hS
        refine Reg.from_some 14 rfl rfl (fun a w hS hK K hC => ?_) ?_
        ·refine Reg.step_on (wanted_on (g := 8) rfl rfl rfl (hK.slot 8 _ _ _ rfl (by kernel_rfl))) ?_
         have e88 := hK.slot 12 _ _ _ rfl (by kernel_rfl)
         have e89 := hK.slot 13 _ _ _ rfl (by kernel_rfl)
         clear hK
         go_simp
         go_at_call 23; (with_reducible refine (HBAD.out w hS).mono ?_)
         rintro e w' ⟨rfl, hb⟩
         exact hC w' (below_step hS hb)
        refine Reg.from_some 15 rfl rfl (fun a w hS hK K hC => ?_) ?_
        ·refine Reg.step_on (wanted_on (g := 8) rfl rfl rfl (hK.slot 8 _ _ _ rfl (by kernel_rfl))) ?_
         have e87 := hK.slot 11 _ _ _ rfl (by kernel_rfl)
         have e90 := hK.slot 14 _ _ _ rfl (by kernel_rfl)
         clear hK
         go_simp
         exact hC _ hS
        refine Reg.from_some 16 rfl rfl (fun a w hS hK K hC => ?_) ?_
        ·refine Reg.step_on (by rfl) ?_
         have e84 := hK.slot 8 _ _ _ rfl (by kernel_rfl)
         have e91 := hK.slot 15 _ _ _ rfl (by kernel_rfl)
         clear hK
         go_simp
         exact hC _ hS
        refine Reg.from_some 17 rfl rfl (fun a w hS hK K hC => ?_) ?_
        ·refine Reg.step_on (by rfl) ?_
         have e92 := hK.slot 16 _ _ _ rfl (by kernel_rfl)
         clear hK
         go_simp
         exact hC _ hS
        refine Reg.from_some 18 rfl rfl (fun a w hS hK K hC => ?_) ?_
        ·refine Reg.step_on (wanted_on (g := 17) rfl rfl rfl (hK.slot 17 _ _ _ rfl (by kernel_rfl))) ?_
         have e12 := hK.off 12 _ rfl rfl
         clear hK
         go_simp
         exact hC _ hS
        refine Reg.from_some 19 rfl rfl (fun a w hS hK K hC => ?_) ?_
        ·refine Reg.step_on (wanted_on (g := 17) rfl rfl rfl (hK.slot 17 _ _ _ rfl (by kernel_rfl))) ?_
         have e94 := hK.slot 18 _ _ _ rfl (by kernel_rfl)
         have hx := keep_below HX7.out hS
         have z0 := Joins.cell_of_block hx 0
         have z2 := Joins.cell_of_block hx 2
         have z3 := Joins.cell_of_block hx 3
         have hy := keep_below HG7.out hS
         have y0 := Joins.cell_of_block hy 0
         have y1 := Joins.cell_of_block hy 1
         have y2 := Joins.cell_of_block hy 2
         have y3 := Joins.cell_of_block hy 3
         clear hx hy
         clear hK
         go_simp
         exact hC _ hS
        refine Reg.from_some 20 rfl rfl (fun a w hS hK K hC => ?_) ?_
        ·refine Reg.step_on (wanted_on (g := 17) rfl rfl rfl (hK.slot 17 _ _ _ rfl (by kernel_rfl))) ?_
         have e95 := hK.slot 19 _ _ _ rfl (by kernel_rfl)
         clear hK
         go_simp
         exact hC _ hS
        refine Reg.from_some 21 rfl rfl (fun a w hS hK K hC => ?_) ?_
        ·refine Reg.step_on (wanted_on (g := 17) rfl rfl rfl (hK.slot 17 _ _ _ rfl (by kernel_rfl))) ?_
         have e96 := hK.slot 20 _ _ _ rfl (by kernel_rfl)
         clear hK
         go_simp
         exact hC _ hS
        refine Reg.from_some 22 rfl rfl (fun a w hS hK K hC => ?_) ?_
        ·refine Reg.step_on (wanted_on (g := 21) rfl rfl rfl (hK.slot 21 _ _ _ rfl (by kernel_rfl))) ?_
         have e5 := hK.off 5 _ rfl rfl
         clear hK
         go_simp
         exact hC _ hS
        refine Reg.from_some 23 rfl rfl (fun a w hS hK K hC => ?_) ?_
        ·refine Reg.step_on (wanted_on (g := 21) rfl rfl rfl (hK.slot 21 _ _ _ rfl (by kernel_rfl))) ?_
         have e11 := hK.off 11 _ rfl rfl
         clear hK
         go_simp
         exact hC _ hS
        refine Reg.from_some 24 rfl rfl (fun a w hS hK K hC => ?_) ?_
        ·refine Reg.step_on (wanted_on (g := 21) rfl rfl rfl (hK.slot 21 _ _ _ rfl (by kernel_rfl))) ?_
         have e98 := hK.slot 22 _ _ _ rfl (by kernel_rfl)
         have e99 := hK.slot 23 _ _ _ rfl (by kernel_rfl)
         clear hK
         go_simp
         go_at_call 24; (with_reducible refine (HNXT.out w hS).mono ?_)
         rintro e w' ⟨rfl, hb⟩
         exact hC w' (below_step hS hb)
        refine Reg.from_some 25 rfl rfl (fun a w hS hK K hC => ?_) ?_
        ·refine Reg.step_on (wanted_on (g := 21) rfl rfl rfl (hK.slot 21 _ _ _ rfl (by kernel_rfl))) ?_
         have e100 := hK.slot 24 _ _ _ rfl (by kernel_rfl)
         clear hK
         go_simp
         exact hC _ hS
        refine Reg.from_some 26 rfl rfl (fun a w hS hK K hC => ?_) ?_
        ·refine Reg.step_on (wanted_on (g := 17) rfl rfl rfl (hK.slot 17 _ _ _ rfl (by kernel_rfl))) ?_
         have e97 := hK.slot 21 _ _ _ rfl (by kernel_rfl)
         have e101 := hK.slot 25 _ _ _ rfl (by kernel_rfl)
         clear hK
         go_simp
         exact hC _ hS
        refine Reg.from_some 27 rfl rfl (fun a w hS hK K hC => ?_) ?_
        ·refine Reg.step_on (by rfl) ?_
         have e93 := hK.slot 17 _ _ _ rfl (by kernel_rfl)
         have e102 := hK.slot 26 _ _ _ rfl (by kernel_rfl)
         clear hK
         go_simp
         exact hC _ hS
        exact Reg.from_nil
       case r2okv => rfl
       case r2hlt => rfl
       case r2fin =>
        intro wz hS
        simp only [Reg.putV, List.foldl_cons, List.foldl_nil, Act.put, List.setIfInBounds_toArray, List.set_cons_zero, List.set_cons_succ]
        have HB8 := Aside0.mk (below_step HB7.out hS)
        have hx8 := keep_below HX7.out hS
        have z0 := Joins.cell_of_block hx8 0
        have z2 := Joins.cell_of_block hx8 2
        have z3 := Joins.cell_of_block hx8 3
        have z4 := Joins.cell_of_block hx8 4
        have z5 := Joins.cell_of_block hx8 5
        have n2 := HN2.out
        have n3 := HN3.out
        have n4 := HN4.out
        have n5 := HN5.out
        clear hS hx8
        go_wp2
        go_roundw
        case rel => exact ⟨i + 1, by have := HIL.out; omega, by push_cast; rfl, HB8⟩
        case measure => have := HIL.out; simp [intOf]; omega
      ·have f1 : (x.f0 == 2) = false := by simp [hf]
       clear h4 hf
       refine Reg.det [(0, 76, ?r3v0), (1, 77, ?r3v1), (2, 78, ?r3v2), (3, 79, ?r3v3), (4, 80, ?r3v4), (5, 81, ?r3v5), (6, 82, ?r3v6), (7, 83, ?r3v7), (8, 84, ?r3v8), (9, 85, ?r3v9), (10, 86, ?r3v10), (11, 87, ?r3v11), (12, 88, ?r3v12), (13, 89, ?r3v13), (14, 90, ?r3v14), (15, 91, ?r3v15), (16, 92, ?r3v16), (17, 93, ?r3v17), (18, 94, ?r3v18), (19, 95, ?r3v19), (20, 96, ?r3v20), (21, 97, ?r3v21), (22, 98, undef), (23, 99, undef), (24, 100, undef), (25, 101, undef), (26, 102, ?r3v26), (27, 103, ?r3v27)] (fun w' => Below W7.heap.size W7 w') (by rfl) rfl (by kernel_rfl) ?r3S ?r3steps ?r3okv ?r3hlt ?r3fin
       case r3S => exact below_drew (Below.refl _ _)
       case r3steps =>
        refine Reg.from_some 0 rfl rfl (fun a w hS hK K hC => ?_) ?_
        ·refine Reg.step_on (by rfl) ?_
         have e12 := hK.off 12 _ rfl rfl
         clear hK
         go_simp
         exact hC _ hS
        refine Reg.from_some 1 rfl rfl (fun a w hS hK K hC => ?_) ?_
        ·refine Reg.step_on (by rfl) ?_
         have e76 := hK.slot 0 _ _ _ rfl (by kernel_rfl)
         have hx := keep_below HX7.out hS
         have z0 := Joins.cell_of_block hx 0
         have z2 := Joins.cell_of_block hx 2
         have z3 := Joins.cell_of_block hx 3
         have hy := keep_below HG7.out hS
         have y0 := Joins.cell_of_block hy 0
         have y1 := Joins.cell_of_block hy 1
         have y2 := Joins.cell_of_block hy 2
         have y3 := Joins.cell_of_block hy 3
         clear hx hy
         clear hK
         go_simp
         exact hC _ hS
        refine Reg.from_some 2 rfl rfl (fun a w hS hK K hC => ?_) ?_
        ·refine Reg.step_on (by rfl) ?_
         have e77 := hK.slot 1 _ _ _ rfl (by kernel_rfl)
         clear hK
         go_simp
         exact hC _ hS
        refine Reg.from_some 3 rfl rfl (fun a w hS hK K hC => ?_) ?_
        ·refine Reg.step_on (by rfl) ?_
         have e78 := hK.slot 2 _ _ _ rfl (by kernel_rfl)
         clear hK
         go_simp
         exact hC _ hS
        refine Reg.from_some 4 rfl rfl (fun a w hS hK K hC => ?_) ?_
        ·refine Reg.step_on (wanted_on (g := 3) rfl rfl rfl (hK.slot 3 _ _ _ rfl (by kernel_rfl))) ?_
         have e12 := hK.off 12 _ rfl rfl
         clear hK
         go_simp
         exact hC _ hS
        refine Reg.from_some 5 rfl rfl (fun a w hS hK K hC => ?_) ?_
        ·refine Reg.step_on (wanted_on (g := 3) rfl rfl rfl (hK.slot 3 _ _ _ rfl (by kernel_rfl))) ?_
         have e80 := hK.slot 4 _ _ _ rfl (by kernel_rfl)
         have hx := keep_below HX7.out hS
         have z0 := Joins.cell_of_block hx 0
         have z2 := Joins.cell_of_block hx 2
         have z3 := Joins.cell_of_block hx 3
         have hy := keep_below HG7.out hS
         have y0 := Joins.cell_of_block hy 0
         have y1 := Joins.cell_of_block hy 1
         have y2 := Joins.cell_of_block hy 2
         have y3 := Joins.cell_of_block hy 3
         clear hx hy
         clear hK
         go_simp
         exact hC _ hS
        refine Reg.from_some 6 rfl rfl (fun a w hS hK K hC => ?_) ?_
        ·refine Reg.step_on (wanted_on (g := 3) rfl rfl rfl (hK.slot 3 _ _ _ rfl (by kernel_rfl))) ?_
         have e81 := hK.slot 5 _ _ _ rfl (by kernel_rfl)
         clear hK
         go_simp
         exact hC _ hS
        refine Reg.from_some 7 rfl rfl (fun a w hS hK K hC => ?_) ?_
        ·refine Reg.step_on (by rfl) ?_
         have e79 := hK.slot 3 _ _ _ rfl (by kernel_rfl)
         have e82 := hK.slot 6 _ _ _ rfl (by kernel_rfl)
         clear hK
         go_simp
         exact hC _ hS
        refine Reg.from_some 8 rfl rfl (fun a w hS hK K hC => ?_) ?_
        ·refine Reg.step_on (by rfl) ?_
         have e83 := hK.slot 7 _ _ _ rfl (by kernel_rfl)
         clear hK
         go_simp
         exact hC _ hS
        refine Reg.from_some 9 rfl rfl (fun a w hS hK K hC => ?_) ?_
        ·refine Reg.step_on (wanted_on (g := 8) rfl rfl rfl (hK.slot 8 _ _ _ rfl (by kernel_rfl))) ?_
         have e12 := hK.off 12 _ rfl rfl
         clear hK
         go_simp
         exact hC _ hS
        refine Reg.from_some 10 rfl rfl (fun a w hS hK K hC => ?_) ?_
        ·refine Reg.step_on (wanted_on (g := 8) rfl rfl rfl (hK.slot 8 _ _ _ rfl (by kernel_rfl))) ?_
         have e85 := hK.slot 9 _ _ _ rfl (by kernel_rfl)
         have hx := keep_below HX7.out hS
         have z0 := Joins.cell_of_block hx 0
         have z2 := Joins.cell_of_block hx 2
         have z3 := Joins.cell_of_block hx 3
         have hy := keep_below HG7.out hS
         have y0 := Joins.cell_of_block hy 0
         have y1 := Joins.cell_of_block hy 1
         have y2 := Joins.cell_of_block hy 2
         have y3 := Joins.cell_of_block hy 3
         clear hx hy
         clear hK
         go_simp
         exact hC _ hS
        refine Reg.from_some 11 rfl rfl (fun a w hS hK K hC => ?_) ?_
        ·refine Reg.step_on (wanted_on (g := 8) rfl rfl rfl (hK.slot 8 _ _ _ rfl (by kernel_rfl))) ?_
         have e86 := hK.slot 10 _ _ _ rfl (by kernel_rfl)
         clear hK
         go_simp
         exact hC _ hS
        refine Reg.from_some 12 rfl rfl (fun a w hS hK K hC => ?_) ?_
        ·refine Reg.step_on (wanted_on (g := 8) rfl rfl rfl (hK.slot 8 _ _ _ rfl (by kernel_rfl))) ?_
         have e5 := hK.off 5 _ rfl rfl
         clear hK
         go_simp
         exact hC _ hS
        refine Reg.from_some 13 rfl rfl (fun a w hS hK K hC => ?_) ?_
        ·refine Reg.step_on (wanted_on (g := 8) rfl rfl rfl (hK.slot 8 _ _ _ rfl (by kernel_rfl))) ?_
         have e11 := hK.off 11 _ rfl rfl
         clear hK
         go_simp
         exact hC _ hS
        refine Reg.from_some 14 rfl rfl (fun a w hS hK K hC => ?_) ?_
        ·refine Reg.step_on (wanted_on (g := 8) rfl rfl rfl (hK.slot 8 _ _ _ rfl (by kernel_rfl))) ?_
         have e88 := hK.slot 12 _ _ _ rfl (by kernel_rfl)
         have e89 := hK.slot 13 _ _ _ rfl (by kernel_rfl)
         clear hK
         go_simp
         go_at_call 23; (with_reducible refine (HBAD.out w hS).mono ?_)
         rintro e w' ⟨rfl, hb⟩
         exact hC w' (below_step hS hb)
        refine Reg.from_some 15 rfl rfl (fun a w hS hK K hC => ?_) ?_
        ·refine Reg.step_on (wanted_on (g := 8) rfl rfl rfl (hK.slot 8 _ _ _ rfl (by kernel_rfl))) ?_
         have e87 := hK.slot 11 _ _ _ rfl (by kernel_rfl)
         have e90 := hK.slot 14 _ _ _ rfl (by kernel_rfl)
         clear hK
         go_simp
         exact hC _ hS
        refine Reg.from_some 16 rfl rfl (fun a w hS hK K hC => ?_) ?_
        ·refine Reg.step_on (by rfl) ?_
         have e84 := hK.slot 8 _ _ _ rfl (by kernel_rfl)
         have e91 := hK.slot 15 _ _ _ rfl (by kernel_rfl)
         clear hK
         go_simp
         exact hC _ hS
        refine Reg.from_some 17 rfl rfl (fun a w hS hK K hC => ?_) ?_
        ·refine Reg.step_on (by rfl) ?_
         have e92 := hK.slot 16 _ _ _ rfl (by kernel_rfl)
         clear hK
         go_simp
         exact hC _ hS
        refine Reg.from_some 18 rfl rfl (fun a w hS hK K hC => ?_) ?_
        ·refine Reg.step_on (wanted_on (g := 17) rfl rfl rfl (hK.slot 17 _ _ _ rfl (by kernel_rfl))) ?_
         have e12 := hK.off 12 _ rfl rfl
         clear hK
         go_simp
         exact hC _ hS
        refine Reg.from_some 19 rfl rfl (fun a w hS hK K hC => ?_) ?_
        ·refine Reg.step_on (wanted_on (g := 17) rfl rfl rfl (hK.slot 17 _ _ _ rfl (by kernel_rfl))) ?_
         have e94 := hK.slot 18 _ _ _ rfl (by kernel_rfl)
         have hx := keep_below HX7.out hS
         have z0 := Joins.cell_of_block hx 0
         have z2 := Joins.cell_of_block hx 2
         have z3 := Joins.cell_of_block hx 3
         have hy := keep_below HG7.out hS
         have y0 := Joins.cell_of_block hy 0
         have y1 := Joins.cell_of_block hy 1
         have y2 := Joins.cell_of_block hy 2
         have y3 := Joins.cell_of_block hy 3
         clear hx hy
         clear hK
         go_simp
         exact hC _ hS
        refine Reg.from_some 20 rfl rfl (fun a w hS hK K hC => ?_) ?_
        ·refine Reg.step_on (wanted_on (g := 17) rfl rfl rfl (hK.slot 17 _ _ _ rfl (by kernel_rfl))) ?_
         have e95 := hK.slot 19 _ _ _ rfl (by kernel_rfl)
         clear hK
         go_simp
         exact hC _ hS
        refine Reg.from_some 21 rfl rfl (fun a w hS hK K hC => ?_) ?_
        ·refine Reg.step_on (wanted_on (g := 17) rfl rfl rfl (hK.slot 17 _ _ _ rfl (by kernel_rfl))) ?_
         have e96 := hK.slot 20 _ _ _ rfl (by kernel_rfl)
         clear hK
         go_simp
         exact hC _ hS
        refine Reg.from_some 22 rfl rfl (fun a w hS hK K hC => ?_) ?_
        ·refine Reg.step_off (wanted_off (g := 21) rfl rfl rfl (hK.slot 21 _ _ _ rfl (by kernel_rfl))) ?_
         exact hC _ hS
        refine Reg.from_some 23 rfl rfl (fun a w hS hK K hC => ?_) ?_
        ·refine Reg.step_off (wanted_off (g := 21) rfl rfl rfl (hK.slot 21 _ _ _ rfl (by kernel_rfl))) ?_
         exact hC _ hS
        refine Reg.from_some 24 rfl rfl (fun a w hS hK K hC => ?_) ?_
        ·refine Reg.step_off (wanted_off (g := 21) rfl rfl rfl (hK.slot 21 _ _ _ rfl (by kernel_rfl))) ?_
         exact hC _ hS
        refine Reg.from_some 25 rfl rfl (fun a w hS hK K hC => ?_) ?_
        ·refine Reg.step_off (wanted_off (g := 21) rfl rfl rfl (hK.slot 21 _ _ _ rfl (by kernel_rfl))) ?_
         exact hC _ hS
        refine Reg.from_some 26 rfl rfl (fun a w hS hK K hC => ?_) ?_
        ·refine Reg.step_on (wanted_on (g := 17) rfl rfl rfl (hK.slot 17 _ _ _ rfl (by kernel_rfl))) ?_
         have e97 := hK.slot 21 _ _ _ rfl (by kernel_rfl)
         have e101 := hK.slot 25 _ _ _ rfl (by kernel_rfl)
         clear hK
         go_simp
         exact hC _ hS
        refine Reg.from_some 27 rfl rfl (fun a w hS hK K hC => ?_) ?_
        ·refine Reg.step_on (by rfl) ?_
         have e93 := hK.slot 17 _ _ _ rfl (by kernel_rfl)
         have e102 := hK.slot 26 _ _ _ rfl (by kernel_rfl)
         clear hK
         go_simp
         exact hC _ hS
        exact Reg.from_nil
       case r3okv => rfl
       case r3hlt => rfl
       case r3fin =>
        intro wz hS
        simp only [Reg.putV, List.foldl_cons, List.foldl_nil, Act.put, List.setIfInBounds_toArray, List.set_cons_zero, List.set_cons_succ]
        have HB8 := Aside0.mk (below_step HB7.out hS)
        have hx8 := keep_below HX7.out hS
        have z0 := Joins.cell_of_block hx8 0
        have z2 := Joins.cell_of_block hx8 2
        have z3 := Joins.cell_of_block hx8 3
        have z4 := Joins.cell_of_block hx8 4
        have z5 := Joins.cell_of_block hx8 5
        have n2 := HN2.out
        have n3 := HN3.out
        have n4 := HN4.out
        have n5 := HN5.out
        clear hS hx8
        go_wp2
        go_roundw
        case rel => exact ⟨i + 1, by have := HIL.out; omega, by push_cast; rfl, HB8⟩
        case measure => have := HIL.out; simp [intOf]; omega
    ·obtain hiB : i = g.B := by omega
     subst hiB
     have d0 : decide ((g.B : Int) < (g.B : Int)) = false := decide_eq_false (by omega)
     go_wp2
     go_ret
     exact ⟨rfl, below_step HCS.out.below HBr.out⟩
end Go.Proofs.YtdlimghdimkadaaDoor.PAll
namespace Go.Proofs.YtdlimghdimkadaaDoor.PAll
open Go Go.RowKit Go.Shelf Go.Proofs.YtdlimghdimkadaaDoorW.PrintWords Go.Proofs.YtdlimghdimkadaaDoorW.PrintLast Go.Proofs.YtdlimghdimkadaaDoorW.PrintMore Go.Proofs.YtdlimghdimkadaaDoor.Plain Go.Proofs.YtdlimghdimkadaaDoor.Opens
set_option linter.unusedSimpArgs false
set_option linter.unusedVariables false
theorem wf8_le {n : Int} (h : (Lit.int .u8 n).wf = true) : 0 ≤ n ∧ n < 256 := by
 unfold Lit.wf at h
 rw [Bool.and_eq_true, decide_eq_true_eq, decide_eq_true_eq] at h
 have h1 : (0 : Int) ≤ n := h.1
 have h2 : n ≤ 255 := h.2
 omega
theorem oI : Opens Tryd.prog 3 (Kd.int .i64) (fun _ => True) := Opens.imp (Opens.int Tryd.underlying3) (fun _ _ => trivial)
theorem oY : Opens Tryd.prog 5 kB (fun n => (Lit.int .u8 n).wf = true) := Opens.int Tryd.underlying5
theorem oYs : Opens Tryd.prog 39 (Kd.slice 5 kB) Bytes :=
 Opens.imp (Opens.slice Tryd.underlying39 (by kernel_rfl) oY) (fun _ h x hx => wf8_le (h.2 x hx))
structure GI where
 f0 : Int
 f1 : Int
 f2 : Int
 f3 : Int
def kGI : Kd GI := Kd.iso (Kd.pair (Kd.int .i64) (Kd.pair (Kd.int .i64) (Kd.pair (Kd.int .i64) (Kd.int .i64)))) (fun x : GI => (x.f0, x.f1, x.f2, x.f3))
set_option maxRecDepth 100000 in
theorem oG : Opens Tryd.prog 37 kGI (fun _ => True) :=
 Opens.imp (Opens.iso (fun x : GI => (x.f0, x.f1, x.f2, x.f3)) (fun p => ⟨p.1, p.2.1, p.2.2.1, p.2.2.2⟩) (fun _ => rfl)
  (Opens.struct Tryd.underlying37 (by kernel_rfl) (OpensF.cons (by kernel_rfl) rfl oI (OpensF.cons (by kernel_rfl) rfl oI (OpensF.cons (by kernel_rfl) rfl oI (OpensF.one (by kernel_rfl) oI)))))) (fun _ _ => trivial)
set_option maxRecDepth 100000 in
theorem oF : Opens Tryd.prog 71 kF (fun _ => True) :=
 Opens.imp (Opens.iso (fun x : F3 => (x.f0, x.f1, x.f2)) (fun p => ⟨p.1, p.2.1, p.2.2⟩) (fun _ => rfl)
  (Opens.struct Tryd.underlying71 (by kernel_rfl) (OpensF.cons (by kernel_rfl) rfl oI (OpensF.cons (by kernel_rfl) rfl oI (OpensF.one (by kernel_rfl) oI))))) (fun _ _ => trivial)
theorem oFs : Opens Tryd.prog 56 (Kd.slice 71 kF) (fun _ => True) :=
 Opens.imp (Opens.slice Tryd.underlying56 (by kernel_rfl) oF) (fun _ _ => trivial)
set_option maxRecDepth 100000 in
theorem oOp : Opens Tryd.prog 58 kOp (fun o => Bytes o.d) :=
 Opens.imp (Opens.iso (fun x : SOp => (x.k, x.b, x.p, x.d, x.pl)) (fun p => ⟨p.1, p.2.1, p.2.2.1, p.2.2.2.1, p.2.2.2.2⟩) (fun _ => rfl)
  (Opens.struct Tryd.underlying58 (by kernel_rfl) (OpensF.cons (by kernel_rfl) rfl oI (OpensF.cons (by kernel_rfl) rfl oI (OpensF.cons (by kernel_rfl) rfl oI (OpensF.cons (by kernel_rfl) rfl oYs (OpensF.one (by kernel_rfl) oFs))))))) (fun _ h => h.2.2.2.1)
theorem oOps : Opens Tryd.prog 51 (Kd.slice 58 kOp) (fun l => ∀ o ∈ l, Bytes o.d) :=
 Opens.imp (Opens.slice Tryd.underlying51 (by kernel_rfl) oOp) (fun _ h => h.2)
theorem rightG_nat {B P Z R : Int} (h : rightG B P Z R = true) : 16 ≤ B ∧ 8 ≤ P ∧ 64 ≤ Z := by
 unfold rightG at h
 simp only [Bool.and_eq_true, decide_eq_true_eq] at h
 omega
theorem once_law (B P Z R : Int) (A : Option Addr) (c : Nat) (l : List SOp) (W : World) (hr : Kd.C kOp W A l.length l) (hc : l.length ≤ c) (hby : ∀ o ∈ l, Bytes o.d) (aE : Addr) (hgE : gNone W aE) :
  Calls Tryd.prog 5 #[gV B P Z R, .slice A l.length c] W fun e w' => e = .returned (.bool true) ∧ Below W.heap.size W w' := by
 cases hg : rightG B P Z R with
 | false => exact once_bad B P Z R A l.length c W hg aE hgE
 | true =>
  obtain ⟨h1, h2, h3⟩ := rightG_nat hg
  obtain ⟨b, rfl⟩ : ∃ b : Nat, B = (b : Int) := ⟨B.toNat, by omega⟩
  obtain ⟨p, rfl⟩ : ∃ p : Nat, P = (p : Int) := ⟨P.toNat, by omega⟩
  obtain ⟨z, rfl⟩ : ∃ z : Nat, Z = (z : Int) := ⟨Z.toNat, by omega⟩
  exact once_ok ⟨b, p, z, R⟩ A c l W hr hc hby hg aE hgE
end Go.Proofs.YtdlimghdimkadaaDoor.PAll

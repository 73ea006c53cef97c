import Derived.Deep.Slices
import Derived.SizedLaws
import Derived.ChangeArms
import Derived.Test.YtdlimghdimkadaaDoorWWords
namespace Go.Proofs.YtdlimghdimkadaaDoor.Opens
open Go Go.Deep Go.Proofs.YtdlimghdimkadaaDoorW.PrintWords
/-- A value of the type t that a row's argument holds is one of the kind d, with G. -/
def Opens {α : Type} (P : Program) (t : TypeId) (d : Kd α) (G : α → Prop) : Prop :=
  ∀ {H : Type} (enc : TypeId × Value → H) (W : World) (held : Bool) (fuel : Nat) (cs : List Value) (x : DataW H) (ps : List MemPlace), DataW.trod enc P W 0 (fun _ => true) held fuel t cs = some (x, ps) → (∀ n ∈ x.weights P t, n ≤ reachBytes) → ∃ a : α, d.K W a cs ∧ G a
theorem Opens.int {P : Program} {t : TypeId} {k : IntKind} (ht : P.underlying t = some (.int k)) : Opens P t (Kd.int k) (fun n => (Lit.int k n).wf = true) := by
  intro H enc W held fuel cs x ps h _
  obtain ⟨n, rfl, _, hw⟩ := DataW.trod_int ht h
  exact ⟨n, rfl, hw⟩
theorem Opens.bool {P : Program} {t : TypeId} (ht : P.underlying t = some .bool) : Opens P t Kd.bool (fun _ => True) := by
  intro H enc W held fuel cs x ps h _
  obtain ⟨b, rfl, _⟩ := DataW.trod_bool ht h
  exact ⟨b, rfl, trivial⟩
theorem Opens.string {P : Program} {t : TypeId} (ht : P.underlying t = some .string) : Opens P t Kd.string (fun s => s.size ≤ reachBytes) := by
  intro H enc W held fuel cs x ps h hw
  obtain ⟨b, rfl, hx, _⟩ := DataW.trod_string ht h
  obtain ⟨rfl, _⟩ := Prod.mk.inj hx
  have h2 := hw b.data.toList.length (by unfold DataW.weights; exact List.mem_singleton.2 rfl)
  exact ⟨b, rfl, by show b.data.size ≤ _; rw [← Array.length_toList]; exact h2⟩
theorem cells_at {W : World} {base n : Nat} {a : Addr} {cs : List Value} (h : W.cells? base a n = some cs) : cs.length = n ∧ ∀ j u, cs[j]? = some u → W.cell? (a.add j) = some u := by
  obtain ⟨_, hl, he⟩ := World.cells?_some h
  refine ⟨hl, fun j u hu => ?_⟩
  have hj : j < n := by
    have := (List.getElem?_eq_some_iff.1 hu).1
    omega
  rw [he j hj]
  exact hu
theorem Opens.slice {α : Type} {P : Program} {t e : TypeId} {d : Kd α} {G : α → Prop} (ht : P.underlying t = some (.slice e)) (hsz : P.cellsOf e = d.sz) (he : Opens P e d G) :
    Opens P t (Kd.slice e d) (fun l => l.length * P.bytesOf e ≤ reachBytes ∧ ∀ a ∈ l, G a) := by
  intro H enc W held fuel cs x ps h hw
  rcases open_slice ht h with ⟨rfl, _⟩ | ⟨a, len, cap, m, n, D, Pl, rfl, _, hl, hm, hmm, hx, hel⟩
  · exact ⟨[], ⟨none, 0, rfl, Nat.le_refl _, Kd.C_nil d W⟩, by simp, by simp⟩
  · obtain rfl : m = cap := by simpa using hmm
    obtain ⟨rfl, _⟩ := Prod.mk.inj hx
    simp only [DataW.weights, ht, List.mem_cons, List.mem_append, List.length_map, List.length_range] at hw
    have hall : ∀ i, i < len → ∃ b : α, ∃ c : List Value, (d.K W b c ∧ ∀ j u, c[j]? = some u → W.cell? ((a.add (i * d.sz)).add j) = some u) ∧ G b := by
      intro i hi
      obtain ⟨cs', hc, htr⟩ := hel i (by omega)
      rw [hsz] at hc
      have hwi : ∀ n ∈ (D i).weights P e, n ≤ reachBytes := by
        intro n hn
        refine hw n (.inr (.inl ?_))
        clear hw hx hel
        have : ∀ (l : List Nat), i ∈ l → n ∈ DataW.weightsAll P e (l.map D) := by
          intro l
          induction l with
          | nil => simp
          | cons j l ih =>
            intro hm
            simp only [List.map_cons, DataW.weightsAll, List.mem_append]
            rcases List.mem_cons.1 hm with rfl | hm
            · exact .inl hn
            · exact .inr (ih hm)
        exact this _ (List.mem_range.2 hi)
      obtain ⟨b, hb, hG⟩ := he enc W held n cs' (D i) (Pl i) htr hwi
      exact ⟨b, cs', ⟨hb, (cells_at hc).2⟩, hG⟩
    have hf : ∃ l : List α, l.length = len ∧ ∀ i b, l[i]? = some b → (∃ c : List Value, d.K W b c ∧ ∀ j u, c[j]? = some u → W.cell? ((a.add (i * d.sz)).add j) = some u) ∧ G b := by
      clear hw hx hel hl hmm h
      induction len with
      | zero => exact ⟨[], rfl, by simp⟩
      | succ len ih =>
        obtain ⟨l, h1, h2⟩ := ih (fun i hi => hall i (by omega))
        obtain ⟨b, c, hb, hG⟩ := hall len (by omega)
        refine ⟨l ++ [b], by simp [h1], fun i b' hi => ?_⟩
        rcases Nat.lt_or_ge i l.length with hil | hil
        · rw [List.getElem?_append_left hil] at hi
          exact h2 i b' hi
        · rw [List.getElem?_append_right hil] at hi
          obtain rfl : i = len := by
            have := (List.getElem?_eq_some_iff.1 hi).1
            simp at this
            omega
          rw [h1] at hi
          simp at hi
          subst hi
          exact ⟨⟨c, hb⟩, hG⟩
    obtain ⟨l, hll, hl2⟩ := hf
    subst hll
    have hb : l.length * P.bytesOf e ≤ reachBytes := Nat.le_trans (Nat.mul_le_mul_right _ (by omega)) (hw _ (.inl rfl))
    clear hw hx hall h hmm
    refine ⟨l, ⟨some a, m, rfl, hl, rfl, by unfold maxLen at hm; omega, fun _ => ⟨a, rfl, fun j p hj => ?_⟩⟩, hb, ?_⟩
    · obtain ⟨⟨c, hK, hc⟩, _⟩ := hl2 j p hj
      exact ⟨c, d.K_len hK, hK, fun i u hu => by rw [← Deep.add_add]; exact hc i u hu⟩
    · intro b hb
      obtain ⟨i, hi⟩ := List.getElem?_of_mem hb
      exact (hl2 i b hi).2
/-- Fields in line, from the cell 'off' on. -/
def OpensF {α : Type} (P : Program) (fs : List Field) (off : Nat) (d : Kd α) (G : α → Prop) : Prop :=
  ∀ {H : Type} (enc : TypeId × Value → H) (W : World) (held : Bool) (fuel : Nat) (cs : List Value) (xs : List (DataW H × List MemPlace)),
    (∀ (i : Nat) (f : Field), fs[i]? = some f → DataW.trod enc P W 0 (fun _ => true) held fuel f.type ((cs.drop f.offset).take (P.cellsOf f.type)) = xs[i]?) → xs.length = fs.length →
    (∀ n ∈ DataW.weightsEach P (fs.map (·.type)) (xs.map (·.1)), n ≤ reachBytes) → ∃ a : α, d.K W a ((cs.drop off).take d.sz) ∧ G a
theorem OpensF.one {α : Type} {P : Program} {f : Field} {d : Kd α} {G : α → Prop} (hsz : P.cellsOf f.type = d.sz) (h : Opens P f.type d G) : OpensF P [f] f.offset d G := by
  intro H enc W held fuel cs xs hf hl hw
  match xs, hl with
  | [x], _ =>
    have h0 := hf 0 f rfl
    rw [hsz] at h0
    exact h enc W held fuel _ x.1 x.2 h0 (fun n hn => hw n (by simp [DataW.weightsEach, hn]))
theorem OpensF.cons {α β : Type} {P : Program} {f : Field} {fs : List Field} {off : Nat} {d : Kd α} {d2 : Kd β} {G : α → Prop} {G2 : β → Prop} (hsz : P.cellsOf f.type = d.sz) (hoff : off = f.offset + d.sz) (h : Opens P f.type d G) (h2 : OpensF P fs off d2 G2) :
    OpensF P (f :: fs) f.offset (Kd.pair d d2) (fun x => G x.1 ∧ G2 x.2) := by
  intro H enc W held fuel cs xs hf hl hw
  match xs, hl with
  | x :: xs, hl =>
    have h0 := hf 0 f rfl
    rw [hsz] at h0
    obtain ⟨a, ha, hG⟩ := h enc W held fuel _ x.1 x.2 h0 (fun n hn => hw n (by simp [DataW.weightsEach, hn]))
    obtain ⟨b, hb, hG2⟩ := h2 enc W held fuel cs xs (fun i g hg => by simpa using hf (i + 1) g (by simpa using hg)) (by simpa using hl) (fun n hn => hw n (by simp [DataW.weightsEach, hn]))
    refine ⟨(a, b), ⟨_, _, ?_, ha, hb⟩, hG, hG2⟩
    show (cs.drop f.offset).take (d.sz + d2.sz) = _
    rw [List.take_add, List.drop_drop, hoff]
theorem Opens.struct {α : Type} {P : Program} {t : TypeId} {fs : Array Field} {d : Kd α} {G : α → Prop} (ht : P.underlying t = some (.struct fs)) (hsz : P.cellsOf t = d.sz) (h : OpensF P fs.toList 0 d G) : Opens P t d G := by
  intro H enc W held fuel cs x ps hx hw
  obtain ⟨xs, n, _, he, hl, hlen, hf⟩ := DataW.trod_struct ht hx
  obtain ⟨rfl, _⟩ := Prod.mk.inj he
  obtain ⟨a, ha, hG⟩ := h enc W held n cs xs (fun i f hi => hf i f (by simpa using hi)) (by simpa using hlen) (fun n hn => hw n (by simpa [DataW.weights, ht] using hn))
  refine ⟨a, ?_, hG⟩
  rw [List.drop_zero, List.take_of_length_le (by omega)] at ha
  exact ha
theorem Opens.iso {α β : Type} {P : Program} {t : TypeId} {d : Kd α} {G : α → Prop} (f : β → α) (g : α → β) (hfg : ∀ a, f (g a) = a) (h : Opens P t d G) : Opens P t (Kd.iso d f) (fun b => G (f b)) := by
  intro H enc W held fuel cs x ps hx hw
  obtain ⟨a, ha, hG⟩ := h enc W held fuel cs x ps hx hw
  exact ⟨g a, by show d.K W (f (g a)) cs; rw [hfg]; exact ha, by show G (f (g a)); rw [hfg]; exact hG⟩
theorem Opens.imp {α : Type} {P : Program} {t : TypeId} {d : Kd α} {G G' : α → Prop} (h : Opens P t d G) (hg : ∀ a, G a → G' a) : Opens P t d G' := by
  intro H enc W held fuel cs x ps hx hw
  obtain ⟨a, ha, hG⟩ := h enc W held fuel cs x ps hx hw
  exact ⟨a, ha, hg a hG⟩
/-- A row's j-th argument. -/
theorem Opens.arg {α : Type} {P : Program} {t : TypeId} {d : Kd α} {G : α → Prop} (h : Opens P t d G) {H : Type} {enc : TypeId × Value → H} {W : World} {held : Bool} {v : Value} {x : DataW H} {ps : List MemPlace} {ts : List TypeId} {ds : List (DataW H)} (j : Nat)
    (hsz : (DataW.weightsEach P ts ds).all (· ≤ reachBytes) = true) (ht : ts[j]? = some t) (hd : ds[j]? = some x) (hv : DataW.Trod enc P W 0 (fun _ => true) held t v x ps) : ∃ a : α, d.K W a v.cells.toList ∧ G a := by
  obtain ⟨fuel, hf⟩ := hv
  refine h enc W held fuel _ x ps hf (fun n hn => ?_)
  simpa using List.all_eq_true.1 hsz n (DataW.weights_mem_each ht hd n hn)
theorem string_of {W : World} {x s : ByteArray} (h : Kd.string.K W x (Value.cells (.string s)).toList) : s = x := by
  have h2 : [Value.string s] = [Value.string x] := h
  simpa using h2
theorem int_of {W : World} {k : IntKind} {x n : Int} (h : (Kd.int k).K W x (Value.cells (.int k n)).toList) : n = x := by
  have h2 : [Value.int k n] = [Value.int k x] := h
  simpa using h2
end Go.Proofs.YtdlimghdimkadaaDoor.Opens

/- A chip in memory: its block, its row of blocks, each block's row of pages, the pages' bytes. -/
import Derived.Test.YtdlimghdimkadaaDoorBase
namespace Go.Proofs.YtdlimghdimkadaaDoor.PAll
open Go.RowKit Go.Proofs.YtdlimghdimkadaaDoorW.PrintWords Go.Proofs.YtdlimghdimkadaaDoorW.PrintLast Go.Proofs.YtdlimghdimkadaaDoorW.PrintMore
set_option linter.unusedSimpArgs false
set_option linter.unusedVariables false
/-- A fault. -/
structure F3 where
  f0 : Int
  f1 : Int
  f2 : Int
def zF : F3 := ⟨(0 : Int), (0 : Int), (0 : Int)⟩
def kF : Kd F3 := Kd.iso (Kd.pair (Kd.int .i64) (Kd.pair (Kd.int .i64) (Kd.int .i64))) (fun x : F3 => (x.f0, x.f1, x.f2))
theorem kF_open {w : World} {x : F3} {cs : List Value} (h : kF.K w x cs) : cs = [.int .i64 x.f0, .int .i64 x.f1, .int .i64 x.f2] := by
  obtain ⟨_, _, rfl, rfl, ⟨_, _, rfl, rfl, rfl⟩⟩ := h
  exact rfl
theorem kF_mk (w : World) (x : F3) : kF.K w x [.int .i64 x.f0, .int .i64 x.f1, .int .i64 x.f2] := ⟨[.int .i64 x.f0], [.int .i64 x.f1, .int .i64 x.f2], rfl, rfl, ⟨[.int .i64 x.f1], [.int .i64 x.f2], rfl, rfl, rfl⟩⟩
def rd_F (xs : List F3) (i : Int) : F3 := xs.getD i.toNat zF
theorem at_F {w : World} {A : Option Addr} {n : Nat} {xs : List F3} (h : Kd.C kF w A n xs) (i : Int) (h0 : 0 ≤ i) (h1 : i < n) : ∃ ad , A = some ad ∧ w.cell? (ad.add (i.toNat * 3)) = some (.int .i64 (rd_F xs i).f0) ∧ w.cell? ⟨(ad.add (i.toNat * 3)).block, (ad.add (i.toNat * 3)).off + 1, none⟩ = some (.int .i64 (rd_F xs i).f1) ∧ w.cell? ⟨(ad.add (i.toNat * 3)).block, (ad.add (i.toNat * 3)).off + 2, none⟩ = some (.int .i64 (rd_F xs i).f2) := by
  obtain ⟨ad, c, e, _, hK, hc0⟩ := Kd.C_get h zF i h0 h1
  have hc : ∀ j u, c[j]? = some u → w.cell? (ad.add (i.toNat * 3 + j)) = some u := hc0
  obtain rfl := kF_open hK
  exact ⟨ad, e, hc 0 _ rfl, by rw [← add_field _ _ 1 (by omega)]; exact hc 1 _ rfl, by rw [← add_field _ _ 2 (by omega)]; exact hc 2 _ rfl⟩
abbrev kB : Kd Int := Kd.int .u8
structure Pg where
  st : Int
  d : Value
structure Bk where
  bad : Bool
  er : Int
  nx : Int
  pg : Nat → Pg
/-- A geometry: blocks, pages, bytes, reserve. -/
structure Geo where
  B : Nat
  P : Nat
  Z : Nat
  R : Int
def GOK (g : Geo) : Prop := (16 ≤ g.B ∧ g.B ≤ 256) ∧ (8 ≤ g.P ∧ g.P ≤ 64) ∧ (64 ≤ g.Z ∧ g.Z ≤ 512)
structure Ch where
  g : Geo
  plan : Value
  pl : List F3
  frm : Int
  off : Bool
  ops : Int
  wrong : Int
  bk : Nat → Bk
def Ch.setBk (m : Ch) (i : Nat) (b : Bk) : Ch := { m with bk := fun x => if x = i then b else m.bk x }
def Bk.setPg (b : Bk) (j : Nat) (p : Pg) : Bk := { b with pg := fun x => if x = j then p else b.pg x }
def cC (gb : Nat) (m : Ch) : Array Value := #[.int .i64 m.g.B, .int .i64 m.g.P, .int .i64 m.g.Z, .int .i64 m.g.R, .slice (some ⟨gb, 0, none⟩) m.g.B m.g.B, m.plan, .int .i64 m.frm, .bool m.off, .int .i64 m.ops, .int .i64 m.wrong]
def bcell (gp : Nat → Nat) (m : Ch) (k : Nat) : Value :=
  if k % 4 = 0 then .bool (m.bk (k / 4)).bad else if k % 4 = 1 then .int .i64 (m.bk (k / 4)).er else if k % 4 = 2 then .slice (some ⟨gp (k / 4), 0, none⟩) m.g.P m.g.P else .int .i64 (m.bk (k / 4)).nx
def cB (gp : Nat → Nat) (m : Ch) : Array Value := Array.ofFn fun k : Fin (m.g.B * 4) => bcell gp m k.val
def pcell (b : Bk) (k : Nat) : Value := if k % 2 = 0 then .int .i64 (b.pg (k / 2)).st else (b.pg (k / 2)).d
def cP (P : Nat) (b : Bk) : Array Value := Array.ofFn fun k : Fin (P * 2) => pcell b k.val
theorem cB_get (gp : Nat → Nat) (m : Ch) (k : Nat) (h : k < m.g.B * 4) : (cB gp m)[k]? = some (bcell gp m k) := by
  unfold cB
  rw [Array.getElem?_ofFn, dif_pos h]
theorem cP_get (P : Nat) (b : Bk) (k : Nat) (h : k < P * 2) : (cP P b)[k]? = some (pcell b k) := by
  unfold cP
  rw [Array.getElem?_ofFn, dif_pos h]
theorem ofFn_set {n : Nat} (f g : Nat → Value) (k : Nat) (v : Value) (hk : g k = v) (hne : ∀ x, x ≠ k → g x = f x) : (Array.ofFn fun x : Fin n => f x.val).setIfInBounds k v = Array.ofFn fun x : Fin n => g x.val := by
  apply Array.ext_getElem?
  intro i
  rw [Array.getElem?_setIfInBounds, Array.getElem?_ofFn, Array.getElem?_ofFn]
  by_cases hi : i < n
  · by_cases hik : k = i
    · subst hik
      rw [if_pos rfl, if_pos (by simpa using hi), dif_pos hi, hk]
    · rw [if_neg hik, dif_pos hi, dif_pos hi, hne i (fun h => hik h.symm)]
  · by_cases hik : k = i
    · subst hik
      rw [if_pos rfl, if_neg (by simpa using hi), dif_neg hi]
    · rw [if_neg hik, dif_neg hi, dif_neg hi]
/-- The chip stands in W: w0 is the world ahead of it all. -/
structure St (w0 W : World) (gc gb : Nat) (gp : Nat → Nat) (m : Ch) (D : Nat → Nat → List Int) : Prop where
  c : W.heap[gc]? = some (.cells (cC gb m) 74 (0, 0))
  b : W.heap[gb]? = some (.cells (cB gp m) 79 (0, 0))
  p : ∀ i, i < m.g.B → W.heap[gp i]? = some (.cells (cP m.g.P (m.bk i)) 88 (0, 0))
  inj : ∀ i j, i < m.g.B → j < m.g.B → gp i = gp j → i = j
  ec : w0.heap.size ≤ gc
  eb : w0.heap.size ≤ gb
  ep : ∀ i, i < m.g.B → w0.heap.size ≤ gp i
  d : ∀ i j, i < m.g.B → j < m.g.P → Kd.R kB 5 W w0.heap.size (fun _ => True) ((m.bk i).pg j).d (D i j)
  pln : Kd.R kF 71 W w0.heap.size (fun _ => True) m.plan m.pl
  below : Below w0.heap.size w0 W
  gok : GOK m.g
section
variable {w0 W W' : World} {gc gb : Nat} {gp : Nat → Nat} {m m' : Ch} {D D' : Nat → Nat → List Int}
theorem St.grow (h : St w0 W gc gb gp m D) (hb : Below W.heap.size W W') : St w0 W' gc gb gp m D :=
  ⟨keep_below h.c hb, keep_below h.b hb, fun i hi => keep_below (h.p i hi) hb, h.inj, h.ec, h.eb, h.ep, fun i j hi hj => Kd.R_below (h.d i j hi hj) hb, Kd.R_below h.pln hb, below_step h.below hb, h.gok⟩
theorem ne_of_type {W : World} {g g' t t' : Nat} {cs cs' : Array Value} (h : W.heap[g]? = some (.cells cs t (0, 0))) (h' : W.heap[g']? = some (.cells cs' t' (0, 0))) (ht : t ≠ t') : g ≠ g' := fun e => by
  subst e
  rw [h] at h'
  simp only [Option.some.injEq, Obj.cells.injEq] at h'
  exact ht h'.2.1
/-- The chip's own cell k is written. -/
theorem St.setC (h : St w0 W gc gb gp m D) (k : Nat) (v : Value) (hm : (cC gb m).setIfInBounds k v = cC gb m') (hgo : m'.g = m.g) (hb : m'.bk = m.bk) (hpl : Kd.R kF 71 W w0.heap.size (fun _ => True) m'.plan m'.pl) : St w0 (W.setCell ⟨gc, k, none⟩ v) gc gb gp m' D := by
  have hB : cB gp m' = cB gp m := by unfold cB bcell; rw [hb, hgo]
  refine ⟨hm ▸ blk_set h.c k v, ?_, fun i hi => ?_, by rw [hgo]; exact h.inj, h.ec, h.eb, by rw [hgo]; exact h.ep, fun i j hi hj => ?_, Kd.R_set hpl h.c (by decide) _ _, below_set h.below h.ec, by rw [hgo]; exact h.gok⟩
  · rw [hB]; exact blk_far h.b (ne_of_type h.b h.c (by decide)) _
  · rw [hgo] at hi ⊢; rw [hb]; exact blk_far (h.p i hi) (ne_of_type (h.p i hi) h.c (by decide)) _
  · rw [hgo] at hi hj; rw [hb]; exact Kd.R_set (h.d i j hi hj) h.c (by decide) _ _
/-- A cell of the row of blocks is written. -/
theorem St.setB (h : St w0 W gc gb gp m D) (k : Nat) (v : Value) (hm : (cB gp m).setIfInBounds k v = cB gp m') (hgo : m'.g = m.g) (hC : cC gb m' = cC gb m) (hp : ∀ i, i < m.g.B → (m'.bk i).pg = (m.bk i).pg) (hpl : m'.plan = m.plan ∧ m'.pl = m.pl) : St w0 (W.setCell ⟨gb, k, none⟩ v) gc gb gp m' D := by
  have hP : ∀ i, i < m.g.B → cP m.g.P (m'.bk i) = cP m.g.P (m.bk i) := fun i hi => by unfold cP pcell; rw [hp i hi]
  refine ⟨?_, hm ▸ blk_set h.b k v, fun i hi => ?_, by rw [hgo]; exact h.inj, h.ec, h.eb, by rw [hgo]; exact h.ep, fun i j hi hj => ?_, by rw [hpl.1, hpl.2]; exact Kd.R_set h.pln h.b (by decide) _ _, below_set h.below h.eb, by rw [hgo]; exact h.gok⟩
  · rw [hC]; exact blk_far h.c (ne_of_type h.c h.b (by decide)) _
  · rw [hgo] at hi ⊢; rw [hP i hi]; exact blk_far (h.p i hi) (ne_of_type (h.p i hi) h.b (by decide)) _
  · rw [hgo] at hi hj; rw [hp i hi]; exact Kd.R_set (h.d i j hi hj) h.b (by decide) _ _
/-- A cell of block i's pages is written. -/
theorem St.setP (h : St w0 W gc gb gp m D) (i : Nat) (hi : i < m.g.B) (k : Nat) (v : Value) (hm : (cP m.g.P (m.bk i)).setIfInBounds k v = cP m.g.P (m'.bk i)) (hgo : m'.g = m.g) (hC : cC gb m' = cC gb m) (hB : cB gp m' = cB gp m) (ho : ∀ x, x < m.g.B → x ≠ i → m'.bk x = m.bk x)
    (hd : ∀ x j, x < m.g.B → j < m.g.P → Kd.R kB 5 W w0.heap.size (fun _ => True) ((m'.bk x).pg j).d (D' x j)) (hpl : m'.plan = m.plan ∧ m'.pl = m.pl) : St w0 (W.setCell ⟨gp i, k, none⟩ v) gc gb gp m' D' := by
  refine ⟨?_, ?_, fun x hx => ?_, by rw [hgo]; exact h.inj, h.ec, h.eb, by rw [hgo]; exact h.ep, fun x j hx hj => ?_, by rw [hpl.1, hpl.2]; exact Kd.R_set h.pln (h.p i hi) (by decide) _ _, below_set h.below (h.ep i hi), by rw [hgo]; exact h.gok⟩
  · rw [hC]; exact blk_far h.c (ne_of_type h.c (h.p i hi) (by decide)) _
  · rw [hB]; exact blk_far h.b (ne_of_type h.b (h.p i hi) (by decide)) _
  · rw [hgo] at hx ⊢
    by_cases hxi : x = i
    · subst hxi; exact hm ▸ blk_set (h.p x hx) k v
    · rw [ho x hx hxi]; exact blk_far (h.p x hx) (fun e => hxi (h.inj x i hx hi e)) _
  · rw [hgo] at hx hj; exact Kd.R_set (hd x j hx hj) (h.p i hi) (by decide) _ _
end
theorem cB_nx (gp : Nat → Nat) (m : Ch) (i : Nat) (x : Int) : (cB gp m).setIfInBounds (i * 4 + 3) (.int .i64 x) = cB gp (m.setBk i { m.bk i with nx := x }) := by
  refine ofFn_set (bcell gp m) _ _ _ ?_ (fun k hk => ?_)
  · unfold bcell Ch.setBk
    rw [show (i * 4 + 3) % 4 = 3 by omega, show (i * 4 + 3) / 4 = i by omega]
    simp
  · unfold bcell Ch.setBk
    by_cases h : k / 4 = i
    · have h4 : k % 4 = 0 ∨ k % 4 = 1 ∨ k % 4 = 2 := by omega
      rcases h4 with h4|h4|h4 <;> simp [h, h4]
    · simp [h]
theorem cB_er (gp : Nat → Nat) (m : Ch) (i : Nat) (x : Int) : (cB gp m).setIfInBounds (i * 4 + 1) (.int .i64 x) = cB gp (m.setBk i { m.bk i with er := x }) := by
  refine ofFn_set (bcell gp m) _ _ _ ?_ (fun k hk => ?_)
  · unfold bcell Ch.setBk
    rw [show (i * 4 + 1) % 4 = 1 by omega, show (i * 4 + 1) / 4 = i by omega]
    simp
  · unfold bcell Ch.setBk
    by_cases h : k / 4 = i
    · have h4 : k % 4 = 0 ∨ k % 4 = 2 ∨ k % 4 = 3 := by omega
      rcases h4 with h4|h4|h4 <;> simp [h, h4]
    · simp [h]
theorem cB_bad (gp : Nat → Nat) (m : Ch) (i : Nat) (x : Bool) : (cB gp m).setIfInBounds (i * 4) (.bool x) = cB gp (m.setBk i { m.bk i with bad := x }) := by
  refine ofFn_set (bcell gp m) _ _ _ ?_ (fun k hk => ?_)
  · unfold bcell Ch.setBk
    rw [show (i * 4) % 4 = 0 by omega, show (i * 4) / 4 = i by omega]
    simp
  · unfold bcell Ch.setBk
    by_cases h : k / 4 = i
    · have h4 : k % 4 = 1 ∨ k % 4 = 2 ∨ k % 4 = 3 := by omega
      rcases h4 with h4|h4|h4 <;> simp [h, h4]
    · simp [h]
theorem cP_st (P : Nat) (b : Bk) (j : Nat) (x : Int) : (cP P b).setIfInBounds (j * 2) (.int .i64 x) = cP P (b.setPg j { b.pg j with st := x }) := by
  refine ofFn_set (pcell b) _ _ _ ?_ (fun k hk => ?_)
  · unfold pcell Bk.setPg
    rw [show (j * 2) % 2 = 0 by omega, show (j * 2) / 2 = j by omega]
    simp
  · unfold pcell Bk.setPg
    by_cases h : k / 2 = j
    · have h4 : k % 2 = 1 := by omega
      rcases h4 with h4 <;> simp [h, h4]
    · simp [h]
theorem cP_d (P : Nat) (b : Bk) (j : Nat) (v : Value) : (cP P b).setIfInBounds (j * 2 + 1) v = cP P (b.setPg j { b.pg j with d := v }) := by
  refine ofFn_set (pcell b) _ _ _ ?_ (fun k hk => ?_)
  · unfold pcell Bk.setPg
    rw [show (j * 2 + 1) % 2 = 1 by omega, show (j * 2 + 1) / 2 = j by omega]
    simp
  · unfold pcell Bk.setPg
    by_cases h : k / 2 = j
    · have h4 : k % 2 = 0 := by omega
      rcases h4 with h4 <;> simp [h, h4]
    · simp [h]
/-- The cells of the chip, of a block, of a page. -/
theorem St.cellC {w0 W : World} {gc gb : Nat} {gp : Nat → Nat} {m : Ch} {D : Nat → Nat → List Int} (h : St w0 W gc gb gp m D) (k : Nat) : W.cell? ⟨gc, k, none⟩ = (cC gb m)[k]? := blk_cell h.c k
theorem St.cellB {w0 W : World} {gc gb : Nat} {gp : Nat → Nat} {m : Ch} {D : Nat → Nat → List Int} (h : St w0 W gc gb gp m D) (i : Nat) (hi : i < m.g.B) :
    W.cell? ⟨gb, i * 4, none⟩ = some (.bool (m.bk i).bad) ∧ W.cell? ⟨gb, i * 4 + 1, none⟩ = some (.int .i64 (m.bk i).er) ∧ W.cell? ⟨gb, i * 4 + 2, none⟩ = some (.slice (some ⟨gp i, 0, none⟩) m.g.P m.g.P) ∧ W.cell? ⟨gb, i * 4 + 3, none⟩ = some (.int .i64 (m.bk i).nx) := by
  refine ⟨?_, ?_, ?_, ?_⟩ <;> rw [blk_cell h.b, cB_get _ _ _ (by omega)] <;> unfold bcell
  · rw [if_pos (by omega), show i * 4 / 4 = i by omega]
  · rw [if_neg (by omega), if_pos (by omega), show (i * 4 + 1) / 4 = i by omega]
  · rw [if_neg (by omega), if_neg (by omega), if_pos (by omega), show (i * 4 + 2) / 4 = i by omega]
  · rw [if_neg (by omega), if_neg (by omega), if_neg (by omega), show (i * 4 + 3) / 4 = i by omega]
theorem St.cellP {w0 W : World} {gc gb : Nat} {gp : Nat → Nat} {m : Ch} {D : Nat → Nat → List Int} (h : St w0 W gc gb gp m D) (i : Nat) (hi : i < m.g.B) (j : Nat) (hj : j < m.g.P) :
    W.cell? ⟨gp i, j * 2, none⟩ = some (.int .i64 ((m.bk i).pg j).st) ∧ W.cell? ⟨gp i, j * 2 + 1, none⟩ = some ((m.bk i).pg j).d := by
  refine ⟨?_, ?_⟩ <;> rw [blk_cell (h.p i hi), cP_get _ _ _ (by omega)] <;> unfold pcell
  · rw [if_pos (by omega), show j * 2 / 2 = j by omega]
  · rw [if_neg (by omega), show (j * 2 + 1) / 2 = j by omega]
end Go.Proofs.YtdlimghdimkadaaDoor.PAll

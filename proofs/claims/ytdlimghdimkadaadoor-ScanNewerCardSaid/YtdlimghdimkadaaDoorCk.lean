/- The chip, abstract: what it holds, and what each call makes of it. -/
import Derived.Test.YtdlimghdimkadaaDoorCj
namespace Go.Proofs.YtdlimghdimkadaaDoor.PAll
open Go.RowKit Go.Proofs.YtdlimghdimkadaaDoorW.PrintWords Go.Proofs.YtdlimghdimkadaaDoorW.PrintLast Go.Proofs.YtdlimghdimkadaaDoorW.PrintMore
set_option linter.unusedSimpArgs false
set_option linter.unusedVariables false
structure APg where
  st : Int
  d : List Int
structure ABk where
  bad : Bool
  er : Int
  nx : Int
  pg : Nat → APg
structure AC where
  g : Geo
  pl : List F3
  frm : Int
  off : Bool
  ops : Int
  wrong : Int
  bk : Nat → ABk
def absB (b : Bk) (d : Nat → List Int) : ABk := ⟨b.bad, b.er, b.nx, fun j => ⟨(b.pg j).st, d j⟩⟩
def absC (m : Ch) (D : Nat → Nat → List Int) : AC := ⟨m.g, m.pl, m.frm, m.off, m.ops, m.wrong, fun i => absB (m.bk i) (D i)⟩
def AC.setBk (a : AC) (i : Nat) (b : ABk) : AC := { a with bk := fun x => if x = i then b else a.bk x }
def ABk.setPg (b : ABk) (j : Nat) (p : APg) : ABk := { b with pg := fun x => if x = j then p else b.pg x }
def ABk.clr (b : ABk) (st : Int) (P : Nat) : ABk := { b with pg := fun x => if x < P then ⟨st, []⟩ else b.pg x }
/-- A chip stands in W at gc. -/
def Chip (w0 W : World) (gc : Nat) (a : AC) : Prop := ∃ (gb : Nat) (gp : Nat → Nat) (m : Ch) (D : Nat → Nat → List Int), St w0 W gc gb gp m D ∧ absC m D = a ∧ ∀ i j, (D i j).length ≤ m.g.Z
theorem Chip.grow {w0 W W' : World} {gc : Nat} {a : AC} (h : Chip w0 W gc a) (hb : Below W.heap.size W W') : Chip w0 W' gc a := by
  obtain ⟨gb, gp, m, D, hs, ha, hl⟩ := h
  exact ⟨gb, gp, m, D, hs.grow hb, ha, hl⟩
theorem Chip.gok {w0 W : World} {gc : Nat} {a : AC} (h : Chip w0 W gc a) : GOK a.g := by
  obtain ⟨gb, gp, m, D, hs, ha, hl⟩ := h
  subst ha
  exact hs.gok
theorem Chip.lower {w0 w1 W : World} {gc : Nat} {a : AC} (h : Chip w1 W gc a) (hb : Below w0.heap.size w0 w1) : Chip w0 W gc a := by
  obtain ⟨gb, gp, m, D, hs, ha, hl⟩ := h
  exact ⟨gb, gp, m, D, hs.lower hb, ha, hl⟩
theorem Chip.below {w0 W : World} {gc : Nat} {a : AC} (h : Chip w0 W gc a) : Below w0.heap.size w0 W := by
  obtain ⟨gb, gp, m, D, hs, ha, hl⟩ := h
  exact hs.below
theorem Chip.dlen {w0 W : World} {gc : Nat} {a : AC} (h : Chip w0 W gc a) (i j : Nat) : ((a.bk i).pg j).d.length ≤ a.g.Z := by
  obtain ⟨gb, gp, m, D, hs, ha, hl⟩ := h
  subst ha
  exact hl i j
def AC.put (a : AC) (n p : Nat) (st : Int) (d : List Int) : AC := a.setBk n { ((a.bk n).setPg p ⟨st, d⟩) with nx := wrap64 ((p : Int) + 1) }
def AC.hit (a : AC) : Option F3 := hitOf a.pl (wrap64 (wrap64 (a.ops + 1) - a.frm))
def AC.tick (a : AC) : AC := { a with ops := wrap64 (a.ops + 1) }
def AC.cut (a : AC) : AC := { a with off := true }
def AC.err (a : AC) : AC := { a with wrong := wrap64 (a.wrong + 1) }
def progA (a : AC) (n p : Int) (l : List Int) : Int × AC :=
  if a.off = true then (6, a) else if n < 0 ∨ a.g.B ≤ n then (22, a) else if p < 0 ∨ a.g.P ≤ p ∨ a.g.Z < l.length then (22, a)
  else if (a.bk n.toNat).bad = true ∨ (a.bk n.toNat).nx ≠ p then (1, a.err)
  else match a.hit with
    | none => (0, a.tick.put n.toNat p.toNat 1 l)
    | some f => if f.f1 = 2 then (5, a.tick.put n.toNat p.toNat 2 [])
      else if f.f2 = 0 then (6, a.tick.cut) else if f.f2 = 1 then (6, a.tick.cut.put n.toNat p.toNat 2 []) else (6, a.tick.cut.put n.toNat p.toNat 1 l)
def AC.erased (a : AC) (n : Nat) (st nx : Int) : AC := a.setBk n { ({ a.bk n with er := wrap64 ((a.bk n).er + 1) } : ABk).clr st a.g.P with nx := nx }
def eraseA (a : AC) (n : Int) : Int × AC :=
  if a.off = true then (6, a) else if n < 0 ∨ a.g.B ≤ n then (22, a) else if (a.bk n.toNat).bad = true then (1, a.err)
  else match a.hit with
    | none => (0, a.tick.erased n.toNat 0 0)
    | some f => if f.f1 = 2 then (5, a.tick.erased n.toNat 2 a.g.P)
      else if f.f2 = 1 then (6, a.tick.cut.erased n.toNat 2 a.g.P) else if f.f2 = 2 then (6, a.tick.cut.erased n.toNat 0 0)
      else (6, a.tick.cut.setBk n.toNat { a.bk n.toNat with er := wrap64 ((a.bk n.toNat).er + 1) })
def markA (a : AC) (n : Int) : Int × AC :=
  if a.off = true then (6, a) else if n < 0 ∨ a.g.B ≤ n then (22, a) else (0, a.setBk n.toNat { a.bk n.toNat with bad := true })
def readA (a : AC) (n p : Int) : List Int × Int :=
  if a.off = true then ([], 6) else if n < 0 ∨ a.g.B ≤ n then ([], 22) else if p < 0 ∨ a.g.P ≤ p then ([], 22)
  else if ((a.bk n.toNat).pg p.toNat).st = 2 then ([], 5)
  else if ((a.bk n.toNat).pg p.toNat).st = 1 then (((a.bk n.toNat).pg p.toNat).d ++ List.replicate (a.g.Z - ((a.bk n.toNat).pg p.toNat).d.length) 255, 0)
  else (List.replicate a.g.Z 255, 0)
def newA (g : Geo) (l : List F3) : AC := ⟨g, l, 0, false, 0, 0, fun _ => ⟨false, 0, 0, fun _ => ⟨0, []⟩⟩⟩
def armA (a : AC) (l : List F3) : Int × AC := if planOK l = true then (0, { a with pl := l, frm := a.ops }) else (22, a)
def nextA (a : AC) (n : Int) : Int := if n < 0 ∨ a.g.B ≤ n then 0 else (a.bk n.toNat).nx
def erasesA (a : AC) (n : Int) : Int := if n < 0 ∨ a.g.B ≤ n then 0 else (a.bk n.toNat).er
def badA (a : AC) (n : Int) : Bool := if n < 0 ∨ a.g.B ≤ n then false else (a.bk n.toNat).bad
theorem absC_put (m : Ch) (D : Nat → Nat → List Int) (n p : Nat) (st : Int) (v : Value) (d : List Int) : absC (m.setBk n { ((m.bk n).setPg p ⟨st, v⟩) with nx := wrap64 ((p : Int) + 1) }) (updD D n p d) = (absC m D).put n p st d := by
  unfold absC AC.put Ch.setBk AC.setBk ABk.setPg Bk.setPg absB updD
  congr 1
  funext i
  by_cases hi : i = n
  · subst hi
    simp only [if_true, true_and]
    congr 1
    funext j
    by_cases hj : j = p <;> simp [hj]
  · simp [hi]
theorem absC_er (m : Ch) (D : Nat → Nat → List Int) (n : Nat) : absC (m.setBk n { m.bk n with er := wrap64 ((m.bk n).er + 1) }) D = (absC m D).setBk n { (absC m D).bk n with er := wrap64 (((absC m D).bk n).er + 1) } := by
  unfold absC Ch.setBk AC.setBk absB
  congr 1
  funext i
  by_cases hi : i = n
  · subst hi; simp
  · simp [hi]
theorem absC_clr (m : Ch) (D : Nat → Nat → List Int) (n : Nat) (st nx : Int) : absC (m.setBk n { clr st m.g.P { m.bk n with er := wrap64 ((m.bk n).er + 1) } with nx := nx }) (clrD D n m.g.P) = (absC m D).erased n st nx := by
  unfold absC AC.erased Ch.setBk AC.setBk ABk.clr clr absB clrD
  congr 1
  funext i
  by_cases hi : i = n
  · subst hi
    simp only [if_true, true_and]
    congr 1
    funext j
    by_cases hj : j < m.g.P <;> simp [hj]
  · simp [hi]
theorem absC_bad (m : Ch) (D : Nat → Nat → List Int) (n : Nat) : absC (m.setBk n { m.bk n with bad := true }) D = (absC m D).setBk n { (absC m D).bk n with bad := true } := by
  unfold absC Ch.setBk AC.setBk absB
  congr 1
  funext i
  by_cases hi : i = n
  · subst hi; simp
  · simp [hi]
theorem updD_len {D : Nat → Nat → List Int} {Z : Nat} (h : ∀ i j, (D i j).length ≤ Z) (n p : Nat) (d : List Int) (hd : d.length ≤ Z) (i j : Nat) : (updD D n p d i j).length ≤ Z := by
  unfold updD
  by_cases hh : i = n ∧ j = p
  · rw [if_pos hh]; exact hd
  · rw [if_neg hh]; exact h i j
theorem clrD_len {D : Nat → Nat → List Int} {Z : Nat} (h : ∀ i j, (D i j).length ≤ Z) (n k : Nat) (i j : Nat) : (clrD D n k i j).length ≤ Z := by
  unfold clrD
  by_cases hh : i = n ∧ j < k
  · rw [if_pos hh]; exact Nat.zero_le _
  · rw [if_neg hh]; exact h i j
section
variable {w0 W : World} {gc : Nat} {a : AC}
theorem Chip.next (h : Chip w0 W gc a) (n : Int) : Calls Tryd.prog 24 #[cp gc, .int .i64 n] W fun e w' => e = .returned (.int .i64 (nextA a n)) ∧ Below W.heap.size W w' := by
  obtain ⟨gb, gp, m, D, hs, rfl, hl⟩ := h
  by_cases hn : n < 0 ∨ m.g.B ≤ n
  · rw [show nextA (absC m D) n = 0 from if_pos hn]
    exact next_no hs n hn
  · rw [show nextA (absC m D) n = (m.bk n.toNat).nx from if_neg hn]
    have h2 := next_yes hs n.toNat (by omega)
    rw [show ((n.toNat : Nat) : Int) = n by omega] at h2
    exact h2
theorem Chip.bad (h : Chip w0 W gc a) (n : Int) : Calls Tryd.prog 23 #[cp gc, .int .i64 n] W fun e w' => e = .returned (.bool (badA a n)) ∧ Below W.heap.size W w' := by
  obtain ⟨gb, gp, m, D, hs, rfl, hl⟩ := h
  by_cases hn : n < 0 ∨ m.g.B ≤ n
  · rw [show badA (absC m D) n = false from if_pos hn]
    exact bad_no hs n hn
  · rw [show badA (absC m D) n = (m.bk n.toNat).bad from if_neg hn]
    have h2 := bad_yes hs n.toNat (by omega)
    rw [show ((n.toNat : Nat) : Int) = n by omega] at h2
    exact h2
theorem Chip.on (h : Chip w0 W gc a) : Calls Tryd.prog 36 #[cp gc] W fun e w' => e = .returned (.bool !a.off) ∧ Below W.heap.size W w' := by
  obtain ⟨gb, gp, m, D, hs, rfl, hl⟩ := h
  exact on_is hs
theorem Chip.geometry (h : Chip w0 W gc a) : Calls Tryd.prog 37 #[cp gc] W fun e w' => e = .returned (gV a.g.B a.g.P a.g.Z a.g.R) ∧ Below W.heap.size W w' := by
  obtain ⟨gb, gp, m, D, hs, rfl, hl⟩ := h
  exact geometry_is hs
theorem Chip.power (h : Chip w0 W gc a) : Calls Tryd.prog 22 #[cp gc] W fun e w' => e = .returned (.tuple #[]) ∧ Chip w0 w' gc { a with off := false } ∧ Keeps W w' := by
  obtain ⟨gb, gp, m, D, hs, rfl, hl⟩ := h
  refine (power_is hs).mono ?_
  rintro e w' ⟨rfl, h2, hk⟩
  exact ⟨rfl, ⟨gb, gp, _, D, h2, rfl, hl⟩, hk⟩
theorem Chip.mark (h : Chip w0 W gc a) (n : Int) : Calls Tryd.prog 44 #[cp gc, .int .i64 n] W fun e w' => e = .returned (.int .i64 (markA a n).1) ∧ Chip w0 w' gc (markA a n).2 ∧ Keeps W w' := by
  have h0 := h
  obtain ⟨gb, gp, m, D, hs, rfl, hl⟩ := h
  by_cases ho : m.off = true
  · rw [show markA (absC m D) n = (6, absC m D) from if_pos ho]
    refine (mark_err (k := 6) (by decide) n (ready_off hs ho n)).mono ?_
    rintro e w' ⟨rfl, hb⟩
    exact ⟨rfl, h0.grow hb, Keeps.of_below hb⟩
  · have hof : m.off = false := by simpa using ho
    by_cases hn : n < 0 ∨ m.g.B ≤ n
    · rw [show markA (absC m D) n = (22, absC m D) from (if_neg ho).trans (if_pos hn)]
      refine (mark_err (k := 22) (by decide) n (ready_no hs hof n hn)).mono ?_
      rintro e w' ⟨rfl, hb⟩
      exact ⟨rfl, h0.grow hb, Keeps.of_below hb⟩
    · rw [show markA (absC m D) n = (0, (absC m D).setBk n.toNat { (absC m D).bk n.toNat with bad := true }) from (if_neg ho).trans (if_neg hn)]
      have h2 := mark_ok hs hof n.toNat (by omega)
      rw [show ((n.toNat : Nat) : Int) = n by omega] at h2
      refine h2.mono ?_
      rintro e w' ⟨rfl, h3, hk⟩
      exact ⟨rfl, ⟨gb, gp, _, D, h3, absC_bad m D n.toNat, hl⟩, hk⟩
theorem Chip.read (h : Chip w0 W gc a) (n p : Int) : Calls Tryd.prog 26 #[cp gc, .int .i64 n, .int .i64 p] W fun e w' => ∃ v : Value, e = .returned (.tuple #[v, .int .i64 (readA a n p).2]) ∧ Kd.R kB 5 w' W.heap.size (fun _ => True) v (readA a n p).1 ∧ Below W.heap.size W w' := by
  obtain ⟨gb, gp, m, D, hs, rfl, hl⟩ := h
  by_cases ho : m.off = true
  · rw [show readA (absC m D) n p = ([], 6) from if_pos ho]
    refine (read_err (k := 6) (by decide) n p (ready_off hs ho n)).mono ?_
    rintro e w' ⟨rfl, hb⟩
    exact ⟨_, rfl, Kd.R_nil _ _ _ _ _, hb⟩
  have hof : m.off = false := by simpa using ho
  by_cases hn : n < 0 ∨ m.g.B ≤ n
  · rw [show readA (absC m D) n p = ([], 22) from (if_neg ho).trans (if_pos hn)]
    refine (read_err (k := 22) (by decide) n p (ready_no hs hof n hn)).mono ?_
    rintro e w' ⟨rfl, hb⟩
    exact ⟨_, rfl, Kd.R_nil _ _ _ _ _, hb⟩
  obtain ⟨i, rfl⟩ : ∃ i : Nat, n = i := ⟨n.toNat, by omega⟩
  by_cases hp : p < 0 ∨ m.g.P ≤ p
  · rw [show readA (absC m D) i p = ([], 22) from (if_neg ho).trans ((if_neg hn).trans (if_pos hp))]
    refine (read_range hs hof i (by omega) p hp).mono ?_
    rintro e w' ⟨rfl, hb⟩
    exact ⟨_, rfl, Kd.R_nil _ _ _ _ _, hb⟩
  obtain ⟨j, rfl⟩ : ∃ j : Nat, p = j := ⟨p.toNat, by omega⟩
  have e0 : readA (absC m D) i j = if ((m.bk i).pg j).st = 2 then ([], 5) else if ((m.bk i).pg j).st = 1 then (D i j ++ List.replicate (m.g.Z - (D i j).length) 255, 0) else (List.replicate m.g.Z 255, 0) := (if_neg ho).trans ((if_neg hn).trans (if_neg hp))
  rw [e0]
  by_cases h2 : ((m.bk i).pg j).st = 2
  · rw [if_pos h2]
    refine (read_torn hs hof i j (by omega) (by omega) h2).mono ?_
    rintro e w' ⟨rfl, hb⟩
    exact ⟨_, rfl, Kd.R_nil _ _ _ _ _, hb⟩
  rw [if_neg h2]
  by_cases h1 : ((m.bk i).pg j).st = 1
  · rw [if_pos h1]
    exact read_data hs hof i j (by omega) (by omega) h1 (hl i j)
  · rw [if_neg h1]
    exact read_blank hs hof i j (by omega) (by omega) h2 h1
theorem Chip.program (h : Chip w0 W gc a) (n p : Int) (A : Option Addr) (c : Nat) (l : List Int) (hr : ∀ w', Below w0.heap.size w0 w' → Keeps W w' → Kd.C kB w' A l.length l) (hc : l.length ≤ c) : Calls Tryd.prog 18 #[cp gc, .int .i64 n, .int .i64 p, .slice A l.length c] W fun e w' => e = .returned (.int .i64 (progA a n p l).1) ∧ Chip w0 w' gc (progA a n p l).2 ∧ Keeps W w' := by
  have h0 := h
  obtain ⟨gb, gp, m, D, hs, rfl, hl⟩ := h
  by_cases ho : m.off = true
  · rw [show progA (absC m D) n p l = (6, absC m D) from if_pos ho]
    refine (program_err (k := 6) (by decide) n p _ (ready_off hs ho n)).mono ?_
    rintro e w' ⟨rfl, hb⟩
    exact ⟨rfl, h0.grow hb, Keeps.of_below hb⟩
  have hof : m.off = false := by simpa using ho
  by_cases hn : n < 0 ∨ m.g.B ≤ n
  · rw [show progA (absC m D) n p l = (22, absC m D) from (if_neg ho).trans (if_pos hn)]
    refine (program_err (k := 22) (by decide) n p _ (ready_no hs hof n hn)).mono ?_
    rintro e w' ⟨rfl, hb⟩
    exact ⟨rfl, h0.grow hb, Keeps.of_below hb⟩
  obtain ⟨i, rfl⟩ : ∃ i : Nat, n = i := ⟨n.toNat, by omega⟩
  by_cases hp : p < 0 ∨ m.g.P ≤ p ∨ m.g.Z < l.length
  · rw [show progA (absC m D) i p l = (22, absC m D) from (if_neg ho).trans ((if_neg hn).trans (if_pos hp))]
    refine (program_range hs hof i (by omega) p A l.length c hp).mono ?_
    rintro e w' ⟨rfl, hb⟩
    exact ⟨rfl, h0.grow hb, Keeps.of_below hb⟩
  obtain ⟨j, rfl⟩ : ∃ j : Nat, p = j := ⟨p.toNat, by omega⟩
  have hlz : l.length ≤ m.g.Z := by omega
  by_cases hb : (m.bk i).bad = true ∨ (m.bk i).nx ≠ j
  · rw [show progA (absC m D) i j l = (1, (absC m D).err) from (if_neg ho).trans ((if_neg hn).trans ((if_neg hp).trans (if_pos hb)))]
    refine (program_perm hs hof i j (by omega) (by omega) hb A l.length c hlz).mono ?_
    rintro e w' ⟨rfl, h2, hk⟩
    exact ⟨rfl, ⟨gb, gp, _, D, h2, rfl, hl⟩, hk⟩
  have hbd : (m.bk i).bad = false := by
    cases hh : (m.bk i).bad with
    | false => rfl
    | true => exact absurd (.inl hh) hb
  have hnx : (m.bk i).nx = j := Decidable.not_not.1 (fun hh => hb (.inr hh))
  have e0 : progA (absC m D) i j l = match hitOf m.pl (tgt m) with
    | none => (0, (absC m D).tick.put i j 1 l)
    | some f => if f.f1 = 2 then (5, (absC m D).tick.put i j 2 [])
      else if f.f2 = 0 then (6, (absC m D).tick.cut) else if f.f2 = 1 then (6, (absC m D).tick.cut.put i j 2 []) else (6, (absC m D).tick.cut.put i j 1 l) := (if_neg ho).trans ((if_neg hn).trans ((if_neg hp).trans (if_neg hb)))
  rw [e0]
  cases hh : hitOf m.pl (tgt m) with
  | none =>
    refine (program_ok hs hof hh i j (by omega) (by omega) hbd hnx A c l hr hc hlz).mono ?_
    rintro e w' ⟨rfl, ⟨v, h2⟩, hk⟩
    exact ⟨rfl, ⟨gb, gp, _, _, h2, absC_put { m with ops := wrap64 (m.ops + 1) } D i j 1 v l, updD_len hl i j l hlz⟩, hk⟩
  | some f =>
    simp only
    by_cases h1 : f.f1 = 2
    · rw [if_pos h1]
      refine (program_fail hs hof f hh h1 i j (by omega) (by omega) hbd hnx A c l hr hc hlz).mono ?_
      rintro e w' ⟨rfl, h2, hk⟩
      exact ⟨rfl, ⟨gb, gp, _, _, h2, absC_put { m with ops := wrap64 (m.ops + 1) } D i j 2 _ [], updD_len hl i j [] (Nat.zero_le _)⟩, hk⟩
    rw [if_neg h1]
    by_cases h2 : f.f2 = 0
    · rw [if_pos h2]
      refine (program_cut0 hs hof f hh h1 h2 i j (by omega) (by omega) hbd hnx A c l hr hc hlz).mono ?_
      rintro e w' ⟨rfl, h2, hk⟩
      exact ⟨rfl, ⟨gb, gp, _, _, h2, rfl, hl⟩, hk⟩
    rw [if_neg h2]
    by_cases h3 : f.f2 = 1
    · rw [if_pos h3]
      refine (program_cut1 hs hof f hh h1 h3 i j (by omega) (by omega) hbd hnx A c l hr hc hlz).mono ?_
      rintro e w' ⟨rfl, h2, hk⟩
      exact ⟨rfl, ⟨gb, gp, _, _, h2, absC_put { m with ops := wrap64 (m.ops + 1), off := true } D i j 2 _ [], updD_len hl i j [] (Nat.zero_le _)⟩, hk⟩
    rw [if_neg h3]
    refine (program_cut2 hs hof f hh h1 h2 h3 i j (by omega) (by omega) hbd hnx A c l hr hc hlz).mono ?_
    rintro e w' ⟨rfl, ⟨v, h2⟩, hk⟩
    exact ⟨rfl, ⟨gb, gp, _, _, h2, absC_put { m with ops := wrap64 (m.ops + 1), off := true } D i j 1 v l, updD_len hl i j l hlz⟩, hk⟩
theorem Chip.erase (h : Chip w0 W gc a) (n : Int) : Calls Tryd.prog 42 #[cp gc, .int .i64 n] W fun e w' => e = .returned (.int .i64 (eraseA a n).1) ∧ Chip w0 w' gc (eraseA a n).2 ∧ Keeps W w' := by
  have h0 := h
  obtain ⟨gb, gp, m, D, hs, rfl, hl⟩ := h
  by_cases ho : m.off = true
  · rw [show eraseA (absC m D) n = (6, absC m D) from if_pos ho]
    refine (erase_err (k := 6) (by decide) n (ready_off hs ho n)).mono ?_
    rintro e w' ⟨rfl, hb⟩
    exact ⟨rfl, h0.grow hb, Keeps.of_below hb⟩
  have hof : m.off = false := by simpa using ho
  by_cases hn : n < 0 ∨ m.g.B ≤ n
  · rw [show eraseA (absC m D) n = (22, absC m D) from (if_neg ho).trans (if_pos hn)]
    refine (erase_err (k := 22) (by decide) n (ready_no hs hof n hn)).mono ?_
    rintro e w' ⟨rfl, hb⟩
    exact ⟨rfl, h0.grow hb, Keeps.of_below hb⟩
  obtain ⟨i, rfl⟩ : ∃ i : Nat, n = i := ⟨n.toNat, by omega⟩
  by_cases hb : (m.bk i).bad = true
  · rw [show eraseA (absC m D) i = (1, (absC m D).err) from (if_neg ho).trans ((if_neg hn).trans (if_pos hb))]
    refine (erase_perm hs hof i (by omega) hb).mono ?_
    rintro e w' ⟨rfl, h2, hk⟩
    exact ⟨rfl, ⟨gb, gp, _, D, h2, rfl, hl⟩, hk⟩
  have hbd : (m.bk i).bad = false := by simpa using hb
  have e0 : eraseA (absC m D) i = match hitOf m.pl (tgt m) with
    | none => (0, (absC m D).tick.erased i 0 0)
    | some f => if f.f1 = 2 then (5, (absC m D).tick.erased i 2 m.g.P)
      else if f.f2 = 1 then (6, (absC m D).tick.cut.erased i 2 m.g.P) else if f.f2 = 2 then (6, (absC m D).tick.cut.erased i 0 0)
      else (6, (absC m D).tick.cut.setBk i { (absC m D).bk i with er := wrap64 (((absC m D).bk i).er + 1) }) := (if_neg ho).trans ((if_neg hn).trans (if_neg hb))
  rw [e0]
  cases hh : hitOf m.pl (tgt m) with
  | none =>
    refine (erase_ok hs hof hh i (by omega) hbd).mono ?_
    rintro e w' ⟨rfl, h2, hk⟩
    exact ⟨rfl, ⟨gb, gp, _, _, h2, absC_clr { m with ops := wrap64 (m.ops + 1) } D i 0 0, clrD_len hl i _⟩, hk⟩
  | some f =>
    simp only
    by_cases h1 : f.f1 = 2
    · rw [if_pos h1]
      refine (erase_fail hs hof f hh h1 i (by omega) hbd).mono ?_
      rintro e w' ⟨rfl, h2, hk⟩
      exact ⟨rfl, ⟨gb, gp, _, _, h2, absC_clr { m with ops := wrap64 (m.ops + 1) } D i 2 m.g.P, clrD_len hl i _⟩, hk⟩
    rw [if_neg h1]
    by_cases h2 : f.f2 = 1
    · rw [if_pos h2]
      refine (erase_cut1 hs hof f hh h1 h2 i (by omega) hbd).mono ?_
      rintro e w' ⟨rfl, h2, hk⟩
      exact ⟨rfl, ⟨gb, gp, _, _, h2, absC_clr { m with ops := wrap64 (m.ops + 1), off := true } D i 2 m.g.P, clrD_len hl i _⟩, hk⟩
    rw [if_neg h2]
    by_cases h3 : f.f2 = 2
    · rw [if_pos h3]
      refine (erase_cut2 hs hof f hh h1 h3 i (by omega) hbd).mono ?_
      rintro e w' ⟨rfl, h2, hk⟩
      exact ⟨rfl, ⟨gb, gp, _, _, h2, absC_clr { m with ops := wrap64 (m.ops + 1), off := true } D i 0 0, clrD_len hl i _⟩, hk⟩
    rw [if_neg h3]
    refine (erase_cut0 hs hof f hh h1 h2 h3 i (by omega) hbd).mono ?_
    rintro e w' ⟨rfl, h2, hk⟩
    exact ⟨rfl, ⟨gb, gp, _, _, h2, absC_er { m with ops := wrap64 (m.ops + 1), off := true } D i, hl⟩, hk⟩
theorem Chip.arm (h : Chip w0 W gc a) (A : Option Addr) (c : Nat) (l : List F3) (hr : Kd.C kF W A l.length l) (hc : l.length ≤ c) : Calls Tryd.prog 47 #[cp gc, .slice A l.length c] W fun e w' => e = .returned (.int .i64 (armA a l).1) ∧ Chip w0 w' gc (armA a l).2 ∧ Keeps W w' := by
  have h0 := h
  obtain ⟨gb, gp, m, D, hs, rfl, hl⟩ := h
  by_cases hp : planOK l = true
  · rw [show armA (absC m D) l = (0, { absC m D with pl := l, frm := m.ops }) from if_pos hp]
    refine (arm_ok hs A c l hr hc hp).mono ?_
    rintro e w' ⟨rfl, ⟨v, h2⟩, hk⟩
    exact ⟨rfl, ⟨gb, gp, _, _, h2, rfl, hl⟩, hk⟩
  · rw [show armA (absC m D) l = (22, absC m D) from if_neg hp]
    refine (arm_bad hs A c l hr hc (by simpa using hp)).mono ?_
    rintro e w' ⟨rfl, hb⟩
    exact ⟨rfl, h0.grow hb, Keeps.of_below hb⟩
theorem chip_new (g : Geo) (A : Option Addr) (c : Nat) (l : List F3) (w : World) (hr : Kd.C kF w A l.length l) (hc : l.length ≤ c) (hg : rightG g.B g.P g.Z g.R = true) (hp : planOK l = true) :
    Calls Tryd.prog 14 #[gV g.B g.P g.Z g.R, .slice A l.length c] w fun e w' => ∃ gc : Nat, e = .returned (.tuple #[cp gc, .int .i64 0]) ∧ Chip w w' gc (newA g l) := by
  refine (new_ok g A c l w hr hc hg hp).mono ?_
  rintro e w' ⟨gc, gb, gp, pv, rfl, h⟩
  exact ⟨gc, rfl, gb, gp, _, _, h, rfl, fun i j => Nat.zero_le _⟩
end
end Go.Proofs.YtdlimghdimkadaaDoor.PAll

/- scan.Scan, plain: what it answers. -/
import Derived.Test.YtdlimghdimkadaaDoorLd
namespace Go.Proofs.YtdlimghdimkadaaDoor.PAll
open Go Go.RowKit Go.Proofs.YtdlimghdimkadaaDoorW.PrintWords
set_option linter.unusedSimpArgs false
set_option linter.unusedVariables false
instance : Inhabited Blk := ⟨⟨0, 0, 0, 0, 0, false⟩⟩
/-- Every block by itself. -/
def looksA (a : AC) (n : Nat) : List (Blk × Bool) := (List.range n).map fun (i : Nat) => blockA a (i : Int)
theorem looksA_succ (a : AC) (n : Nat) : looksA a (n + 1) = looksA a n ++ [blockA a (n : Int)] := by simp [looksA, List.range_succ]
theorem looksA_len (a : AC) (n : Nat) : (looksA a n).length = n := by simp [looksA]
theorem looksA_get (a : AC) (n k : Nat) (h : k < n) : (looksA a n)[k]? = some (blockA a (k : Int)) := by
  simp [looksA, List.getElem?_map, List.getElem?_range h]
def stepS (s : Int × Int) (x : Blk × Bool) : Int × Int := if x.2 = true then (wrap64 (s.1 + x.1.f1), wrap64 (s.2 + 1)) else s
def sumsA (l : List (Blk × Bool)) : Int × Int := l.foldl stepS (0, 0)
def evenA (s : Int × Int) (x : Blk × Bool) : Blk := if ¬ x.1.f0 = 1 ∧ x.2 = false ∧ 0 < s.2 then { x.1 with f1 := wrap64 (Int.tdiv s.1 s.2) } else x.1
def spoil (b : Blk) : Blk := ⟨3, b.f1, 0, 0, 0, false⟩
/-- The newest copy of each logical block among those seen. -/
def newS {xs : List Blk} (f : Int → Option Nat) (x : Ent xs) : Int → Option Nat := fun l =>
  if l = x.1.2.f2 then (match f l with | none => some x.1.1 | some k => if (xs.getD k default).f4 < x.1.2.f4 then some x.1.1 else some k) else f l
def newE {xs : List Blk} (ys : List (Ent xs)) : Int → Option Nat := ys.foldl newS (fun _ => none)
def newAt (xs : List Blk) : Nat → Int → Option Nat
  | 0, _ => none
  | m + 1, l => if (xs.getD m default).f0 = 4 ∧ l = (xs.getD m default).f2 then (match newAt xs m l with | none => some m | some k => if (xs.getD k default).f4 < (xs.getD m default).f4 then some m else some k) else newAt xs m l
theorem getD_of {xs : List Blk} {m : Nat} (h : m < xs.length) : xs.getD m default = xs[m] := by
  rw [List.getD_eq_getElem?_getD, List.getElem?_eq_getElem h]
  rfl
theorem newE_fil (xs : List Blk) : ∀ m, m ≤ xs.length → newE (fil xs 4 m) = newAt xs m
  | 0, _ => rfl
  | m + 1, h => by
    have hm : m < xs.length := by omega
    have ih := newE_fil xs m (by omega)
    by_cases hs : xs[m].f0 = 4
    · rw [fil_hit hm hs]
      unfold newE at ih ⊢
      rw [List.foldl_append, ih]
      funext l
      simp only [List.foldl_cons, List.foldl_nil, newS, entAt, newAt, getD_of hm, hs, true_and]
    · rw [fil_miss hm hs, ih]
      funext l
      rw [newAt, getD_of hm, if_neg (fun h => hs h.1)]
theorem fil_mem {xs : List Blk} {st : Int} : ∀ {m : Nat} {x : Ent xs}, x ∈ fil xs st m → x.1.1 < m ∧ x.1.2.f0 = st
  | 0, x, h => by cases h
  | m + 1, x, h => by
    by_cases hm : m < xs.length
    · by_cases hs : xs[m].f0 = st
      · rw [fil_hit hm hs] at h
        rcases List.mem_append.1 h with h | h
        · have := fil_mem h; exact ⟨by omega, this.2⟩
        · obtain rfl : x = entAt xs m hm := by simpa using h
          exact ⟨by simp [entAt], hs⟩
      · rw [fil_miss hm hs] at h
        have := fil_mem h; exact ⟨by omega, this.2⟩
    · rw [fil, dif_neg hm] at h
      have := fil_mem h; exact ⟨by omega, this.2⟩
def curS (nw : Int → Option Nat) {xs : List Blk} (l : List Blk) (x : Ent xs) : List Blk := if (nw x.1.2.f2).getD 0 = x.1.1 then l else l.set x.1.1 (spoil x.1.2)
def curL (nw : Int → Option Nat) {xs : List Blk} (ys : List (Ent xs)) : List Blk := ys.foldl (curS nw) xs
theorem curS_len (nw : Int → Option Nat) {xs : List Blk} (l : List Blk) (x : Ent xs) : (curS nw l x).length = l.length := by
  unfold curS; split
  · rfl
  · simp
theorem curL_len (nw : Int → Option Nat) {xs : List Blk} (ys : List (Ent xs)) : (curL nw ys).length = xs.length := by
  unfold curL
  have key : ∀ (ys : List (Ent xs)) (l : List Blk), (ys.foldl (curS nw) l).length = l.length := by
    intro ys
    induction ys with
    | nil => intro l; rfl
    | cons y r ih => intro l; rw [List.foldl_cons, ih, curS_len]
  exact key ys xs
theorem curL_snoc (nw : Int → Option Nat) {xs : List Blk} (ys : List (Ent xs)) (x : Ent xs) : curL nw (ys ++ [x]) = curS nw (curL nw ys) x := by simp [curL, List.foldl_append]
theorem curL_get (nw : Int → Option Nat) (xs : List Blk) (i : Nat) (hi : i < xs.length) : ∀ m, m ≤ xs.length →
    (curL nw (fil xs 4 m)).length = xs.length ∧ (curL nw (fil xs 4 m))[i]? = some (if i < m ∧ xs[i].f0 = 4 ∧ ¬ (nw xs[i].f2).getD 0 = i then spoil xs[i] else xs[i])
  | 0, _ => ⟨rfl, by
      rw [if_neg (fun h => by omega)]
      exact List.getElem?_eq_getElem hi⟩
  | m + 1, h => by
    obtain ⟨il, ih⟩ := curL_get nw xs i hi m (by omega)
    have hm : m < xs.length := by omega
    by_cases hs : xs[m].f0 = 4
    · rw [fil_hit hm hs, curL_snoc]
      refine ⟨by rw [curS_len, il], ?_⟩
      show (if (nw xs[m].f2).getD 0 = m then curL nw (fil xs 4 m) else (curL nw (fil xs 4 m)).set m (spoil xs[m]))[i]? = _
      by_cases hn : (nw xs[m].f2).getD 0 = m
      · rw [if_pos hn, ih]
        by_cases him : i = m
        · subst him
          rw [if_neg (fun h => by omega), if_neg (fun h => h.2.2 hn)]
        · congr 1
          by_cases h1 : i < m ∧ xs[i].f0 = 4 ∧ ¬ (nw xs[i].f2).getD 0 = i
          · rw [if_pos h1, if_pos ⟨by omega, h1.2⟩]
          · rw [if_neg h1, if_neg (fun h2 => h1 ⟨by omega, h2.2⟩)]
      · rw [if_neg hn]
        by_cases him : i = m
        · subst him
          rw [if_pos ⟨by omega, hs, hn⟩]
          rw [List.getElem?_set_self (by rw [il]; exact hi)]
        · have e : ((curL nw (fil xs 4 m)).set m (spoil xs[m]))[i]? = (curL nw (fil xs 4 m))[i]? := List.getElem?_set_ne (fun e => him e.symm)
          rw [e, ih]
          congr 1
          by_cases h1 : i < m ∧ xs[i].f0 = 4 ∧ ¬ (nw xs[i].f2).getD 0 = i
          · rw [if_pos h1, if_pos ⟨by omega, h1.2⟩]
          · rw [if_neg h1, if_neg (fun h2 => h1 ⟨by omega, h2.2⟩)]
    · rw [fil_miss hm hs]
      refine ⟨il, ?_⟩
      rw [ih]
      congr 1
      by_cases h1 : i < m ∧ xs[i].f0 = 4 ∧ ¬ (nw xs[i].f2).getD 0 = i
      · rw [if_pos h1, if_pos ⟨by omega, h1.2⟩]
      · rw [if_neg h1, if_neg (fun h2 => h1 ⟨by
          by_cases him : i = m
          · subst him; exact absurd h2.2.1 hs
          · omega, h2.2⟩)]
/-- What lies ahead of the loop stands. -/
theorem curL_ahead (nw : Int → Option Nat) (xs : List Blk) (k : Nat) (hk : k < xs.length) : (curL nw (fil xs 4 k))[k]? = some xs[k] := by
  rw [(curL_get nw xs k hk k (by omega)).2, if_neg (fun h => by omega)]
def evenL (l : List (Blk × Bool)) : List Blk := l.map (evenA (sumsA l))
def lastL (xs : List Blk) : List Blk := curL (newAt xs xs.length) (fil xs 4 xs.length)
/-- What Scan answers. -/
def scanA (a : AC) : List Blk := lastL (evenL (looksA a a.g.B))
theorem lastL_len (xs : List Blk) : (lastL xs).length = xs.length := by
  cases h : xs with
  | nil => rfl
  | cons b r => exact (curL_get _ _ 0 (by simp) _ (Nat.le_refl _)).1
theorem lastL_get (xs : List Blk) (i : Nat) (hi : i < xs.length) : (lastL xs)[i]? = some (if xs[i].f0 = 4 ∧ ¬ (newAt xs xs.length xs[i].f2).getD 0 = i then spoil xs[i] else xs[i]) := by
  unfold lastL
  rw [(curL_get _ xs i hi _ (Nat.le_refl _)).2]
  congr 1
  by_cases h1 : xs[i].f0 = 4 ∧ ¬ (newAt xs xs.length xs[i].f2).getD 0 = i
  · rw [if_pos h1, if_pos ⟨hi, h1⟩]
  · rw [if_neg h1, if_neg (fun h => h1 h.2)]
theorem evenL_len (l : List (Blk × Bool)) : (evenL l).length = l.length := by simp [evenL]
theorem scanA_len (a : AC) : (scanA a).length = a.g.B := by unfold scanA; rw [lastL_len, evenL_len, looksA_len]
/-- Find, Least, plain. -/
def findL (leb : Int) : List Blk → Nat → Int
  | [], _ => -1
  | b :: r, k => if b.f0 = 4 ∧ b.f2 = leb then (k : Int) else findL leb r (k + 1)
theorem fil_in {xs : List Blk} {st : Int} {i : Nat} (hi : i < xs.length) (hs : xs[i].f0 = st) : ∀ {k : Nat}, i < k → entAt xs i hi ∈ fil xs st k
  | 0, h => by omega
  | k + 1, h => by
    by_cases hk : k < xs.length
    · by_cases hsk : xs[k].f0 = st
      · rw [fil_hit hk hsk]
        by_cases hik : i = k
        · subst hik; simp
        · exact List.mem_append.2 (.inl (fil_in hi hs (by omega)))
      · rw [fil_miss hk hsk]
        by_cases hik : i = k
        · subst hik; exact absurd hs hsk
        · exact fil_in hi hs (by omega)
    · rw [fil, dif_neg hk]
      exact fil_in hi hs (by omega)
theorem findL_hit (leb : Int) : ∀ (xs : List Blk) (j k : Nat) (hk : k < xs.length), xs[k].f0 = 4 → xs[k].f2 = leb → (∀ i, (h : i < xs.length) → i < k → ¬ (xs[i].f0 = 4 ∧ xs[i].f2 = leb)) → findL leb xs j = ((j + k : Nat) : Int)
  | [], _, _, hk, _, _, _ => by simp at hk
  | b :: r, j, 0, _, h1, h2, _ => by
    unfold findL
    rw [if_pos ⟨h1, h2⟩]
    rfl
  | b :: r, j, k + 1, hk, h1, h2, h3 => by
    unfold findL
    rw [if_neg (show ¬ (b.f0 = 4 ∧ b.f2 = leb) from h3 0 (by simp) (by omega)), findL_hit leb r (j + 1) k (by simpa using hk) h1 h2 (fun i h hi => h3 (i + 1) (by simpa using h) (by omega))]
    congr 1
    omega
theorem findL_miss (leb : Int) : ∀ (xs : List Blk) (j : Nat), (∀ i, (h : i < xs.length) → ¬ (xs[i].f0 = 4 ∧ xs[i].f2 = leb)) → findL leb xs j = -1
  | [], _, _ => rfl
  | b :: r, j, h => by
    unfold findL
    rw [if_neg (show ¬ (b.f0 = 4 ∧ b.f2 = leb) from h 0 (by simp)), findL_miss leb r (j + 1) (fun i hi => h (i + 1) (by simpa using hi))]
/-- The least worn free block among the first m. -/
def leastE {xs : List Blk} (ys : List (Ent xs)) : Int := ys.foldl (fun b x => if b < 0 ∨ x.1.2.f1 < (xs.getD b.toNat default).f1 then (x.1.1 : Int) else b) (-1)
theorem leastE_snoc {xs : List Blk} (ys : List (Ent xs)) (x : Ent xs) : leastE (ys ++ [x]) = if leastE ys < 0 ∨ x.1.2.f1 < (xs.getD (leastE ys).toNat default).f1 then (x.1.1 : Int) else leastE ys := by simp [leastE, List.foldl_append]
theorem leastE_lt {xs : List Blk} (st : Int) : ∀ m, leastE (fil xs st m) < (xs.length : Int) ∧ -1 ≤ leastE (fil xs st m)
  | 0 => by
    show (-1 : Int) < _ ∧ -1 ≤ (-1 : Int)
    omega
  | m + 1 => by
    have ih := leastE_lt (xs := xs) st m
    by_cases hm : m < xs.length
    · by_cases hs : xs[m].f0 = st
      · rw [fil_hit hm hs, leastE_snoc]
        split
        · show (m : Int) < _ ∧ -1 ≤ (m : Int)
          omega
        · exact ih
      · rw [fil_miss hm hs]; exact ih
    · rw [fil, dif_neg hm]; exact ih
def leastL (xs : List Blk) : Int := leastE (fil xs 2 xs.length)
end Go.Proofs.YtdlimghdimkadaaDoor.PAll

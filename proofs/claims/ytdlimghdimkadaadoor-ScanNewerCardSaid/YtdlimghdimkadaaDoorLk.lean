/- What a list of blocks is asked for: the program's Good, the document's Find, Least, Good, and Own. -/
import Derived.Test.YtdlimghdimkadaaDoorLi
namespace Go.Proofs.YtdlimghdimkadaaDoor.PAll
open Go Go.RowKit Go.Shelf Go.Proofs.YtdlimghdimkadaaDoorW.PrintWords Go.Proofs.YtdlimghdimkadaaDoorW.PrintLast Go.Proofs.YtdlimghdimkadaaDoorW.PrintMore Go.Proofs.YtdlimghdimkadaaDoor.Plain
set_option linter.unusedSimpArgs false
set_option linter.unusedVariables false
abbrev RBlk := S63
def own63 (x : RBlk) : Blk := ⟨x.f0, x.f1, x.f2, x.f3, x.f4, x.f5⟩
theorem wrapN (i : Nat) (h : i < 4611686018427387904) : wrap64 ((i : Int) + 1) = ((i + 1 : Nat) : Int) := by unfold wrap64; push_cast; omega
theorem rdB {xs : List Blk} {i : Nat} (h : i < xs.length) : rd_T49 xs (i : Int) = xs[i] := by
  unfold rd_T49
  rw [Int.toNat_natCast, List.getD_eq_getElem?_getD, List.getElem?_eq_getElem h]
  rfl
theorem rdR {xs : List RBlk} {i : Nat} (h : i < xs.length) : rd_T63 xs (i : Int) = xs[i] := by
  unfold rd_T63
  rw [Int.toNat_natCast, List.getD_eq_getElem?_getD, List.getElem?_eq_getElem h]
  rfl
def goodN : List Blk → Nat
  | [] => 0
  | b :: r => (if b.f0 = 1 then 0 else 1) + goodN r
theorem good_l0 (xs : List Blk) (hl : xs.length < 4611686018427387904) : ∀ (m i a : Nat), i + m = xs.length → a ≤ i → scan_Good.l0 (m + 1) (a : Int) xs (xs.length : Int) (i : Int) = some ((a + goodN (xs.drop i) : Nat) : Int)
  | 0, i, a, h, ha => by
    unfold scan_Good.l0
    rw [if_neg (by omega), List.drop_eq_nil_of_le (by omega)]
    rfl
  | m + 1, i, a, h, ha => by
    have hi : i < xs.length := by omega
    unfold scan_Good.l0
    rw [if_pos (by omega), if_pos (by omega), if_pos (by omega), rdB hi, wrapN i (by omega), wrapN a (by omega), List.drop_eq_getElem_cons hi]
    unfold goodN
    by_cases h1 : xs[i].f0 = 1
    · rw [if_pos h1, if_pos h1, good_l0 xs hl m (i + 1) a (by omega) (by omega), Nat.zero_add]
    · rw [if_neg h1, if_neg h1, good_l0 xs hl m (i + 1) (a + 1) (by omega) (by omega), Nat.add_assoc]
theorem good_is (A : Option Addr) (c : Nat) (xs : List Blk) (w : World) (hr : Kd.C kBlk w A xs.length xs) (hc : xs.length ≤ c) (hl : xs.length < 4611686018427387904) : Calls Tryd.prog 11 #[.slice A xs.length c] w fun e w' => e = .returned (.int .i64 (goodN xs : Int)) ∧ Below w.heap.size w w' := by
  refine scan_Good.calls (xs.length + 1) A c xs _ w hr hc ?_
  have := good_l0 xs hl xs.length 0 0 (by omega) (by omega)
  rw [Nat.zero_add, List.drop_zero] at this
  exact this
theorem rgood_l0 (xs : List RBlk) (hl : xs.length < 4611686018427387904) : ∀ (m i a : Nat), i + m = xs.length → a ≤ i → pumiceref07_Good.l0 (m + 1) xs (a : Int) (i : Int) = some ((a + goodN ((xs.drop i).map own63) : Nat) : Int)
  | 0, i, a, h, ha => by
    unfold pumiceref07_Good.l0
    rw [if_neg (by omega), List.drop_eq_nil_of_le (by omega)]
    rfl
  | m + 1, i, a, h, ha => by
    have hi : i < xs.length := by omega
    unfold pumiceref07_Good.l0
    rw [if_pos (by omega), if_pos (by omega), rdR hi, wrapN i (by omega), wrapN a (by omega), List.drop_eq_getElem_cons hi, List.map_cons]
    unfold goodN
    by_cases h1 : xs[i].f0 = 1
    · rw [if_pos h1, if_pos (show (own63 xs[i]).f0 = 1 from h1), rgood_l0 xs hl m (i + 1) a (by omega) (by omega), Nat.zero_add]
    · rw [if_neg h1, if_neg (show ¬ (own63 xs[i]).f0 = 1 from h1), rgood_l0 xs hl m (i + 1) (a + 1) (by omega) (by omega), Nat.add_assoc]
theorem rgood_is (A : Option Addr) (c : Nat) (xs : List RBlk) (w : World) (hr : Kd.C k63 w A xs.length xs) (hc : xs.length ≤ c) (hl : xs.length < 4611686018427387904) : Calls Tryd.prog 12 #[.slice A xs.length c] w fun e w' => e = .returned (.int .i64 (goodN (xs.map own63) : Int)) ∧ Below w.heap.size w w' := by
  refine (pumiceref07_Good.calls (xs.length + 1) A c xs _ w hr hc ?_).mono fun e w' h => ⟨h.1, h.2.below⟩
  have := rgood_l0 xs hl xs.length 0 0 (by omega) (by omega)
  rw [Nat.zero_add, List.drop_zero] at this
  exact this
theorem rfind_l0 (xs : List RBlk) (leb : Int) (hl : xs.length < 4611686018427387904) : ∀ (m i : Nat), i + m = xs.length → pumiceref07_Find.l0 (m + 1) xs leb (i : Int) = some (findL leb ((xs.drop i).map own63) i)
  | 0, i, h => by
    unfold pumiceref07_Find.l0
    rw [if_neg (by omega), List.drop_eq_nil_of_le (by omega)]
    rfl
  | m + 1, i, h => by
    have hi : i < xs.length := by omega
    unfold pumiceref07_Find.l0
    rw [if_pos (by omega), if_pos (by omega), rdR hi, wrapN i (by omega), List.drop_eq_getElem_cons hi, List.map_cons]
    unfold findL
    by_cases h1 : xs[i].f0 = 4
    · by_cases h2 : xs[i].f2 = leb
      · rw [if_pos h1, if_pos h2, if_pos (show (own63 xs[i]).f0 = 4 ∧ (own63 xs[i]).f2 = leb from ⟨h1, h2⟩)]
      · rw [if_pos h1, if_neg h2, if_neg (show ¬ ((own63 xs[i]).f0 = 4 ∧ (own63 xs[i]).f2 = leb) from fun h => h2 h.2), rfind_l0 xs leb hl m (i + 1) (by omega)]
    · rw [if_neg h1, if_neg (show ¬ ((own63 xs[i]).f0 = 4 ∧ (own63 xs[i]).f2 = leb) from fun h => h1 h.1), rfind_l0 xs leb hl m (i + 1) (by omega)]
theorem rfind_is (A : Option Addr) (c : Nat) (xs : List RBlk) (leb : Int) (w : World) (hr : Kd.C k63 w A xs.length xs) (hc : xs.length ≤ c) (hl : xs.length < 4611686018427387904) : Calls Tryd.prog 8 #[.slice A xs.length c, .int .i64 leb] w fun e w' => e = .returned (.int .i64 (findL leb (xs.map own63) 0)) ∧ Below w.heap.size w w' := by
  refine (pumiceref07_Find.calls (xs.length + 1) A c xs leb _ w hr hc ?_).mono fun e w' h => ⟨h.1, h.2.below⟩
  have := rfind_l0 xs leb hl xs.length 0 (by omega)
  rw [List.drop_zero] at this
  exact this
/-- The least worn free block, by places. -/
def leastS (xs : List Blk) (b : Int) (i : Nat) : Int := if (xs.getD i default).f0 = 2 ∧ (b < 0 ∨ (xs.getD i default).f1 < (xs.getD b.toNat default).f1) then (i : Int) else b
theorem leastE_step (xs : List Blk) (m : Nat) (hm : m < xs.length) : leastE (fil xs 2 (m + 1)) = leastS xs (leastE (fil xs 2 m)) m := by
  unfold leastS
  rw [getD_of hm]
  by_cases hs : xs[m].f0 = 2
  · rw [fil_hit hm hs, leastE_snoc]
    show (if leastE (fil xs 2 m) < 0 ∨ xs[m].f1 < (xs.getD (leastE (fil xs 2 m)).toNat default).f1 then (m : Int) else _) = _
    by_cases h : leastE (fil xs 2 m) < 0 ∨ xs[m].f1 < (xs.getD (leastE (fil xs 2 m)).toNat default).f1
    · rw [if_pos h, if_pos ⟨hs, h⟩]
    · rw [if_neg h, if_neg (fun h2 => h h2.2)]
  · rw [fil_miss hm hs, if_neg (fun h => hs h.1)]
theorem rleast_l0 (xs : List RBlk) (hl : xs.length < 4611686018427387904) : ∀ (m i : Nat), i + m = xs.length → pumiceref07_Least.l0 (m + 1) xs (leastE (fil (xs.map own63) 2 i)) (i : Int) = some (leastL (xs.map own63))
  | 0, i, h => by
    unfold pumiceref07_Least.l0
    rw [if_neg (by omega)]
    have : i = (xs.map own63).length := by simp; omega
    rw [this]
    rfl
  | m + 1, i, h => by
    have hi : i < xs.length := by omega
    have hi2 : i < (xs.map own63).length := by simpa using hi
    have ih := rleast_l0 xs hl m (i + 1) (by omega)
    rw [leastE_step _ _ hi2] at ih
    have hb := leastE_lt (xs := xs.map own63) 2 i
    generalize hbe : leastE (fil (xs.map own63) 2 i) = b at ih hb ⊢
    unfold pumiceref07_Least.l0
    rw [if_pos (by omega), if_pos (by omega), rdR hi, wrapN i (by omega)]
    unfold leastS at ih
    have hx : (xs.map own63).getD i default = own63 xs[i] := by rw [getD_of hi2]; simp
    rw [hx] at ih
    by_cases h1 : xs[i].f0 = 2
    · rw [if_pos h1]
      by_cases h2 : b < 0
      · rw [if_pos h2]
        rw [if_pos ⟨h1, .inl h2⟩] at ih
        exact ih
      · have hbl : b < (xs.length : Int) := by have := hb.1; simpa using this
        obtain ⟨k, rfl⟩ : ∃ k : Nat, b = (k : Int) := ⟨b.toNat, by omega⟩
        have hk : k < xs.length := by omega
        have hk2 : k < (xs.map own63).length := by simpa using hk
        have hy : (xs.map own63).getD ((k : Int)).toNat default = own63 xs[k] := by rw [Int.toNat_natCast, getD_of hk2]; simp
        rw [hy] at ih
        rw [if_neg h2, if_pos (by omega), if_pos hbl, rdR hk]
        by_cases h3 : xs[i].f1 < xs[k].f1
        · rw [if_pos h3]
          rw [if_pos ⟨h1, .inr h3⟩] at ih
          exact ih
        · rw [if_neg h3]
          rw [if_neg (fun h => h.2.elim h2 h3)] at ih
          exact ih
    · rw [if_neg h1]
      rw [if_neg (fun h => h1 h.1)] at ih
      exact ih
theorem rleast_is (A : Option Addr) (c : Nat) (xs : List RBlk) (w : World) (hr : Kd.C k63 w A xs.length xs) (hc : xs.length ≤ c) (hl : xs.length < 4611686018427387904) : Calls Tryd.prog 10 #[.slice A xs.length c] w fun e w' => e = .returned (.int .i64 (leastL (xs.map own63))) ∧ Below w.heap.size w w' := by
  refine (pumiceref07_Least.calls (xs.length + 1) A c xs _ w hr hc ?_).mono fun e w' h => ⟨h.1, h.2.below⟩
  exact rleast_l0 xs hl xs.length 0 (by omega)
theorem own_l0 (xs : List RBlk) (hl : xs.length ≤ 2932031007402) : ∀ (m i : Nat), i + m = xs.length → pumicelaw07_Own.l0 (m + 1) xs ((xs.take i).map own63) (i : Int) = some (xs.map own63)
  | 0, i, h => by
    unfold pumicelaw07_Own.l0
    rw [if_neg (by omega), List.take_of_length_le (by omega)]
  | m + 1, i, h => by
    have hi : i < xs.length := by omega
    unfold pumicelaw07_Own.l0
    rw [if_pos (by omega), if_pos (by omega), if_pos (by simp; omega), rdR hi, wrapN i (by omega)]
    have e : (xs.take i).map own63 ++ [(⟨xs[i].f0, xs[i].f1, xs[i].f2, xs[i].f3, xs[i].f4, xs[i].f5⟩ : Blk)] = (xs.take (i + 1)).map own63 := by
      rw [List.take_add_one, List.getElem?_eq_getElem hi, List.map_append]
      rfl
    rw [e]
    exact own_l0 xs hl m (i + 1) (by omega)
theorem own_is (A : Option Addr) (c : Nat) (xs : List RBlk) (w : World) (hr : Kd.C k63 w A xs.length xs) (hc : xs.length ≤ c) (hl : xs.length ≤ 2932031007402) : Calls Tryd.prog 6 #[.slice A xs.length c] w fun e w' => ∃ v, e = .returned v ∧ Kd.R kBlk 49 w' w.heap.size (fun _ => True) v (xs.map own63) ∧ Below w.heap.size w w' := by
  refine pumicelaw07_Own.calls (xs.length + 1) A c xs _ w hr hc ?_
  exact own_l0 xs hl xs.length 0 (by omega)
theorem find_is (A : Option Addr) (c : Nat) (xs : List Blk) (leb : Int) (w : World) (hr : Kd.C kBlk w A xs.length xs) (hl : xs.length < 4611686018427387904) : Calls Tryd.prog 7 #[.slice A xs.length c, .int .i64 leb] w fun e w' => e = .returned (.int .i64 (findL leb xs 0)) ∧ Below w.heap.size w w' :=
  (callsIn_wide (n := 4)).1 (Find_in Fence.wide 4 trivial trivial trivial rfl (by omega) A c xs leb w hr (by omega))
theorem least_is (A : Option Addr) (c : Nat) (xs : List Blk) (w : World) (hr : Kd.C kBlk w A xs.length xs) (hl : xs.length < 4611686018427387904) : Calls Tryd.prog 9 #[.slice A xs.length c] w fun e w' => e = .returned (.int .i64 (leastL xs)) ∧ Below w.heap.size w w' :=
  (callsIn_wide (n := 4)).1 (Least_in Fence.wide 4 trivial trivial trivial rfl (by omega) A c xs w hr (by omega))
end Go.Proofs.YtdlimghdimkadaaDoor.PAll

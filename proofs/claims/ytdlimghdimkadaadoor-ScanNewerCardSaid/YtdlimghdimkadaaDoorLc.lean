/- scan.blocks: the blocks of a list that are in a state, one behind the other. -/
import Derived.RangeFuncNested
import Derived.RangeFuncBound
import Derived.RangeFuncCalls
import Derived.RangeFuncLeaves
import Derived.Shelf.Abstract
import Derived.Shelf.RegionOpen
import Derived.WalkKit
import Derived.OwnWalkIn
import Derived.TacticsInMore
import Derived.LoopNIn
import Derived.LoopIn
import Derived.Test.YtdlimghdimkadaaDoorLb
namespace Go.Proofs.YtdlimghdimkadaaDoor.PAll
open Go Go.RowKit Go.Shelf Go.Proofs.YtdlimghdimkadaaDoorW.PrintWords
set_option linter.unusedSimpArgs false
set_option linter.unusedVariables false
attribute [local go_sem] Oper.semAt_some
/-- Block k of a list stands in W. -/
def Entry (W : World) (A : Option Addr) (k : Nat) (x : Blk) : Prop := ∃ ad, A = some ad ∧ W.cell? (ad.add (k * 6)) = some (.int .i64 x.f0) ∧ W.cell? ⟨(ad.add (k * 6)).block, (ad.add (k * 6)).off + 1, none⟩ = some (.int .i64 x.f1) ∧ W.cell? ⟨(ad.add (k * 6)).block, (ad.add (k * 6)).off + 2, none⟩ = some (.int .i64 x.f2) ∧ W.cell? ⟨(ad.add (k * 6)).block, (ad.add (k * 6)).off + 3, none⟩ = some (.int .i64 x.f3) ∧ W.cell? ⟨(ad.add (k * 6)).block, (ad.add (k * 6)).off + 4, none⟩ = some (.int .u64 x.f4) ∧ W.cell? ⟨(ad.add (k * 6)).block, (ad.add (k * 6)).off + 5, none⟩ = some (.bool x.f5)
/-- What the iterator hands out: a place and its block. -/
abbrev Ent (xs : List Blk) := { p : Nat × Blk // p.1 < xs.length ∧ xs[p.1]? = some p.2 }
def encE {xs : List Blk} (x : Ent xs) : Array Value := #[.int .i64 (x.1.1 : Int), .agg (bC x.1.2)]
def entAt (xs : List Blk) (k : Nat) (h : k < xs.length) : Ent xs := ⟨(k, xs[k]), h, List.getElem?_eq_getElem h⟩
/-- The blocks in a state among the first k. -/
def fil (xs : List Blk) (st : Int) : Nat → List (Ent xs)
  | 0 => []
  | k + 1 => if h : k < xs.length then (if xs[k].f0 = st then fil xs st k ++ [entAt xs k h] else fil xs st k) else fil xs st k
theorem fil_hit {xs : List Blk} {st : Int} {k : Nat} (h : k < xs.length) (hs : xs[k].f0 = st) : fil xs st (k + 1) = fil xs st k ++ [entAt xs k h] := by
  rw [fil, dif_pos h, if_pos hs]
theorem fil_miss {xs : List Blk} {st : Int} {k : Nat} (h : k < xs.length) (hs : ¬ xs[k].f0 = st) : fil xs st (k + 1) = fil xs st k := by
  rw [fil, dif_pos h, if_neg hs]
theorem fil_len (xs : List Blk) (st : Int) : ∀ k, (fil xs st k).length ≤ k
  | 0 => Nat.le_refl _
  | k + 1 => by
    have h := fil_len xs st k
    rw [fil]
    split
    · split
      · simp; omega
      · omega
    · omega
abbrev kBlk : Kd Blk := k49
theorem entry_of {W : World} {A : Option Addr} {xs : List Blk} (h : Kd.C kBlk W A xs.length xs) (k : Nat) (hk : k < xs.length) : Entry W A k xs[k] := by
  have h2 := at_T49 h (k : Int) (by omega) (by omega)
  have e : rd_T49 xs (k : Int) = xs[k] := by
    unfold rd_T49
    rw [Int.toNat_natCast, List.getD_eq_getElem?_getD, List.getElem?_eq_getElem hk]
    rfl
  rw [e, Int.toNat_natCast] at h2
  exact h2
set_option maxRecDepth 100000 in
set_option maxHeartbeats 4000000 in
theorem blocks1_in (F : Fence) (n : Nat) (h50 : F.fn 50) (hro : F.round = none) (hn : 1 ≤ n) (l Bs Bt : Nat) (st : Int) (A : Option Addr) (c : Nat) (xs : List Blk) (W : World)
    (J Jx : List (Ent xs) → World → Prop) (hJa : ∀ pre W o, J pre W → J pre (W.alloc o))
    (hE : ∀ k W', (h : k < xs.length) → J (fil xs st k) W' → Entry W' A k xs[k])
    (hY : ∀ pre x W1, J pre W1 → pre.length < xs.length → YieldAt F (n - 1) Tryd.prog l (encE x) W1 fun e W' =>
      (e = .returned (.bool true) ∧ J (pre ++ [x]) W') ∨ (e = .returned (.bool false) ∧ Jx (pre ++ [x]) W'))
    (hlen : xs.length ≤ 4611686018427387904)
    (hBs : W.cell? ⟨Bs, 0, none⟩ = some (.slice A xs.length c)) (hBt : ∀ pre W', J pre W' → W'.cell? ⟨Bt, 0, none⟩ = some (.int .i64 st)) (h0 : J [] W) :
    CallsIn F n Tryd.prog 50 #[.func (.yield l) #[] #[], .pointer (some ⟨Bs, 0, none⟩), .pointer (some ⟨Bt, 0, none⟩)] W fun e W' => (∃ v, e = .returned v) ∧
      ((∃ ys, ys = fil xs st xs.length ∧ J ys W') ∨ (∃ pre, (∃ k, ∃ h : k < xs.length, xs[k].f0 = st ∧ pre = fil xs st k ++ [entAt xs k h]) ∧ Jx pre W')) := by
  refine callsIn_of_wp Tryd.func50 rfl h50 ?_ hro
  simp only [Tryd.ntmps50, List.size_toArray, List.length_cons, List.length_nil, Nat.reduceAdd, Nat.reduceSub, Array.replicate_succ, Array.replicate_zero, List.push_toArray, List.append_toArray, List.nil_append, List.cons_append]
  have hu49 := Tryd.underlying49
  gi_wp2
  gi_loopw [8] (fun i wr => ∃ m : Nat, m ≤ xs.length ∧ i = .int .i64 (m : Int) ∧ J (fil xs st m) wr)
    (fun i _ => xs.length - (intOf i).toNat)
  case atStart => exact ⟨0, Nat.zero_le _, rfl, h0⟩
  case round =>
    obtain ⟨m, hm, rfl, hJs⟩ := hrel
    by_cases hlt : m < xs.length
    · have d0 : decide ((m : Int) < (xs.length : Int)) = true := decide_eq_true (by omega)
      have hq : (m < xs.length) = True := eq_true hlt
      have hqi : ((m : Int) < (xs.length : Int)) = True := eq_true (by omega)
      obtain ⟨ad, rfl, c0, c1, c2, c3, c4, c5⟩ := hE m wr hlt hJs
      have zt : ∀ o, (wr.alloc o).cell? ⟨Bt, 0, none⟩ = some (.int .i64 st) := fun o => hBt _ _ (hJa _ _ o hJs)
      by_cases hs : xs[m].f0 = st
      · have HF := Aside0.mk (fil_hit hlt hs)
        have e1 : (xs[m].f0 == st) = true := by simp only [beq_iff_eq]; exact hs
        obtain ⟨W2, hW2⟩ : ∃ W2, wr.alloc (.cells (bC xs[m]) 49) = W2 := ⟨_, rfl⟩
        have hJ2 : J (fil xs st m) W2 := by rw [← hW2]; exact hJa _ _ _ hJs
        obtain ⟨fn, tmps, assign, body, hy, hR⟩ := hY _ (entAt xs m hlt) W2 hJ2 (Nat.lt_of_le_of_lt (fil_len xs st m) hlt)
        dsimp only [encE, entAt] at hy
        rw [← hW2] at hy
        have HS := Aside0.mk hs
        have HW2 := Aside0.mk hW2
        clear hs hW2
        gi_wp2
        rw [HW2.out]
        refine hR.mono ?_
        rintro e W3 (⟨rfl, hJ3⟩ | ⟨rfl, hJx3⟩)
        · gi_wp2
          go_roundw
          case rel => exact ⟨m + 1, by omega, by push_cast; rfl, by rw [HF.out]; exact hJ3⟩
          case measure => simp [intOf]; omega
        · gi_wp2
          refine bodyPost_ret (results_none rfl _ _ _) rfl ?_
          exact ⟨⟨_, rfl⟩, .inr ⟨_, ⟨m, hlt, HS.out, rfl⟩, hJx3⟩⟩
      · have HF := Aside0.mk (fil_miss hlt hs)
        have e1 : (xs[m].f0 == st) = false := by simp only [beq_eq_false_iff_ne]; exact hs
        clear hs
        gi_wp2
        refine ⟨(fun f hf => (nomatch hf)), ?_⟩
        gi_wp2
        go_roundw
        case rel => exact ⟨m + 1, by omega, by push_cast; rfl, by rw [HF.out]; exact hJa _ _ _ hJs⟩
        case measure => simp [intOf]; omega
    · obtain rfl : m = xs.length := by omega
      have d0 : decide ((xs.length : Int) < (xs.length : Int)) = false := decide_eq_false (by omega)
      gi_wp2
      go_end0
      exact ⟨⟨_, rfl⟩, .inl ⟨_, rfl, hJs⟩⟩
set_option maxHeartbeats 1000000 in
theorem blocks_in (F : Fence) (n : Nat) (h27 : F.fn 27) (hro : F.round = none) (a : Option Addr) (len cap : Nat) (st : Int) (w : World) :
    CallsIn F n Tryd.prog 27 #[.slice a len cap, .int .i64 st] w fun e w' => e = .returned (.func (.func 50) #[] #[.pointer (some ⟨w.heap.size, 0, none⟩), .pointer (some ⟨w.heap.size + 1, 0, none⟩)]) ∧ w' = (w.alloc (.cells #[.slice a len cap] 23)).alloc (.cells #[.int .i64 st] 3) := by
  refine callsIn_of_wp Tryd.func27 rfl h27 ?_ hro
  simp only [Tryd.ntmps27, List.size_toArray, List.length_cons, List.length_nil, Nat.reduceAdd, Nat.reduceSub, Array.replicate_succ, Array.replicate_zero, List.push_toArray, List.append_toArray, List.nil_append, List.cons_append]
  gi_wp2
  go_ret
  exact ⟨by simp, rfl⟩
end Go.Proofs.YtdlimghdimkadaaDoor.PAll

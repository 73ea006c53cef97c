import Derived.Test.YtpllpagbdmikpaaHh
import Derived.Test.YtpllpagbdmikpaaRelTail
import Derived.Laws.Cover1
namespace Go.Proofs.Ytpllpagbdmikpaa.PAll
open Go.RowKit Go.Proofs.YtpllpagbdmikpaaW.PrintWords Go.Proofs.YtpllpagbdmikpaaW.PrintLast Go.Proofs.YtpllpagbdmikpaaW.PrintMore
set_option linter.unusedSimpArgs false
set_option linter.unusedVariables false
attribute [local go_sem] max2_int min2_int max_two min_two max_three min_three max_four min_four
/-! ### image.find and sort.Search -/
theorem at69' {w : World} {A : Option Addr} {xs : List S69} (h : Kd.C k69 w A xs.length xs) (i : Nat) (hi : i < xs.length) : ∃ ad, A = some ad ∧ w.cell? (ad.add (i * 4)) = some (.string (xs.getD i z69).f0) := by
  obtain ⟨ad, e, c0, _⟩ := at_T69 h (i : Int) (by omega) (by omega)
  rw [Int.toNat_natCast] at c0
  exact ⟨ad, e, c0⟩
def geB (k : ByteArray) (s : S69) : Bool := !Op.bytesLess s.f0.toList k.toList
set_option maxRecDepth 100000 in
set_option maxHeartbeats 4000000 in
theorem clos_any (g1 g2 : Nat) (A : Option Addr) (c : Nat) (xs : List S69) (k : ByteArray) (i : Nat) (w : World) (h1 : w.heap[g1]? = some (.cells #[.slice A xs.length c] 25 (0, 0))) (h2 : w.heap[g2]? = some (.cells #[.string k] 9 (0, 0))) (hr : Kd.C k69 w A xs.length xs) (hi : i < xs.length) :
    Calls Try.prog 47 #[.int .i64 i, .pointer (some ⟨g1, 0, none⟩), .pointer (some ⟨g2, 0, none⟩)] w fun e w' => e = .returned (.bool (geB k (xs.getD i z69))) ∧ Below w.heap.size w w' := by
  obtain ⟨s, hs⟩ : ∃ s, s = (xs.getD i z69).f0 := ⟨_, rfl⟩
  obtain ⟨ad, rfl, hx⟩ := at69' hr i hi
  rw [← hs] at hx
  have HG := Aside0.mk (show geB k (xs.getD i z69) = !Op.bytesLess s.toList k.toList by rw [hs]; rfl)
  have hq : ((i : Int) < (xs.length : Int)) = True := eq_true (by omega)
  have hq2 : (i < xs.length) = True := eq_true hi
  have H1 := Aside0.mk h1
  have H2 := Aside0.mk h2
  have HX := Aside0.mk hx
  clear hs h1 h2 hx
  go_enter Try.func47, Try.ntmps47
  go_upto_region 1 with (fail)
  refine Reg.det [(0, 5, ?r1v0), (1, 6, ?r1v1), (2, 7, ?r1v2), (3, 8, ?r1v3), (4, 9, ?r1v4), (5, 10, ?r1v5), (6, 11, ?r1v6), (7, 4, ?r1v7)] (fun w' => Below w.heap.size w w') (by rfl) rfl (by kernel_rfl) ?r1S ?r1steps ?r1okv ?r1hlt ?r1fin
  case r1S => exact below_drew (Below.refl _ _)
  case r1steps =>
    refine Reg.from_some 0 rfl rfl (fun a w hS hK K hC => ?_) ?_
    · refine Reg.step_on (by rfl) ?_
      have e1 := hK.off 1 _ rfl rfl
      have z1 := Joins.cell_of_block (keep_below H1.out hS) 0
      have z2 := Joins.cell_of_block (keep_below H2.out hS) 0
      have z3 := cell_below HX.out hS
      clear hK
      go_simp
      exact hC _ hS
    refine Reg.from_some 1 rfl rfl (fun a w hS hK K hC => ?_) ?_
    · refine Reg.step_on (by rfl) ?_
      have e0 := hK.off 0 _ rfl rfl
      clear hK
      go_simp
      exact hC _ hS
    refine Reg.from_some 2 rfl rfl (fun a w hS hK K hC => ?_) ?_
    · refine Reg.step_on (by rfl) ?_
      have e5 := hK.slot 0 _ _ _ rfl (by kernel_rfl)
      have e6 := hK.slot 1 _ _ _ rfl (by kernel_rfl)
      clear hK
      go_simp
      exact hC _ hS
    refine Reg.from_some 3 rfl rfl (fun a w hS hK K hC => ?_) ?_
    · refine Reg.step_on (by rfl) ?_
      have e7 := hK.slot 2 _ _ _ rfl (by kernel_rfl)
      clear hK
      go_simp
      exact hC _ hS
    refine Reg.from_some 4 rfl rfl (fun a w hS hK K hC => ?_) ?_
    · refine Reg.step_on (by rfl) ?_
      have e8 := hK.slot 3 _ _ _ rfl (by kernel_rfl)
      have z1 := Joins.cell_of_block (keep_below H1.out hS) 0
      have z2 := Joins.cell_of_block (keep_below H2.out hS) 0
      have z3 := cell_below HX.out hS
      clear hK
      go_simp
      exact hC _ hS
    refine Reg.from_some 5 rfl rfl (fun a w hS hK K hC => ?_) ?_
    · refine Reg.step_on (by rfl) ?_
      have e2 := hK.off 2 _ rfl rfl
      have z1 := Joins.cell_of_block (keep_below H1.out hS) 0
      have z2 := Joins.cell_of_block (keep_below H2.out hS) 0
      have z3 := cell_below HX.out hS
      clear hK
      go_simp
      exact hC _ hS
    refine Reg.from_some 6 rfl rfl (fun a w hS hK K hC => ?_) ?_
    · refine Reg.step_on (by rfl) ?_
      have e9 := hK.slot 4 _ _ _ rfl (by kernel_rfl)
      have e10 := hK.slot 5 _ _ _ rfl (by kernel_rfl)
      clear hK
      go_simp
      exact hC _ hS
    refine Reg.from_some 7 rfl rfl (fun a w hS hK K hC => ?_) ?_
    · refine Reg.step_on (by rfl) ?_
      have e11 := hK.slot 6 _ _ _ rfl (by kernel_rfl)
      clear hK
      go_simp
      exact hC _ hS
    exact Reg.from_nil
  case r1okv => rfl
  case r1hlt => rfl
  case r1fin =>
    intro wz hS
    simp only [Reg.putV, List.foldl_cons, List.foldl_nil, Act.put, List.setIfInBounds_toArray, List.set_cons_zero, List.set_cons_succ]
    have HB := Aside0.mk hS
    clear hS
    go_wp2
    go_ret
    rw [HG.out]
    exact ⟨rfl, HB.out⟩
set_option maxRecDepth 100000 in
set_option maxHeartbeats 4000000 in
theorem search_any (n : Nat) (p : Nat → Bool) (c1 c2 : Value) (w : World) (hn : n < 4611686018427387904)
    (hf : ∀ W (i : Nat), Below w.heap.size w W → i < n → Calls Try.prog 47 #[.int .i64 i, c1, c2] W fun e w' => e = .returned (.bool (p i)) ∧ Below W.heap.size W w')
    (hmono : ∀ a b, a ≤ b → b < n → p a = true → p b = true) :
    Calls Try.prog 46 #[.int .i64 n, .func (.func 47) #[] #[c1, c2]] w fun e w' => (∃ m : Nat, m ≤ n ∧ e = .returned (.int .i64 m) ∧ (∀ t, t < m → p t = false) ∧ (∀ t, m ≤ t → t < n → p t = true)) ∧ Below w.heap.size w w' := by
  have HF := Aside0.mk hf
  have M := Aside0.mk hmono
  clear hf hmono
  go_enter Try.func46, Try.ntmps46
  go_wp2
  go_loopw [5, 6] (fun s5 s6 wr => ∃ lo hi : Nat, lo ≤ hi ∧ hi ≤ n ∧ s5 = .int .i64 lo ∧ s6 = .int .i64 hi ∧ Aside0 (∀ t, t < lo → p t = false) ∧ Aside0 (∀ t, hi ≤ t → t < n → p t = true) ∧ Aside0 (Below w.heap.size w wr)) (fun s5 s6 _ => (intOf s6).toNat - (intOf s5).toNat)
  case atStart => exact ⟨0, n, Nat.zero_le _, Nat.le_refl _, rfl, rfl, ⟨fun t ht => absurd ht (Nat.not_lt_zero _)⟩, ⟨fun t h1 h2 => absurd h2 (by omega)⟩, ⟨Below.refl _ _⟩⟩
  case round =>
    obtain ⟨lo, hi, hlh, hin, rfl, rfl, I1, I2, HB⟩ := hrel
    by_cases hlt : lo < hi
    · have d0 : decide ((lo : Int) < (hi : Int)) = true := decide_eq_true (by omega)
      have d0' : decide (lo < hi) = true := decide_eq_true hlt
      obtain ⟨md, hmd⟩ : ∃ m, m = (lo + hi) / 2 := ⟨_, rfl⟩
      have hmi : ((md : Nat) : Int) = ((lo : Int) + (hi : Int)) / 2 := by omega
      have hc := HF.out wr md HB.out (by omega)
      rw [hmi] at hc
      have HMI := Aside0.mk hmi
      have HMD := Aside0.mk hmd
      clear hmd hmi
      cases hp : p md with
      | false =>
        rw [hp] at hc
        have HP := Aside0.mk hp
        clear hp
        go_wp2_with (go_at_call 47; with_reducible refine hc.mono ?_; rintro e w' ⟨rfl, hb⟩; have HB2 := Aside0.mk (below_step HB.out hb); clear hb)
        go_roundw
        case rel => exact ⟨md + 1, hi, by have := HMD.out; omega, hin, by have := HMI.out; rw [show ((md + 1 : Nat) : Int) = (md : Int) + 1 from rfl, this], rfl, ⟨fun t ht => by
          cases h : p t with
          | false => rfl
          | true => have := M.out t md (by omega) (by have := HMD.out; omega) h; rw [HP.out] at this; cases this⟩, I2, HB2⟩
        case measure => have := HMI.out; have := HMD.out; simp only [intOf]; omega
      | true =>
        rw [hp] at hc
        have HP := Aside0.mk hp
        clear hp
        go_wp2_with (go_at_call 47; with_reducible refine hc.mono ?_; rintro e w' ⟨rfl, hb⟩; have HB2 := Aside0.mk (below_step HB.out hb); clear hb)
        go_roundw
        case rel => exact ⟨lo, md, by have := HMD.out; omega, by have := HMD.out; omega, rfl, by rw [HMI.out], I1, ⟨fun t ht htn => M.out md t ht htn HP.out⟩, HB2⟩
        case measure => have := HMI.out; have := HMD.out; simp only [intOf]; omega
    · obtain rfl : lo = hi := by omega
      have d0 : decide ((lo : Int) < (lo : Int)) = false := by simp
      go_wp2
      go_ret
      exact ⟨⟨lo, hin, rfl, I1.out, I2.out⟩, HB.out⟩
set_option maxRecDepth 100000 in
set_option maxHeartbeats 4000000 in
theorem find_any (A : Option Addr) (c : Nat) (xs : List S69) (k : ByteArray) (w : World) (hr : Kd.C k69 w A xs.length xs) (hn : xs.length < 4611686018427387904) (hmono : ∀ a b, a ≤ b → b < xs.length → geB k (xs.getD a z69) = true → geB k (xs.getD b z69) = true) :
    Calls Try.prog 43 #[.slice A xs.length c, .string k] w fun e w' => (∃ m : Nat, m ≤ xs.length ∧ e = .returned (.int .i64 m) ∧ (∀ t, t < m → geB k (xs.getD t z69) = false) ∧ (∀ t, m ≤ t → t < xs.length → geB k (xs.getD t z69) = true)) ∧ Below w.heap.size w w' := by
  have HR := Aside0.mk hr
  have HM := Aside0.mk hmono
  clear hr hmono
  go_enter Try.func43, Try.ntmps43
  go_upto_region 1 with (fail)
  generalize hW : (w.alloc (.cells #[.slice A xs.length c] 25)).alloc (.cells #[.string k] 9) = W1
  have hbW : Below w.heap.size w W1 := by rw [← hW]; exact below_alloc (below_alloc (Below.refl _ _) _) _
  have hI : W1.heap[w.heap.size]? = some (.cells #[.slice A xs.length c] 25 (0, 0)) := by rw [← hW]; exact keep_alloc (new_blk _ _ _) _
  have hK : W1.heap[w.heap.size + 1]? = some (.cells #[.string k] 9 (0, 0)) := by rw [← hW]; have h := new_blk (w.alloc (.cells #[.slice A xs.length c] 25)) #[.string k] 9; rw [show (w.alloc (.cells #[.slice A xs.length c] 25)).heap.size = w.heap.size + 1 from Array.size_push _] at h; exact h
  have HBW := Aside0.mk hbW
  have HI := Aside0.mk hI
  have HK := Aside0.mk hK
  have i10 := Joins.cell_of_block hI 0
  clear hW hbW hI hK
  go_wp2_with (first
    | (go_at_call 46; (with_reducible refine (search_any xs.length (fun i => geB k (xs.getD i z69)) (.pointer (some ⟨w.heap.size, 0, none⟩)) (.pointer (some ⟨w.heap.size + 1, 0, none⟩)) _ hn ?f1 HM.out).mono ?_); (case f1 => exact fun W i hW hi => clos_any _ _ A c xs k i W (keep_below HI.out hW) (keep_below HK.out hW) (Kd.C_below HR.out (below_step HBW.out hW)) hi); rintro e w2 ⟨⟨m, hm1, rfl, hm2, hm3⟩, hb2⟩; have HB2 := Aside0.mk (below_step HBW.out hb2); have HM1 := Aside0.mk hm1; have HM2 := Aside0.mk hm2; have HM3 := Aside0.mk hm3; clear hm1 hm2 hm3 hb2))
  go_ret
  exact ⟨⟨m, HM1.out, rfl, HM2.out, HM3.out⟩, HB2.out⟩
end Go.Proofs.Ytpllpagbdmikpaa.PAll

import Derived.Test.YtpllpagbdmikpaaHj
import Derived.Test.YtpllpagbdmikpaaRel
import Derived.Lib.AppendStr
import Derived.Lib.SmallJoins
import Derived.Deep.RegionLaw
import Derived.WalkSpells
import Derived.Outline
namespace Go.Proofs.Ytpllpagbdmikpaa.PAll
open Go.RowKit Go.Proofs.YtpllpagbdmikpaaW.PrintWords Go.Proofs.YtpllpagbdmikpaaW.PrintLast Go.Proofs.YtpllpagbdmikpaaW.PrintMore Go.Proofs.Ytpllpagbdmikpaa.Plain
attribute [local go_sem] max2_int min2_int max_two min_two max_three min_three max_four min_four
/-! ### pumiceref10.Child, pumicelaw10.ImageChildren -/
theorem less_total : ∀ a b : List UInt8, (Op.bytesLess a b || a == b) = !Op.bytesLess b a
  | [], [] => by simp [Op.bytesLess]
  | [], _ :: _ => by simp [Op.bytesLess]
  | _ :: _, [] => by simp [Op.bytesLess]
  | a :: x, b :: y => by
    have ih := less_total x y
    simp only [Op.bytesLess]
    rcases Nat.lt_trichotomy a.toNat b.toNat with h | h | h
    · have h1 : a < b := UInt8.lt_iff_toNat_lt.2 h
      have h2 : ¬ b < a := fun h3 => by have := UInt8.lt_iff_toNat_lt.1 h3; omega
      have h3 : (b == a) = false := by simp; rintro rfl; omega
      simp [h1, h2, h3]
    · have h1 := UInt8.toNat_inj.1 h
      subst h1
      have e : (a :: x == a :: y) = (x == y) := by simp
      rw [e]
      simp only [UInt8.lt_irrefl, decide_false, Bool.false_or, beq_self_eq_true, Bool.true_and]
      exact ih
    · have h1 : b < a := UInt8.lt_iff_toNat_lt.2 h
      have h2 : ¬ a < b := fun h3 => by have := UInt8.lt_iff_toNat_lt.1 h3; omega
      have h3 : (a == b) = false := by simp; rintro rfl; omega
      have h4 : (a :: x == b :: y) = false := by simp; rintro rfl; omega
      simp [h1, h2, h3, h4]
theorem leB_is (s : S69) (key : ByteArray) : leB s key = !Op.bytesLess key.toList s.f0.toList := less_total _ _
theorem rChild_l0 (lv : Int) (l : List S50) (key : ByteArray) (hk : key.size ≤ 9223372036854775806) (hl : l.length ≤ 9223372036854775806) : ∀ (d i : Nat), i + d = l.length → Ev (fun k => pumiceref10_Child.l0 k key (childN (l.map conv) key i) (i : Int) lv l) (childN (l.map conv) key l.length) := by
  intro d
  induction d with
  | zero =>
    intro i hi
    refine Ev.step (f := fun _ => some _) (fun k => ?_) (Ev.now _)
    simp only [pumiceref10_Child.l0]
    rw [if_neg (show ¬ (i : Int) < (l.length : Int) by omega), show i = l.length by omega]
  | succ d ih =>
    intro i hi
    have hlt : i < l.length := by omega
    have h1 : (i : Int) < (l.length : Int) := by omega
    have h0 : (0 : Int) ≤ (i : Int) := by omega
    have hw : wrap64 ((i : Int) + 1) = ((i + 1 : Nat) : Int) := by rw [IntWalk.wrap64_in ((i : Int) + 1) (by omega)]; rfl
    have hx : rd_T50 l (i : Int) = l[i] := by simp [rd_T50, List.getD, hlt]
    have hg : (l.map conv).getD i z69 = conv l[i] := by simp [List.getD, hlt]
    obtain ⟨K, hK⟩ := rLess_ev key l[i].f0 hk
    obtain ⟨K2, hK2⟩ := ih (i + 1) (by omega)
    refine ⟨K + K2 + 1, fun k hk => ?_⟩
    obtain ⟨k, rfl⟩ : ∃ k', k = k' + 1 := ⟨k - 1, by omega⟩
    have a1 := hK k (by omega)
    have a2 := hK2 k (by omega)
    have hle : leB ((l.map conv).getD i z69) key = !Op.bytesLess key.toList l[i].f0.toList := by rw [hg, leB_is]; rfl
    have hn : childN (l.map conv) key (i + 1) = if leB ((l.map conv).getD i z69) key = true then (i : Int) else childN (l.map conv) key i := rfl
    rw [hn, hle] at a2
    cases e : Op.bytesLess key.toList l[i].f0.toList with
    | true =>
      rw [e] at a1 a2
      simp only [Bool.not_true, Bool.false_eq_true, if_false] at a2
      simp only [pumiceref10_Child.l0, eq_true h1, eq_true h0, if_true, hx, a1, Option.bind_some, hw, a2]
    | false =>
      rw [e] at a1 a2
      simp only [Bool.not_false, if_true] at a2
      simp only [pumiceref10_Child.l0, eq_true h1, eq_true h0, if_true, hx, a1, Option.bind_some, Bool.false_eq_true, if_false, hw, a2]
theorem rChild_ev (lv : Int) (l : List S50) (key : ByteArray) (hk : key.size ≤ 9223372036854775806) (hl : l.length ≤ 9223372036854775806) : ∃ K, pumiceref10_Child.f K lv l key = some (childN (l.map conv) key l.length) := by
  obtain ⟨K, hK⟩ := rChild_l0 lv l key hk hl l.length 0 (by omega)
  exact ⟨K, hK K (Nat.le_refl _)⟩
set_option maxRecDepth 100000 in
set_option maxHeartbeats 8000000 in
theorem ImageChildren_calls (lv : Int) (A : Option Addr) (c : Nat) (l : List S50) (key : ByteArray) (w : World) (hr : Kd.C k50 w A l.length l) (hc : l.length ≤ c) (hk : key.size ≤ 140737488351232) (hl : l.length ≤ 3518437208883) :
    Calls Try.prog 5 #[.agg #[.int .i64 lv, .slice A l.length c], .string key] w fun e w' => e = .returned (.bool true) ∧ Below w.heap.size w w' := by
  obtain ⟨KR, hKR⟩ := rChild_ev lv l key (by omega) (by omega)
  have HKR := Aside0.mk hKR
  obtain ⟨m, hm⟩ : ∃ m, m = l.map conv := ⟨_, rfl⟩
  have hml : l.length = m.length := by rw [hm, List.length_map]
  rw [hml] at HKR
  obtain ⟨r, hrr⟩ : ∃ r, r = childN m key m.length := ⟨_, rfl⟩
  have NM := Aside0.mk (fun w => mine_any lv A c l w)
  have NC := Aside0.mk (fun A1 c1 w h => Child_any lv A1 c1 m key w h)
  rw [← hm] at NM HKR
  rw [← hrr] at NC HKR
  have HR := Aside0.mk hr
  have HC := Aside0.mk hc
  have HL := Aside0.mk hl
  clear hKR hm hrr hr hc hk hl hml
  go_enter Try.func5, Try.ntmps5
  go_wp2
  refine Rel.rel [(0, 5, .inl ?r1v0), (1, 6, .inr (fun v w' => ∃ A1 c1, v = .agg #[.int .i64 lv, .slice A1 m.length c1] ∧ m.length ≤ c1 ∧ Kd.C k69 w' A1 m.length m)), (2, 7, .inl ?r1v2), (3, 8, .inl ?r1v3), (4, 9, .inl ?r1v4), (5, 10, .inl ?r1v5), (6, 11, .inl ?r1v6), (7, 12, .inl ?r1v7), (8, 13, .inl ?r1v8), (9, 14, .inl ?r1v9), (10, 15, .inl ?r1v10), (11, 4, .inl ?r1v11)] (fun w' => w'.heap[w.heap.size]? = some (.cells #[.int .i64 lv, .slice A l.length c] 31 (0, 0)) ∧ Below w.heap.size w w') (fun w' w'' => Below w'.heap.size w' w'') (by rfl) rfl (by kernel_rfl) ?r1S (Rel.stable_inl (Rel.stable_inr (fun v w w' hb ⟨A1, c1, h1, h2, h3⟩ => ⟨A1, c1, h1, h2, Kd.C_below h3 hb⟩) (Rel.stable_inl (Rel.stable_inl (Rel.stable_inl (Rel.stable_inl (Rel.stable_inl (Rel.stable_inl (Rel.stable_inl (Rel.stable_inl (Rel.stable_inl (Rel.stable_inl Rel.stable_nil)))))))))))) ?r1steps ?r1okv ?r1hlt ?r1fin
  case r1S => exact ⟨new_blk _ _ _, below_drew (below_alloc (Below.refl _ _) _)⟩
  case r1steps =>
    refine Rel.from_some 0 rfl rfl (fun a wq hS hK K hC => ?_) ?_
    · refine Reg.step_on (by rfl) ?_
      have e2 := hK.off 2 _ rfl rfl
      have hS2 := hS
      obtain ⟨hx, _⟩ := hS2
      have f0 := Joins.cell_of_block hx 0
      have f1 := Joins.cell_of_block hx 1
      clear hx
      clear hK
      go_simp
      exact hC _ hS (Below.refl _ _)
    refine Rel.from_rel 1 rfl rfl (fun a wq hS hK K hC => ?_) ?_
    · refine Reg.step_on (by rfl) ?_
      have e5 := hK.slot 0 _ _ _ rfl (by kernel_rfl)
      clear hK
      go_simp
      refine (NM.out wq ?m1 HC.out HL.out).mono ?_
      case m1 => exact (Kd.C_below HR.out hS.2)
      rintro e w' ⟨A1, c1, rfl, hl1, hc1, hb1⟩
      exact hC _ w' ⟨keep_below hS.1 hb1, below_step hS.2 hb1⟩ hb1 ⟨A1, c1, rfl, hl1, hc1⟩
    refine Rel.from_some 2 rfl rfl (fun a wq hS hK K hC => ?_) ?_
    · refine Reg.step_on (by rfl) ?_
      have e1 := hK.off 1 _ rfl rfl
      clear hK
      go_simp
      exact hC _ hS (Below.refl _ _)
    refine Rel.from_some 3 rfl rfl (fun a wq hS hK K hC => ?_) ?_
    · refine Reg.step_on (by rfl) ?_
      obtain ⟨u6, e6, q6⟩ := hK.rel 1 _ _ _ rfl (by kernel_rfl)
      obtain ⟨A1, c1, rfl, hl1, hc1⟩ := q6
      have e7 := hK.slot 2 _ _ _ rfl (by kernel_rfl)
      clear hK
      go_simp
      refine (NC.out A1 c1 _ hc1).mono ?_
      rintro e w' ⟨rfl, hb⟩
      exact hC w' ⟨keep_below hS.1 hb, below_step hS.2 hb⟩ hb
    refine Rel.from_some 4 rfl rfl (fun a wq hS hK K hC => ?_) ?_
    · refine Reg.step_on (by rfl) ?_
      have e2 := hK.off 2 _ rfl rfl
      have hS2 := hS
      obtain ⟨hx, _⟩ := hS2
      have f0 := Joins.cell_of_block hx 0
      have f1 := Joins.cell_of_block hx 1
      clear hx
      clear hK
      go_simp
      exact hC _ hS (Below.refl _ _)
    refine Rel.from_some 5 rfl rfl (fun a wq hS hK K hC => ?_) ?_
    · refine Reg.step_on (by rfl) ?_
      have e1 := hK.off 1 _ rfl rfl
      clear hK
      go_simp
      exact hC _ hS (Below.refl _ _)
    refine Rel.from_some 6 rfl rfl (fun a wq hS hK K hC => ?_) ?_
    · refine Reg.step_on (by rfl) ?_
      have e9 := hK.slot 4 _ _ _ rfl (by kernel_rfl)
      have e10 := hK.slot 5 _ _ _ rfl (by kernel_rfl)
      clear hK
      go_simp
      refine (pumiceref10_Child.calls KR lv A c l key r _ (Kd.C_below HR.out hS.2) HC.out HKR.out).mono ?_
      rintro e w' ⟨rfl, hb⟩
      exact hC w' ⟨keep_below hS.1 hb, below_step hS.2 hb⟩ hb
    refine Rel.from_some 7 rfl rfl (fun a wq hS hK K hC => ?_) ?_
    · refine Reg.step_on (by rfl) ?_
      have e8 := hK.slot 3 _ _ _ rfl (by kernel_rfl)
      have e11 := hK.slot 6 _ _ _ rfl (by kernel_rfl)
      clear hK
      go_simp
      exact hC _ hS (Below.refl _ _)
    refine Rel.from_some 8 rfl rfl (fun a wq hS hK K hC => ?_) ?_
    · refine Reg.step_on (by rfl) ?_
      have e12 := hK.slot 7 _ _ _ rfl (by kernel_rfl)
      clear hK
      go_simp
      exact hC _ hS (Below.refl _ _)
    refine Rel.from_some 9 rfl rfl (fun a wq hS hK K hC => ?_) ?_
    · refine Reg.step_on (wanted_on (g := 8) rfl rfl rfl (hK.slot 8 _ _ _ rfl (by kernel_rfl))) ?_
      clear hK
      go_simp
      refine (alive_calls _).mono ?_
      rintro e w' ⟨rfl, hb⟩
      exact hC w' ⟨keep_below hS.1 hb, below_step hS.2 hb⟩ hb
    refine Rel.from_some 10 rfl rfl (fun a wq hS hK K hC => ?_) ?_
    · refine Reg.step_on (by rfl) ?_
      have e13 := hK.slot 8 _ _ _ rfl (by kernel_rfl)
      have e14 := hK.slot 9 _ _ _ rfl (by kernel_rfl)
      clear hK
      go_simp
      exact hC _ hS (Below.refl _ _)
    refine Rel.from_some 11 rfl rfl (fun a wq hS hK K hC => ?_) ?_
    · refine Reg.step_on (by rfl) ?_
      have e15 := hK.slot 10 _ _ _ rfl (by kernel_rfl)
      clear hK
      go_simp
      exact hC _ hS (Below.refl _ _)
    exact Rel.from_nil
  case r1okv => rfl
  case r1hlt => rfl
  case r1fin =>
    intro U wz hS hU
    have q1 := hU 1 _ _ _ rfl
    clear hU
    simp only [Rel.inst, Nat.zero_add, Reg.putV, List.foldl_cons, List.foldl_nil, Act.put, List.setIfInBounds_toArray, List.set_cons_zero, List.set_cons_succ]
    have HBz := Aside0.mk hS.2
    clear hS q1
    go_wp2
    go_ret
    exact ⟨rfl, HBz.out⟩
end Go.Proofs.Ytpllpagbdmikpaa.PAll

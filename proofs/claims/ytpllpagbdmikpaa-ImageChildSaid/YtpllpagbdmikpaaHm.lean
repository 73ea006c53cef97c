import Derived.Test.YtpllpagbdmikpaaHl
import Derived.Test.YtpllpagbdmikpaaRel
import Derived.Lib.AppendStr
import Derived.Lib.SmallJoins
import Derived.Deep.RegionLaw
import Derived.WalkSpells
import Derived.Outline
import Derived.Laws.Cover1
namespace Go.Proofs.Ytpllpagbdmikpaa.PAll
open Go.RowKit Go.Proofs.YtpllpagbdmikpaaW.PrintWords Go.Proofs.YtpllpagbdmikpaaW.PrintLast Go.Proofs.YtpllpagbdmikpaaW.PrintMore
attribute [local go_sem] max2_int min2_int max_two min_two max_three min_three max_four min_four
/-! ### pumicelaw10.ImageChild -/
theorem mget (l : List S50) (k : Nat) (hk : k < l.length) : ((l.map conv).getD k z69).f0 = (l.getD k z50).f0 := by rw [conv_get l k hk]; rfl
set_option maxRecDepth 100000 in
set_option maxHeartbeats 8000000 in
theorem ImageChild_calls (lv : Int) (A : Option Addr) (c : Nat) (l : List S50) (sa sb : ByteArray) (w : World) (hr : Kd.C k50 w A l.length l) (hc : l.length ≤ c) (hl : l.length ≤ 3518437208883) :
    Calls Try.prog 6 #[.agg #[.int .i64 lv, .slice A l.length c], .string sa, .string sb] w fun e w' => e = .returned (.bool true) ∧ Below w.heap.size w w' := by
  obtain ⟨m, hm⟩ : ∃ m, m = l.map conv := ⟨_, rfl⟩
  have hml : m.length = l.length := by rw [hm, List.length_map]
  have NM := Aside0.mk (fun w => mine_any lv A c l w)
  have NC := Aside0.mk (fun A1 c1 key w h => Child_any lv A1 c1 m key w h)
  have NT := Aside0.mk (fun A1 c1 w => right_any lv A1 c1 m w)
  rw [← hm] at NM
  have HR := Aside0.mk hr
  have HC := Aside0.mk hc
  have HL := Aside0.mk hl
  have HM := Aside0.mk hm
  have HML := Aside0.mk hml
  clear hm hr hc hml
  cases hT : rightB lv m with
  | false =>
    rw [hT] at NT
    clear hT
    go_enter Try.func6, Try.ntmps6
    go_wp2_with (first
      | (go_at_call 16; (refine (NM.out _ ?a1 HC.out HL.out).mono ?_); (case a1 => exact Kd.C_alloc HR.out _); rintro e w1 ⟨A1, c1, rfl, hl1, hc1, hb1⟩; have HB1 := Aside0.mk hb1; have HL1 := Aside0.mk hl1; have HC1 := Aside0.mk hc1; clear hb1 hl1 hc1)
      | (go_at_call 18; (refine (NT.out A1 c1 _ HC1.out HL1.out).mono ?_); rintro e w2 ⟨rfl, hb2⟩; have HB2 := Aside0.mk hb2; clear hb2)
      | (go_at_call 14; (with_reducible refine (alive_calls _).mono ?_); rintro e w7 ⟨rfl, hb7⟩))
    go_ret
    exact ⟨rfl, below_step (below_step (below_step (below_alloc (Below.refl _ _) _) HB1.out) HB2.out) hb7⟩
  | true =>
    rw [hT] at NT
    have HT := Aside0.mk hT
    have h8 := right_8 hT
    have g1 : 1 ≤ l.length := by have := HML.out; omega
    have g8 : l.length ≤ 8 := by have := HML.out; omega
    obtain ⟨ad, rfl, _⟩ := HR.out.2.2 (by omega)
    clear hT h8
    go_enter Try.func6, Try.ntmps6
    go_wp2_with (first
      | (go_at_call 16; (refine (NM.out _ ?b1 HC.out HL.out).mono ?_); (case b1 => exact Kd.C_alloc HR.out _); rintro e w1 ⟨A1, c1, rfl, hl1, hc1, hb1⟩; have HB1 := Aside0.mk hb1; have HX1 := Aside0.mk (keep_below (new_blk _ _ _) hb1); have HL1 := Aside0.mk hl1; have HC1 := Aside0.mk hc1; clear hb1 hl1 hc1)
      | (go_at_call 18; (refine (NT.out A1 c1 _ HC1.out HL1.out).mono ?_); rintro e w2 ⟨rfl, hb2⟩; have HB2 := Aside0.mk hb2; have HX2 := Aside0.mk (keep_below HX1.out hb2); clear hb2))
    go_loopw [7] (fun i wr => ∃ k : Nat, k ≤ l.length ∧ i = .int .i64 k ∧ wr.heap[w.heap.size]? = some (.cells #[.int .i64 lv, .slice (some ad) l.length c] 31 (0, 0)) ∧ Below w.heap.size w wr) (fun i _ => l.length - (intOf i).toNat)
    case atStart => exact ⟨0, Nat.zero_le _, rfl, HX2.out, below_step (below_step (below_alloc (Below.refl _ _) _) HB1.out) HB2.out⟩
    case round =>
      obtain ⟨k, hk, rfl, hx, hb⟩ := hrel
      have HX := Aside0.mk hx
      have HB := Aside0.mk hb
      have x0 := Joins.cell_of_block hx 0
      have x1 := Joins.cell_of_block hx 1
      clear hx hb
      by_cases hlt : k < l.length
      · obtain ⟨ad', e0, c0, _, _, _⟩ := at_T50 (Kd.C_below HR.out HB.out) (k : Int) (by omega) (by omega)
        cases e0
        simp only [Int.toNat_natCast] at c0
        obtain ⟨key, hkey⟩ : ∃ key, key = (l.getD k z50).f0 := ⟨_, rfl⟩
        have ers : (rd_T50 l (k : Int)).f0 = key := by rw [hkey]; rfl
        rw [ers] at c0
        have hown := child_own HT.out (k := k) (by have := HML.out; omega)
        rw [HM.out, mget l k hlt, ← HM.out, ← hkey] at hown
        have NO := Aside0.mk hown
        have HC0 := Aside0.mk c0
        clear hown hkey ers c0
        go_wp2
        refine Rel.rel [(0, 22, .inl ?r1v0), (1, 23, .inr (fun v w' => ∃ A1 c1, v = .agg #[.int .i64 lv, .slice A1 m.length c1] ∧ m.length ≤ c1 ∧ Kd.C k69 w' A1 m.length m)), (2, 24, .inl ?r1v2), (3, 25, .inl ?r1v3), (4, 26, .inl ?r1v4), (5, 27, .inl ?r1v5), (6, 28, .inl ?r1v6), (7, 29, .inl ?r1v7), (8, 30, .inl ?r1v8), (9, 31, .inl ?r1v9), (10, 32, .inl ?r1v10)] (fun w' => w'.heap[w.heap.size]? = some (.cells #[.int .i64 lv, .slice (some ad) l.length c] 31 (0, 0)) ∧ w'.cell? (ad.add (k * 4)) = some (.string key) ∧ Below w.heap.size w w') (fun w' w'' => Below w'.heap.size w' w'') (by rfl) rfl (by kernel_rfl) ?r1S (Rel.stable_inl (Rel.stable_inr (fun v w w' hb ⟨A1, c1, h1, h2, h3⟩ => ⟨A1, c1, h1, h2, Kd.C_below h3 hb⟩) (Rel.stable_inl (Rel.stable_inl (Rel.stable_inl (Rel.stable_inl (Rel.stable_inl (Rel.stable_inl (Rel.stable_inl (Rel.stable_inl (Rel.stable_inl Rel.stable_nil))))))))))) ?r1steps ?r1okv ?r1hlt ?r1fin
        case r1S => exact ⟨HX.out, HC0.out, below_drew HB.out⟩
        case r1steps =>
          refine Rel.from_some 0 rfl rfl (fun a wq hS hK K hC => ?_) ?_
          · refine Reg.step_on (by rfl) ?_
            have e3 := hK.off 3 _ rfl rfl
            have hS2 := hS
            obtain ⟨hx, hk0, _⟩ := hS2
            have f0 := Joins.cell_of_block hx 0
            have f1 := Joins.cell_of_block hx 1
            clear hx
            clear hK
            go_simp
            (try (rw [if_pos]; rotate_left; omega; go_simp))
            exact hC _ hS (Below.refl _ _)
          refine Rel.from_rel 1 rfl rfl (fun a wq hS hK K hC => ?_) ?_
          · refine Reg.step_on (by rfl) ?_
            have e22 := hK.slot 0 _ _ _ rfl (by kernel_rfl)
            clear hK
            go_simp
            refine (NM.out wq ?m1 HC.out HL.out).mono ?_
            case m1 => exact (Kd.C_below HR.out hS.2.2)
            rintro e w' ⟨A1, c1, rfl, hl1, hc1, hb1⟩
            exact hC _ w' ⟨keep_below hS.1 hb1, cell_below hS.2.1 hb1, below_step hS.2.2 hb1⟩ hb1 ⟨A1, c1, rfl, hl1, hc1⟩
          refine Rel.from_some 2 rfl rfl (fun a wq hS hK K hC => ?_) ?_
          · refine Reg.step_on (by rfl) ?_
            have e3 := hK.off 3 _ rfl rfl
            clear hK
            go_simp
            (try (rw [if_pos]; rotate_left; omega; go_simp))
            exact hC _ hS (Below.refl _ _)
          refine Rel.from_some 3 rfl rfl (fun a wq hS hK K hC => ?_) ?_
          · refine Reg.step_on (by rfl) ?_
            have e24 := hK.slot 2 _ _ _ rfl (by kernel_rfl)
            have hS2 := hS
            obtain ⟨hx, hk0, _⟩ := hS2
            have f0 := Joins.cell_of_block hx 0
            have f1 := Joins.cell_of_block hx 1
            clear hx
            clear hK
            go_simp
            (try (rw [if_pos]; rotate_left; omega; go_simp))
            exact hC _ hS (Below.refl _ _)
          refine Rel.from_some 4 rfl rfl (fun a wq hS hK K hC => ?_) ?_
          · refine Reg.step_on (by rfl) ?_
            have e7 := hK.off 7 _ rfl rfl
            clear hK
            go_simp
            (try (rw [if_pos]; rotate_left; omega; go_simp))
            exact hC _ hS (Below.refl _ _)
          refine Rel.from_some 5 rfl rfl (fun a wq hS hK K hC => ?_) ?_
          · refine Reg.step_on (by rfl) ?_
            have e25 := hK.slot 3 _ _ _ rfl (by kernel_rfl)
            have e26 := hK.slot 4 _ _ _ rfl (by kernel_rfl)
            clear hK
            go_simp
            (try (rw [if_pos]; rotate_left; omega; go_simp))
            exact hC _ hS (Below.refl _ _)
          refine Rel.from_some 6 rfl rfl (fun a wq hS hK K hC => ?_) ?_
          · refine Reg.step_on (by rfl) ?_
            have e27 := hK.slot 5 _ _ _ rfl (by kernel_rfl)
            clear hK
            go_simp
            (try (rw [if_pos]; rotate_left; omega; go_simp))
            exact hC _ hS (Below.refl _ _)
          refine Rel.from_some 7 rfl rfl (fun a wq hS hK K hC => ?_) ?_
          · refine Reg.step_on (by rfl) ?_
            have e28 := hK.slot 6 _ _ _ rfl (by kernel_rfl)
            have hS2 := hS
            obtain ⟨hx, hk0, _⟩ := hS2
            have f0 := Joins.cell_of_block hx 0
            have f1 := Joins.cell_of_block hx 1
            clear hx
            clear hK
            go_simp
            (try (rw [if_pos]; rotate_left; omega; go_simp))
            exact hC _ hS (Below.refl _ _)
          refine Rel.from_some 8 rfl rfl (fun a wq hS hK K hC => ?_) ?_
          · refine Reg.step_on (by rfl) ?_
            obtain ⟨u23, e23, q23⟩ := hK.rel 1 _ _ _ rfl (by kernel_rfl)
            obtain ⟨A1, c1, rfl, hl1, hc1⟩ := q23
            have e29 := hK.slot 7 _ _ _ rfl (by kernel_rfl)
            clear hK
            go_simp
            refine (NC.out A1 c1 key _ hc1).mono ?_
            rintro e w' ⟨rfl, hb⟩
            rw [NO.out]
            exact hC w' ⟨keep_below hS.1 hb, cell_below hS.2.1 hb, below_step hS.2.2 hb⟩ hb
          refine Rel.from_some 9 rfl rfl (fun a wq hS hK K hC => ?_) ?_
          · refine Reg.step_on (by rfl) ?_
            have e7 := hK.off 7 _ rfl rfl
            clear hK
            go_simp
            (try (rw [if_pos]; rotate_left; omega; go_simp))
            exact hC _ hS (Below.refl _ _)
          refine Rel.from_some 10 rfl rfl (fun a wq hS hK K hC => ?_) ?_
          · refine Reg.step_on (by rfl) ?_
            have e30 := hK.slot 8 _ _ _ rfl (by kernel_rfl)
            have e31 := hK.slot 9 _ _ _ rfl (by kernel_rfl)
            clear hK
            go_simp
            (try (rw [if_pos]; rotate_left; omega; go_simp))
            exact hC _ hS (Below.refl _ _)
          exact Rel.from_nil
        case r1okv => rfl
        case r1hlt => rfl
        case r1fin =>
          intro U wz hS hU
          have q1 := hU 1 _ _ _ rfl
          clear hU
          simp only [Rel.inst, Nat.zero_add, Reg.putV, List.foldl_cons, List.foldl_nil, Act.put, List.setIfInBounds_toArray, List.set_cons_zero, List.set_cons_succ]
          have HB3 := Aside0.mk hS.2.2
          have HX3 := Aside0.mk hS.1
          clear hS q1
          go_wp2
          go_roundw
          case rel => exact ⟨k + 1, by omega, by go_num, HX3.out, HB3.out⟩
          case measure => simp [intOf]; omega
      · have hkl : k = l.length := by omega
        subst hkl
        clear hlt hk
        obtain ⟨X, hX⟩ : ∃ X, X = childN m sa m.length := ⟨_, rfl⟩
        obtain ⟨Y, hY⟩ : ∃ Y, Y = childN m sb m.length := ⟨_, rfl⟩
        have hn := child_none HT.out sa
        have hrg := childN_range m sa m.length
        have hmo := fun h => childN_mono m (a := sa) (b := sb) h m.length
        rw [← hX] at hn hrg hmo
        rw [← hY] at hmo
        rw [HM.out, mget l 0 (by omega)] at hn
        rw [HML.out] at hrg
        obtain ⟨ad', e0, c0, _, _, _⟩ := at_T50 (Kd.C_below HR.out HB.out) 0 (by omega) (by omega)
        cases e0
        obtain ⟨key, hkey⟩ : ∃ key, key = (l.getD 0 z50).f0 := ⟨_, rfl⟩
        have ers : (rd_T50 l 0).f0 = key := by rw [hkey]; rfl
        rw [ers, show ad.add (Int.toNat 0 * 4) = ad from by unfold Addr.add; simp] at c0
        rw [← hkey] at hn
        have HC0 := Aside0.mk c0
        have NX := Aside0.mk hX
        have NY := Aside0.mk hY
        have NN := Aside0.mk hn
        have NG := Aside0.mk hrg
        have NO := Aside0.mk hmo
        clear c0 hX hY hn hrg hmo ers hkey
        go_wp2
        refine Rel.rel [(0, 33, .inl ?r2v0), (1, 34, .inr (fun v w' => ∃ A1 c1, v = .agg #[.int .i64 lv, .slice A1 m.length c1] ∧ m.length ≤ c1 ∧ Kd.C k69 w' A1 m.length m)), (2, 35, .inl ?r2v2), (3, 36, .inl ?r2v3), (4, 37, .inl ?r2v4), (5, 38, .inr (fun v w' => ∃ A1 c1, v = .agg #[.int .i64 lv, .slice A1 m.length c1] ∧ m.length ≤ c1 ∧ Kd.C k69 w' A1 m.length m)), (6, 39, .inl ?r2v6), (7, 40, .inl ?r2v7), (8, 8, .inl ?r2v8), (9, 9, .inl ?r2v9)] (fun w' => w'.heap[w.heap.size]? = some (.cells #[.int .i64 lv, .slice (some ad) l.length c] 31 (0, 0)) ∧ w'.cell? ad = some (.string key) ∧ Below w.heap.size w w') (fun w' w'' => Below w'.heap.size w' w'') (by rfl) rfl (by kernel_rfl) ?r2S (Rel.stable_inl (Rel.stable_inr (fun v w w' hb ⟨A1, c1, h1, h2, h3⟩ => ⟨A1, c1, h1, h2, Kd.C_below h3 hb⟩) (Rel.stable_inl (Rel.stable_inl (Rel.stable_inl (Rel.stable_inr (fun v w w' hb ⟨A1, c1, h1, h2, h3⟩ => ⟨A1, c1, h1, h2, Kd.C_below h3 hb⟩) (Rel.stable_inl (Rel.stable_inl (Rel.stable_inl (Rel.stable_inl Rel.stable_nil)))))))))) ?r2steps ?r2okv ?r2hlt ?r2fin
        case r2S => exact ⟨HX.out, HC0.out, below_drew HB.out⟩
        case r2steps =>
          refine Rel.from_some 0 rfl rfl (fun a wq hS hK K hC => ?_) ?_
          · refine Reg.step_on (by rfl) ?_
            have e3 := hK.off 3 _ rfl rfl
            have hS2 := hS
            obtain ⟨hx, hk0, _⟩ := hS2
            have f0 := Joins.cell_of_block hx 0
            have f1 := Joins.cell_of_block hx 1
            clear hx
            clear hK
            go_simp
            exact hC _ hS (Below.refl _ _)
          refine Rel.from_rel 1 rfl rfl (fun a wq hS hK K hC => ?_) ?_
          · refine Reg.step_on (by rfl) ?_
            have e33 := hK.slot 0 _ _ _ rfl (by kernel_rfl)
            clear hK
            go_simp
            refine (NM.out wq ?p1 HC.out HL.out).mono ?_
            case p1 => exact (Kd.C_below HR.out hS.2.2)
            rintro e w' ⟨A1, c1, rfl, hl1, hc1, hb1⟩
            exact hC _ w' ⟨keep_below hS.1 hb1, cell_below hS.2.1 hb1, below_step hS.2.2 hb1⟩ hb1 ⟨A1, c1, rfl, hl1, hc1⟩
          refine Rel.from_some 2 rfl rfl (fun a wq hS hK K hC => ?_) ?_
          · refine Reg.step_on (by rfl) ?_
            have e1 := hK.off 1 _ rfl rfl
            clear hK
            go_simp
            exact hC _ hS (Below.refl _ _)
          refine Rel.from_some 3 rfl rfl (fun a wq hS hK K hC => ?_) ?_
          · refine Reg.step_on (by rfl) ?_
            obtain ⟨u34, e34, q34⟩ := hK.rel 1 _ _ _ rfl (by kernel_rfl)
            obtain ⟨A1, c1, rfl, hl1, hc1⟩ := q34
            have e35 := hK.slot 2 _ _ _ rfl (by kernel_rfl)
            clear hK
            go_simp
            refine (NC.out A1 c1 sa _ hc1).mono ?_
            rintro e w' ⟨rfl, hb⟩
            rw [← NX.out]
            exact hC w' ⟨keep_below hS.1 hb, cell_below hS.2.1 hb, below_step hS.2.2 hb⟩ hb
          refine Rel.from_some 4 rfl rfl (fun a wq hS hK K hC => ?_) ?_
          · refine Reg.step_on (by rfl) ?_
            have e3 := hK.off 3 _ rfl rfl
            have hS2 := hS
            obtain ⟨hx, hk0, _⟩ := hS2
            have f0 := Joins.cell_of_block hx 0
            have f1 := Joins.cell_of_block hx 1
            clear hx
            clear hK
            go_simp
            exact hC _ hS (Below.refl _ _)
          refine Rel.from_rel 5 rfl rfl (fun a wq hS hK K hC => ?_) ?_
          · refine Reg.step_on (by rfl) ?_
            have e37 := hK.slot 4 _ _ _ rfl (by kernel_rfl)
            clear hK
            go_simp
            refine (NM.out wq ?q1 HC.out HL.out).mono ?_
            case q1 => exact (Kd.C_below HR.out hS.2.2)
            rintro e w' ⟨A1, c1, rfl, hl1, hc1, hb1⟩
            exact hC _ w' ⟨keep_below hS.1 hb1, cell_below hS.2.1 hb1, below_step hS.2.2 hb1⟩ hb1 ⟨A1, c1, rfl, hl1, hc1⟩
          refine Rel.from_some 6 rfl rfl (fun a wq hS hK K hC => ?_) ?_
          · refine Reg.step_on (by rfl) ?_
            have e2 := hK.off 2 _ rfl rfl
            clear hK
            go_simp
            exact hC _ hS (Below.refl _ _)
          refine Rel.from_some 7 rfl rfl (fun a wq hS hK K hC => ?_) ?_
          · refine Reg.step_on (by rfl) ?_
            obtain ⟨u38, e38, q38⟩ := hK.rel 5 _ _ _ rfl (by kernel_rfl)
            obtain ⟨A1, c1, rfl, hl1, hc1⟩ := q38
            have e39 := hK.slot 6 _ _ _ rfl (by kernel_rfl)
            clear hK
            go_simp
            refine (NC.out A1 c1 sb _ hc1).mono ?_
            rintro e w' ⟨rfl, hb⟩
            rw [← NY.out]
            exact hC w' ⟨keep_below hS.1 hb, cell_below hS.2.1 hb, below_step hS.2.2 hb⟩ hb
          refine Rel.from_some 8 rfl rfl (fun a wq hS hK K hC => ?_) ?_
          · refine Reg.step_on (by rfl) ?_
            have e36 := hK.slot 3 _ _ _ rfl (by kernel_rfl)
            clear hK
            go_simp
            exact hC _ hS (Below.refl _ _)
          refine Rel.from_some 9 rfl rfl (fun a wq hS hK K hC => ?_) ?_
          · refine Reg.step_on (by rfl) ?_
            have e40 := hK.slot 7 _ _ _ rfl (by kernel_rfl)
            clear hK
            go_simp
            exact hC _ hS (Below.refl _ _)
          exact Rel.from_nil
        case r2okv => rfl
        case r2hlt => rfl
        case r2fin =>
          intro U wz hS hU
          have q1 := hU 1 _ _ _ rfl
          have q5 := hU 5 _ _ _ rfl
          clear hU
          simp only [Rel.inst, Nat.zero_add, Nat.reduceAdd, Reg.putV, List.foldl_cons, List.foldl_nil, Act.put, List.setIfInBounds_toArray, List.set_cons_zero, List.set_cons_succ]
          have HB3 := Aside0.mk hS.2.2
          have hx3 := hS.1
          have x0 := Joins.cell_of_block hx3 0
          have x1 := Joins.cell_of_block hx3 1
          have k0 : wz.cell? ad = some (.string key) := hS.2.1
          clear hS q1 q5 hx3
          have hn : Op.bytesLess sa.toList key.toList = (X == -1) := by rw [NN.out]; rfl
          have hrg : decide (X < (l.length : Int)) = true := by have := NG.out; simp; omega
          have hg := less_total sa.toList sb.toList
          cases hv : Op.bytesLess sb.toList sa.toList with
          | true =>
            rw [hv, Bool.not_true] at hg
            go_wp2_with (first
              | (go_at_call 14; (with_reducible refine (alive_calls _).mono ?_); rintro e w7 ⟨rfl, hb7⟩))
            go_ret
            exact ⟨rfl, below_step HB3.out hb7⟩
          | false =>
            rw [hv, Bool.not_false] at hg
            have hxy : decide (X ≤ Y) = true := decide_eq_true (NO.out hv)
            go_wp2_with (first
              | (go_at_call 14; (with_reducible refine (alive_calls _).mono ?_); rintro e w8 ⟨rfl, hb8⟩))
            go_ret
            exact ⟨rfl, below_step HB3.out hb8⟩
end Go.Proofs.Ytpllpagbdmikpaa.PAll

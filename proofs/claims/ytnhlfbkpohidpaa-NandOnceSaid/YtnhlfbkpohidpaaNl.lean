import Derived.Test.YtnhlfbkpohidpaaNk
import Derived.Test.YtnhlfbkpohidpaaNf
import Derived.Test.YtnhlfbkpohidpaaNo
import Derived.Deep.CutBlock
import Derived.Deep.LoopGhost
namespace Go.Proofs.Ytnhlfbkpohidpaa.PAll
open Go.RowKit Go.Proofs.YtnhlfbkpohidpaaW.PrintWords Go.Proofs.YtnhlfbkpohidpaaW.PrintLast Go.Proofs.YtnhlfbkpohidpaaW.PrintMore
set_option linter.unusedSimpArgs false
set_option linter.unusedVariables false
attribute [local go_sem] max2_int min2_int max_two min_two max_three min_three max_four min_four
set_option maxHeartbeats 8000000 in
set_option maxRecDepth 100000 in
theorem same_calls (A0 : Option Addr) (c0 : Nat) (l : List Int) (A1 : Option Addr) (c1 : Nat) (w : World) (hr0 : Kd.C (Kd.int .u8) w A0 l.length l) (hr1 : Kd.C (Kd.int .u8) w A1 l.length l) :
    Calls Try.prog 14 #[.slice A0 l.length c0, .slice A1 l.length c1] w fun e w' => e = .returned (.bool true) ∧ Below w.heap.size w w' := by
  have hcv3 := Kd.C_string (P := Try.prog) (A := A0) (c := c0) Try.underlying31 Try.underlying5 Try.underlying9 hr0
  have hcv4 := Kd.C_string (P := Try.prog) (A := A1) (c := c1) Try.underlying31 Try.underlying5 Try.underlying9 hr1
  clear hr0 hr1
  go_enter Try.func14, Try.ntmps14
  go_wp2
  go_ret
  exact ⟨by first | rfl | (simp; done), Below.refl _ _⟩
/-- What a step of the script may have done. -/
def OStep (k n p : Int) (m : Ch) (D : Nat → Nat → List Int) (x : Int) (m' : Ch) (D' : Nat → Nat → List Int) : Prop :=
  Inv m' D' ∧ Quiet m' ∧ (∀ a b, ¬ ((n = a ∧ (k = 2 ∨ (k = 1 ∧ p = b))) ∧ x = 0) → SameAt m D m' D' a b) ∧ (k = 1 → x = 0 → nxt m n = p ∧ nxt m' n = p + 1 ∧ 0 ≤ p ∧ p < 16) ∧ (k = 2 → x = 0 → nxt m' n = 0)
theorem OStep.prog {n p x : Int} {m m' : Ch} {D D' : Nat → Nat → List Int} (h : PStep m D n p x m' D') : OStep 1 n p m D x m' D' :=
  ⟨h.1, h.2.1, fun a b hab => h.2.2.1 a b (by
    by_cases hx : x = 0
    · exact .inr (fun ⟨h1, h2⟩ => hab ⟨⟨h1, .inr ⟨rfl, h2⟩⟩, hx⟩)
    · exact .inl hx), fun _ => h.2.2.2, fun h2 => absurd h2 (by decide)⟩
theorem OStep.erase {n p x : Int} {m m' : Ch} {D D' : Nat → Nat → List Int} (h : EStep m D n x m' D') : OStep 2 n p m D x m' D' :=
  ⟨h.1, h.2.1, fun a b hab => h.2.2.1 a b (by
    by_cases hx : x = 0
    · exact .inr (fun h1 => hab ⟨⟨h1, .inl rfl⟩, hx⟩)
    · exact .inl hx), fun h2 => absurd h2 (by decide), fun _ => h.2.2.2⟩
theorem OStep.mark {k n p x : Int} {m m' : Ch} {D : Nat → Nat → List Int} (h1 : k ≠ 1) (h2 : k ≠ 2) (h : MStep m D m') : OStep k n p m D x m' D :=
  ⟨h.1, h.2.1, fun a b _ => h.2.2 a b, fun h3 => absurd h3 h1, fun h3 => absurd h3 h2⟩
set_option maxHeartbeats 16000000 in
set_option maxRecDepth 100000 in
theorem once_is (A : Option Addr) (c : Nat) (l : List S34) (B P : Int) (w : World) (hr : Kd.C k34 w A l.length l) (hc : l.length ≤ c) :
    Calls Try.prog 3 #[.slice A l.length c, .int .i64 B, .int .i64 P] w fun e w' => e = .returned (.bool true) ∧ Below w.heap.size w w' := by
  have hmx := Kd.C_max hr
  have HR := Aside0.mk hr
  have HCC := Aside0.mk hc
  have hu34 := Try.underlying34
  clear hr hc
  go_enter Try.func3, Try.ntmps3
  go_upto_region 4 with (first
    | (go_at_call 7; (with_reducible refine (small_is _).mono ?_); rintro e w1 ⟨rfl, hb1⟩; have HB1 := Aside0.mk hb1; clear hb1)
    | (go_at_call 6; (with_reducible refine (new_small _).mono ?_); rintro e w2 ⟨gc, gb, gp, rfl, h2⟩; have H2 := Aside0.mk (h2.lower HB1.out); clear h2)
    | (go_at_call 8; (with_reducible refine (alive_is _).mono ?_); rintro e w3 ⟨rfl, hb3⟩; have H3 := Aside0.mk (H2.out.grow hb3); clear hb3))
  go_upto_region 5 with (fail)
  go_loopg [9] (l.length) (fun kk v9 wr => ∃ (i : Nat) (m : Ch) (D : Nat → Nat → List Int), i + kk = l.length ∧ v9 = .int .i64 i ∧ Aside0 (St w wr gc gb gp m D) ∧ Aside0 (Inv m D) ∧ Aside0 (Quiet m))
  case atStart => exact ⟨0, m0, _, by omega, rfl, H3, ⟨⟨fun i j _ _ => .inl rfl, fun i j _ _ => Nat.zero_le _⟩⟩, ⟨rfl, rfl⟩⟩
  case round =>
    obtain ⟨i, m, D, hi, rfl, HS, HI, HQ⟩ := hrel
    by_cases hlt : i < l.length
    · have d0 : decide ((i : Int) < (l.length : Int)) = true := decide_eq_true (by omega)
      have hq : (i < l.length) = True := eq_true hlt
      have hqi : ((i : Int) < (l.length : Int)) = True := eq_true (by omega)
      have hqm : (l.length ≤ i) = False := eq_false (by omega)
      obtain ⟨ad, A3, c3, A4, c4, rfl, y0, y1, y2, y3, y4, l3, g3⟩ := at_T34 HR.out (i : Int) (by omega) (by omega)
      rw [Int.toNat_natCast] at y0 y1 y2 y3 y4
      replace y0 := cell_below y0 HS.out.below
      replace y1 := cell_below y1 HS.out.below
      replace y2 := cell_below y2 HS.out.below
      replace y3 := cell_below y3 HS.out.below
      replace y4 := cell_below y4 HS.out.below
      generalize rd_T34 l (i : Int) = o at y0 y1 y2 y3 y4 l3 g3
      have HL3 := Aside0.mk l3
      have HG3 := Aside0.mk g3
      clear l3 g3
      go_upto_region 8 with (fail)
      generalize hW : wr.alloc (.cells #[.int .i64 o.k, .int .i64 o.b, .int .i64 o.p, .slice A3 o.d.length c3, .slice A4 o.pl.length c4] 34) = W7
      have hb7 : Below wr.heap.size wr W7 := by rw [← hW]; exact below_alloc (Below.refl _ _) _
      have hO7 : W7.heap[wr.heap.size]? = some (.cells #[.int .i64 o.k, .int .i64 o.b, .int .i64 o.p, .slice A3 o.d.length c3, .slice A4 o.pl.length c4] 34 (0, 0)) := by rw [← hW]; exact new_blk _ _ _
      have H7 := Aside0.mk (HS.out.grow hb7)
      clear hW hb7 y0 y1 y2 y3 y4
      generalize wr.heap.size = go at hO7 ⊢
      have HO7 := Aside0.mk hO7
      have HRD := Aside0.mk (read_any H7.out HI.out B P)
      clear hO7
      go_upto_block 2 with (first
        | (go_at_call 9; (with_reducible refine HRD.out.mono ?_); rintro e w8 ⟨v8, rfl, hr8, hb8⟩; obtain ⟨A8, c8, rfl, _, _⟩ := Kd.R_reads hr8; have HC8 := Aside0.mk hr8; have HB8 := Aside0.mk hb8; have HNX := Aside0.mk (next_any (H7.out.grow hb8) B); clear hr8 hb8)
        | (go_at_call 10; (with_reducible refine HNX.out.mono ?_); rintro e w9 ⟨rfl, hb9⟩; have HB9 := Aside0.mk (below_step HB8.out hb9); have HC9 := Aside0.mk (Kd.R_below HC8.out hb9); have H9 := Aside0.mk (H7.out.grow HB9.out); have HO9 := Aside0.mk (keep_below HO7.out HB9.out); have k0 := Joins.cell_of_block HO9.out 0; clear hb9))
      go_cut [14] from 33 to 163 (fun v14 wx => ∃ (x : Int) (m' : Ch) (D' : Nat → Nat → List Int), v14 = .int .i64 x ∧ Aside0 (St w wx gc gb gp m' D') ∧ Aside0 (Keeps w9 wx) ∧ Aside0 (OStep o.k o.b o.p m D x m' D'))
      case first =>
        have k1 := Joins.cell_of_block HO9.out 1
        have k2 := Joins.cell_of_block HO9.out 2
        have k3 := Joins.cell_of_block HO9.out 3
        by_cases h1 : o.k = 1
        · have e1 : (o.k == 1) = true := by simp [h1]
          have HP := Aside0.mk (program_any H9.out HI.out HQ.out o.b o.p A3 c3 o.d (fun w' hb _ => Kd.C_below HG3.out hb) HL3.out)
          have HK1 := Aside0.mk h1
          clear h1
          go_wp2_with (first
            | (go_at_call 11; (with_reducible refine HP.out.mono ?_); rintro e wy ⟨x, m', D', rfl, hs, hk, hst⟩; have HSx := Aside0.mk hs; have HKx := Aside0.mk hk; have HTx := Aside0.mk hst; clear hs hk hst))
          go_meet
          case rel => exact ⟨x, m', D', rfl, HSx, HKx, ⟨by rw [HK1.out]; exact OStep.prog HTx.out⟩⟩
        · have e1 : (o.k == 1) = false := by simp [h1]
          by_cases h2 : o.k = 2
          · have e2 : (o.k == 2) = true := by simp [h2]
            have HP := Aside0.mk (erase_any H9.out HI.out HQ.out o.b)
            have HK1 := Aside0.mk h2
            clear h1 h2
            go_wp2_with (first
              | (go_at_call 12; (with_reducible refine HP.out.mono ?_); rintro e wy ⟨x, m', D', rfl, hs, hk, hst⟩; have HSx := Aside0.mk hs; have HKx := Aside0.mk hk; have HTx := Aside0.mk hst; clear hs hk hst))
            go_meet
            case rel => exact ⟨x, m', D', rfl, HSx, HKx, ⟨by rw [HK1.out]; exact OStep.erase HTx.out⟩⟩
          · have e2 : (o.k == 2) = false := by simp [h2]
            have HN1 := Aside0.mk h1
            have HN2 := Aside0.mk h2
            by_cases h3 : o.k = 3
            · have e3 : (o.k == 3) = true := by simp [h3]
              have HP := Aside0.mk (mark_any H9.out HI.out HQ.out o.b)
              clear h1 h2 h3
              go_wp2_with (first
                | (go_at_call 13; (with_reducible refine HP.out.mono ?_); rintro e wy ⟨x, m', rfl, hs, hk, hst⟩; have HSx := Aside0.mk hs; have HKx := Aside0.mk hk; have HTx := Aside0.mk hst; clear hs hk hst))
              go_meet
              case rel => exact ⟨x, m', D, rfl, HSx, HKx, ⟨OStep.mark HN1.out HN2.out HTx.out⟩⟩
            · have e3 : (o.k == 3) = false := by simp [h3]
              clear h1 h2 h3
              go_wp2
              go_meet
              case rel => exact ⟨0, m, D, rfl, H9, ⟨Keeps.refl _⟩, ⟨OStep.mark HN1.out HN2.out ⟨HI.out, HQ.out, fun a b => ⟨rfl, rfl⟩⟩⟩⟩
      case rest =>
        obtain ⟨x, m', D', rfl, HSc, HKc, HTc⟩ := hcut
        have HOc := Aside0.mk (HKc.out go _ 34 (0, 0) (by decide) (by decide) (by decide) (by decide) HO9.out)
        have HRc := Aside0.mk (read_any HSc.out HTc.out.1 B P)
        clear k0
        go_upto_region 19 with (first
          | (go_at_call 9; (with_reducible refine HRc.out.mono ?_); rintro e w11 ⟨v11, rfl, hr11, hb11⟩; obtain ⟨A11, c11, rfl, _, hC11⟩ := Kd.R_reads hr11; have HC11 := Aside0.mk hC11; have H11 := Aside0.mk (HSc.out.grow hb11); have HO11 := Aside0.mk (keep_below HOc.out hb11); have HCw := Aside0.mk (Kd.R_reads' (Kd.R_below (HKc.out.R HC9.out) hb11)).2.2; clear hr11 hC11 hb11))
        have j0 := Joins.cell_of_block HO11.out 0
        have j1 := Joins.cell_of_block HO11.out 1
        have j2 := Joins.cell_of_block HO11.out 2
        go_cut [17] from 33 to 163 (fun v17 wx => ∃ t : Bool, v17 = .bool t ∧ Aside0 (t = true ↔ (o.b = B ∧ (o.k = 2 ∨ (o.k = 1 ∧ o.p = P)))) ∧ wx = w11)
        case first =>
          by_cases hb : o.b = B
          · have e1 : (o.b == B) = true := by simp [hb]
            by_cases h2 : o.k = 2
            · have e2 : (o.k == 2) = true := by simp [h2]
              have HF := Aside0.mk (And.intro hb h2)
              clear hb h2
              go_wp2
              go_meet
              case rel => exact ⟨true, rfl, ⟨fun _ => ⟨HF.out.1, .inl HF.out.2⟩, fun _ => rfl⟩, rfl⟩
            · have e2 : (o.k == 2) = false := by simp [h2]
              by_cases h1 : o.k = 1
              · have e3 : (o.k == 1) = true := by simp [h1]
                by_cases hp : o.p = P
                · have e4 : (o.p == P) = true := by simp [hp]
                  have HF := Aside0.mk (And.intro hb (And.intro h1 hp))
                  clear hb h2 h1 hp
                  go_wp2
                  go_meet
                  case rel => exact ⟨true, rfl, ⟨fun _ => ⟨HF.out.1, .inr HF.out.2⟩, fun _ => rfl⟩, rfl⟩
                · have e4 : (o.p == P) = false := by simp [hp]
                  have HF := Aside0.mk (And.intro h2 hp)
                  clear hb h2 h1 hp
                  go_wp2
                  go_meet
                  case rel => exact ⟨false, rfl, ⟨(fun h => absurd h (by decide)), fun h => (h.2.elim (fun h => HF.out.1 h) (fun h => HF.out.2 h.2)).elim⟩, rfl⟩
              · have e3 : (o.k == 1) = false := by simp [h1]
                have HF := Aside0.mk (And.intro h2 h1)
                clear hb h2 h1
                go_wp2
                go_meet
                case rel => exact ⟨false, rfl, ⟨(fun h => absurd h (by decide)), fun h => (h.2.elim (fun h => HF.out.1 h) (fun h => HF.out.2 h.1)).elim⟩, rfl⟩
          · have e1 : (o.b == B) = false := by simp [hb]
            have HF := Aside0.mk hb
            clear hb
            go_wp2
            go_meet
            case rel => exact ⟨false, rfl, ⟨(fun h => absurd h (by decide)), fun h => (HF.out h.1).elim⟩, rfl⟩
        case rest =>
          obtain ⟨t, rfl, HTT, rfl⟩ := hcut
          go_upto_region 20 with (fail)
          go_cut [120] from 33 to 163 (fun v wx => v = .bool false ∧ Aside0 (Below wc.heap.size wc wx))
          case first =>
            clear j0 j1 j2
            by_cases hTx : t = true ∧ x = 0
            · obtain ⟨rfl, rfl⟩ := hTx
              go_wp2
              go_meet
              case rel => exact ⟨rfl, ⟨Below.refl _ _⟩⟩
            · have hsame := HTc.out.2.2.1 B P (fun h9 => hTx ⟨HTT.out.2 h9.1, h9.2⟩)
              have hE := hsame.1
              have hL := hsame.2
              have HSM : Aside0 (Calls Try.prog 14 #[.slice A8 (rdL m D B P).length c8, .slice A11 (rdL m' D' B P).length c11] wc fun e w' => e = .returned (.bool true) ∧ Below wc.heap.size wc w') := ⟨by
                have hC := HC11.out
                rw [hL] at hC ⊢
                exact same_calls A8 c8 (rdL m D B P) A11 c11 wc HCw.out hC⟩
              have eE1 : (rdE m B P == rdE m' B P) = true := by rw [hE]; simp
              have eE2 : (rdE m B P != rdE m' B P) = false := by rw [hE]; simp
              clear hsame hE hL
              cases t with
              | false =>
                clear hTx
                go_wp2_with (first
                  | (go_at_call 14; (with_reducible refine HSM.out.mono ?_); rintro e wz ⟨rfl, hbz⟩; have HBz := Aside0.mk hbz; clear hbz))
                go_meet
                case rel => exact ⟨rfl, HBz⟩
              | true =>
                have hx : x ≠ 0 := fun h9 => hTx ⟨rfl, h9⟩
                have ex : (x == 0) = false := by simp [hx]
                have ex2 : (x != 0) = true := by simp [hx]
                clear hTx hx
                go_wp2_with (first
                  | (go_at_call 14; (with_reducible refine HSM.out.mono ?_); rintro e wz ⟨rfl, hbz⟩; have HBz := Aside0.mk hbz; clear hbz))
                go_meet
                case rel => exact ⟨rfl, HBz⟩
          case rest =>
            obtain ⟨rfl, HB12⟩ := hcut
            have H12 := Aside0.mk (H11.out.grow HB12.out)
            have HO12 := Aside0.mk (keep_below HO11.out HB12.out)
            clear j0 j1 j2
            go_upto_region 22 with (fail)
            go_cut [149] from 33 to 163 (fun v wx => v = .bool false ∧ Aside0 (Below wc.heap.size wc wx))
            case first =>
              by_cases h1 : o.k = 1
              · have e1 : (o.k == 1) = true := by simp [h1]
                by_cases hx : x = 0
                · have ex : (x == 0) = true := by simp [hx]
                  obtain ⟨hn1, hn2, hp1, hp2⟩ := HTc.out.2.2.2.1 h1 hx
                  have HNX := Aside0.mk (fun (w' : World) (hb : Below wc.heap.size wc w') => show Calls Try.prog 10 #[cp gc, .int .i64 o.b] w' (fun e w2 => e = .returned (.int .i64 (o.p + 1)) ∧ Below w'.heap.size w' w2) from (next_any (H12.out.grow hb) o.b).mono fun e w2 h => ⟨h.1.trans (by rw [hn2]), h.2⟩)
                  have hwp : IntKind.i64.wrap (o.p + 1) = o.p + 1 := by rw [i64_w]; exact wrap_in _ (by omega)
                  have HN1 := Aside0.mk hn1
                  clear hn1 hn2 hp1 hp2 h1 hx
                  by_cases hb : o.b = B
                  · have e2 : (o.b == B) = true := by simp [hb]
                    have en1 : (nxt m B != o.p) = false := by rw [← hb, HN1.out]; simp
                    have en2 : (nxt m B == o.p) = true := by rw [← hb, HN1.out]; simp
                    clear hb
                    refine Reg.det [(0, 121, ?r3v0), (1, 122, ?r3v1), (2, 123, ?r3v2), (3, 124, ?r3v3), (4, 125, ?r3v4), (5, 126, ?r3v5), (6, 127, ?r3v6), (7, 128, ?r3v7), (8, 129, ?r3v8), (9, 130, ?r3v9), (10, 131, ?r3v10), (11, 132, ?r3v11), (12, 133, ?r3v12), (13, 134, ?r3v13), (14, 135, ?r3v14), (15, 136, ?r3v15), (16, 137, ?r3v16), (17, 138, ?r3v17), (18, 139, ?r3v18), (19, 140, ?r3v19), (20, 141, ?r3v20), (21, 142, ?r3v21), (22, 143, ?r3v22), (23, 144, ?r3v23), (24, 145, ?r3v24), (25, 146, ?r3v25), (26, 147, ?r3v26), (27, 148, ?r3v27), (28, 149, ?r3v28)] (fun w' => Below wc.heap.size wc w') (by rfl) rfl (by kernel_rfl) ?r3S ?r3steps ?r3okv ?r3hlt ?r3fin
                    case r3S => exact below_drew (Below.refl _ _)
                    case r3steps =>
                      refine Reg.from_some 0 rfl rfl (fun a wq hS hK K hC => ?_) ?_
                      · refine Reg.step_on (by rfl) ?_
                        have e10 := hK.off 10 _ rfl rfl
                        clear hK
                        go_simp
                        exact hC _ hS
                      refine Reg.from_some 1 rfl rfl (fun a wq hS hK K hC => ?_) ?_
                      · refine Reg.step_on (by rfl) ?_
                        have e121 := hK.slot 0 _ _ _ rfl (by kernel_rfl)
                        have hx := keep_below HO12.out hS
                        have j0 := Joins.cell_of_block hx 0
                        have j1 := Joins.cell_of_block hx 1
                        have j2 := Joins.cell_of_block hx 2
                        clear hx
                        clear hK
                        go_simp
                        exact hC _ hS
                      refine Reg.from_some 2 rfl rfl (fun a wq hS hK K hC => ?_) ?_
                      · refine Reg.step_on (by rfl) ?_
                        have e122 := hK.slot 1 _ _ _ rfl (by kernel_rfl)
                        clear hK
                        go_simp
                        exact hC _ hS
                      refine Reg.from_some 3 rfl rfl (fun a wq hS hK K hC => ?_) ?_
                      · refine Reg.step_on (by rfl) ?_
                        have e123 := hK.slot 2 _ _ _ rfl (by kernel_rfl)
                        clear hK
                        go_simp
                        exact hC _ hS
                      refine Reg.from_some 4 rfl rfl (fun a wq hS hK K hC => ?_) ?_
                      · refine Reg.step_on (wanted_on (g := 3) rfl rfl rfl (hK.slot 3 _ _ _ rfl (by kernel_rfl))) ?_
                        have e14 := hK.off 14 _ rfl rfl
                        clear hK
                        go_simp
                        exact hC _ hS
                      refine Reg.from_some 5 rfl rfl (fun a wq hS hK K hC => ?_) ?_
                      · refine Reg.step_on (wanted_on (g := 3) rfl rfl rfl (hK.slot 3 _ _ _ rfl (by kernel_rfl))) ?_
                        have e125 := hK.slot 4 _ _ _ rfl (by kernel_rfl)
                        clear hK
                        go_simp
                        exact hC _ hS
                      refine Reg.from_some 6 rfl rfl (fun a wq hS hK K hC => ?_) ?_
                      · refine Reg.step_on (by rfl) ?_
                        have e124 := hK.slot 3 _ _ _ rfl (by kernel_rfl)
                        have e126 := hK.slot 5 _ _ _ rfl (by kernel_rfl)
                        clear hK
                        go_simp
                        exact hC _ hS
                      refine Reg.from_some 7 rfl rfl (fun a wq hS hK K hC => ?_) ?_
                      · refine Reg.step_on (by rfl) ?_
                        have e127 := hK.slot 6 _ _ _ rfl (by kernel_rfl)
                        clear hK
                        go_simp
                        exact hC _ hS
                      refine Reg.from_some 8 rfl rfl (fun a wq hS hK K hC => ?_) ?_
                      · refine Reg.step_on (wanted_on (g := 7) rfl rfl rfl (hK.slot 7 _ _ _ rfl (by kernel_rfl))) ?_
                        have e7 := hK.off 7 _ rfl rfl
                        clear hK
                        go_simp
                        exact hC _ hS
                      refine Reg.from_some 9 rfl rfl (fun a wq hS hK K hC => ?_) ?_
                      · refine Reg.step_on (wanted_on (g := 7) rfl rfl rfl (hK.slot 7 _ _ _ rfl (by kernel_rfl))) ?_
                        have e10 := hK.off 10 _ rfl rfl
                        clear hK
                        go_simp
                        exact hC _ hS
                      refine Reg.from_some 10 rfl rfl (fun a wq hS hK K hC => ?_) ?_
                      · refine Reg.step_on (wanted_on (g := 7) rfl rfl rfl (hK.slot 7 _ _ _ rfl (by kernel_rfl))) ?_
                        have e130 := hK.slot 9 _ _ _ rfl (by kernel_rfl)
                        have hx := keep_below HO12.out hS
                        have j0 := Joins.cell_of_block hx 0
                        have j1 := Joins.cell_of_block hx 1
                        have j2 := Joins.cell_of_block hx 2
                        clear hx
                        clear hK
                        go_simp
                        exact hC _ hS
                      refine Reg.from_some 11 rfl rfl (fun a wq hS hK K hC => ?_) ?_
                      · refine Reg.step_on (wanted_on (g := 7) rfl rfl rfl (hK.slot 7 _ _ _ rfl (by kernel_rfl))) ?_
                        have e129 := hK.slot 8 _ _ _ rfl (by kernel_rfl)
                        have e131 := hK.slot 10 _ _ _ rfl (by kernel_rfl)
                        clear hK
                        go_simp
                        go_at_call 10; (with_reducible refine (HNX.out wq hS).mono ?_)
                        rintro e w' ⟨rfl, hb⟩
                        exact hC w' (below_step hS hb)
                      refine Reg.from_some 12 rfl rfl (fun a wq hS hK K hC => ?_) ?_
                      · refine Reg.step_on (wanted_on (g := 7) rfl rfl rfl (hK.slot 7 _ _ _ rfl (by kernel_rfl))) ?_
                        have e10 := hK.off 10 _ rfl rfl
                        clear hK
                        go_simp
                        exact hC _ hS
                      refine Reg.from_some 13 rfl rfl (fun a wq hS hK K hC => ?_) ?_
                      · refine Reg.step_on (wanted_on (g := 7) rfl rfl rfl (hK.slot 7 _ _ _ rfl (by kernel_rfl))) ?_
                        have e133 := hK.slot 12 _ _ _ rfl (by kernel_rfl)
                        have hx := keep_below HO12.out hS
                        have j0 := Joins.cell_of_block hx 0
                        have j1 := Joins.cell_of_block hx 1
                        have j2 := Joins.cell_of_block hx 2
                        clear hx
                        clear hK
                        go_simp
                        exact hC _ hS
                      refine Reg.from_some 14 rfl rfl (fun a wq hS hK K hC => ?_) ?_
                      · refine Reg.step_on (wanted_on (g := 7) rfl rfl rfl (hK.slot 7 _ _ _ rfl (by kernel_rfl))) ?_
                        have e134 := hK.slot 13 _ _ _ rfl (by kernel_rfl)
                        clear hK
                        go_simp
                        exact hC _ hS
                      refine Reg.from_some 15 rfl rfl (fun a wq hS hK K hC => ?_) ?_
                      · refine Reg.step_on (wanted_on (g := 7) rfl rfl rfl (hK.slot 7 _ _ _ rfl (by kernel_rfl))) ?_
                        have e132 := hK.slot 11 _ _ _ rfl (by kernel_rfl)
                        have e135 := hK.slot 14 _ _ _ rfl (by kernel_rfl)
                        clear hK
                        go_simp
                        exact hC _ hS
                      refine Reg.from_some 16 rfl rfl (fun a wq hS hK K hC => ?_) ?_
                      · refine Reg.step_on (wanted_on (g := 7) rfl rfl rfl (hK.slot 7 _ _ _ rfl (by kernel_rfl))) ?_
                        have e136 := hK.slot 15 _ _ _ rfl (by kernel_rfl)
                        clear hK
                        go_simp
                        exact hC _ hS
                      refine Reg.from_some 17 rfl rfl (fun a wq hS hK K hC => ?_) ?_
                      · refine Reg.step_on (wanted_on (g := 16) rfl rfl rfl (hK.slot 16 _ _ _ rfl (by kernel_rfl))) ?_
                        have e10 := hK.off 10 _ rfl rfl
                        clear hK
                        go_simp
                        exact hC _ hS
                      refine Reg.from_some 18 rfl rfl (fun a wq hS hK K hC => ?_) ?_
                      · refine Reg.step_on (wanted_on (g := 16) rfl rfl rfl (hK.slot 16 _ _ _ rfl (by kernel_rfl))) ?_
                        have e138 := hK.slot 17 _ _ _ rfl (by kernel_rfl)
                        have hx := keep_below HO12.out hS
                        have j0 := Joins.cell_of_block hx 0
                        have j1 := Joins.cell_of_block hx 1
                        have j2 := Joins.cell_of_block hx 2
                        clear hx
                        clear hK
                        go_simp
                        exact hC _ hS
                      refine Reg.from_some 19 rfl rfl (fun a wq hS hK K hC => ?_) ?_
                      · refine Reg.step_on (wanted_on (g := 16) rfl rfl rfl (hK.slot 16 _ _ _ rfl (by kernel_rfl))) ?_
                        have e1 := hK.off 1 _ rfl rfl
                        clear hK
                        go_simp
                        exact hC _ hS
                      refine Reg.from_some 20 rfl rfl (fun a wq hS hK K hC => ?_) ?_
                      · refine Reg.step_on (wanted_on (g := 16) rfl rfl rfl (hK.slot 16 _ _ _ rfl (by kernel_rfl))) ?_
                        have e139 := hK.slot 18 _ _ _ rfl (by kernel_rfl)
                        have e140 := hK.slot 19 _ _ _ rfl (by kernel_rfl)
                        clear hK
                        go_simp
                        exact hC _ hS
                      refine Reg.from_some 21 rfl rfl (fun a wq hS hK K hC => ?_) ?_
                      · refine Reg.step_on (wanted_on (g := 16) rfl rfl rfl (hK.slot 16 _ _ _ rfl (by kernel_rfl))) ?_
                        have e141 := hK.slot 20 _ _ _ rfl (by kernel_rfl)
                        clear hK
                        go_simp
                        exact hC _ hS
                      refine Reg.from_some 22 rfl rfl (fun a wq hS hK K hC => ?_) ?_
                      · refine Reg.step_on (wanted_on (g := 21) rfl rfl rfl (hK.slot 21 _ _ _ rfl (by kernel_rfl))) ?_
                        have e13 := hK.off 13 _ rfl rfl
                        clear hK
                        go_simp
                        exact hC _ hS
                      refine Reg.from_some 23 rfl rfl (fun a wq hS hK K hC => ?_) ?_
                      · refine Reg.step_on (wanted_on (g := 21) rfl rfl rfl (hK.slot 21 _ _ _ rfl (by kernel_rfl))) ?_
                        have e10 := hK.off 10 _ rfl rfl
                        clear hK
                        go_simp
                        exact hC _ hS
                      refine Reg.from_some 24 rfl rfl (fun a wq hS hK K hC => ?_) ?_
                      · refine Reg.step_on (wanted_on (g := 21) rfl rfl rfl (hK.slot 21 _ _ _ rfl (by kernel_rfl))) ?_
                        have e144 := hK.slot 23 _ _ _ rfl (by kernel_rfl)
                        have hx := keep_below HO12.out hS
                        have j0 := Joins.cell_of_block hx 0
                        have j1 := Joins.cell_of_block hx 1
                        have j2 := Joins.cell_of_block hx 2
                        clear hx
                        clear hK
                        go_simp
                        exact hC _ hS
                      refine Reg.from_some 25 rfl rfl (fun a wq hS hK K hC => ?_) ?_
                      · refine Reg.step_on (wanted_on (g := 21) rfl rfl rfl (hK.slot 21 _ _ _ rfl (by kernel_rfl))) ?_
                        have e143 := hK.slot 22 _ _ _ rfl (by kernel_rfl)
                        have e145 := hK.slot 24 _ _ _ rfl (by kernel_rfl)
                        clear hK
                        go_simp
                        exact hC _ hS
                      refine Reg.from_some 26 rfl rfl (fun a wq hS hK K hC => ?_) ?_
                      · refine Reg.step_on (wanted_on (g := 16) rfl rfl rfl (hK.slot 16 _ _ _ rfl (by kernel_rfl))) ?_
                        have e142 := hK.slot 21 _ _ _ rfl (by kernel_rfl)
                        have e146 := hK.slot 25 _ _ _ rfl (by kernel_rfl)
                        clear hK
                        go_simp
                        exact hC _ hS
                      refine Reg.from_some 27 rfl rfl (fun a wq hS hK K hC => ?_) ?_
                      · refine Reg.step_on (wanted_on (g := 7) rfl rfl rfl (hK.slot 7 _ _ _ rfl (by kernel_rfl))) ?_
                        have e137 := hK.slot 16 _ _ _ rfl (by kernel_rfl)
                        have e147 := hK.slot 26 _ _ _ rfl (by kernel_rfl)
                        clear hK
                        go_simp
                        exact hC _ hS
                      refine Reg.from_some 28 rfl rfl (fun a wq hS hK K hC => ?_) ?_
                      · refine Reg.step_on (by rfl) ?_
                        have e128 := hK.slot 7 _ _ _ rfl (by kernel_rfl)
                        have e148 := hK.slot 27 _ _ _ rfl (by kernel_rfl)
                        clear hK
                        go_simp
                        exact hC _ hS
                      exact Reg.from_nil
                    case r3okv => rfl
                    case r3hlt => rfl
                    case r3fin =>
                      intro wz hS
                      simp only [Reg.putV, List.foldl_cons, List.foldl_nil, Act.put, List.setIfInBounds_toArray, List.set_cons_zero, List.set_cons_succ]
                      have HSz := Aside0.mk hS
                      clear hS
                      go_wp2
                      go_meet
                      case rel => exact ⟨rfl, HSz⟩
                  · have e2 : (o.b == B) = false := by simp [hb]
                    clear hb
                    refine Reg.det [(0, 121, ?r4v0), (1, 122, ?r4v1), (2, 123, ?r4v2), (3, 124, ?r4v3), (4, 125, ?r4v4), (5, 126, ?r4v5), (6, 127, ?r4v6), (7, 128, ?r4v7), (8, 129, ?r4v8), (9, 130, ?r4v9), (10, 131, ?r4v10), (11, 132, ?r4v11), (12, 133, ?r4v12), (13, 134, ?r4v13), (14, 135, ?r4v14), (15, 136, ?r4v15), (16, 137, ?r4v16), (17, 138, ?r4v17), (18, 139, ?r4v18), (19, 140, ?r4v19), (20, 141, ?r4v20), (21, 142, ?r4v21), (22, 143, undef), (23, 144, undef), (24, 145, undef), (25, 146, undef), (26, 147, ?r4v26), (27, 148, ?r4v27), (28, 149, ?r4v28)] (fun w' => Below wc.heap.size wc w') (by rfl) rfl (by kernel_rfl) ?r4S ?r4steps ?r4okv ?r4hlt ?r4fin
                    case r4S => exact below_drew (Below.refl _ _)
                    case r4steps =>
                      refine Reg.from_some 0 rfl rfl (fun a wq hS hK K hC => ?_) ?_
                      · refine Reg.step_on (by rfl) ?_
                        have e10 := hK.off 10 _ rfl rfl
                        clear hK
                        go_simp
                        exact hC _ hS
                      refine Reg.from_some 1 rfl rfl (fun a wq hS hK K hC => ?_) ?_
                      · refine Reg.step_on (by rfl) ?_
                        have e121 := hK.slot 0 _ _ _ rfl (by kernel_rfl)
                        have hx := keep_below HO12.out hS
                        have j0 := Joins.cell_of_block hx 0
                        have j1 := Joins.cell_of_block hx 1
                        have j2 := Joins.cell_of_block hx 2
                        clear hx
                        clear hK
                        go_simp
                        exact hC _ hS
                      refine Reg.from_some 2 rfl rfl (fun a wq hS hK K hC => ?_) ?_
                      · refine Reg.step_on (by rfl) ?_
                        have e122 := hK.slot 1 _ _ _ rfl (by kernel_rfl)
                        clear hK
                        go_simp
                        exact hC _ hS
                      refine Reg.from_some 3 rfl rfl (fun a wq hS hK K hC => ?_) ?_
                      · refine Reg.step_on (by rfl) ?_
                        have e123 := hK.slot 2 _ _ _ rfl (by kernel_rfl)
                        clear hK
                        go_simp
                        exact hC _ hS
                      refine Reg.from_some 4 rfl rfl (fun a wq hS hK K hC => ?_) ?_
                      · refine Reg.step_on (wanted_on (g := 3) rfl rfl rfl (hK.slot 3 _ _ _ rfl (by kernel_rfl))) ?_
                        have e14 := hK.off 14 _ rfl rfl
                        clear hK
                        go_simp
                        exact hC _ hS
                      refine Reg.from_some 5 rfl rfl (fun a wq hS hK K hC => ?_) ?_
                      · refine Reg.step_on (wanted_on (g := 3) rfl rfl rfl (hK.slot 3 _ _ _ rfl (by kernel_rfl))) ?_
                        have e125 := hK.slot 4 _ _ _ rfl (by kernel_rfl)
                        clear hK
                        go_simp
                        exact hC _ hS
                      refine Reg.from_some 6 rfl rfl (fun a wq hS hK K hC => ?_) ?_
                      · refine Reg.step_on (by rfl) ?_
                        have e124 := hK.slot 3 _ _ _ rfl (by kernel_rfl)
                        have e126 := hK.slot 5 _ _ _ rfl (by kernel_rfl)
                        clear hK
                        go_simp
                        exact hC _ hS
                      refine Reg.from_some 7 rfl rfl (fun a wq hS hK K hC => ?_) ?_
                      · refine Reg.step_on (by rfl) ?_
                        have e127 := hK.slot 6 _ _ _ rfl (by kernel_rfl)
                        clear hK
                        go_simp
                        exact hC _ hS
                      refine Reg.from_some 8 rfl rfl (fun a wq hS hK K hC => ?_) ?_
                      · refine Reg.step_on (wanted_on (g := 7) rfl rfl rfl (hK.slot 7 _ _ _ rfl (by kernel_rfl))) ?_
                        have e7 := hK.off 7 _ rfl rfl
                        clear hK
                        go_simp
                        exact hC _ hS
                      refine Reg.from_some 9 rfl rfl (fun a wq hS hK K hC => ?_) ?_
                      · refine Reg.step_on (wanted_on (g := 7) rfl rfl rfl (hK.slot 7 _ _ _ rfl (by kernel_rfl))) ?_
                        have e10 := hK.off 10 _ rfl rfl
                        clear hK
                        go_simp
                        exact hC _ hS
                      refine Reg.from_some 10 rfl rfl (fun a wq hS hK K hC => ?_) ?_
                      · refine Reg.step_on (wanted_on (g := 7) rfl rfl rfl (hK.slot 7 _ _ _ rfl (by kernel_rfl))) ?_
                        have e130 := hK.slot 9 _ _ _ rfl (by kernel_rfl)
                        have hx := keep_below HO12.out hS
                        have j0 := Joins.cell_of_block hx 0
                        have j1 := Joins.cell_of_block hx 1
                        have j2 := Joins.cell_of_block hx 2
                        clear hx
                        clear hK
                        go_simp
                        exact hC _ hS
                      refine Reg.from_some 11 rfl rfl (fun a wq hS hK K hC => ?_) ?_
                      · refine Reg.step_on (wanted_on (g := 7) rfl rfl rfl (hK.slot 7 _ _ _ rfl (by kernel_rfl))) ?_
                        have e129 := hK.slot 8 _ _ _ rfl (by kernel_rfl)
                        have e131 := hK.slot 10 _ _ _ rfl (by kernel_rfl)
                        clear hK
                        go_simp
                        go_at_call 10; (with_reducible refine (HNX.out wq hS).mono ?_)
                        rintro e w' ⟨rfl, hb⟩
                        exact hC w' (below_step hS hb)
                      refine Reg.from_some 12 rfl rfl (fun a wq hS hK K hC => ?_) ?_
                      · refine Reg.step_on (wanted_on (g := 7) rfl rfl rfl (hK.slot 7 _ _ _ rfl (by kernel_rfl))) ?_
                        have e10 := hK.off 10 _ rfl rfl
                        clear hK
                        go_simp
                        exact hC _ hS
                      refine Reg.from_some 13 rfl rfl (fun a wq hS hK K hC => ?_) ?_
                      · refine Reg.step_on (wanted_on (g := 7) rfl rfl rfl (hK.slot 7 _ _ _ rfl (by kernel_rfl))) ?_
                        have e133 := hK.slot 12 _ _ _ rfl (by kernel_rfl)
                        have hx := keep_below HO12.out hS
                        have j0 := Joins.cell_of_block hx 0
                        have j1 := Joins.cell_of_block hx 1
                        have j2 := Joins.cell_of_block hx 2
                        clear hx
                        clear hK
                        go_simp
                        exact hC _ hS
                      refine Reg.from_some 14 rfl rfl (fun a wq hS hK K hC => ?_) ?_
                      · refine Reg.step_on (wanted_on (g := 7) rfl rfl rfl (hK.slot 7 _ _ _ rfl (by kernel_rfl))) ?_
                        have e134 := hK.slot 13 _ _ _ rfl (by kernel_rfl)
                        clear hK
                        go_simp
                        exact hC _ hS
                      refine Reg.from_some 15 rfl rfl (fun a wq hS hK K hC => ?_) ?_
                      · refine Reg.step_on (wanted_on (g := 7) rfl rfl rfl (hK.slot 7 _ _ _ rfl (by kernel_rfl))) ?_
                        have e132 := hK.slot 11 _ _ _ rfl (by kernel_rfl)
                        have e135 := hK.slot 14 _ _ _ rfl (by kernel_rfl)
                        clear hK
                        go_simp
                        exact hC _ hS
                      refine Reg.from_some 16 rfl rfl (fun a wq hS hK K hC => ?_) ?_
                      · refine Reg.step_on (wanted_on (g := 7) rfl rfl rfl (hK.slot 7 _ _ _ rfl (by kernel_rfl))) ?_
                        have e136 := hK.slot 15 _ _ _ rfl (by kernel_rfl)
                        clear hK
                        go_simp
                        exact hC _ hS
                      refine Reg.from_some 17 rfl rfl (fun a wq hS hK K hC => ?_) ?_
                      · refine Reg.step_on (wanted_on (g := 16) rfl rfl rfl (hK.slot 16 _ _ _ rfl (by kernel_rfl))) ?_
                        have e10 := hK.off 10 _ rfl rfl
                        clear hK
                        go_simp
                        exact hC _ hS
                      refine Reg.from_some 18 rfl rfl (fun a wq hS hK K hC => ?_) ?_
                      · refine Reg.step_on (wanted_on (g := 16) rfl rfl rfl (hK.slot 16 _ _ _ rfl (by kernel_rfl))) ?_
                        have e138 := hK.slot 17 _ _ _ rfl (by kernel_rfl)
                        have hx := keep_below HO12.out hS
                        have j0 := Joins.cell_of_block hx 0
                        have j1 := Joins.cell_of_block hx 1
                        have j2 := Joins.cell_of_block hx 2
                        clear hx
                        clear hK
                        go_simp
                        exact hC _ hS
                      refine Reg.from_some 19 rfl rfl (fun a wq hS hK K hC => ?_) ?_
                      · refine Reg.step_on (wanted_on (g := 16) rfl rfl rfl (hK.slot 16 _ _ _ rfl (by kernel_rfl))) ?_
                        have e1 := hK.off 1 _ rfl rfl
                        clear hK
                        go_simp
                        exact hC _ hS
                      refine Reg.from_some 20 rfl rfl (fun a wq hS hK K hC => ?_) ?_
                      · refine Reg.step_on (wanted_on (g := 16) rfl rfl rfl (hK.slot 16 _ _ _ rfl (by kernel_rfl))) ?_
                        have e139 := hK.slot 18 _ _ _ rfl (by kernel_rfl)
                        have e140 := hK.slot 19 _ _ _ rfl (by kernel_rfl)
                        clear hK
                        go_simp
                        exact hC _ hS
                      refine Reg.from_some 21 rfl rfl (fun a wq hS hK K hC => ?_) ?_
                      · refine Reg.step_on (wanted_on (g := 16) rfl rfl rfl (hK.slot 16 _ _ _ rfl (by kernel_rfl))) ?_
                        have e141 := hK.slot 20 _ _ _ rfl (by kernel_rfl)
                        clear hK
                        go_simp
                        exact hC _ hS
                      refine Reg.from_some 22 rfl rfl (fun a wq hS hK K hC => ?_) ?_
                      · refine Reg.step_off (wanted_off (g := 21) rfl rfl rfl (hK.slot 21 _ _ _ rfl (by kernel_rfl))) ?_
                        exact hC _ hS
                      refine Reg.from_some 23 rfl rfl (fun a wq hS hK K hC => ?_) ?_
                      · refine Reg.step_off (wanted_off (g := 21) rfl rfl rfl (hK.slot 21 _ _ _ rfl (by kernel_rfl))) ?_
                        exact hC _ hS
                      refine Reg.from_some 24 rfl rfl (fun a wq hS hK K hC => ?_) ?_
                      · refine Reg.step_off (wanted_off (g := 21) rfl rfl rfl (hK.slot 21 _ _ _ rfl (by kernel_rfl))) ?_
                        exact hC _ hS
                      refine Reg.from_some 25 rfl rfl (fun a wq hS hK K hC => ?_) ?_
                      · refine Reg.step_off (wanted_off (g := 21) rfl rfl rfl (hK.slot 21 _ _ _ rfl (by kernel_rfl))) ?_
                        exact hC _ hS
                      refine Reg.from_some 26 rfl rfl (fun a wq hS hK K hC => ?_) ?_
                      · refine Reg.step_on (wanted_on (g := 16) rfl rfl rfl (hK.slot 16 _ _ _ rfl (by kernel_rfl))) ?_
                        have e142 := hK.slot 21 _ _ _ rfl (by kernel_rfl)
                        have e146 := hK.slot 25 _ _ _ rfl (by kernel_rfl)
                        clear hK
                        go_simp
                        exact hC _ hS
                      refine Reg.from_some 27 rfl rfl (fun a wq hS hK K hC => ?_) ?_
                      · refine Reg.step_on (wanted_on (g := 7) rfl rfl rfl (hK.slot 7 _ _ _ rfl (by kernel_rfl))) ?_
                        have e137 := hK.slot 16 _ _ _ rfl (by kernel_rfl)
                        have e147 := hK.slot 26 _ _ _ rfl (by kernel_rfl)
                        clear hK
                        go_simp
                        exact hC _ hS
                      refine Reg.from_some 28 rfl rfl (fun a wq hS hK K hC => ?_) ?_
                      · refine Reg.step_on (by rfl) ?_
                        have e128 := hK.slot 7 _ _ _ rfl (by kernel_rfl)
                        have e148 := hK.slot 27 _ _ _ rfl (by kernel_rfl)
                        clear hK
                        go_simp
                        exact hC _ hS
                      exact Reg.from_nil
                    case r4okv => rfl
                    case r4hlt => rfl
                    case r4fin =>
                      intro wz hS
                      simp only [Reg.putV, List.foldl_cons, List.foldl_nil, Act.put, List.setIfInBounds_toArray, List.set_cons_zero, List.set_cons_succ]
                      have HSz := Aside0.mk hS
                      clear hS
                      go_wp2
                      go_meet
                      case rel => exact ⟨rfl, HSz⟩
                · have ex : (x == 0) = false := by simp [hx]
                  clear h1 hx
                  refine Reg.det [(0, 121, ?r2v0), (1, 122, ?r2v1), (2, 123, ?r2v2), (3, 124, ?r2v3), (4, 125, ?r2v4), (5, 126, ?r2v5), (6, 127, ?r2v6), (7, 128, ?r2v7), (8, 129, undef), (9, 130, undef), (10, 131, undef), (11, 132, undef), (12, 133, undef), (13, 134, undef), (14, 135, undef), (15, 136, undef), (16, 137, undef), (17, 138, undef), (18, 139, undef), (19, 140, undef), (20, 141, undef), (21, 142, undef), (22, 143, undef), (23, 144, undef), (24, 145, undef), (25, 146, undef), (26, 147, undef), (27, 148, undef), (28, 149, ?r2v28)] (fun w' => Below wc.heap.size wc w') (by rfl) rfl (by kernel_rfl) ?r2S ?r2steps ?r2okv ?r2hlt ?r2fin
                  case r2S => exact below_drew (Below.refl _ _)
                  case r2steps =>
                    refine Reg.from_some 0 rfl rfl (fun a wq hS hK K hC => ?_) ?_
                    · refine Reg.step_on (by rfl) ?_
                      have e10 := hK.off 10 _ rfl rfl
                      clear hK
                      go_simp
                      exact hC _ hS
                    refine Reg.from_some 1 rfl rfl (fun a wq hS hK K hC => ?_) ?_
                    · refine Reg.step_on (by rfl) ?_
                      have e121 := hK.slot 0 _ _ _ rfl (by kernel_rfl)
                      have hx := keep_below HO12.out hS
                      have j0 := Joins.cell_of_block hx 0
                      have j1 := Joins.cell_of_block hx 1
                      have j2 := Joins.cell_of_block hx 2
                      clear hx
                      clear hK
                      go_simp
                      exact hC _ hS
                    refine Reg.from_some 2 rfl rfl (fun a wq hS hK K hC => ?_) ?_
                    · refine Reg.step_on (by rfl) ?_
                      have e122 := hK.slot 1 _ _ _ rfl (by kernel_rfl)
                      clear hK
                      go_simp
                      exact hC _ hS
                    refine Reg.from_some 3 rfl rfl (fun a wq hS hK K hC => ?_) ?_
                    · refine Reg.step_on (by rfl) ?_
                      have e123 := hK.slot 2 _ _ _ rfl (by kernel_rfl)
                      clear hK
                      go_simp
                      exact hC _ hS
                    refine Reg.from_some 4 rfl rfl (fun a wq hS hK K hC => ?_) ?_
                    · refine Reg.step_on (wanted_on (g := 3) rfl rfl rfl (hK.slot 3 _ _ _ rfl (by kernel_rfl))) ?_
                      have e14 := hK.off 14 _ rfl rfl
                      clear hK
                      go_simp
                      exact hC _ hS
                    refine Reg.from_some 5 rfl rfl (fun a wq hS hK K hC => ?_) ?_
                    · refine Reg.step_on (wanted_on (g := 3) rfl rfl rfl (hK.slot 3 _ _ _ rfl (by kernel_rfl))) ?_
                      have e125 := hK.slot 4 _ _ _ rfl (by kernel_rfl)
                      clear hK
                      go_simp
                      exact hC _ hS
                    refine Reg.from_some 6 rfl rfl (fun a wq hS hK K hC => ?_) ?_
                    · refine Reg.step_on (by rfl) ?_
                      have e124 := hK.slot 3 _ _ _ rfl (by kernel_rfl)
                      have e126 := hK.slot 5 _ _ _ rfl (by kernel_rfl)
                      clear hK
                      go_simp
                      exact hC _ hS
                    refine Reg.from_some 7 rfl rfl (fun a wq hS hK K hC => ?_) ?_
                    · refine Reg.step_on (by rfl) ?_
                      have e127 := hK.slot 6 _ _ _ rfl (by kernel_rfl)
                      clear hK
                      go_simp
                      exact hC _ hS
                    refine Reg.from_some 8 rfl rfl (fun a wq hS hK K hC => ?_) ?_
                    · refine Reg.step_off (wanted_off (g := 7) rfl rfl rfl (hK.slot 7 _ _ _ rfl (by kernel_rfl))) ?_
                      exact hC _ hS
                    refine Reg.from_some 9 rfl rfl (fun a wq hS hK K hC => ?_) ?_
                    · refine Reg.step_off (wanted_off (g := 7) rfl rfl rfl (hK.slot 7 _ _ _ rfl (by kernel_rfl))) ?_
                      exact hC _ hS
                    refine Reg.from_some 10 rfl rfl (fun a wq hS hK K hC => ?_) ?_
                    · refine Reg.step_off (wanted_off (g := 7) rfl rfl rfl (hK.slot 7 _ _ _ rfl (by kernel_rfl))) ?_
                      exact hC _ hS
                    refine Reg.from_some 11 rfl rfl (fun a wq hS hK K hC => ?_) ?_
                    · refine Reg.step_off (wanted_off (g := 7) rfl rfl rfl (hK.slot 7 _ _ _ rfl (by kernel_rfl))) ?_
                      exact hC _ hS
                    refine Reg.from_some 12 rfl rfl (fun a wq hS hK K hC => ?_) ?_
                    · refine Reg.step_off (wanted_off (g := 7) rfl rfl rfl (hK.slot 7 _ _ _ rfl (by kernel_rfl))) ?_
                      exact hC _ hS
                    refine Reg.from_some 13 rfl rfl (fun a wq hS hK K hC => ?_) ?_
                    · refine Reg.step_off (wanted_off (g := 7) rfl rfl rfl (hK.slot 7 _ _ _ rfl (by kernel_rfl))) ?_
                      exact hC _ hS
                    refine Reg.from_some 14 rfl rfl (fun a wq hS hK K hC => ?_) ?_
                    · refine Reg.step_off (wanted_off (g := 7) rfl rfl rfl (hK.slot 7 _ _ _ rfl (by kernel_rfl))) ?_
                      exact hC _ hS
                    refine Reg.from_some 15 rfl rfl (fun a wq hS hK K hC => ?_) ?_
                    · refine Reg.step_off (wanted_off (g := 7) rfl rfl rfl (hK.slot 7 _ _ _ rfl (by kernel_rfl))) ?_
                      exact hC _ hS
                    refine Reg.from_some 16 rfl rfl (fun a wq hS hK K hC => ?_) ?_
                    · refine Reg.step_off (wanted_off (g := 7) rfl rfl rfl (hK.slot 7 _ _ _ rfl (by kernel_rfl))) ?_
                      exact hC _ hS
                    refine Reg.from_some 17 rfl rfl (fun a wq hS hK K hC => ?_) ?_
                    · refine Reg.step_off (Reg.wanted_undef (g := 16) rfl rfl rfl (hK.slot 16 _ _ _ rfl (by kernel_rfl))) ?_
                      exact hC _ hS
                    refine Reg.from_some 18 rfl rfl (fun a wq hS hK K hC => ?_) ?_
                    · refine Reg.step_off (Reg.wanted_undef (g := 16) rfl rfl rfl (hK.slot 16 _ _ _ rfl (by kernel_rfl))) ?_
                      exact hC _ hS
                    refine Reg.from_some 19 rfl rfl (fun a wq hS hK K hC => ?_) ?_
                    · refine Reg.step_off (Reg.wanted_undef (g := 16) rfl rfl rfl (hK.slot 16 _ _ _ rfl (by kernel_rfl))) ?_
                      exact hC _ hS
                    refine Reg.from_some 20 rfl rfl (fun a wq hS hK K hC => ?_) ?_
                    · refine Reg.step_off (Reg.wanted_undef (g := 16) rfl rfl rfl (hK.slot 16 _ _ _ rfl (by kernel_rfl))) ?_
                      exact hC _ hS
                    refine Reg.from_some 21 rfl rfl (fun a wq hS hK K hC => ?_) ?_
                    · refine Reg.step_off (Reg.wanted_undef (g := 16) rfl rfl rfl (hK.slot 16 _ _ _ rfl (by kernel_rfl))) ?_
                      exact hC _ hS
                    refine Reg.from_some 22 rfl rfl (fun a wq hS hK K hC => ?_) ?_
                    · refine Reg.step_off (Reg.wanted_undef (g := 21) rfl rfl rfl (hK.slot 21 _ _ _ rfl (by kernel_rfl))) ?_
                      exact hC _ hS
                    refine Reg.from_some 23 rfl rfl (fun a wq hS hK K hC => ?_) ?_
                    · refine Reg.step_off (Reg.wanted_undef (g := 21) rfl rfl rfl (hK.slot 21 _ _ _ rfl (by kernel_rfl))) ?_
                      exact hC _ hS
                    refine Reg.from_some 24 rfl rfl (fun a wq hS hK K hC => ?_) ?_
                    · refine Reg.step_off (Reg.wanted_undef (g := 21) rfl rfl rfl (hK.slot 21 _ _ _ rfl (by kernel_rfl))) ?_
                      exact hC _ hS
                    refine Reg.from_some 25 rfl rfl (fun a wq hS hK K hC => ?_) ?_
                    · refine Reg.step_off (Reg.wanted_undef (g := 21) rfl rfl rfl (hK.slot 21 _ _ _ rfl (by kernel_rfl))) ?_
                      exact hC _ hS
                    refine Reg.from_some 26 rfl rfl (fun a wq hS hK K hC => ?_) ?_
                    · refine Reg.step_off (Reg.wanted_undef (g := 16) rfl rfl rfl (hK.slot 16 _ _ _ rfl (by kernel_rfl))) ?_
                      exact hC _ hS
                    refine Reg.from_some 27 rfl rfl (fun a wq hS hK K hC => ?_) ?_
                    · refine Reg.step_off (wanted_off (g := 7) rfl rfl rfl (hK.slot 7 _ _ _ rfl (by kernel_rfl))) ?_
                      exact hC _ hS
                    refine Reg.from_some 28 rfl rfl (fun a wq hS hK K hC => ?_) ?_
                    · refine Reg.step_on (by rfl) ?_
                      have e128 := hK.slot 7 _ _ _ rfl (by kernel_rfl)
                      have e148 := hK.slot 27 _ _ _ rfl (by kernel_rfl)
                      clear hK
                      go_simp
                      exact hC _ hS
                    exact Reg.from_nil
                  case r2okv => rfl
                  case r2hlt => rfl
                  case r2fin =>
                    intro wz hS
                    simp only [Reg.putV, List.foldl_cons, List.foldl_nil, Act.put, List.setIfInBounds_toArray, List.set_cons_zero, List.set_cons_succ]
                    have HSz := Aside0.mk hS
                    clear hS
                    go_wp2
                    go_meet
                    case rel => exact ⟨rfl, HSz⟩
              · have e1 : (o.k == 1) = false := by simp [h1]
                clear h1
                refine Reg.det [(0, 121, ?r1v0), (1, 122, ?r1v1), (2, 123, ?r1v2), (3, 124, ?r1v3), (4, 125, undef), (5, 126, undef), (6, 127, ?r1v6), (7, 128, ?r1v7), (8, 129, undef), (9, 130, undef), (10, 131, undef), (11, 132, undef), (12, 133, undef), (13, 134, undef), (14, 135, undef), (15, 136, undef), (16, 137, undef), (17, 138, undef), (18, 139, undef), (19, 140, undef), (20, 141, undef), (21, 142, undef), (22, 143, undef), (23, 144, undef), (24, 145, undef), (25, 146, undef), (26, 147, undef), (27, 148, undef), (28, 149, ?r1v28)] (fun w' => Below wc.heap.size wc w') (by rfl) rfl (by kernel_rfl) ?r1S ?r1steps ?r1okv ?r1hlt ?r1fin
                case r1S => exact below_drew (Below.refl _ _)
                case r1steps =>
                  refine Reg.from_some 0 rfl rfl (fun a wq hS hK K hC => ?_) ?_
                  · refine Reg.step_on (by rfl) ?_
                    have e10 := hK.off 10 _ rfl rfl
                    clear hK
                    go_simp
                    exact hC _ hS
                  refine Reg.from_some 1 rfl rfl (fun a wq hS hK K hC => ?_) ?_
                  · refine Reg.step_on (by rfl) ?_
                    have e121 := hK.slot 0 _ _ _ rfl (by kernel_rfl)
                    have hx := keep_below HO12.out hS
                    have j0 := Joins.cell_of_block hx 0
                    have j1 := Joins.cell_of_block hx 1
                    have j2 := Joins.cell_of_block hx 2
                    clear hx
                    clear hK
                    go_simp
                    exact hC _ hS
                  refine Reg.from_some 2 rfl rfl (fun a wq hS hK K hC => ?_) ?_
                  · refine Reg.step_on (by rfl) ?_
                    have e122 := hK.slot 1 _ _ _ rfl (by kernel_rfl)
                    clear hK
                    go_simp
                    exact hC _ hS
                  refine Reg.from_some 3 rfl rfl (fun a wq hS hK K hC => ?_) ?_
                  · refine Reg.step_on (by rfl) ?_
                    have e123 := hK.slot 2 _ _ _ rfl (by kernel_rfl)
                    clear hK
                    go_simp
                    exact hC _ hS
                  refine Reg.from_some 4 rfl rfl (fun a wq hS hK K hC => ?_) ?_
                  · refine Reg.step_off (wanted_off (g := 3) rfl rfl rfl (hK.slot 3 _ _ _ rfl (by kernel_rfl))) ?_
                    exact hC _ hS
                  refine Reg.from_some 5 rfl rfl (fun a wq hS hK K hC => ?_) ?_
                  · refine Reg.step_off (wanted_off (g := 3) rfl rfl rfl (hK.slot 3 _ _ _ rfl (by kernel_rfl))) ?_
                    exact hC _ hS
                  refine Reg.from_some 6 rfl rfl (fun a wq hS hK K hC => ?_) ?_
                  · refine Reg.step_on (by rfl) ?_
                    have e124 := hK.slot 3 _ _ _ rfl (by kernel_rfl)
                    have e126 := hK.slot 5 _ _ _ rfl (by kernel_rfl)
                    clear hK
                    go_simp
                    exact hC _ hS
                  refine Reg.from_some 7 rfl rfl (fun a wq hS hK K hC => ?_) ?_
                  · refine Reg.step_on (by rfl) ?_
                    have e127 := hK.slot 6 _ _ _ rfl (by kernel_rfl)
                    clear hK
                    go_simp
                    exact hC _ hS
                  refine Reg.from_some 8 rfl rfl (fun a wq hS hK K hC => ?_) ?_
                  · refine Reg.step_off (wanted_off (g := 7) rfl rfl rfl (hK.slot 7 _ _ _ rfl (by kernel_rfl))) ?_
                    exact hC _ hS
                  refine Reg.from_some 9 rfl rfl (fun a wq hS hK K hC => ?_) ?_
                  · refine Reg.step_off (wanted_off (g := 7) rfl rfl rfl (hK.slot 7 _ _ _ rfl (by kernel_rfl))) ?_
                    exact hC _ hS
                  refine Reg.from_some 10 rfl rfl (fun a wq hS hK K hC => ?_) ?_
                  · refine Reg.step_off (wanted_off (g := 7) rfl rfl rfl (hK.slot 7 _ _ _ rfl (by kernel_rfl))) ?_
                    exact hC _ hS
                  refine Reg.from_some 11 rfl rfl (fun a wq hS hK K hC => ?_) ?_
                  · refine Reg.step_off (wanted_off (g := 7) rfl rfl rfl (hK.slot 7 _ _ _ rfl (by kernel_rfl))) ?_
                    exact hC _ hS
                  refine Reg.from_some 12 rfl rfl (fun a wq hS hK K hC => ?_) ?_
                  · refine Reg.step_off (wanted_off (g := 7) rfl rfl rfl (hK.slot 7 _ _ _ rfl (by kernel_rfl))) ?_
                    exact hC _ hS
                  refine Reg.from_some 13 rfl rfl (fun a wq hS hK K hC => ?_) ?_
                  · refine Reg.step_off (wanted_off (g := 7) rfl rfl rfl (hK.slot 7 _ _ _ rfl (by kernel_rfl))) ?_
                    exact hC _ hS
                  refine Reg.from_some 14 rfl rfl (fun a wq hS hK K hC => ?_) ?_
                  · refine Reg.step_off (wanted_off (g := 7) rfl rfl rfl (hK.slot 7 _ _ _ rfl (by kernel_rfl))) ?_
                    exact hC _ hS
                  refine Reg.from_some 15 rfl rfl (fun a wq hS hK K hC => ?_) ?_
                  · refine Reg.step_off (wanted_off (g := 7) rfl rfl rfl (hK.slot 7 _ _ _ rfl (by kernel_rfl))) ?_
                    exact hC _ hS
                  refine Reg.from_some 16 rfl rfl (fun a wq hS hK K hC => ?_) ?_
                  · refine Reg.step_off (wanted_off (g := 7) rfl rfl rfl (hK.slot 7 _ _ _ rfl (by kernel_rfl))) ?_
                    exact hC _ hS
                  refine Reg.from_some 17 rfl rfl (fun a wq hS hK K hC => ?_) ?_
                  · refine Reg.step_off (Reg.wanted_undef (g := 16) rfl rfl rfl (hK.slot 16 _ _ _ rfl (by kernel_rfl))) ?_
                    exact hC _ hS
                  refine Reg.from_some 18 rfl rfl (fun a wq hS hK K hC => ?_) ?_
                  · refine Reg.step_off (Reg.wanted_undef (g := 16) rfl rfl rfl (hK.slot 16 _ _ _ rfl (by kernel_rfl))) ?_
                    exact hC _ hS
                  refine Reg.from_some 19 rfl rfl (fun a wq hS hK K hC => ?_) ?_
                  · refine Reg.step_off (Reg.wanted_undef (g := 16) rfl rfl rfl (hK.slot 16 _ _ _ rfl (by kernel_rfl))) ?_
                    exact hC _ hS
                  refine Reg.from_some 20 rfl rfl (fun a wq hS hK K hC => ?_) ?_
                  · refine Reg.step_off (Reg.wanted_undef (g := 16) rfl rfl rfl (hK.slot 16 _ _ _ rfl (by kernel_rfl))) ?_
                    exact hC _ hS
                  refine Reg.from_some 21 rfl rfl (fun a wq hS hK K hC => ?_) ?_
                  · refine Reg.step_off (Reg.wanted_undef (g := 16) rfl rfl rfl (hK.slot 16 _ _ _ rfl (by kernel_rfl))) ?_
                    exact hC _ hS
                  refine Reg.from_some 22 rfl rfl (fun a wq hS hK K hC => ?_) ?_
                  · refine Reg.step_off (Reg.wanted_undef (g := 21) rfl rfl rfl (hK.slot 21 _ _ _ rfl (by kernel_rfl))) ?_
                    exact hC _ hS
                  refine Reg.from_some 23 rfl rfl (fun a wq hS hK K hC => ?_) ?_
                  · refine Reg.step_off (Reg.wanted_undef (g := 21) rfl rfl rfl (hK.slot 21 _ _ _ rfl (by kernel_rfl))) ?_
                    exact hC _ hS
                  refine Reg.from_some 24 rfl rfl (fun a wq hS hK K hC => ?_) ?_
                  · refine Reg.step_off (Reg.wanted_undef (g := 21) rfl rfl rfl (hK.slot 21 _ _ _ rfl (by kernel_rfl))) ?_
                    exact hC _ hS
                  refine Reg.from_some 25 rfl rfl (fun a wq hS hK K hC => ?_) ?_
                  · refine Reg.step_off (Reg.wanted_undef (g := 21) rfl rfl rfl (hK.slot 21 _ _ _ rfl (by kernel_rfl))) ?_
                    exact hC _ hS
                  refine Reg.from_some 26 rfl rfl (fun a wq hS hK K hC => ?_) ?_
                  · refine Reg.step_off (Reg.wanted_undef (g := 16) rfl rfl rfl (hK.slot 16 _ _ _ rfl (by kernel_rfl))) ?_
                    exact hC _ hS
                  refine Reg.from_some 27 rfl rfl (fun a wq hS hK K hC => ?_) ?_
                  · refine Reg.step_off (wanted_off (g := 7) rfl rfl rfl (hK.slot 7 _ _ _ rfl (by kernel_rfl))) ?_
                    exact hC _ hS
                  refine Reg.from_some 28 rfl rfl (fun a wq hS hK K hC => ?_) ?_
                  · refine Reg.step_on (by rfl) ?_
                    have e128 := hK.slot 7 _ _ _ rfl (by kernel_rfl)
                    have e148 := hK.slot 27 _ _ _ rfl (by kernel_rfl)
                    clear hK
                    go_simp
                    exact hC _ hS
                  exact Reg.from_nil
                case r1okv => rfl
                case r1hlt => rfl
                case r1fin =>
                  intro wz hS
                  simp only [Reg.putV, List.foldl_cons, List.foldl_nil, Act.put, List.setIfInBounds_toArray, List.set_cons_zero, List.set_cons_succ]
                  have HSz := Aside0.mk hS
                  clear hS
                  go_wp2
                  go_meet
                  case rel => exact ⟨rfl, HSz⟩
            case rest =>
              obtain ⟨rfl, HB13⟩ := hcut
              have H13 := Aside0.mk (H12.out.grow HB13.out)
              have HO13 := Aside0.mk (keep_below HO12.out HB13.out)
              go_upto_region 24 with (fail)
              go_cut [163] from 33 to 163 (fun v wx => v = .bool false ∧ Aside0 (Below wc.heap.size wc wx))
              case first =>
                have j0 := Joins.cell_of_block HO13.out 0
                have j1 := Joins.cell_of_block HO13.out 1
                by_cases h2 : o.k = 2
                · have e1 : (o.k == 2) = true := by simp [h2]
                  by_cases hx : x = 0
                  · have ex : (x == 0) = true := by simp [hx]
                    have hn := HTc.out.2.2.2.2 h2 hx
                    have HNX := Aside0.mk (show Calls Try.prog 10 #[cp gc, .int .i64 o.b] wc (fun e w2 => e = .returned (.int .i64 0) ∧ Below wc.heap.size wc w2) from (next_any H13.out o.b).mono fun e w2 h => ⟨h.1.trans (by rw [hn]), h.2⟩)
                    clear h2 hx hn
                    go_wp2_with (first
                      | (go_at_call 10; (with_reducible refine HNX.out.mono ?_); rintro e wz ⟨rfl, hbz⟩; have HBz := Aside0.mk hbz; clear hbz))
                    go_meet
                    case rel => exact ⟨rfl, HBz⟩
                  · have ex : (x == 0) = false := by simp [hx]
                    clear h2 hx
                    go_wp2
                    go_meet
                    case rel => exact ⟨rfl, ⟨Below.refl _ _⟩⟩
                · have e1 : (o.k == 2) = false := by simp [h2]
                  clear h2
                  go_wp2
                  go_meet
                  case rel => exact ⟨rfl, ⟨Below.refl _ _⟩⟩
              case rest =>
                obtain ⟨rfl, HB14⟩ := hcut
                have H14 := Aside0.mk (H13.out.grow HB14.out)
                have hi9 : (i : Int) + 1 ≤ 9223372036854775807 := by omega
                go_wp2
                go_roundg (gk - 1)
                case measure => omega
                case rel => exact ⟨i + 1, m', D', by omega, by push_cast; rfl, H14, ⟨HTc.out.1⟩, ⟨HTc.out.2.1⟩⟩
    · obtain rfl : i = l.length := by omega
      go_wp2
      go_ret
      exact ⟨rfl, HS.out.below⟩
end Go.Proofs.Ytnhlfbkpohidpaa.PAll

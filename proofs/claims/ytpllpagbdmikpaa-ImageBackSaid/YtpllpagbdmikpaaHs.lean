import Derived.Test.YtpllpagbdmikpaaHq
import Derived.Test.YtpllpagbdmikpaaPAllx11
namespace Go.Proofs.Ytpllpagbdmikpaa.PAll
open Go.RowKit Go.Proofs.YtpllpagbdmikpaaW.PrintWords Go.Proofs.YtpllpagbdmikpaaW.PrintLast Go.Proofs.YtpllpagbdmikpaaW.PrintMore Go.Proofs.Ytpllpagbdmikpaa.Plain
set_option linter.unusedSimpArgs false
set_option linter.unusedVariables false
attribute [local go_sem] max2_int min2_int max_two min_two max_three min_three max_four min_four
theorem same_l0 (l : List S50) (hl : l.length ≤ 9223372036854775806) : ∀ (d i : Nat), i + d = l.length → Ev (fun k => pumicelaw10_same.l0 k (l.map conv) l (i : Int)) true
  | 0, i, hi => by
    refine Ev.step (f := fun _ => some _) (fun k => ?_) (Ev.now _)
    simp only [pumicelaw10_same.l0]
    rw [if_neg (by rw [List.length_map]; omega)]
  | d + 1, i, hi => by
    have h2 := same_l0 l hl d (i + 1) (by omega)
    refine Ev.step (fun k => ?_) h2
    have hlt : i < l.length := by omega
    have hw : wrap64 ((i : Int) + 1) = ((i + 1 : Nat) : Int) := by rw [IntWalk.wrap64_in ((i : Int) + 1) (by omega)]; rfl
    have hx : rd_T50 l (i : Int) = l[i] := by simp [rd_T50, List.getD, hlt]
    have hy : rd_T69 (l.map conv) (i : Int) = conv l[i] := by simp [rd_T69, List.getD, hlt]
    simp only [pumicelaw10_same.l0]
    rw [if_pos (by rw [List.length_map]; omega), if_pos (by omega), if_pos (by omega), hx, hy, hw]
    rw [if_pos (show (conv l[i]).f0.toList = l[i].f0.toList from rfl), if_pos (show (conv l[i]).f1.f0 = l[i].f1.f0 from rfl), if_pos (show (conv l[i]).f1.f1 = l[i].f1.f1 from rfl), if_pos (show (conv l[i]).f1.f2 = l[i].f1.f2 from rfl)]
theorem same_ev (l : List S50) (hl : l.length ≤ 9223372036854775806) : ∃ K, pumicelaw10_same.f K (l.map conv) l = some true := by
  obtain ⟨K, hK⟩ := same_l0 l hl l.length 0 (by omega)
  refine ⟨K, ?_⟩
  unfold pumicelaw10_same.f
  rw [if_pos (by rw [List.length_map])]
  exact hK K (Nat.le_refl _)
theorem unpackR_len (l : List Int) (hl : Bytes l) : (unpackR l).2.2.length ≤ 255 := by
  have slen : ∀ (k : Nat) (l : List Int) (x : List S69 × List Int), slotsN k l = some x → x.1.length = k := by
    intro k
    induction k with
    | zero => intro l x h; simp only [slotsN, Option.some.injEq] at h; subst h; rfl
    | succ k ih =>
      intro l x h
      rw [slotsN] at h
      obtain ⟨y, hy, h⟩ := Option.bind_eq_some_iff.1 h
      obtain ⟨z, hz, rfl⟩ := Option.map_eq_some_iff.1 h
      simp [ih _ _ hz]
  by_cases h3 : l.length < 3
  · rw [unpackR_short h3]; simp
  · by_cases h84 : rd l 0 = 84
    · rw [unpackR_is (by omega) h84]
      cases hs : slotsN (rd l 2).toNat (l.drop 3) with
      | none => simp
      | some y =>
        simp only
        have h1 := slen _ _ _ hs
        have h2 := rd_lt l hl 2
        split
        · simp only; omega
        · simp
    · rw [unpackR_head h84]; simp
set_option maxRecDepth 100000 in
set_option maxHeartbeats 4000000 in
theorem ImageUnpacks_calls (A : Option Addr) (c : Nat) (l : List Int) (w : World) (hr : Kd.C (Kd.int .u8) w A l.length l) (hc : l.length ≤ c) (hB : Bytes l) (hL : l.length ≤ 140737488351232) :
    Calls Try.prog 7 #[.slice A l.length c] w fun e w' => e = .returned (.bool true) ∧ Below w.heap.size w w' := by
  obtain ⟨ok, hok⟩ : ∃ x, x = (unpackR l).1 := ⟨_, rfl⟩
  obtain ⟨lv, hlv⟩ : ∃ x, x = (unpackR l).2.1 := ⟨_, rfl⟩
  obtain ⟨la, hla⟩ : ∃ x, x = (unpackR l).2.2.map unc := ⟨_, rfl⟩
  obtain ⟨acc, hacc⟩ : ∃ x, x = la.map conv := ⟨_, rfl⟩
  have hac2 : acc = (unpackR l).2.2 := by rw [hacc, hla, map_unc]
  have hlen : la.length ≤ 255 := by rw [hla, List.length_map]; exact unpackR_len l hB
  obtain ⟨KS, hKS⟩ := same_ev la (by omega)
  rw [← hacc] at hKS
  have HKS := Aside0.mk hKS
  have NU := Aside0.mk (fun A c w h1 h2 => unpack_any A c l w h1 h2 hB)
  have NR := Aside0.mk (fun w h1 => runpack_any A c l w h1 hc hB hL)
  rw [← hok, ← hlv, ← hac2] at NU
  rw [← hok, ← hlv, ← hla] at NR
  have HR := Aside0.mk hr
  have hu37 := Try.underlying37
  have hu31 := Try.underlying31
  have e1 : (ok == ok) = true := by simp
  clear hok hlv hla hacc hac2 hKS hr hB hlen
  go_enter Try.func7, Try.ntmps7
  go_wp2_with (first
    | ((with_reducible refine gate_builtin (b := .append) (xs := #[.tmp 8, .tmp 9]) rfl ?_); at_builtin; refine Kd.R_append_rows (Kd.int .u8) (w0 := w) w.heap.size rfl (.tmp 8) (.tmp 9) 32 5 (.int .u8 0) 1 rfl Try.underlying32 info5 rfl Nat.zero_lt_one Nat.zero_lt_one (.slice (some ⟨w.heap.size, 0, none⟩) 0 0) [] l A l.length c (fun _ => True) (fun _ => False) rfl rfl ?o8 ?r8 (fun _ _ h => h) (fun _ h => h.elim) ?f8 ?b8 ?s8 ?l8 ?_; (case o8 => exact R_ints (xs := []) (new_blk _ _ _) (Nat.le_refl _) (Nat.zero_le _)); (case r8 => exact Kd.C_alloc HR.out _); (case f8 => exact fun _ _ => trivial); (case b8 => exact below_alloc (Below.refl _ _) _); (case s8 => exact below_size (below_alloc (Below.refl _ _) _)); (case l8 => simp only [List.length_nil]; omega); intro v1 w1 ho hb hg _; rw [List.nil_append] at ho; have HO1 := Aside0.mk ho; have HB1 := Aside0.mk hb; obtain ⟨A1, c1, e1⟩ := Kd.R_slice ho; subst e1; clear ho hb hg)
    | (go_at_call 24; (refine (NU.out A1 c1 _ (Kd.R_reads' HO1.out).2.2 (Kd.R_reads' HO1.out).2.1).mono ?_); rintro e w2 ⟨v2, rfl, ho2, hb2⟩; have HB2 := Aside0.mk hb2; obtain ⟨A2, c2, e2⟩ := Kd.R_slice ho2; subst e2; have HO2 := Aside0.mk (Kd.R_reads' ho2); have HX2 := Aside0.mk (new_blk w2 #[.int .i64 lv, .slice A2 acc.length c2] 37); clear ho2 hb2)
    | (go_at_call 25; (refine (NR.out _ ?a25).mono ?_); (case a25 => exact Kd.C_alloc (Kd.C_below HR.out (below_step HB1.out HB2.out)) _); rintro e w3 ⟨v3, rfl, ho3, hb3⟩; have HO3 := Aside0.mk ho3; have HB3 := Aside0.mk hb3; obtain ⟨A3, c3, e3⟩ := Kd.R_slice ho3; subst e3; have hx3 := keep_below HX2.out hb3; have x30 : ∀ o, (w3.alloc o).cell? ⟨w2.heap.size, 0, none⟩ = some (.int .i64 lv) := fun o => Joins.cell_of_block (keep_alloc hx3 o) 0; have x31 : ∀ o, (w3.alloc o).cell? ⟨w2.heap.size, 1, none⟩ = some (.slice A2 acc.length c2) := fun o => Joins.cell_of_block (keep_alloc hx3 o) 1; clear ho3 hb3 hx3)
    | (go_at_call 26; (with_reducible refine (pumicelaw10_same.calls KS A2 c2 acc A3 c3 la true _ ?c1 ?c2 ?c3 ?c4 HKS.out).mono ?_); (case c1 => exact Kd.C_alloc (Kd.C_below HO2.out.2.2 (below_step (below_alloc (Below.refl _ _) _) HB3.out)) _); (case c2 => exact HO2.out.2.1); (case c3 => exact Kd.C_alloc (Kd.R_reads' HO3.out).2.2 _); (case c4 => exact (Kd.R_reads' HO3.out).2.1); rintro e w4 ⟨rfl, hb4⟩; have HB4 := Aside0.mk hb4; clear hb4)
    | (go_at_call 14; (refine (alive_calls _).mono ?_); rintro e w5 ⟨rfl, hb5⟩; have HB5 := Aside0.mk hb5; clear hb5))
  go_ret
  exact ⟨rfl, below_step (below_step (below_alloc (below_step (below_alloc (below_step HB1.out HB2.out) _) HB3.out) _) HB4.out.below) HB5.out⟩
end Go.Proofs.Ytpllpagbdmikpaa.PAll

import Derived.Test.YtpllpagbdmikpaaHs
namespace Go.Proofs.Ytpllpagbdmikpaa.PAll
open Go.RowKit Go.Proofs.YtpllpagbdmikpaaW.PrintWords Go.Proofs.YtpllpagbdmikpaaW.PrintLast Go.Proofs.YtpllpagbdmikpaaW.PrintMore Go.Proofs.Ytpllpagbdmikpaa.Plain
set_option linter.unusedSimpArgs false
set_option linter.unusedVariables false
attribute [local go_sem] max2_int min2_int max_two min_two max_three min_three max_four min_four
/-! ### what was packed is unpacked -/
theorem slotsN_pack : ∀ (l : List S69), (∀ s ∈ l, strOfNums (bytesOf s.f0) = s.f0 ∧ plOk s.f1.f0 s.f1.f1 s.f1.f2 = true) → slotsN l.length (l.flatMap slotBytes) = some (l, [])
  | [], _ => rfl
  | s :: l, h => by
    have h1 := h s List.mem_cons_self
    have ih := slotsN_pack l (fun x hx => h x (List.mem_cons_of_mem _ hx))
    rw [List.flatMap_cons, List.length_cons]
    unfold slotsN
    rw [slot1_slot s _ h1.1 h1.2, Option.bind_some, ih]
    rfl
theorem str_bytes (s : ByteArray) : strOfNums (bytesOf s) = s := by
  cases s with
  | mk d =>
    unfold strOfNums bytesOf
    simp [Function.comp_def]
theorem right_pl {lv : Int} {l : List S69} (h : rightB lv l = true) {s : S69} (hs : s ∈ l) : plOk s.f1.f0 s.f1.f1 s.f1.f2 = true := by
  obtain ⟨k, hk, rfl⟩ := List.mem_iff_getElem.1 hs
  unfold rightB at h
  rw [Bool.and_eq_true, List.all_eq_true] at h
  have h2 := h.2 k (List.mem_range.2 hk)
  unfold slotOk at h2
  rw [Bool.and_eq_true, Bool.and_eq_true] at h2
  have e : l.getD k z69 = l[k] := by simp [List.getD, hk]
  rw [e] at h2
  exact h2.1.2
theorem unpack_pack {lv : Int} {l : List S69} (h : rightB lv l = true) : unpackR (packL lv l) = (true, lv, l) := by
  obtain ⟨h1, h2, h3, h4⟩ := right_8 h
  unfold unpackR packL
  rw [show [84, lv, ((l.length : Nat) : Int)] ++ l.flatMap slotBytes = 84 :: lv :: ((l.length : Nat) : Int) :: l.flatMap slotBytes from rfl]
  unfold unpackL
  simp only [Int.toNat_natCast]
  rw [slotsN_pack l (fun s hs => ⟨str_bytes _, right_pl h hs⟩), Option.bind_some, if_pos ⟨rfl, h⟩]
theorem bytesOf_bytes (s : ByteArray) : Bytes (bytesOf s) := fun x hx => by
  unfold bytesOf at hx
  obtain ⟨u, _, rfl⟩ := List.mem_map.1 hx
  have := u.toNat_lt
  omega
theorem pack_bytes {lv : Int} {l : List S69} (h : rightB lv l = true) : Bytes (packL lv l) := by
  obtain ⟨h1, h2, h3, h4⟩ := right_8 h
  intro x hx
  unfold packL at hx
  rw [List.mem_append] at hx
  rcases hx with hx | hx
  · simp only [List.mem_cons, List.not_mem_nil, or_false] at hx
    rcases hx with rfl | rfl | rfl <;> omega
  · obtain ⟨s, hs, hx⟩ := List.mem_flatMap.1 hx
    obtain ⟨k, hk, rfl⟩ := List.mem_iff_getElem.1 hs
    have hz := right_key h hk
    have e : l.getD k z69 = l[k] := by simp [List.getD, hk]
    rw [e] at hz
    unfold slotBytes at hx
    simp only [List.mem_append, List.mem_cons, List.not_mem_nil, or_false] at hx
    rcases hx with (((rfl | hx) | hx) | hx) | hx
    · omega
    · exact bytesOf_bytes _ x hx
    · exact Bytes.putL _ _ x hx
    · exact Bytes.putL _ _ x hx
    · exact Bytes.putL _ _ x hx
theorem packL_579 {lv : Int} {l : List S69} (h : rightB lv l = true) : (packL lv l).length ≤ 579 := by
  have h8 := (right_8 h).2.2.2
  have hk : ∀ k, k ≤ l.length → (packTo lv l k).length ≤ 3 + 72 * k := by
    intro k
    induction k with
    | zero => intro _; simp [packTo]
    | succ k ih =>
      intro hk
      rw [packTo_succ lv l k (by omega), List.length_append, slotBytes_len]
      have := right_key h (k := k) (by omega)
      have := ih (by omega)
      omega
  have := hk l.length (Nat.le_refl _)
  rw [packTo_all] at this
  omega
theorem strOfNums_inj {a b : List Int} (ha : Bytes a) (hb : Bytes b) (h : strOfNums a = strOfNums b) : a = b := by
  have key : ∀ l : List Int, Bytes l → bytesOf (strOfNums l) = l := by
    intro l hl
    unfold bytesOf strOfNums
    simp only [List.map_map]
    conv => rhs; rw [← List.map_id l]
    refine List.map_congr_left (fun x hx => ?_)
    have := hl x hx
    simp only [Function.comp, id]
    rw [UInt8.toNat_ofNat']
    omega
  rw [← key a ha, ← key b hb, h]
theorem pack_inj {lv lv2 : Int} {l l2 : List S69} (h : rightB lv l = true) (h2 : rightB lv2 l2 = true) (he : strOfNums (packL lv l) = strOfNums (packL lv2 l2)) : lv = lv2 ∧ l = l2 := by
  have e := strOfNums_inj (pack_bytes h) (pack_bytes h2) he
  have u1 := unpack_pack h
  have u2 := unpack_pack h2
  rw [e, u2] at u1
  simp only [Prod.mk.injEq, true_and] at u1
  exact ⟨u1.1.symm, u1.2.symm⟩
theorem s69_eq {a b : S69} (h : a.f0.toList = b.f0.toList ∧ a.f1.f0 = b.f1.f0 ∧ a.f1.f1 = b.f1.f1 ∧ a.f1.f2 = b.f1.f2) : a = b := by
  obtain ⟨⟨a0⟩, ⟨a1, a2, a3⟩⟩ := a
  obtain ⟨⟨b0⟩, ⟨b1, b2, b3⟩⟩ := b
  obtain ⟨h0, h1, h2, h3⟩ := h
  simp only at h1 h2 h3
  subst h1 h2 h3
  have : a0 = b0 := by
    apply Array.toList_inj.1
    rw [Lib.toList_data, Lib.toList_data] at h0
    exact h0
  subst this
  rfl
theorem equal_l0 (a b : List S69) (hab : a.length = b.length) (hl : a.length ≤ 3518437208883) : ∀ (d i : Nat), i + d = a.length → ∃ r : Bool, Ev (fun k => pumicelaw10_equal.l0 k a b (i : Int)) r ∧ (r = true ↔ a.drop i = b.drop i)
  | 0, i, hi => by
    refine ⟨true, Ev.step (f := fun _ => some _) (fun k => ?_) (Ev.now _), ?_⟩
    · simp only [pumicelaw10_equal.l0]
      rw [if_neg (by omega)]
    · rw [List.drop_of_length_le (by omega), List.drop_of_length_le (by omega)]
      simp
  | d + 1, i, hi => by
    obtain ⟨r, hr, hrr⟩ := equal_l0 a b hab hl d (i + 1) (by omega)
    have hlt : i < a.length := by omega
    have hw : wrap64 ((i : Int) + 1) = ((i + 1 : Nat) : Int) := by rw [IntWalk.wrap64_in ((i : Int) + 1) (by omega)]; rfl
    have hx : rd_T69 a (i : Int) = a[i] := by simp [rd_T69, List.getD, hlt]
    have hy : rd_T69 b (i : Int) = b[i] := by simp [rd_T69, List.getD, show i < b.length by omega]
    have hda : a.drop i = a[i] :: a.drop (i + 1) := List.drop_eq_getElem_cons hlt
    have hdb : b.drop i = b[i] :: b.drop (i + 1) := List.drop_eq_getElem_cons (by omega)
    by_cases he : a[i] = b[i]
    · refine ⟨r, Ev.step (fun k => ?_) hr, ?_⟩
      · simp only [pumicelaw10_equal.l0]
        rw [if_pos (by omega), if_pos (by omega), if_pos (by omega), hx, hy, hw, he]
        simp
      · rw [hrr, hda, hdb, he, List.cons.injEq]
        simp
    · refine ⟨false, Ev.step (f := fun _ => some _) (fun k => ?_) (Ev.now _), ?_⟩
      · simp only [pumicelaw10_equal.l0]
        rw [if_pos (by omega), if_pos (by omega), if_pos (by omega), hx, hy, if_pos]
        cases hc : (!((a[i].f0).toList == (b[i].f0).toList) || ((!((a[i].f1.f0) == (b[i].f1.f0)) || (!((a[i].f1.f1) == (b[i].f1.f1)) || (!((a[i].f1.f2) == (b[i].f1.f2))))))) with
        | true => rfl
        | false =>
          simp only [Bool.or_eq_false_iff, Bool.not_eq_false', beq_iff_eq] at hc
          exact absurd (s69_eq ⟨hc.1, hc.2.1, hc.2.2.1, hc.2.2.2⟩) he
      · rw [hda, hdb]
        constructor
        · intro h; cases h
        · intro h
          exact absurd (List.cons.inj h).1 he
theorem equal_ev (a b : List S69) (hl : a.length ≤ 3518437208883) : ∃ (r : Bool) (K : Nat), pumicelaw10_equal.f K a b = some r ∧ (r = true ↔ a = b) := by
  by_cases hab : a.length = b.length
  · obtain ⟨r, ⟨K, hK⟩, hr⟩ := equal_l0 a b hab hl a.length 0 (by omega)
    refine ⟨r, K, ?_, ?_⟩
    · unfold pumicelaw10_equal.f
      rw [if_pos (by omega)]
      exact hK K (Nat.le_refl _)
    · simpa using hr
  · refine ⟨false, 0, ?_, ?_⟩
    · unfold pumicelaw10_equal.f
      rw [if_neg (by omega)]
    · constructor
      · intro h; cases h
      · intro h; exact absurd (congrArg List.length h) hab
set_option maxRecDepth 100000 in
set_option maxHeartbeats 8000000 in
theorem ImageBack_no (lv lv2 : Int) (A A' : Option Addr) (c c' : Nat) (l l2 : List S50) (w : World) (hr : Kd.C k50 w A l.length l) (hc : l.length ≤ c) (hl : l.length ≤ 3518437208883) (hr2 : Kd.C k50 w A' l2.length l2) (hc2 : l2.length ≤ c') (hl2 : l2.length ≤ 3518437208883) (hR1 : rightB lv (l.map conv) = false) :
    Calls Try.prog 8 #[.agg #[.int .i64 lv, .slice A l.length c], .agg #[.int .i64 lv2, .slice A' l2.length c']] w fun e w' => e = .returned (.bool true) ∧ Below w.heap.size w w' := by
  obtain ⟨m, hm⟩ : ∃ m, m = l.map conv := ⟨_, rfl⟩
  obtain ⟨m2, hm2⟩ : ∃ m, m = l2.map conv := ⟨_, rfl⟩
  obtain ⟨B2, hB2⟩ : ∃ B, B = packB lv2 m2 := ⟨_, rfl⟩
  obtain ⟨E2, hE2⟩ : ∃ E, E = packE lv2 m2 := ⟨_, rfl⟩
  have NM := Aside0.mk (fun w => mine_any lv A c l w)
  have NM2 := Aside0.mk (fun w => mine_any lv2 A' c' l2 w)
  have NP := Aside0.mk (fun A1 c1 w => pack_any lv A1 c1 m w)
  have NP2 := Aside0.mk (fun A1 c1 w => pack_any lv2 A1 c1 m2 w)
  have NS := Aside0.mk (fun A1 c1 w => size_any lv A1 c1 m w)
  rw [← hm] at NM hR1
  rw [← hm2] at NM2
  rw [← hB2, ← hE2] at NP2
  rw [show packB lv m = [] by unfold packB; rw [if_neg (by rw [hR1]; decide)], show packE lv m = 22 by unfold packE; rw [if_neg (by rw [hR1]; decide)]] at NP
  rw [show sizeOf' lv m = 0 by unfold sizeOf'; rw [if_neg (by rw [hR1]; decide)]] at NS
  have HR := Aside0.mk hr
  have HR2 := Aside0.mk hr2
  have HC := Aside0.mk hc
  have HC2 := Aside0.mk hc2
  have HL := Aside0.mk hl
  have HL2 := Aside0.mk hl2
  clear hm hm2 hB2 hE2 hr hr2 hc hc2 hl hl2 hR1
  go_enter Try.func8, Try.ntmps8
  go_upto_region 1 with (fail)
  generalize hW : (w.alloc (.cells #[.int .i64 lv, .slice A l.length c] 31)).alloc (.cells #[.int .i64 lv2, .slice A' l2.length c'] 31) = W1
  have hbW : Below w.heap.size w W1 := by rw [← hW]; exact below_alloc (below_alloc (Below.refl _ _) _) _
  have hI : W1.heap[w.heap.size]? = some (.cells #[.int .i64 lv, .slice A l.length c] 31 (0, 0)) := by rw [← hW]; exact keep_alloc (new_blk _ _ _) _
  have hK : W1.heap[w.heap.size + 1]? = some (.cells #[.int .i64 lv2, .slice A' l2.length c'] 31 (0, 0)) := by rw [← hW]; have h := new_blk (w.alloc (.cells #[.int .i64 lv, .slice A l.length c] 31)) #[.int .i64 lv2, .slice A' l2.length c'] 31; rw [show (w.alloc (.cells #[.int .i64 lv, .slice A l.length c] 31)).heap.size = w.heap.size + 1 from Array.size_push _] at h; exact h
  have HBW := Aside0.mk hbW
  have HI := Aside0.mk hI
  have HK := Aside0.mk hK
  have i10 := Joins.cell_of_block hI 0
  have i11 := Joins.cell_of_block hI 1
  clear hW hbW hI hK
  go_wp2_with (first
    | (go_at_call 16; (with_reducible refine (NM.out _ ?a1 HC.out HL.out).mono ?_); (case a1 => exact Kd.C_below HR.out HBW.out); rintro e w2 ⟨A1, c1, rfl, hl1, hc1, hb2⟩; have HC1 := Aside0.mk hc1; have HL1 := Aside0.mk hl1; have HB2 := Aside0.mk (below_step HBW.out hb2); have HI2 := Aside0.mk (keep_below HI.out hb2); have HK2 := Aside0.mk (keep_below HK.out hb2); clear hl1 hc1 hb2)
    | (go_at_call 15; (with_reducible refine (NP.out A1 c1 _ HC1.out HL1.out).mono ?_); rintro e w3 ⟨v3, rfl, ho3, hb3⟩; obtain ⟨A3, c3, e3⟩ := Kd.R_slice ho3; subst e3; have HO3 := Aside0.mk ho3; have HB3 := Aside0.mk (below_step HB2.out hb3); have HI3 := Aside0.mk (keep_below HI2.out hb3); have HK3 := Aside0.mk (keep_below HK2.out hb3); have k30 := Joins.cell_of_block HK3.out 0; have k31 := Joins.cell_of_block HK3.out 1; clear ho3 hb3)
    | (go_at_call 16; (with_reducible refine (NM2.out _ ?a2 HC2.out HL2.out).mono ?_); (case a2 => exact Kd.C_below HR2.out HB3.out); rintro e w4 ⟨A4, c4, rfl, hl4, hc4, hb4⟩; have HC4 := Aside0.mk hc4; have HL4 := Aside0.mk hl4; have HB4 := Aside0.mk (below_step HB3.out hb4); have HI4 := Aside0.mk (keep_below HI3.out hb4); have HK4 := Aside0.mk (keep_below HK3.out hb4); have HO4 := Aside0.mk (Kd.R_below HO3.out hb4); clear hl4 hc4 hb4)
    | (go_at_call 15; (with_reducible refine (NP2.out A4 c4 _ HC4.out HL4.out).mono ?_); rintro e w5 ⟨v5, rfl, ho5, hb5⟩; obtain ⟨A5, c5, e5⟩ := Kd.R_slice ho5; subst e5; have HO5 := Aside0.mk ho5; have HB5 := Aside0.mk (below_step HB4.out hb5); have HI5 := Aside0.mk (keep_below HI4.out hb5); have HK5 := Aside0.mk (keep_below HK4.out hb5); have HOa := Aside0.mk (Kd.R_below HO4.out hb5); have i50 := Joins.cell_of_block HI5.out 0; have i51 := Joins.cell_of_block HI5.out 1; clear ho5 hb5)
    | (go_at_call 16; (with_reducible refine (NM.out _ ?a3 HC.out HL.out).mono ?_); (case a3 => exact Kd.C_below HR.out HB5.out); rintro e w6 ⟨A6, c6, rfl, hl6, hc6, hb6⟩; have HC6 := Aside0.mk hc6; have HL6 := Aside0.mk hl6; have HB6 := Aside0.mk (below_step HB5.out hb6); clear hl6 hc6 hb6)
    | (go_at_call 20; (with_reducible refine (NS.out A6 c6 _ HC6.out HL6.out).mono ?_); rintro e w7 ⟨rfl, hb7⟩; have HB7 := Aside0.mk (below_step HB6.out hb7); clear hb7)
    | (go_at_call 14; (with_reducible refine (alive_calls _).mono ?_); rintro e w8 ⟨rfl, hb8⟩; have HB8 := Aside0.mk (below_step HB7.out hb8); clear hb8))
  go_ret
  exact ⟨rfl, HB8.out⟩
set_option maxRecDepth 100000 in
set_option maxHeartbeats 8000000 in
theorem ImageBack_yes (lv lv2 : Int) (A A' : Option Addr) (c c' : Nat) (l l2 : List S50) (w : World) (hr : Kd.C k50 w A l.length l) (hc : l.length ≤ c) (hl : l.length ≤ 3518437208883) (hr2 : Kd.C k50 w A' l2.length l2) (hc2 : l2.length ≤ c') (hl2 : l2.length ≤ 3518437208883) (hR1 : rightB lv (l.map conv) = true) :
    Calls Try.prog 8 #[.agg #[.int .i64 lv, .slice A l.length c], .agg #[.int .i64 lv2, .slice A' l2.length c']] w fun e w' => e = .returned (.bool true) ∧ Below w.heap.size w w' := by
  obtain ⟨m, hm⟩ : ∃ m, m = l.map conv := ⟨_, rfl⟩
  obtain ⟨m2, hm2⟩ : ∃ m, m = l2.map conv := ⟨_, rfl⟩
  obtain ⟨B1, hB1⟩ : ∃ B, B = packL lv m := ⟨_, rfl⟩
  obtain ⟨B2, hB2⟩ : ∃ B, B = packB lv2 m2 := ⟨_, rfl⟩
  obtain ⟨E2, hE2⟩ : ∃ E, E = packE lv2 m2 := ⟨_, rfl⟩
  obtain ⟨KS, hKS⟩ := same_ev l (by omega)
  obtain ⟨re, KE, hKE, hre⟩ := equal_ev m m2 (by rw [hm, List.length_map]; exact hl)
  have NM := Aside0.mk (fun w => mine_any lv A c l w)
  have NM2 := Aside0.mk (fun w => mine_any lv2 A' c' l2 w)
  have NP := Aside0.mk (fun A1 c1 w => pack_any lv A1 c1 m w)
  have NP2 := Aside0.mk (fun A1 c1 w => pack_any lv2 A1 c1 m2 w)
  have NS := Aside0.mk (fun A1 c1 w => size_any lv A1 c1 m w)
  rw [← hm] at NM hR1 hKS
  rw [← hm2] at NM2
  rw [← hB2, ← hE2] at NP2
  rw [show packB lv m = B1 by unfold packB; rw [if_pos hR1, hB1], show packE lv m = 0 by unfold packE; rw [if_pos hR1]] at NP
  have hlen : B1.length ≤ 579 := by rw [hB1]; exact packL_579 hR1
  rw [show sizeOf' lv m = 6 + (B1.length : Int) by unfold sizeOf'; rw [if_pos hR1, hB1]] at NS
  have hBy : Bytes B1 := by rw [hB1]; exact pack_bytes hR1
  have hun : unpackR B1 = (true, lv, m) := by rw [hB1]; exact unpack_pack hR1
  have NU := Aside0.mk (fun A1 c1 w h1 h2 => unpack_any A1 c1 B1 w h1 h2 hBy)
  rw [hun] at NU
  simp only at NU
  -- what the bytes tell
  have hfin : ∀ one : Bool, (one = true ↔ lv = lv2 ∧ m = m2) → (E2 = 22 ∨ (E2 = 0 ∧ (((strOfNums B1).toList == (strOfNums B2).toList) = one))) := by
    intro one hone
    cases hR2 : rightB lv2 m2 with
    | false => left; rw [hE2]; unfold packE; rw [if_neg (by rw [hR2]; decide)]
    | true =>
      right
      refine ⟨by rw [hE2]; unfold packE; rw [if_pos hR2], ?_⟩
      have hb2 : B2 = packL lv2 m2 := by rw [hB2]; unfold packB; rw [if_pos hR2]
      cases one with
      | true =>
        obtain ⟨h1, h2⟩ := hone.1 rfl
        rw [hb2, hB1, h1, h2]
        exact beq_self_eq_true _
      | false =>
        rw [beq_eq_false_iff_ne]
        intro he
        rw [Lib.toList_data, Lib.toList_data] at he
        have he2 : strOfNums B1 = strOfNums B2 := ByteArray.ext (Array.toList_inj.1 he)
        rw [hb2, hB1] at he2
        have h := hone.2 (pack_inj hR1 hR2 he2)
        cases h
  have wB : IntKind.i64.wrap (6 + (B1.length : Int)) = 6 + (B1.length : Int) := IntWalk.i64_in _ (by omega)
  have d1 : decide ((B1.length : Int) > 579) = false := decide_eq_false (by omega)
  have d2 : decide (579 < B1.length) = false := decide_eq_false (by omega)
  have d3 : decide ((579 : Int) < (B1.length : Int)) = false := decide_eq_false (by omega)
  have HFIN := Aside0.mk hfin
  have HRE := Aside0.mk hre
  have HKS := Aside0.mk hKS
  have HKE := Aside0.mk hKE
  have HR := Aside0.mk hr
  have HR2 := Aside0.mk hr2
  have HC := Aside0.mk hc
  have HC2 := Aside0.mk hc2
  have HL := Aside0.mk hl
  have HL2 := Aside0.mk hl2
  clear hm hm2 hB1 hB2 hE2 hr hr2 hc hc2 hl hl2 hR1 hKS hKE hre hfin hBy hun hlen
  go_enter Try.func8, Try.ntmps8
  go_upto_region 1 with (fail)
  generalize hW : (w.alloc (.cells #[.int .i64 lv, .slice A l.length c] 31)).alloc (.cells #[.int .i64 lv2, .slice A' l2.length c'] 31) = W1
  have hbW : Below w.heap.size w W1 := by rw [← hW]; exact below_alloc (below_alloc (Below.refl _ _) _) _
  have hI : W1.heap[w.heap.size]? = some (.cells #[.int .i64 lv, .slice A l.length c] 31 (0, 0)) := by rw [← hW]; exact keep_alloc (new_blk _ _ _) _
  have hK : W1.heap[w.heap.size + 1]? = some (.cells #[.int .i64 lv2, .slice A' l2.length c'] 31 (0, 0)) := by rw [← hW]; have h := new_blk (w.alloc (.cells #[.int .i64 lv, .slice A l.length c] 31)) #[.int .i64 lv2, .slice A' l2.length c'] 31; rw [show (w.alloc (.cells #[.int .i64 lv, .slice A l.length c] 31)).heap.size = w.heap.size + 1 from Array.size_push _] at h; exact h
  have HBW := Aside0.mk hbW
  have HI := Aside0.mk hI
  have HK := Aside0.mk hK
  have i10 := Joins.cell_of_block hI 0
  have i11 := Joins.cell_of_block hI 1
  clear hW hbW hI hK
  go_upto_region 8 with (first
    | (go_at_call 16; (with_reducible refine (NM.out _ ?a1 HC.out HL.out).mono ?_); (case a1 => exact Kd.C_below HR.out HBW.out); rintro e w2 ⟨A1, c1, rfl, hl1, hc1, hb2⟩; have HC1 := Aside0.mk hc1; have HL1 := Aside0.mk hl1; have HB2 := Aside0.mk (below_step HBW.out hb2); have HI2 := Aside0.mk (keep_below HI.out hb2); have HK2 := Aside0.mk (keep_below HK.out hb2); clear hl1 hc1 hb2)
    | (go_at_call 15; (with_reducible refine (NP.out A1 c1 _ HC1.out HL1.out).mono ?_); rintro e w3 ⟨v3, rfl, ho3, hb3⟩; obtain ⟨A3, c3, e3⟩ := Kd.R_slice ho3; subst e3; have HO3 := Aside0.mk ho3; have HB3 := Aside0.mk (below_step HB2.out hb3); have HI3 := Aside0.mk (keep_below HI2.out hb3); have HK3 := Aside0.mk (keep_below HK2.out hb3); have k30 := Joins.cell_of_block HK3.out 0; have k31 := Joins.cell_of_block HK3.out 1; clear ho3 hb3)
    | (go_at_call 16; (with_reducible refine (NM2.out _ ?a2 HC2.out HL2.out).mono ?_); (case a2 => exact Kd.C_below HR2.out HB3.out); rintro e w4 ⟨A4, c4, rfl, hl4, hc4, hb4⟩; have HC4 := Aside0.mk hc4; have HL4 := Aside0.mk hl4; have HB4 := Aside0.mk (below_step HB3.out hb4); have HI4 := Aside0.mk (keep_below HI3.out hb4); have HK4 := Aside0.mk (keep_below HK3.out hb4); have HO4 := Aside0.mk (Kd.R_below HO3.out hb4); clear hl4 hc4 hb4)
    | (go_at_call 15; (with_reducible refine (NP2.out A4 c4 _ HC4.out HL4.out).mono ?_); rintro e w5 ⟨v5, rfl, ho5, hb5⟩; obtain ⟨A5, c5, e5⟩ := Kd.R_slice ho5; subst e5; have HO5 := Aside0.mk ho5; have HB5 := Aside0.mk (below_step HB4.out hb5); have HI5 := Aside0.mk (keep_below HI4.out hb5); have HK5 := Aside0.mk (keep_below HK4.out hb5); have HOa := Aside0.mk (Kd.R_below HO4.out hb5); have i50 := Joins.cell_of_block HI5.out 0; have i51 := Joins.cell_of_block HI5.out 1; clear ho5 hb5)
    | (go_at_call 24; (with_reducible refine (NU.out A3 c3 _ (Kd.R_reads' HOa.out).2.2 (Kd.R_reads' HOa.out).2.1).mono ?_); rintro e w6 ⟨v6, rfl, ho6, hb6⟩; obtain ⟨A6, c6, e6⟩ := Kd.R_slice ho6; subst e6; have HO6 := Aside0.mk (Kd.R_reads' ho6); have HB6 := Aside0.mk (below_step HB5.out hb6); have HI6 := Aside0.mk (keep_below HI5.out hb6); have HK6 := Aside0.mk (keep_below HK5.out hb6); have HOb := Aside0.mk (Kd.R_below HOa.out hb6); have HOc := Aside0.mk (Kd.R_below HO5.out hb6); have HX6 := Aside0.mk (new_blk w6 #[.int .i64 lv, .slice A6 m.length c6] 37); have y60 : ∀ o, (w6.alloc o).cell? ⟨w.heap.size, 0, none⟩ = some (.int .i64 lv) := fun o => Joins.cell_of_block (keep_alloc HI6.out o) 0; have y61 : ∀ o, (w6.alloc o).cell? ⟨w.heap.size, 1, none⟩ = some (.slice A l.length c) := fun o => Joins.cell_of_block (keep_alloc HI6.out o) 1; clear ho6 hb6)
    | (go_at_call 26; (with_reducible refine (pumicelaw10_same.calls KS A6 c6 m A c l true _ ?c1 ?c2 ?c3 ?c4 HKS.out).mono ?_); (case c1 => exact Kd.C_alloc HO6.out.2.2 _); (case c2 => exact HO6.out.2.1); (case c3 => exact Kd.C_alloc (Kd.C_below HR.out HB6.out) _); (case c4 => exact HC.out); rintro e w7 ⟨rfl, hb7⟩; have hb7 := hb7.below; have hb67 := below_step (below_alloc (Below.refl w6.heap.size w6) (.cells #[.int .i64 lv, .slice A6 m.length c6] 37)) hb7; have HB7 := Aside0.mk (below_step HB6.out hb67); have HI7 := Aside0.mk (keep_below HI6.out hb67); have HK7 := Aside0.mk (keep_below HK6.out hb67); have HOd := Aside0.mk (Kd.R_below HOb.out hb67); have HOe := Aside0.mk (Kd.R_below HOc.out hb67); have i70 := Joins.cell_of_block HI7.out 0; have i71 := Joins.cell_of_block HI7.out 1; clear hb7 hb67)
    | (go_at_call 16; (with_reducible refine (NM.out _ ?a8 HC.out HL.out).mono ?_); (case a8 => exact Kd.C_below HR.out HB7.out); rintro e w8 ⟨A8, c8, rfl, hl8, hc8, hb8⟩; have HC8 := Aside0.mk hc8; have HL8 := Aside0.mk hl8; have HB8 := Aside0.mk (below_step HB7.out hb8); have HI8 := Aside0.mk (keep_below HI7.out hb8); have HK8 := Aside0.mk (keep_below HK7.out hb8); have HOf := Aside0.mk (Kd.R_below HOd.out hb8); have HOg := Aside0.mk (Kd.R_below HOe.out hb8); clear hl8 hc8 hb8)
    | (go_at_call 20; (with_reducible refine (NS.out A8 c8 _ HC8.out HL8.out).mono ?_); rintro e w9 ⟨rfl, hb9⟩; have HB9 := Aside0.mk (below_step HB8.out hb9); have HI9 := Aside0.mk (keep_below HI8.out hb9); have HK9 := Aside0.mk (keep_below HK8.out hb9); have HOh := Aside0.mk (Kd.R_below HOf.out hb9); have HOi := Aside0.mk (Kd.R_below HOg.out hb9); clear hb9))
  by_cases hlv : lv = lv2
  · subst hlv
    have hF := HFIN.out re ⟨fun h => ⟨rfl, HRE.out.1 h⟩, fun h => HRE.out.2 h.2⟩
    have HF := Aside0.mk hF
    clear hF
    refine Rel.rel [(0, 74, .inl ?r1v0), (1, 75, .inl ?r1v1), (2, 76, .inl ?r1v2), (3, 77, .inl ?r1v3), (4, 78, .inl ?r1v4), (5, 79, .inl ?r1v5), (6, 80, .inl ?r1v6), (7, 81, .inr (fun v w' => ∃ A1 c1, v = .agg #[.int .i64 lv, .slice A1 m.length c1] ∧ m.length ≤ c1 ∧ Kd.C k69 w' A1 m.length m)), (8, 82, .inr (fun v w' => ∃ A1 c1, v = .slice A1 m.length c1 ∧ m.length ≤ c1 ∧ Kd.C k69 w' A1 m.length m)), (9, 83, .inl ?r1v9), (10, 84, .inr (fun v w' => ∃ A1 c1, v = .agg #[.int .i64 lv, .slice A1 m2.length c1] ∧ m2.length ≤ c1 ∧ Kd.C k69 w' A1 m2.length m2)), (11, 85, .inr (fun v w' => ∃ A1 c1, v = .slice A1 m2.length c1 ∧ m2.length ≤ c1 ∧ Kd.C k69 w' A1 m2.length m2)), (12, 86, .inl ?r1v12), (13, 87, .inl ?r1v13), (14, 11, .inl ?r1v14)] (fun w' => w'.heap[w.heap.size]? = some (.cells #[.int .i64 lv, .slice A l.length c] 31 (0, 0)) ∧ w'.heap[w.heap.size + 1]? = some (.cells #[.int .i64 lv, .slice A' l2.length c'] 31 (0, 0)) ∧ Below w9.heap.size w9 w') (fun w' w'' => Below w'.heap.size w' w'') (by rfl) rfl (by kernel_rfl) ?r1S (Rel.stable_inl (Rel.stable_inl (Rel.stable_inl (Rel.stable_inl (Rel.stable_inl (Rel.stable_inl (Rel.stable_inl (Rel.stable_inr (fun v w w' hb ⟨A1, c1, h1, h2, h3⟩ => ⟨A1, c1, h1, h2, Kd.C_below h3 hb⟩) (Rel.stable_inr (fun v w w' hb ⟨A1, c1, h1, h2, h3⟩ => ⟨A1, c1, h1, h2, Kd.C_below h3 hb⟩) (Rel.stable_inl (Rel.stable_inr (fun v w w' hb ⟨A1, c1, h1, h2, h3⟩ => ⟨A1, c1, h1, h2, Kd.C_below h3 hb⟩) (Rel.stable_inr (fun v w w' hb ⟨A1, c1, h1, h2, h3⟩ => ⟨A1, c1, h1, h2, Kd.C_below h3 hb⟩) (Rel.stable_inl (Rel.stable_inl (Rel.stable_inl Rel.stable_nil))))))))))))))) ?r1steps ?r1okv ?r1hlt ?r1fin
    case r1S => exact ⟨HI9.out, HK9.out, (Below.refl _ _).drew⟩
    case r1steps =>
      refine Rel.from_some 0 rfl rfl (fun a wq hS hK K hC => ?_) ?_
      · refine Reg.step_on (by rfl) ?_
        have e2 := hK.off 2 _ rfl rfl
        clear hK
        go_simp
        exact hC _ hS (Below.refl _ _)
      refine Rel.from_some 1 rfl rfl (fun a wq hS hK K hC => ?_) ?_
      · refine Reg.step_on (by rfl) ?_
        have e74 := hK.slot 0 _ _ _ rfl (by kernel_rfl)
        have hS2 := hS
        obtain ⟨hx, hy, _⟩ := hS2
        have f0 := Joins.cell_of_block hx 0
        have f1 := Joins.cell_of_block hx 1
        have g0 := Joins.cell_of_block hy 0
        have g1 := Joins.cell_of_block hy 1
        clear hx hy
        clear hK
        go_simp
        exact hC _ hS (Below.refl _ _)
      refine Rel.from_some 2 rfl rfl (fun a wq hS hK K hC => ?_) ?_
      · refine Reg.step_on (by rfl) ?_
        have e3 := hK.off 3 _ rfl rfl
        clear hK
        go_simp
        exact hC _ hS (Below.refl _ _)
      refine Rel.from_some 3 rfl rfl (fun a wq hS hK K hC => ?_) ?_
      · refine Reg.step_on (by rfl) ?_
        have e76 := hK.slot 2 _ _ _ rfl (by kernel_rfl)
        have hS2 := hS
        obtain ⟨hx, hy, _⟩ := hS2
        have f0 := Joins.cell_of_block hx 0
        have f1 := Joins.cell_of_block hx 1
        have g0 := Joins.cell_of_block hy 0
        have g1 := Joins.cell_of_block hy 1
        clear hx hy
        clear hK
        go_simp
        exact hC _ hS (Below.refl _ _)
      refine Rel.from_some 4 rfl rfl (fun a wq hS hK K hC => ?_) ?_
      · refine Reg.step_on (by rfl) ?_
        have e75 := hK.slot 1 _ _ _ rfl (by kernel_rfl)
        have e77 := hK.slot 3 _ _ _ rfl (by kernel_rfl)
        clear hK
        go_simp
        exact hC _ hS (Below.refl _ _)
      refine Rel.from_some 5 rfl rfl (fun a wq hS hK K hC => ?_) ?_
      · refine Reg.step_on (by rfl) ?_
        have e78 := hK.slot 4 _ _ _ rfl (by kernel_rfl)
        clear hK
        go_simp
        exact hC _ hS (Below.refl _ _)
      refine Rel.from_some 6 rfl rfl (fun a wq hS hK K hC => ?_) ?_
      · refine Reg.step_on (wanted_on (g := 5) rfl rfl rfl (hK.slot 5 _ _ _ rfl (by kernel_rfl))) ?_
        have e2 := hK.off 2 _ rfl rfl
        have hS2 := hS
        obtain ⟨hx, hy, _⟩ := hS2
        have f0 := Joins.cell_of_block hx 0
        have f1 := Joins.cell_of_block hx 1
        have g0 := Joins.cell_of_block hy 0
        have g1 := Joins.cell_of_block hy 1
        clear hx hy
        clear hK
        go_simp
        exact hC _ hS (Below.refl _ _)
      refine Rel.from_rel 7 rfl rfl (fun a wq hS hK K hC => ?_) ?_
      · refine Reg.step_on (wanted_on (g := 5) rfl rfl rfl (hK.slot 5 _ _ _ rfl (by kernel_rfl))) ?_
        have e80 := hK.slot 6 _ _ _ rfl (by kernel_rfl)
        clear hK
        go_simp
        with_reducible refine (NM.out wq ?ym HC.out HL.out).mono ?_
        case ym => exact Kd.C_below HR.out (below_step HB9.out hS.2.2)
        rintro e w' ⟨A1, c1, rfl, hl1, hc1, hb1⟩
        exact hC _ w' ⟨keep_below hS.1 hb1, keep_below hS.2.1 hb1, below_step hS.2.2 hb1⟩ hb1 ⟨A1, c1, rfl, hl1, hc1⟩
      refine Rel.from_rel 8 rfl rfl (fun a wq hS hK K hC => ?_) ?_
      · refine Reg.step_on (wanted_on (g := 5) rfl rfl rfl (hK.slot 5 _ _ _ rfl (by kernel_rfl))) ?_
        obtain ⟨u81, e81, q81⟩ := hK.rel 7 _ _ _ rfl (by kernel_rfl)
        obtain ⟨A1, c1, rfl, hl1, hc1⟩ := q81
        clear hK
        go_simp
        exact hC _ _ hS (Below.refl _ _) ⟨A1, c1, rfl, hl1, hc1⟩
      refine Rel.from_some 9 rfl rfl (fun a wq hS hK K hC => ?_) ?_
      · refine Reg.step_on (wanted_on (g := 5) rfl rfl rfl (hK.slot 5 _ _ _ rfl (by kernel_rfl))) ?_
        have e3 := hK.off 3 _ rfl rfl
        have hS2 := hS
        obtain ⟨hx, hy, _⟩ := hS2
        have f0 := Joins.cell_of_block hx 0
        have f1 := Joins.cell_of_block hx 1
        have g0 := Joins.cell_of_block hy 0
        have g1 := Joins.cell_of_block hy 1
        clear hx hy
        clear hK
        go_simp
        exact hC _ hS (Below.refl _ _)
      refine Rel.from_rel 10 rfl rfl (fun a wq hS hK K hC => ?_) ?_
      · refine Reg.step_on (wanted_on (g := 5) rfl rfl rfl (hK.slot 5 _ _ _ rfl (by kernel_rfl))) ?_
        have e83 := hK.slot 9 _ _ _ rfl (by kernel_rfl)
        clear hK
        go_simp
        with_reducible refine (NM2.out wq ?yn HC2.out HL2.out).mono ?_
        case yn => exact Kd.C_below HR2.out (below_step HB9.out hS.2.2)
        rintro e w' ⟨A1, c1, rfl, hl1, hc1, hb1⟩
        exact hC _ w' ⟨keep_below hS.1 hb1, keep_below hS.2.1 hb1, below_step hS.2.2 hb1⟩ hb1 ⟨A1, c1, rfl, hl1, hc1⟩
      refine Rel.from_rel 11 rfl rfl (fun a wq hS hK K hC => ?_) ?_
      · refine Reg.step_on (wanted_on (g := 5) rfl rfl rfl (hK.slot 5 _ _ _ rfl (by kernel_rfl))) ?_
        obtain ⟨u84, e84, q84⟩ := hK.rel 10 _ _ _ rfl (by kernel_rfl)
        obtain ⟨A1, c1, rfl, hl1, hc1⟩ := q84
        clear hK
        go_simp
        exact hC _ _ hS (Below.refl _ _) ⟨A1, c1, rfl, hl1, hc1⟩
      refine Rel.from_some 12 rfl rfl (fun a wq hS hK K hC => ?_) ?_
      · refine Reg.step_on (wanted_on (g := 5) rfl rfl rfl (hK.slot 5 _ _ _ rfl (by kernel_rfl))) ?_
        obtain ⟨u82, e82, q82⟩ := hK.rel 8 _ _ _ rfl (by kernel_rfl)
        obtain ⟨A1, c1, rfl, hl1, hc1⟩ := q82
        obtain ⟨u85, e85, q85⟩ := hK.rel 11 _ _ _ rfl (by kernel_rfl)
        obtain ⟨A2, c2, rfl, hl2, hc2⟩ := q85
        clear hK
        go_simp
        with_reducible refine (pumicelaw10_equal.calls KE A1 c1 m A2 c2 m2 re wq hc1 hl1 hc2 hl2 HKE.out).mono ?_
        rintro e w' ⟨rfl, hb⟩
        exact hC w' ⟨keep_below hS.1 hb.below, keep_below hS.2.1 hb.below, below_step hS.2.2 hb.below⟩ hb.below
      refine Rel.from_some 13 rfl rfl (fun a wq hS hK K hC => ?_) ?_
      · refine Reg.step_on (by rfl) ?_
        have e79 := hK.slot 5 _ _ _ rfl (by kernel_rfl)
        have e86 := hK.slot 12 _ _ _ rfl (by kernel_rfl)
        clear hK
        go_simp
        exact hC _ hS (Below.refl _ _)
      refine Rel.from_some 14 rfl rfl (fun a wq hS hK K hC => ?_) ?_
      · refine Reg.step_on (by rfl) ?_
        have e87 := hK.slot 13 _ _ _ rfl (by kernel_rfl)
        clear hK
        go_simp
        exact hC _ hS (Below.refl _ _)
      exact Rel.from_nil
    case r1okv => rfl
    case r1hlt => rfl
    case r1fin =>
      intro U wz hS hU
      have q7 := hU 7 _ _ _ rfl
      have q8 := hU 8 _ _ _ rfl
      have q10 := hU 10 _ _ _ rfl
      have q11 := hU 11 _ _ _ rfl
      clear hU
      simp only [Rel.inst, Nat.zero_add, Nat.reduceAdd, Reg.putV, List.foldl_cons, List.foldl_nil, Act.put, List.setIfInBounds_toArray, List.set_cons_zero, List.set_cons_succ]
      have HBz := Aside0.mk (below_step HB9.out hS.2.2)
      have hcv1 := own_string (P := Try.prog) (w := wz) Try.underlying32 Try.underlying5 Try.underlying9 (Kd.own_of_R (Kd.R_below HOh.out hS.2.2))
      have hcv2 := own_string (P := Try.prog) (w := wz) Try.underlying32 Try.underlying5 Try.underlying9 (Kd.own_of_R (Kd.R_below HOi.out hS.2.2))
      clear hS q7 q8 q10 q11
      rcases HF.out with hE | ⟨hE, hs⟩
      · subst hE
        go_wp2
        go_ret
        exact ⟨rfl, HBz.out⟩
      · subst hE
        go_wp2_with (first
          | (go_at_call 14; (with_reducible refine (alive_calls _).mono ?_); rintro e w8 ⟨rfl, hb8⟩; have HB8 := Aside0.mk (below_step HBz.out hb8); clear hb8))
        go_ret
        exact ⟨rfl, HB8.out⟩
  · have hF := HFIN.out false (Iff.intro (fun h => absurd h (by decide)) (fun h => absurd h.1 hlv))
    have HF := Aside0.mk hF
    clear hF
    have e1 : (lv == lv2) = false := by simp [hlv]
    clear hlv
    refine Rel.rel [(0, 74, .inl ?r2v0), (1, 75, .inl ?r2v1), (2, 76, .inl ?r2v2), (3, 77, .inl ?r2v3), (4, 78, .inl ?r2v4), (5, 79, .inl ?r2v5), (6, 80, .inl undef), (7, 81, .inl undef), (8, 82, .inl undef), (9, 83, .inl undef), (10, 84, .inl undef), (11, 85, .inl undef), (12, 86, .inl undef), (13, 87, .inl ?r2v13), (14, 11, .inl ?r2v14)] (fun w' => w'.heap[w.heap.size]? = some (.cells #[.int .i64 lv, .slice A l.length c] 31 (0, 0)) ∧ w'.heap[w.heap.size + 1]? = some (.cells #[.int .i64 lv2, .slice A' l2.length c'] 31 (0, 0)) ∧ Below w9.heap.size w9 w') (fun w' w'' => Below w'.heap.size w' w'') (by rfl) rfl (by kernel_rfl) ?r2S (Rel.stable_inl (Rel.stable_inl (Rel.stable_inl (Rel.stable_inl (Rel.stable_inl (Rel.stable_inl (Rel.stable_inl (Rel.stable_inl (Rel.stable_inl (Rel.stable_inl (Rel.stable_inl (Rel.stable_inl (Rel.stable_inl (Rel.stable_inl (Rel.stable_inl Rel.stable_nil))))))))))))))) ?r2steps ?r2okv ?r2hlt ?r2fin
    case r2S => exact ⟨HI9.out, HK9.out, (Below.refl _ _).drew⟩
    case r2steps =>
      refine Rel.from_some 0 rfl rfl (fun a wq hS hK K hC => ?_) ?_
      · refine Reg.step_on (by rfl) ?_
        have e2 := hK.off 2 _ rfl rfl
        clear hK
        go_simp
        exact hC _ hS (Below.refl _ _)
      refine Rel.from_some 1 rfl rfl (fun a wq hS hK K hC => ?_) ?_
      · refine Reg.step_on (by rfl) ?_
        have e74 := hK.slot 0 _ _ _ rfl (by kernel_rfl)
        have hS2 := hS
        obtain ⟨hx, hy, _⟩ := hS2
        have f0 := Joins.cell_of_block hx 0
        have f1 := Joins.cell_of_block hx 1
        have g0 := Joins.cell_of_block hy 0
        have g1 := Joins.cell_of_block hy 1
        clear hx hy
        clear hK
        go_simp
        exact hC _ hS (Below.refl _ _)
      refine Rel.from_some 2 rfl rfl (fun a wq hS hK K hC => ?_) ?_
      · refine Reg.step_on (by rfl) ?_
        have e3 := hK.off 3 _ rfl rfl
        clear hK
        go_simp
        exact hC _ hS (Below.refl _ _)
      refine Rel.from_some 3 rfl rfl (fun a wq hS hK K hC => ?_) ?_
      · refine Reg.step_on (by rfl) ?_
        have e76 := hK.slot 2 _ _ _ rfl (by kernel_rfl)
        have hS2 := hS
        obtain ⟨hx, hy, _⟩ := hS2
        have f0 := Joins.cell_of_block hx 0
        have f1 := Joins.cell_of_block hx 1
        have g0 := Joins.cell_of_block hy 0
        have g1 := Joins.cell_of_block hy 1
        clear hx hy
        clear hK
        go_simp
        exact hC _ hS (Below.refl _ _)
      refine Rel.from_some 4 rfl rfl (fun a wq hS hK K hC => ?_) ?_
      · refine Reg.step_on (by rfl) ?_
        have e75 := hK.slot 1 _ _ _ rfl (by kernel_rfl)
        have e77 := hK.slot 3 _ _ _ rfl (by kernel_rfl)
        clear hK
        go_simp
        exact hC _ hS (Below.refl _ _)
      refine Rel.from_some 5 rfl rfl (fun a wq hS hK K hC => ?_) ?_
      · refine Reg.step_on (by rfl) ?_
        have e78 := hK.slot 4 _ _ _ rfl (by kernel_rfl)
        clear hK
        go_simp
        exact hC _ hS (Below.refl _ _)
      refine Rel.from_some 6 rfl rfl (fun a wq hS hK K hC => ?_) ?_
      · refine Reg.step_off (wanted_off (g := 5) rfl rfl rfl (hK.slot 5 _ _ _ rfl (by kernel_rfl))) ?_
        exact hC _ hS (Below.refl _ _)
      refine Rel.from_some 7 rfl rfl (fun a wq hS hK K hC => ?_) ?_
      · refine Reg.step_off (wanted_off (g := 5) rfl rfl rfl (hK.slot 5 _ _ _ rfl (by kernel_rfl))) ?_
        exact hC _ hS (Below.refl _ _)
      refine Rel.from_some 8 rfl rfl (fun a wq hS hK K hC => ?_) ?_
      · refine Reg.step_off (wanted_off (g := 5) rfl rfl rfl (hK.slot 5 _ _ _ rfl (by kernel_rfl))) ?_
        exact hC _ hS (Below.refl _ _)
      refine Rel.from_some 9 rfl rfl (fun a wq hS hK K hC => ?_) ?_
      · refine Reg.step_off (wanted_off (g := 5) rfl rfl rfl (hK.slot 5 _ _ _ rfl (by kernel_rfl))) ?_
        exact hC _ hS (Below.refl _ _)
      refine Rel.from_some 10 rfl rfl (fun a wq hS hK K hC => ?_) ?_
      · refine Reg.step_off (wanted_off (g := 5) rfl rfl rfl (hK.slot 5 _ _ _ rfl (by kernel_rfl))) ?_
        exact hC _ hS (Below.refl _ _)
      refine Rel.from_some 11 rfl rfl (fun a wq hS hK K hC => ?_) ?_
      · refine Reg.step_off (wanted_off (g := 5) rfl rfl rfl (hK.slot 5 _ _ _ rfl (by kernel_rfl))) ?_
        exact hC _ hS (Below.refl _ _)
      refine Rel.from_some 12 rfl rfl (fun a wq hS hK K hC => ?_) ?_
      · refine Reg.step_off (wanted_off (g := 5) rfl rfl rfl (hK.slot 5 _ _ _ rfl (by kernel_rfl))) ?_
        exact hC _ hS (Below.refl _ _)
      refine Rel.from_some 13 rfl rfl (fun a wq hS hK K hC => ?_) ?_
      · refine Reg.step_on (by rfl) ?_
        have e79 := hK.slot 5 _ _ _ rfl (by kernel_rfl)
        have e86 := hK.slot 12 _ _ _ rfl (by kernel_rfl)
        clear hK
        go_simp
        exact hC _ hS (Below.refl _ _)
      refine Rel.from_some 14 rfl rfl (fun a wq hS hK K hC => ?_) ?_
      · refine Reg.step_on (by rfl) ?_
        have e87 := hK.slot 13 _ _ _ rfl (by kernel_rfl)
        clear hK
        go_simp
        exact hC _ hS (Below.refl _ _)
      exact Rel.from_nil
    case r2okv => rfl
    case r2hlt => rfl
    case r2fin =>
      intro U wz hS hU
      clear hU
      simp only [Rel.inst, Nat.zero_add, Reg.putV, List.foldl_cons, List.foldl_nil, Act.put, List.setIfInBounds_toArray, List.set_cons_zero, List.set_cons_succ]
      have HBz := Aside0.mk (below_step HB9.out hS.2.2)
      have hcv1 := own_string (P := Try.prog) (w := wz) Try.underlying32 Try.underlying5 Try.underlying9 (Kd.own_of_R (Kd.R_below HOh.out hS.2.2))
      have hcv2 := own_string (P := Try.prog) (w := wz) Try.underlying32 Try.underlying5 Try.underlying9 (Kd.own_of_R (Kd.R_below HOi.out hS.2.2))
      clear hS 
      rcases HF.out with hE | ⟨hE, hs⟩
      · subst hE
        go_wp2
        go_ret
        exact ⟨rfl, HBz.out⟩
      · subst hE
        go_wp2_with (first
          | (go_at_call 14; (with_reducible refine (alive_calls _).mono ?_); rintro e w8 ⟨rfl, hb8⟩; have HB8 := Aside0.mk (below_step HBz.out hb8); clear hb8))
        go_ret
        exact ⟨rfl, HB8.out⟩
theorem ImageBack_calls (lv lv2 : Int) (A A' : Option Addr) (c c' : Nat) (l l2 : List S50) (w : World) (hr : Kd.C k50 w A l.length l) (hc : l.length ≤ c) (hl : l.length ≤ 3518437208883) (hr2 : Kd.C k50 w A' l2.length l2) (hc2 : l2.length ≤ c') (hl2 : l2.length ≤ 3518437208883) :
    Calls Try.prog 8 #[.agg #[.int .i64 lv, .slice A l.length c], .agg #[.int .i64 lv2, .slice A' l2.length c']] w fun e w' => e = .returned (.bool true) ∧ Below w.heap.size w w' := by
  cases hR1 : rightB lv (l.map conv) with
  | false => exact ImageBack_no lv lv2 A A' c c' l l2 w hr hc hl hr2 hc2 hl2 hR1
  | true => exact ImageBack_yes lv lv2 A A' c c' l l2 w hr hc hl hr2 hc2 hl2 hR1
end Go.Proofs.Ytpllpagbdmikpaa.PAll

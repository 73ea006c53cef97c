/- The laws HeaderBack, HeaderUnlike, walked. -/
import Derived.Test.YtnhlfbkpohidpaaDoorHg
import Derived.Deep.CutBlock
import Derived.Test.YtnhlfbkpohidpaaDoorReg
import Derived.Test.YtnhlfbkpohidpaaDoorWEqStruct
namespace Go.Proofs.YtnhlfbkpohidpaaDoor.Plain
open Go Go.RowKit Go.Proofs.YtnhlfbkpohidpaaDoorW.PrintWords
/-- A frame with one byte of its sum or payload turned is none, whatever stands behind. -/
theorem unframe_turned_rest {l : List Int} (hl : Bytes l) (h0 : l.length ≠ 0) (h1 : l.length ≤ 1024) (rest : List Int) {i : Nat} {v : Int} (hi : 2 ≤ i) (hi2 : i < (frameL l).1.length) (hv : 0 ≤ v ∧ v < 256) (hne : v ≠ (frameL l).1.getD i 0) :
    (unframeL ((frameL l).1.set i v ++ rest)).2.2 = false := by
  rw [frame_parts h0 h1] at hi2 hne ⊢
  simp only [List.length_append, putL_length] at hi2
  by_cases h6 : i < 6
  · have e : (putL 2 (l.length : Int) ++ putL 4 (((crc l).toNat : Nat) : Int) ++ l).set i v = putL 2 (l.length : Int) ++ (putL 4 (((crc l).toNat : Nat) : Int)).set (i - 2) v ++ l := by
      rw [List.set_append_left _ _ (by simp only [List.length_append, putL_length]; omega), List.set_append_right _ _ (by rw [putL_length]; omega), putL_length]
    simp only [e]
    rw [unframe_parts _ _ l rest (putL_length _ _) (by rw [List.length_set, putL_length]) (getL_len h1) h0 h1, if_neg]
    intro hc
    have h2 := four_turned (j := i - 2) (putL_length _ _) (Bytes.putL _ _) (by omega) (hc.symm.trans (getL_crc l).symm)
    apply hne
    rw [h2]
    simp only [List.getD_eq_getElem?_getD]
    rw [List.getElem?_append_left (by simp only [List.length_append, putL_length]; omega), List.getElem?_append_right (by rw [putL_length]; omega), putL_length]
  · have e : (putL 2 (l.length : Int) ++ putL 4 (((crc l).toNat : Nat) : Int) ++ l).set i v = putL 2 (l.length : Int) ++ putL 4 (((crc l).toNat : Nat) : Int) ++ l.set (i - 6) v := by
      rw [List.set_append_right _ _ (by simp only [List.length_append, putL_length]; omega)]
      simp only [List.length_append, putL_length]
    simp only [e]
    rw [unframe_parts _ _ (l.set (i - 6) v) rest (putL_length _ _) (putL_length _ _) (by rw [List.length_set]; exact getL_len h1) (by rw [List.length_set]; exact h0) (by rw [List.length_set]; exact h1), getL_crc, if_neg]
    intro hc
    have h2 : crc (l.set (i - 6) v) = crc l := BitVec.eq_of_toNat_eq (by omega)
    have h3 := crc_turned l (i - 6) v (by omega) hl hv h2
    apply hne
    rw [h3]
    simp only [List.getD_eq_getElem?_getD]
    rw [List.getElem?_append_right (by simp only [List.length_append, putL_length]; omega)]
    simp only [List.length_append, putL_length]
    rw [List.getElem?_eq_getElem (by omega)]
    rfl
/-- An image with one byte turned is none. -/
theorem image_turned {p : List Int} (hp : Bytes p) (h0 : p.length ≠ 0) (h1 : p.length ≤ 50) {page : Int} (hpg : 64 ≤ page) (kind : Int) (n : Nat) {i : Nat} {v : Int} (hi : 2 ≤ i) (hi2 : i < (imageL p page).length) (hv : 0 ≤ v ∧ v < 256) (hne : v ≠ (imageL p page).getD i 0) :
    openL ((imageL p page).set i v) kind n = none := by
  have hfl := frame_len h0 (show p.length ≤ 1024 by omega)
  rw [image_parts h0 h1 hpg] at hi2 hne ⊢
  have hd : ∀ l : List Int, l.getD i 0 = (l[i]?).getD 0 := fun l => List.getD_eq_getElem?_getD
  by_cases hf : i < (frameL p).1.length
  · rw [List.set_append_left _ _ hf]
    have hne2 : v ≠ (frameL p).1.getD i 0 := fun e => hne (by rw [e, hd, hd, List.getElem?_append_left hf])
    have := unframe_turned_rest hp h0 (by omega) (List.replicate (page.toNat - (6 + p.length)) 255) hi hf hv hne2
    unfold openL
    split
    · rfl
    · rw [if_neg (by rintro ⟨h, _⟩; rw [this] at h; cases h)]
  · rw [List.set_append_right _ _ (by omega)]
    have hl2 : i - (frameL p).1.length < page.toNat - (6 + p.length) := by
      simp only [List.length_append, List.length_replicate] at hi2
      omega
    have hv2 : v ≠ 255 := fun e => hne (by
      rw [e, hd, List.getElem?_append_right (by omega), List.getElem?_replicate, if_pos hl2]
      rfl)
    unfold openL
    split
    · rfl
    · rw [if_neg ?_]
      rintro ⟨_, _, _, hb⟩
      rw [unframe_frame _ h0 (by omega)] at hb
      have hdr : ((frameL p).1 ++ (List.replicate (page.toNat - (6 + p.length)) 255).set (i - (frameL p).1.length) v).drop (6 + (p.length : Int)).toNat = (List.replicate (page.toNat - (6 + p.length)) 255).set (i - (frameL p).1.length) v := List.drop_left' (by omega)
      simp only [hdr] at hb
      unfold blankL at hb
      rw [List.all_eq_true] at hb
      have := hb v (List.mem_of_getElem? (i := i - (frameL p).1.length) (by rw [List.getElem?_set_self (by rw [List.length_replicate]; exact hl2)]))
      simp at this
      exact hv2 this
theorem parse_turned {n page : Int} (hp : 64 ≤ page) {i : Nat} {v : Int} (hi : 2 ≤ i) (hi2 : i < (imageL (countP n) page).length) (hv : 0 ≤ v ∧ v < 256) (hne : v ≠ (imageL (countP n) page).getD i 0) :
    parseCountL ((imageL (countP n) page).set i v) = (0, false) := by
  unfold parseCountL
  rw [image_turned (countP_bytes n) (by rw [countP_length]; decide) (by rw [countP_length]; decide) hp 69 5 hi hi2 hv hne]
end Go.Proofs.YtnhlfbkpohidpaaDoor.Plain
namespace Go.Proofs.YtnhlfbkpohidpaaDoor.PAll
open Go.RowKit Go.Proofs.YtnhlfbkpohidpaaDoorW.PrintWords Go.Proofs.YtnhlfbkpohidpaaDoorW.PrintLast Go.Proofs.YtnhlfbkpohidpaaDoorW.PrintMore Go.Proofs.YtnhlfbkpohidpaaDoor.Plain
set_option linter.unusedVariables false
set_option linter.unusedSimpArgs false
attribute [local go_sem] max2_int min2_int max_two min_two max_three min_three max_four min_four
set_option maxRecDepth 100000 in
set_option maxHeartbeats 16000000 in
theorem back_is (n page leb seq pages ix tn : Int) (hn : -9223372036854775808 ≤ n ∧ n ≤ 9223372036854775807) (hlb : -9223372036854775808 ≤ leb ∧ leb ≤ 9223372036854775807) (hs : 0 ≤ seq ∧ seq < 18446744073709551616) (hpg : -9223372036854775808 ≤ pages ∧ pages ≤ 9223372036854775807) (ht : 0 ≤ tn ∧ tn < 256) (a : Addr) (w : World) (hg : gNone w a) :
    Calls Tryd.prog 5 #[.int .i64 n, .int .i64 page, .agg #[.int .i64 leb, .int .u64 seq, .int .i64 pages], .int .i64 ix, .int .u8 tn] w fun e w' => e = .returned (.bool true) ∧ Below w.heap.size w w' := by
  have HG := Aside0.mk hg
  have HTN := Aside0.mk ht
  have HC := Aside0.mk (fun w => count_is n page w)
  have HM := Aside0.mk (fun w => mapping_is leb seq pages page hs.1 w)
  have HAL := Aside0.mk (fun (w' : World) (hb : Below w.heap.size w w') => halive_is a w' (cell_below hg hb))
  have HEC : Aside0 ((countL n page).2 = 0 ∧ (0 ≤ n ∧ n ≤ 2147483647) ∧ (64 ≤ page ∧ page ≤ 512) ∧ (countL n page).1 = imageL (countP n) page ∨ (countL n page).2 = 22) := ⟨by
    by_cases h : n < 0 ∨ 2147483647 < n ∨ page < 64 ∨ 512 < page
    · right
      unfold countL
      rw [if_pos h]
    · left
      rw [count_ok (by omega) (by omega)]
      exact ⟨rfl, by omega, by omega, rfl⟩⟩
  have HEM : Aside0 ((mapL leb seq pages page).2 = 0 ∧ parseMapL (mapL leb seq pages page).1 = ((leb, seq, pages), true) ∧ parseCountL (mapL leb seq pages page).1 = (0, false) ∨ (mapL leb seq pages page).2 = 22) := ⟨by
    by_cases h : leb < 0 ∨ 256 ≤ leb ∨ pages < 0 ∨ 64 < pages ∨ page < 64 ∨ 512 < page
    · right
      unfold mapL
      rw [if_pos h]
    · left
      rw [map_ok (by omega) (by omega) (by omega)]
      exact ⟨rfl, parse_map (by omega) hs (by omega) (by omega), parse_count_map (by omega)⟩⟩
  have HBA := Aside0.mk (count_bytes n page)
  have HBB := Aside0.mk (map_bytes leb seq pages page)
  generalize (countL n page).1 = xa at HC HEC HBA
  generalize (countL n page).2 = ea at HC HEC
  generalize (mapL leb seq pages page).1 = xb at HM HEM HBB
  generalize (mapL leb seq pages page).2 = eb at HM HEM
  have hu24 := Tryd.underlying24
  have hu30 := Tryd.underlying30
  have hu25 := Tryd.underlying25
  have hu5 := Tryd.underlying5
  clear hn hlb hs hpg hg ht
  go_enter Tryd.func5, Tryd.ntmps5
  go_upto_region 1 with (fail)
  generalize hW : w.alloc (.cells #[.int .i64 leb, .int .u64 seq, .int .i64 pages] 24) = wa
  have HBX : Aside0 (Below w.heap.size w wa) := ⟨by rw [← hW]; exact below_alloc (Below.refl _ _) _⟩
  have HXA : Aside0 (wa.heap[w.heap.size]? = some (.cells #[.int .i64 leb, .int .u64 seq, .int .i64 pages] 24 (0, 0))) := ⟨by rw [← hW]; exact new_blk _ _ _⟩
  have HGM0 := Aside0.mk (Nat.le_refl w.heap.size)
  generalize hgm : w.heap.size = gm at HXA ⊢
  have HGM : Aside0 (w.heap.size ≤ gm) := ⟨Nat.le_of_eq hgm⟩
  clear hW hgm HGM0
  have HBX2 : Aside0 (Below w.heap.size w wa) := HBX
  go_upto_region 2 with (first
    | (go_at_call 7; (with_reducible refine (HC.out _).mono ?_); rintro e w1 ⟨v1, rfl, hr1, hb1⟩; have HR1 := Aside0.mk (Kd.R_lower hr1 (below_size HBX2.out)); obtain ⟨A1, c1, e1⟩ := Kd.R_slice hr1; have HV1 := Aside0.mk e1; subst e1; have HB1 := Aside0.mk (below_step HBX2.out hb1); have HX1 := Aside0.mk (keep_below HXA.out hb1); clear hr1 hb1))
  have y0 := Joins.cell_of_block HX1.out 0
  have y1 := Joins.cell_of_block HX1.out 1
  have y2 := Joins.cell_of_block HX1.out 2
  go_upto_region 3 with (first
    | (go_at_call 9; (with_reducible refine (HM.out _).mono ?_); rintro e w2 ⟨v2, rfl, hr2, hb2⟩; have HR2 := Aside0.mk hr2; obtain ⟨A2, c2, e2⟩ := Kd.R_slice hr2; subst e2; have HB2 := Aside0.mk (below_step HB1.out hb2); have HX2 := Aside0.mk (keep_below HX1.out hb2); have HS2 := Aside0.mk (Kd.R_below HR1.out hb2); have HA2 := Aside0.mk (HAL.out w2 HB2.out); clear hr2 hb2))
  clear y0 y1 y2
  go_upto_if 44 with (first
    | (go_at_call 12; (with_reducible refine HA2.out.mono ?_); rintro e w3 ⟨rfl, hb3⟩; have HB3 := Aside0.mk (below_step HB2.out hb3); have HX3 := Aside0.mk (keep_below HX2.out hb3); have HS3 := Aside0.mk (Kd.R_below HS2.out hb3); have HR3 := Aside0.mk (Kd.R_below HR2.out hb3); clear hb3))
  go_cut [] (fun wx => Aside0 (Kd.R kB 5 wx w1.heap.size (fun _ => True) (.slice A2 xb.length c2) xb) ∧ Aside0 (wx.heap[gm]? = some (.cells #[.int .i64 leb, .int .u64 seq, .int .i64 pages] 24 (0, 0))) ∧ Aside0 (Below w.heap.size w wx))
  case first =>
    rcases HEC.out with ⟨h0, h1, h2, h3⟩ | h0
    · subst h0
      have hx0 : 0 < xa.length := by rw [h3, image_length]; omega
      obtain ⟨ga, ca, ea1, hga, hgl, cells, hgc⟩ := Kd.R_form HR1.out hx0
      have HGL := Aside0.mk (show ga < w1.heap.size from hgl)
      simp only [Value.slice.injEq] at ea1
      obtain ⟨rfl, -, rfl⟩ := ea1
      have HLN := Aside0.mk (show xa.length ≤ c1 from (Kd.R_reads' HS3.out).2.1)
      have HPC := Aside0.mk (show Calls Tryd.prog 13 #[.slice (some ⟨ga, 0, none⟩) xa.length c1] w3 (fun e w' => e = .returned (.tuple #[.int .i64 n, .bool true]) ∧ Below w3.heap.size w3 w') from by
        have h := parseCount_is (some ⟨ga, 0, none⟩) c1 xa a w3 HBA.out (Kd.R_reads' HS3.out).2.2 HLN.out (cell_below HG.out HB3.out)
        rw [h3, parse_count h1 h2] at h
        rw [h3]
        exact h)
      have HPM := Aside0.mk (fun (w' : World) (hb : Below w3.heap.size w3 w') => show Calls Tryd.prog 15 #[.slice (some ⟨ga, 0, none⟩) xa.length c1] w' (fun e w2 => e = .returned (.tuple #[.agg #[.int .i64 0, .int .u64 0, .int .i64 0], .bool false]) ∧ Below w'.heap.size w' w2) from by
        have h := parseMap_is (some ⟨ga, 0, none⟩) c1 xa a w' HBA.out (Kd.R_reads' (Kd.R_below HS3.out hb)).2.2 HLN.out (cell_below HG.out (below_step HB3.out hb))
        rw [h3, parse_map_count h2] at h
        rw [h3]
        exact h)
      have e1 : ((xa.length : Int) != page) = false := by
        rw [h3, image_length]
        simp
        omega
      have e2 : (n != n) = false := by simp
      have HTD := Aside0.mk (fun (i : Nat) (v : Int) (hi : 2 ≤ i) (hi2 : i < xa.length) (hv : 0 ≤ v ∧ v < 256) (hne : v ≠ xa.getD i 0) => show parseCountL (xa.set i v) = (0, false) from by
        rw [h3] at hi2 hne ⊢
        exact parse_turned h2.1 hi hi2 hv hne)
      have HGA := Aside0.mk (show w.heap.size ≤ ga from hga)
      clear h1 h2 h3 hx0 hga hgl hgc
      go_upto_region 8 with (first
        | (go_at_call 13; (with_reducible refine HPC.out.mono ?_); rintro e w4 ⟨rfl, hb4⟩; have HB4 := Aside0.mk hb4; have HPM4 := Aside0.mk (HPM.out w4 hb4); clear hb4)
        | (go_at_call 15; (with_reducible refine HPM4.out.mono ?_); rintro e w5 ⟨rfl, hb5⟩; have HB5 := Aside0.mk (below_step HB4.out hb5); clear hb5))
      generalize hW : w5.alloc (.cells #[.int .i64 0, .int .u64 0, .int .i64 0] 30) = w6
      have HB6 : Aside0 (Below w3.heap.size w3 w6) := ⟨by rw [← hW]; exact below_alloc HB5.out _⟩
      clear hW
      have HX6 := Aside0.mk (keep_below HX3.out HB6.out)
      have HS6 := Aside0.mk (Kd.R_below HS3.out HB6.out)
      have HR6 := Aside0.mk (Kd.R_below HR3.out HB6.out)
      have HD6 := Aside0.mk (below_step HB3.out HB6.out)
      go_upto_region 10 with (fail)
      by_cases hi : 2 ≤ ix
      · have d0 : decide (2 ≤ ix) = true := decide_eq_true hi
        by_cases hi2 : ix < xa.length
        · have d1 : decide (ix < (xa.length : Int)) = true := decide_eq_true hi2
          by_cases ht : tn = 0
          · have e3 : (tn != 0) = false := by simp [ht]
            clear hi hi2 ht
            go_wp2
            go_meet
            case rel => exact ⟨HR6, HX6, HD6⟩
          · have e3 : (tn != 0) = true := by simp [ht]
            have hix0 : (0 ≤ ix) = True := eq_true (by omega)
            have hixl : (ix < (xa.length : Int)) = True := eq_true hi2
            obtain ⟨k, rfl⟩ : ∃ k : Nat, ix = (k : Int) := ⟨ix.toNat, by omega⟩
            have hkl : (k < xa.length) = True := eq_true (by omega)
            obtain ⟨hx0, hf0⟩ := Kd.R_celln 0 HS6.out (k : Int) (by omega) (by omega)
            have hxv0 : w6.cell? ⟨ga, k, none⟩ = some (.int .u8 (xa.getD k 0)) := hx0
            obtain ⟨z, hz⟩ : ∃ z, z = xa.getD k 0 := ⟨_, rfl⟩
            have hxv : w6.cell? ⟨ga, k, none⟩ = some (.int .u8 z) := by rw [hz]; exact hxv0
            have hfv : w6.frozen? ⟨ga, k, none⟩ = false := hf0
            have hbx := Bytes.getD HBA.out k
            have hvb := xor8_byte hbx HTN.out
            have hvn := xor8_ne hbx HTN.out ht
            have hS7 := Kd.R_putg HS6.out (k : Int) (Go.bits .xor .u8 (xa.getD k 0) tn)
            have hTD := HTD.out k (Go.bits .xor .u8 (xa.getD k 0) tn) (by omega) (by omega) hvb hvn
            have hby : Bytes (xa.set k (Go.bits .xor .u8 (xa.getD k 0) tn)) := fun x hx => by
              rcases List.mem_or_eq_of_mem_set hx with h | h
              · exact HBA.out x h
              · rw [h]; exact hvb
            rw [← hz] at hTD hS7 hby
            have HS7 := Aside0.mk (show Kd.R kB 5 (w6.setCell ⟨ga, k, none⟩ (.int .u8 (Go.bits .xor .u8 z tn))) w.heap.size (fun _ => True) (.slice (some ⟨ga, 0, none⟩) xa.length c1) (xa.set k (Go.bits .xor .u8 z tn)) from hS7.1)
            have HGR := Aside0.mk (show w6.grownBy (w6.setCell ⟨ga, k, none⟩ (.int .u8 (Go.bits .xor .u8 z tn))) (some ga) from hS7.2)
            have HTE := Aside0.mk hTD
            have HBY := Aside0.mk hby
            clear hi hi2 ht hx0 hf0 hbx hvb hvn hS7 hTD hby hz hxv0
            go_upto_region 12 with (fail)
            have HD7 : Aside0 (Below w.heap.size w (w6.setCell ⟨ga, k, none⟩ (.int .u8 (Go.bits .xor .u8 z tn)))) := ⟨below_set HD6.out HGA.out⟩
            change Code.wp _ _ _ _ (w6.setCell ⟨ga, k, none⟩ (.int .u8 (Go.bits .xor .u8 z tn)))
            generalize w6.setCell ⟨ga, k, none⟩ (.int .u8 (Go.bits .xor .u8 z tn)) = w7 at HS7 HGR HD7 ⊢
            generalize Go.bits .xor .u8 z tn = vv at HS7 HTE HBY ⊢
            have hsl : (xa.set k vv).length = xa.length := List.length_set
            have HPT := Aside0.mk (show Calls Tryd.prog 13 #[.slice (some ⟨ga, 0, none⟩) xa.length c1] w7 (fun e w' => e = .returned (.tuple #[.int .i64 0, .bool false]) ∧ Below w7.heap.size w7 w') from by
              have hr := (Kd.R_reads' HS7.out).2.2
              have h := parseCount_is (some ⟨ga, 0, none⟩) c1 (xa.set k vv) a w7 HBY.out hr (by rw [hsl]; exact HLN.out) (cell_below HG.out HD7.out)
              rw [HTE.out, hsl] at h
              exact h)
            have HX7 := Aside0.mk (keep_row HX6.out HGR.out (fun e => by
              have h8 := HX6.out
              obtain ⟨g9, c9, e9, _, _, cells9, hc9⟩ := Kd.R_form HS6.out (Nat.lt_of_le_of_lt (Nat.zero_le _) (of_eq_true hkl))
              simp only [Value.slice.injEq, Option.some.injEq, Addr.mk.injEq] at e9
              rw [← e9.1.1] at hc9
              simp only [Option.some.injEq] at e
              rw [e, hc9] at h8
              simp only [Option.some.injEq, Obj.cells.injEq] at h8
              exact absurd h8.2.1 (by decide)))
            have HR7 := Aside0.mk (Kd.R_grown1 HR6.out rfl HGR.out (fun e => by
              rcases Kd.R_base2 HR6.out with h9 | ⟨k9, h9, h10⟩
              · rw [h9] at e; cases e
              · rw [h9] at e
                simp only [Option.some.injEq] at e
                have := HGL.out
                omega))
            clear hsl
            go_wp2_with (first
              | (go_at_call 13; (with_reducible refine HPT.out.mono ?_); rintro e w8 ⟨rfl, hb8⟩; have HB8 := Aside0.mk (below_step HD7.out hb8); have HX8 := Aside0.mk (keep_below HX7.out hb8); have HR8 := Aside0.mk (Kd.R_below HR7.out hb8); clear hb8))
            go_meet
            case rel => exact ⟨HR8, HX8, HB8⟩
        · have d1 : decide (ix < (xa.length : Int)) = false := decide_eq_false hi2
          clear hi hi2
          go_wp2
          go_meet
          case rel => exact ⟨HR6, HX6, HD6⟩
      · have d0 : decide (2 ≤ ix) = false := decide_eq_false hi
        clear hi
        go_wp2
        go_meet
        case rel => exact ⟨HR6, HX6, HD6⟩
    · subst h0
      go_wp2
      go_meet
      case rel => exact ⟨HR3, HX3, HB3⟩
  case rest =>
    obtain ⟨HR4, HX4, HB4⟩ := hcut
    rcases HEM.out with ⟨h0, h1, h2⟩ | h0
    · subst h0
      have HLB := Aside0.mk (Kd.R_reads' HR4.out).2.1
      have HPM := Aside0.mk (show Calls Tryd.prog 15 #[.slice A2 xb.length c2] wc (fun e w2 => e = .returned (.tuple #[.agg #[.int .i64 leb, .int .u64 seq, .int .i64 pages], .bool true]) ∧ Below wc.heap.size wc w2) from by
        have h := parseMap_is A2 c2 xb a wc HBB.out (Kd.R_reads' HR4.out).2.2 HLB.out (cell_below HG.out HB4.out)
        rw [h1] at h
        exact h)
      have HPC := Aside0.mk (fun (w' : World) (hb : Below wc.heap.size wc w') => show Calls Tryd.prog 13 #[.slice A2 xb.length c2] w' (fun e w2 => e = .returned (.tuple #[.int .i64 0, .bool false]) ∧ Below w'.heap.size w' w2) from by
        have h := parseCount_is A2 c2 xb a w' HBB.out (Kd.R_reads' (Kd.R_below HR4.out hb)).2.2 HLB.out (cell_below HG.out (below_step HB4.out hb))
        rw [h2] at h
        exact h)
      clear h1 h2
      go_upto_region 17 with (first
        | (go_at_call 15; (with_reducible refine HPM.out.mono ?_); rintro e w9 ⟨rfl, hb9⟩; have HB9 := Aside0.mk hb9; clear hb9))
      generalize hW : w9.alloc (.cells #[.int .i64 leb, .int .u64 seq, .int .i64 pages] 30) = w10
      have HB10 : Aside0 (Below wc.heap.size wc w10) := ⟨by rw [← hW]; exact below_alloc HB9.out _⟩
      have HM10 : Aside0 (w10.heap[w9.heap.size]? = some (.cells #[.int .i64 leb, .int .u64 seq, .int .i64 pages] 30 (0, 0))) := ⟨by rw [← hW]; exact new_blk _ _ _⟩
      generalize w9.heap.size = gq at HM10 ⊢
      clear hW
      have HP10 := Aside0.mk (HPC.out w10 HB10.out)
      have HX10 := Aside0.mk (keep_below HX4.out HB10.out)
      go_upto_region 18 with (first
        | (go_at_call 13; (with_reducible refine HP10.out.mono ?_); rintro e w11 ⟨rfl, hb11⟩; have HB11 := Aside0.mk (below_step HB10.out hb11); have HX11 := Aside0.mk (keep_below HX10.out hb11); have HM11 := Aside0.mk (keep_below HM10.out hb11); clear hb11))
      have y0 := Joins.cell_of_block HX11.out 0
      have y1 := Joins.cell_of_block HX11.out 1
      have y2 := Joins.cell_of_block HX11.out 2
      have z0 := Joins.cell_of_block HM11.out 0
      have z1 := Joins.cell_of_block HM11.out 1
      have z2 := Joins.cell_of_block HM11.out 2
      go_wp2
      go_ret
      exact ⟨by first | rfl | simp, below_step HB4.out HB11.out⟩
    · subst h0
      go_wp2
      go_ret
      exact ⟨rfl, HB4.out⟩
theorem eqMap (d : Nat) (w : World) (x0 y0 x1 y1 x2 y2 : Int) :
    (Op.equalIn (d + 2) 24 (.agg #[.int .i64 x0, .int .u64 x1, .int .i64 x2]) (.agg #[.int .i64 y0, .int .u64 y1, .int .i64 y2])).run Tryd.prog w = .ok (x0 == y0 && (x1 == y1 && (x2 == y2))) w := by
  refine eqA_of Tryd.underlying24 (by kernel_rfl) ?_
  refine eqf_cons (by rfl) (by go_simp; rfl) (by go_simp; rfl) (by go_simp) ?_
  refine eqf_cons (by rfl) (by go_simp; rfl) (by go_simp; rfl) (by go_simp) ?_
  exact eqf_last (by rfl) (by go_simp; rfl) (by go_simp; rfl) (by go_simp)
theorem count_two {n k page : Int} (h1 : (countL n page).2 = 0) (h2 : (countL k page).2 = 0) : decide ((countL n page).1 = (countL k page).1) = decide (n = k) := by
  have e : ∀ n, (countL n page).2 = 0 → (0 ≤ n ∧ n ≤ 2147483647) ∧ (64 ≤ page ∧ page ≤ 512) ∧ (countL n page).1 = imageL (countP n) page := fun n h => by
    by_cases hb : n < 0 ∨ 2147483647 < n ∨ page < 64 ∨ 512 < page
    · exfalso
      unfold countL at h
      rw [if_pos hb] at h
      exact absurd h (by decide)
    · rw [count_ok (by omega) (by omega)]
      exact ⟨by omega, by omega, rfl⟩
  obtain ⟨a1, a2, a3⟩ := e n h1
  obtain ⟨b1, b2, b3⟩ := e k h2
  rw [a3, b3]
  by_cases h : n = k
  · subst h; simp
  · rw [decide_eq_false h, decide_eq_false]
    intro h9
    have := parse_count a1 a2
    rw [h9, parse_count b1 b2] at this
    simp at this
    exact h this.symm
theorem map_two {x0 x1 x2 y0 y1 y2 page : Int} (hs : 0 ≤ x1 ∧ x1 < 18446744073709551616) (ht : 0 ≤ y1 ∧ y1 < 18446744073709551616) (h1 : (mapL x0 x1 x2 page).2 = 0) (h2 : (mapL y0 y1 y2 page).2 = 0) : (decide ((mapL x0 x1 x2 page).1 = (mapL y0 y1 y2 page).1) == (x0 == y0 && (x1 == y1 && (x2 == y2)))) = true := by
  have e : ∀ x0 x1 x2, 0 ≤ x1 ∧ x1 < 18446744073709551616 → (mapL x0 x1 x2 page).2 = 0 → (mapL x0 x1 x2 page).1 = imageL (mapP x0 x1 x2) page ∧ parseMapL (imageL (mapP x0 x1 x2) page) = ((x0, x1, x2), true) := fun x0 x1 x2 hs h => by
    by_cases hb : x0 < 0 ∨ 256 ≤ x0 ∨ x2 < 0 ∨ 64 < x2 ∨ page < 64 ∨ 512 < page
    · exfalso
      unfold mapL at h
      rw [if_pos hb] at h
      exact absurd h (by decide)
    · rw [map_ok (by omega) (by omega) (by omega)]
      exact ⟨rfl, parse_map (by omega) hs (by omega) (by omega)⟩
  obtain ⟨a1, a2⟩ := e x0 x1 x2 hs h1
  obtain ⟨b1, b2⟩ := e y0 y1 y2 ht h2
  rw [a1, b1]
  by_cases h : x0 = y0 ∧ x1 = y1 ∧ x2 = y2
  · obtain ⟨rfl, rfl, rfl⟩ := h
    simp
  · have : ¬ (imageL (mapP x0 x1 x2) page = imageL (mapP y0 y1 y2) page) := fun h9 => h (by
      rw [h9, b2] at a2
      simp at a2
      exact ⟨a2.1.symm, a2.2.1.symm, a2.2.2.symm⟩)
    rw [decide_eq_false this]
    simp
    omega
set_option maxRecDepth 100000 in
set_option maxHeartbeats 16000000 in
theorem unlike_is (n k page x0 x1 x2 y0 y1 y2 : Int) (hs : 0 ≤ x1 ∧ x1 < 18446744073709551616) (ht : 0 ≤ y1 ∧ y1 < 18446744073709551616) (a : Addr) (w : World) (hg : gNone w a) :
    Calls Tryd.prog 6 #[.int .i64 n, .int .i64 k, .int .i64 page, .agg #[.int .i64 x0, .int .u64 x1, .int .i64 x2], .agg #[.int .i64 y0, .int .u64 y1, .int .i64 y2]] w fun e w' => e = .returned (.bool true) ∧ Below w.heap.size w w' := by
  have HAL := Aside0.mk (fun (w' : World) (hb : Below w.heap.size w w') => halive_is a w' (cell_below hg hb))
  have H1 := Aside0.mk (fun w => count_is n page w)
  have H2 := Aside0.mk (fun w => count_is k page w)
  have H3 := Aside0.mk (fun w => mapping_is x0 x1 x2 page hs.1 w)
  have H4 := Aside0.mk (fun w => mapping_is y0 y1 y2 page ht.1 w)
  have HCT := Aside0.mk (fun h1 h2 => count_two (n := n) (k := k) (page := page) h1 h2)
  have HMT := Aside0.mk (fun h1 h2 => map_two (x0 := x0) (x2 := x2) (y0 := y0) (y2 := y2) (page := page) hs ht h1 h2)
  have B1 := Aside0.mk (count_bytes n page)
  have B2 := Aside0.mk (count_bytes k page)
  have B3 := Aside0.mk (map_bytes x0 x1 x2 page)
  have B4 := Aside0.mk (map_bytes y0 y1 y2 page)
  generalize (countL n page).1 = p at H1 HCT B1
  generalize (countL n page).2 = ep at H1 HCT
  generalize (countL k page).1 = q at H2 HCT B2
  generalize (countL k page).2 = eq at H2 HCT
  generalize (mapL x0 x1 x2 page).1 = x at H3 HMT B3
  generalize (mapL x0 x1 x2 page).2 = ex at H3 HMT
  generalize (mapL y0 y1 y2 page).1 = y at H4 HMT B4
  generalize (mapL y0 y1 y2 page).2 = ey at H4 HMT
  have hu24 := Tryd.underlying24
  have hu30 := Tryd.underlying30
  clear hs ht hg
  go_enter Tryd.func6, Tryd.ntmps6
  go_upto_region 1 with (fail)
  generalize hW1 : w.alloc (.cells #[.int .i64 x0, .int .u64 x1, .int .i64 x2] 24) = w1
  generalize hW2 : w1.alloc (.cells #[.int .i64 y0, .int .u64 y1, .int .i64 y2] 24) = wa
  have hb1 : Below w.heap.size w w1 := by rw [← hW1]; exact below_alloc (Below.refl _ _) _
  have hb2 : Below w1.heap.size w1 wa := by rw [← hW2]; exact below_alloc (Below.refl _ _) _
  have hsz : w1.heap.size = w.heap.size + 1 := by rw [← hW1]; exact new_size _ _
  have HXA : Aside0 (wa.heap[w.heap.size]? = some (.cells #[.int .i64 x0, .int .u64 x1, .int .i64 x2] 24 (0, 0))) := ⟨keep_below (by rw [← hW1]; exact new_blk _ _ _) hb2⟩
  have HYA : Aside0 (wa.heap[w.heap.size + 1]? = some (.cells #[.int .i64 y0, .int .u64 y1, .int .i64 y2] 24 (0, 0))) := ⟨by rw [← hsz, ← hW2]; exact new_blk _ _ _⟩
  have HBA := Aside0.mk (below_step hb1 hb2)
  clear hb1 hb2 hsz hW2 hW1
  generalize w.heap.size + 1 = g2 at HYA ⊢
  have HBA2 : Aside0 (Below w.heap.size w wa) := HBA
  generalize w.heap.size = g1 at HXA ⊢
  go_upto_region 3 with (first
    | (go_at_call 7; (with_reducible refine (H1.out _).mono ?_); rintro e w2 ⟨v1, rfl, hr1, hb1⟩; obtain ⟨A1, c1, rfl, hl1, hC1⟩ := Kd.R_reads hr1; have HC1 := Aside0.mk hC1; have HL1 := Aside0.mk hl1; have HB2 := Aside0.mk (below_step HBA2.out hb1); have HX2 := Aside0.mk (keep_below HXA.out hb1); have HY2 := Aside0.mk (keep_below HYA.out hb1); clear hr1 hb1 hl1 hC1)
    | (go_at_call 7; (with_reducible refine (H2.out _).mono ?_); rintro e w3 ⟨v2, rfl, hr2, hb2⟩; obtain ⟨A2, c2, rfl, hl2, hC2⟩ := Kd.R_reads hr2; have HC2 := Aside0.mk hC2; have HL2 := Aside0.mk hl2; have HB3 := Aside0.mk (below_step HB2.out hb2); have HX3 := Aside0.mk (keep_below HX2.out hb2); have HY3 := Aside0.mk (keep_below HY2.out hb2); have HD2 := Aside0.mk (Kd.C_below HC1.out hb2); clear hr2 hb2 hl2 hC2))
  have r0 := Joins.cell_of_block HX3.out 0
  have r1 := Joins.cell_of_block HX3.out 1
  have r2 := Joins.cell_of_block HX3.out 2
  go_upto_region 4 with (first
    | (go_at_call 9; (with_reducible refine (H3.out _).mono ?_); rintro e w4 ⟨v3, rfl, hr3, hb3⟩; obtain ⟨A3, c3, rfl, hl3, hC3⟩ := Kd.R_reads hr3; have HC3 := Aside0.mk hC3; have HL3 := Aside0.mk hl3; have HB4 := Aside0.mk (below_step HB3.out hb3); have HX4 := Aside0.mk (keep_below HX3.out hb3); have HY4 := Aside0.mk (keep_below HY3.out hb3); have HD3 := Aside0.mk (Kd.C_below HD2.out hb3); have HE3 := Aside0.mk (Kd.C_below HC2.out hb3); clear hr3 hb3 hl3 hC3))
  clear r0 r1 r2
  have s0 := Joins.cell_of_block HY4.out 0
  have s1 := Joins.cell_of_block HY4.out 1
  have s2 := Joins.cell_of_block HY4.out 2
  go_upto_region 5 with (first
    | (go_at_call 9; (with_reducible refine (H4.out _).mono ?_); rintro e w5 ⟨v4, rfl, hr4, hb4⟩; obtain ⟨A4, c4, rfl, hl4, hC4⟩ := Kd.R_reads hr4; have HC4 := Aside0.mk hC4; have HL4 := Aside0.mk hl4; have HB5 := Aside0.mk (below_step HB4.out hb4); have HX5 := Aside0.mk (keep_below HX4.out hb4); have HY5 := Aside0.mk (keep_below HY4.out hb4); have HD5 := Aside0.mk (Kd.C_below HD3.out hb4); have HE5 := Aside0.mk (Kd.C_below HE3.out hb4); have HF5 := Aside0.mk (Kd.C_below HC3.out hb4); clear hr4 hb4 hl4 hC4))
  clear s0 s1 s2
  go_cut [69] (fun v wx => v = .bool false ∧ Aside0 (Below w5.heap.size w5 wx))
  case first =>
    by_cases h1 : ep = 0
    · subst h1
      by_cases h2 : eq = 0
      · subst h2
        have hd := HCT.out rfl rfl
        have HS := Aside0.mk (show Calls Tryd.prog 11 #[.slice A1 p.length c1, .slice A2 q.length c2] w5 (fun e w' => e = .returned (.bool (n == k)) ∧ Below w5.heap.size w5 w') from (same_is A1 A2 c1 c2 p q w5 B1.out B2.out HD5.out HL1.out HE5.out HL2.out).mono fun e w' h => ⟨h.1.trans (by rw [hd]; rfl), h.2⟩)
        have e1 : ((n == k) != (n == k)) = false := by simp
        clear hd
        go_wp2_with (first
          | (go_at_call 11; (with_reducible refine HS.out.mono ?_); rintro e w6 ⟨rfl, hb6⟩; have HB6 := Aside0.mk hb6; clear hb6))
        go_meet
        case rel => exact ⟨rfl, HB6⟩
      · have e1 : (eq == 0) = false := by simp [h2]
        clear h2
        go_wp2
        go_meet
        case rel => exact ⟨rfl, ⟨Below.refl _ _⟩⟩
    · have e1 : (ep == 0) = false := by simp [h1]
      clear h1
      go_wp2
      go_meet
      case rel => exact ⟨rfl, ⟨Below.refl _ _⟩⟩
  case rest =>
  obtain ⟨rfl, HBC⟩ := hcut
  go_upto_region 7 with (fail)
  obtain ⟨wb, hwb⟩ : ∃ wb, wb = wc := ⟨_, rfl⟩
  rw [← hwb] at HBC ⊢
  clear hwb
  have HXB := Aside0.mk (keep_below HX5.out HBC.out)
  have HYB := Aside0.mk (keep_below HY5.out HBC.out)
  have HWB := Aside0.mk (below_step HB5.out HBC.out)
  have HAB := Aside0.mk (fun (w' : World) (hb : Below wb.heap.size wb w') => HAL.out w' (below_step HWB.out hb))
  have HSM := Aside0.mk (fun (w' : World) (hb : Below wb.heap.size wb w') => same_is A3 A4 c3 c4 x y w' B3.out B4.out (Kd.C_below HF5.out (below_step HBC.out hb)) HL3.out (Kd.C_below HC4.out (below_step HBC.out hb)) HL4.out)
  obtain ⟨z, hz⟩ : ∃ z, z = (x0 == y0 && (x1 == y1 && (x2 == y2))) := ⟨_, rfl⟩
  have HZ := Aside0.mk hz
  rw [← hz] at HMT
  clear hz
  by_cases h1 : ex = 0
  · subst h1
    by_cases h2 : ey = 0
    · subst h2
      have em : (decide (x = y) == z) = true := HMT.out rfl rfl
      refine Reg.det [(0, 70, ?r3v0), (1, 71, ?r3v1), (2, 72, ?r3v2), (3, 73, ?r3v3), (4, 74, ?r3v4), (5, 75, ?r3v5), (6, 76, ?r3v6), (7, 77, ?r3v7), (8, 78, ?r3v8), (9, 79, ?r3v9), (10, 80, ?r3v10), (11, 81, ?r3v11), (12, 82, ?r3v12), (13, 83, ?r3v13), (14, 84, ?r3v14), (15, 85, ?r3v15), (16, 86, ?r3v16), (17, 87, ?r3v17), (18, 10, ?r3v18)] (fun w' => Below wb.heap.size wb w') (by rfl) rfl (by kernel_rfl) ?r3S ?r3steps ?r3okv ?r3hlt ?r3fin
      case r3S => exact below_drew (Below.refl _ _)
      case r3steps =>
        refine Reg.from_some 0 rfl rfl (fun a wq hS hK K hC => ?_) ?_
        · refine Reg.step_on (by rfl) ?_
          have e16 := hK.off 16 _ rfl rfl
          clear hK
          go_simp
          exact hC _ hS
        refine Reg.from_some 1 rfl rfl (fun a wq hS hK K hC => ?_) ?_
        · refine Reg.step_on (by rfl) ?_
          have e70 := hK.slot 0 _ _ _ rfl (by kernel_rfl)
          clear hK
          go_simp
          exact hC _ hS
        refine Reg.from_some 2 rfl rfl (fun a wq hS hK K hC => ?_) ?_
        · refine Reg.step_on (by rfl) ?_
          have e71 := hK.slot 1 _ _ _ rfl (by kernel_rfl)
          clear hK
          go_simp
          exact hC _ hS
        refine Reg.from_some 3 rfl rfl (fun a wq hS hK K hC => ?_) ?_
        · refine Reg.step_on (wanted_on (g := 2) rfl rfl rfl (hK.slot 2 _ _ _ rfl (by kernel_rfl))) ?_
          have e18 := hK.off 18 _ rfl rfl
          clear hK
          go_simp
          exact hC _ hS
        refine Reg.from_some 4 rfl rfl (fun a wq hS hK K hC => ?_) ?_
        · refine Reg.step_on (wanted_on (g := 2) rfl rfl rfl (hK.slot 2 _ _ _ rfl (by kernel_rfl))) ?_
          have e73 := hK.slot 3 _ _ _ rfl (by kernel_rfl)
          clear hK
          go_simp
          exact hC _ hS
        refine Reg.from_some 5 rfl rfl (fun a wq hS hK K hC => ?_) ?_
        · refine Reg.step_on (by rfl) ?_
          have e72 := hK.slot 2 _ _ _ rfl (by kernel_rfl)
          have e74 := hK.slot 4 _ _ _ rfl (by kernel_rfl)
          clear hK
          go_simp
          exact hC _ hS
        refine Reg.from_some 6 rfl rfl (fun a wq hS hK K hC => ?_) ?_
        · refine Reg.step_on (by rfl) ?_
          have e75 := hK.slot 5 _ _ _ rfl (by kernel_rfl)
          clear hK
          go_simp
          exact hC _ hS
        refine Reg.from_some 7 rfl rfl (fun a wq hS hK K hC => ?_) ?_
        · refine Reg.step_on (wanted_on (g := 6) rfl rfl rfl (hK.slot 6 _ _ _ rfl (by kernel_rfl))) ?_
          have e15 := hK.off 15 _ rfl rfl
          clear hK
          go_simp
          exact hC _ hS
        refine Reg.from_some 8 rfl rfl (fun a wq hS hK K hC => ?_) ?_
        · refine Reg.step_on (wanted_on (g := 6) rfl rfl rfl (hK.slot 6 _ _ _ rfl (by kernel_rfl))) ?_
          have e17 := hK.off 17 _ rfl rfl
          clear hK
          go_simp
          exact hC _ hS
        refine Reg.from_some 9 rfl rfl (fun a wq hS hK K hC => ?_) ?_
        · refine Reg.step_on (wanted_on (g := 6) rfl rfl rfl (hK.slot 6 _ _ _ rfl (by kernel_rfl))) ?_
          have e77 := hK.slot 7 _ _ _ rfl (by kernel_rfl)
          have e78 := hK.slot 8 _ _ _ rfl (by kernel_rfl)
          clear hK
          go_simp
          go_at_call 11; (with_reducible refine (HSM.out wq hS).mono ?_)
          rintro e w' ⟨rfl, hb⟩
          exact hC w' (below_step hS hb)
        refine Reg.from_some 10 rfl rfl (fun a wq hS hK K hC => ?_) ?_
        · refine Reg.step_on (wanted_on (g := 6) rfl rfl rfl (hK.slot 6 _ _ _ rfl (by kernel_rfl))) ?_
          have e8 := hK.off 8 _ rfl rfl
          have hxa := keep_below HXB.out hS
          have hya := keep_below HYB.out hS
          have r0 := Joins.cell_of_block hxa 0
          have r1 := Joins.cell_of_block hxa 1
          have r2 := Joins.cell_of_block hxa 2
          have s0 := Joins.cell_of_block hya 0
          have s1 := Joins.cell_of_block hya 1
          have s2 := Joins.cell_of_block hya 2
          clear hxa hya
          clear hK
          go_simp
          exact hC _ hS
        refine Reg.from_some 11 rfl rfl (fun a wq hS hK K hC => ?_) ?_
        · refine Reg.step_on (wanted_on (g := 6) rfl rfl rfl (hK.slot 6 _ _ _ rfl (by kernel_rfl))) ?_
          have e9 := hK.off 9 _ rfl rfl
          have hxa := keep_below HXB.out hS
          have hya := keep_below HYB.out hS
          have r0 := Joins.cell_of_block hxa 0
          have r1 := Joins.cell_of_block hxa 1
          have r2 := Joins.cell_of_block hxa 2
          have s0 := Joins.cell_of_block hya 0
          have s1 := Joins.cell_of_block hya 1
          have s2 := Joins.cell_of_block hya 2
          clear hxa hya
          clear hK
          go_simp
          exact hC _ hS
        refine Reg.from_some 12 rfl rfl (fun a wq hS hK K hC => ?_) ?_
        · refine Reg.step_on (wanted_on (g := 6) rfl rfl rfl (hK.slot 6 _ _ _ rfl (by kernel_rfl))) ?_
          have e80 := hK.slot 10 _ _ _ rfl (by kernel_rfl)
          have e81 := hK.slot 11 _ _ _ rfl (by kernel_rfl)
          clear hK
          go_simp
          have key : (if x0 = y0 then if x1 = y1 then if x2 = y2 then Result.ok (Next.value (Value.bool true)) wq else Result.ok (Next.value (Value.bool false)) wq else Result.ok (Next.value (Value.bool false)) wq else Result.ok (Next.value (Value.bool false)) wq) = Result.ok (Next.value (Value.bool z)) wq := by
            rw [HZ.out]
            by_cases h0 : x0 = y0 <;> by_cases h1 : x1 = y1 <;> by_cases h2 : x2 = y2 <;> simp [h0, h1, h2]
          rw [key]
          go_simp
          exact hC _ hS
        refine Reg.from_some 13 rfl rfl (fun a wq hS hK K hC => ?_) ?_
        · refine Reg.step_on (wanted_on (g := 6) rfl rfl rfl (hK.slot 6 _ _ _ rfl (by kernel_rfl))) ?_
          have e79 := hK.slot 9 _ _ _ rfl (by kernel_rfl)
          have e82 := hK.slot 12 _ _ _ rfl (by kernel_rfl)
          clear hK
          go_simp
          exact hC _ hS
        refine Reg.from_some 14 rfl rfl (fun a wq hS hK K hC => ?_) ?_
        · refine Reg.step_on (by rfl) ?_
          have e76 := hK.slot 6 _ _ _ rfl (by kernel_rfl)
          have e83 := hK.slot 13 _ _ _ rfl (by kernel_rfl)
          clear hK
          go_simp
          exact hC _ hS
        refine Reg.from_some 15 rfl rfl (fun a wq hS hK K hC => ?_) ?_
        · refine Reg.step_on (by rfl) ?_
          have e84 := hK.slot 14 _ _ _ rfl (by kernel_rfl)
          clear hK
          go_simp
          exact hC _ hS
        refine Reg.from_some 16 rfl rfl (fun a wq hS hK K hC => ?_) ?_
        · refine Reg.step_on (wanted_on (g := 15) rfl rfl rfl (hK.slot 15 _ _ _ rfl (by kernel_rfl))) ?_
          clear hK
          go_simp
          go_at_call 12; (with_reducible refine (HAB.out wq hS).mono ?_)
          rintro e w' ⟨rfl, hb⟩
          exact hC w' (below_step hS hb)
        refine Reg.from_some 17 rfl rfl (fun a wq hS hK K hC => ?_) ?_
        · refine Reg.step_on (by rfl) ?_
          have e85 := hK.slot 15 _ _ _ rfl (by kernel_rfl)
          have e86 := hK.slot 16 _ _ _ rfl (by kernel_rfl)
          clear hK
          go_simp
          exact hC _ hS
        refine Reg.from_some 18 rfl rfl (fun a wq hS hK K hC => ?_) ?_
        · refine Reg.step_on (by rfl) ?_
          have e87 := hK.slot 17 _ _ _ rfl (by kernel_rfl)
          clear hK
          go_simp
          exact hC _ hS
        exact Reg.from_nil
      case r3okv => rfl
      case r3hlt => rfl
      case r3fin =>
        intro wz hS
        simp only [Reg.putV, List.foldl_cons, List.foldl_nil, Act.put, List.setIfInBounds_toArray, List.set_cons_zero, List.set_cons_succ]
        have HSz := Aside0.mk hS
        clear hS
        go_wp2
        go_ret
        exact ⟨rfl, below_step HWB.out HSz.out⟩
    · have e2 : (ey != 0) = true := by simp [h2]
      clear h2
      refine Reg.det [(0, 70, ?r2v0), (1, 71, ?r2v1), (2, 72, ?r2v2), (3, 73, ?r2v3), (4, 74, ?r2v4), (5, 75, ?r2v5), (6, 76, ?r2v6), (7, 77, undef), (8, 78, undef), (9, 79, undef), (10, 80, undef), (11, 81, undef), (12, 82, undef), (13, 83, undef), (14, 84, ?r2v14), (15, 85, ?r2v15), (16, 86, ?r2v16), (17, 87, ?r2v17), (18, 10, ?r2v18)] (fun w' => Below wb.heap.size wb w') (by rfl) rfl (by kernel_rfl) ?r2S ?r2steps ?r2okv ?r2hlt ?r2fin
      case r2S => exact below_drew (Below.refl _ _)
      case r2steps =>
        refine Reg.from_some 0 rfl rfl (fun a wq hS hK K hC => ?_) ?_
        · refine Reg.step_on (by rfl) ?_
          have e16 := hK.off 16 _ rfl rfl
          clear hK
          go_simp
          exact hC _ hS
        refine Reg.from_some 1 rfl rfl (fun a wq hS hK K hC => ?_) ?_
        · refine Reg.step_on (by rfl) ?_
          have e70 := hK.slot 0 _ _ _ rfl (by kernel_rfl)
          clear hK
          go_simp
          exact hC _ hS
        refine Reg.from_some 2 rfl rfl (fun a wq hS hK K hC => ?_) ?_
        · refine Reg.step_on (by rfl) ?_
          have e71 := hK.slot 1 _ _ _ rfl (by kernel_rfl)
          clear hK
          go_simp
          exact hC _ hS
        refine Reg.from_some 3 rfl rfl (fun a wq hS hK K hC => ?_) ?_
        · refine Reg.step_on (wanted_on (g := 2) rfl rfl rfl (hK.slot 2 _ _ _ rfl (by kernel_rfl))) ?_
          have e18 := hK.off 18 _ rfl rfl
          clear hK
          go_simp
          exact hC _ hS
        refine Reg.from_some 4 rfl rfl (fun a wq hS hK K hC => ?_) ?_
        · refine Reg.step_on (wanted_on (g := 2) rfl rfl rfl (hK.slot 2 _ _ _ rfl (by kernel_rfl))) ?_
          have e73 := hK.slot 3 _ _ _ rfl (by kernel_rfl)
          clear hK
          go_simp
          exact hC _ hS
        refine Reg.from_some 5 rfl rfl (fun a wq hS hK K hC => ?_) ?_
        · refine Reg.step_on (by rfl) ?_
          have e72 := hK.slot 2 _ _ _ rfl (by kernel_rfl)
          have e74 := hK.slot 4 _ _ _ rfl (by kernel_rfl)
          clear hK
          go_simp
          exact hC _ hS
        refine Reg.from_some 6 rfl rfl (fun a wq hS hK K hC => ?_) ?_
        · refine Reg.step_on (by rfl) ?_
          have e75 := hK.slot 5 _ _ _ rfl (by kernel_rfl)
          clear hK
          go_simp
          exact hC _ hS
        refine Reg.from_some 7 rfl rfl (fun a wq hS hK K hC => ?_) ?_
        · refine Reg.step_off (wanted_off (g := 6) rfl rfl rfl (hK.slot 6 _ _ _ rfl (by kernel_rfl))) ?_
          exact hC _ hS
        refine Reg.from_some 8 rfl rfl (fun a wq hS hK K hC => ?_) ?_
        · refine Reg.step_off (wanted_off (g := 6) rfl rfl rfl (hK.slot 6 _ _ _ rfl (by kernel_rfl))) ?_
          exact hC _ hS
        refine Reg.from_some 9 rfl rfl (fun a wq hS hK K hC => ?_) ?_
        · refine Reg.step_off (wanted_off (g := 6) rfl rfl rfl (hK.slot 6 _ _ _ rfl (by kernel_rfl))) ?_
          exact hC _ hS
        refine Reg.from_some 10 rfl rfl (fun a wq hS hK K hC => ?_) ?_
        · refine Reg.step_off (wanted_off (g := 6) rfl rfl rfl (hK.slot 6 _ _ _ rfl (by kernel_rfl))) ?_
          exact hC _ hS
        refine Reg.from_some 11 rfl rfl (fun a wq hS hK K hC => ?_) ?_
        · refine Reg.step_off (wanted_off (g := 6) rfl rfl rfl (hK.slot 6 _ _ _ rfl (by kernel_rfl))) ?_
          exact hC _ hS
        refine Reg.from_some 12 rfl rfl (fun a wq hS hK K hC => ?_) ?_
        · refine Reg.step_off (wanted_off (g := 6) rfl rfl rfl (hK.slot 6 _ _ _ rfl (by kernel_rfl))) ?_
          exact hC _ hS
        refine Reg.from_some 13 rfl rfl (fun a wq hS hK K hC => ?_) ?_
        · refine Reg.step_off (wanted_off (g := 6) rfl rfl rfl (hK.slot 6 _ _ _ rfl (by kernel_rfl))) ?_
          exact hC _ hS
        refine Reg.from_some 14 rfl rfl (fun a wq hS hK K hC => ?_) ?_
        · refine Reg.step_on (by rfl) ?_
          have e76 := hK.slot 6 _ _ _ rfl (by kernel_rfl)
          have e83 := hK.slot 13 _ _ _ rfl (by kernel_rfl)
          clear hK
          go_simp
          exact hC _ hS
        refine Reg.from_some 15 rfl rfl (fun a wq hS hK K hC => ?_) ?_
        · refine Reg.step_on (by rfl) ?_
          have e84 := hK.slot 14 _ _ _ rfl (by kernel_rfl)
          clear hK
          go_simp
          exact hC _ hS
        refine Reg.from_some 16 rfl rfl (fun a wq hS hK K hC => ?_) ?_
        · refine Reg.step_on (wanted_on (g := 15) rfl rfl rfl (hK.slot 15 _ _ _ rfl (by kernel_rfl))) ?_
          clear hK
          go_simp
          go_at_call 12; (with_reducible refine (HAB.out wq hS).mono ?_)
          rintro e w' ⟨rfl, hb⟩
          exact hC w' (below_step hS hb)
        refine Reg.from_some 17 rfl rfl (fun a wq hS hK K hC => ?_) ?_
        · refine Reg.step_on (by rfl) ?_
          have e85 := hK.slot 15 _ _ _ rfl (by kernel_rfl)
          have e86 := hK.slot 16 _ _ _ rfl (by kernel_rfl)
          clear hK
          go_simp
          exact hC _ hS
        refine Reg.from_some 18 rfl rfl (fun a wq hS hK K hC => ?_) ?_
        · refine Reg.step_on (by rfl) ?_
          have e87 := hK.slot 17 _ _ _ rfl (by kernel_rfl)
          clear hK
          go_simp
          exact hC _ hS
        exact Reg.from_nil
      case r2okv => rfl
      case r2hlt => rfl
      case r2fin =>
        intro wz hS
        simp only [Reg.putV, List.foldl_cons, List.foldl_nil, Act.put, List.setIfInBounds_toArray, List.set_cons_zero, List.set_cons_succ]
        have HSz := Aside0.mk hS
        clear hS
        go_wp2
        go_ret
        exact ⟨rfl, below_step HWB.out HSz.out⟩
  · have e1 : (ex != 0) = true := by simp [h1]
    clear h1
    refine Reg.det [(0, 70, ?r1v0), (1, 71, ?r1v1), (2, 72, ?r1v2), (3, 73, undef), (4, 74, undef), (5, 75, ?r1v5), (6, 76, ?r1v6), (7, 77, undef), (8, 78, undef), (9, 79, undef), (10, 80, undef), (11, 81, undef), (12, 82, undef), (13, 83, undef), (14, 84, ?r1v14), (15, 85, ?r1v15), (16, 86, ?r1v16), (17, 87, ?r1v17), (18, 10, ?r1v18)] (fun w' => Below wb.heap.size wb w') (by rfl) rfl (by kernel_rfl) ?r1S ?r1steps ?r1okv ?r1hlt ?r1fin
    case r1S => exact below_drew (Below.refl _ _)
    case r1steps =>
      refine Reg.from_some 0 rfl rfl (fun a wq hS hK K hC => ?_) ?_
      · refine Reg.step_on (by rfl) ?_
        have e16 := hK.off 16 _ rfl rfl
        clear hK
        go_simp
        exact hC _ hS
      refine Reg.from_some 1 rfl rfl (fun a wq hS hK K hC => ?_) ?_
      · refine Reg.step_on (by rfl) ?_
        have e70 := hK.slot 0 _ _ _ rfl (by kernel_rfl)
        clear hK
        go_simp
        exact hC _ hS
      refine Reg.from_some 2 rfl rfl (fun a wq hS hK K hC => ?_) ?_
      · refine Reg.step_on (by rfl) ?_
        have e71 := hK.slot 1 _ _ _ rfl (by kernel_rfl)
        clear hK
        go_simp
        exact hC _ hS
      refine Reg.from_some 3 rfl rfl (fun a wq hS hK K hC => ?_) ?_
      · refine Reg.step_off (wanted_off (g := 2) rfl rfl rfl (hK.slot 2 _ _ _ rfl (by kernel_rfl))) ?_
        exact hC _ hS
      refine Reg.from_some 4 rfl rfl (fun a wq hS hK K hC => ?_) ?_
      · refine Reg.step_off (wanted_off (g := 2) rfl rfl rfl (hK.slot 2 _ _ _ rfl (by kernel_rfl))) ?_
        exact hC _ hS
      refine Reg.from_some 5 rfl rfl (fun a wq hS hK K hC => ?_) ?_
      · refine Reg.step_on (by rfl) ?_
        have e72 := hK.slot 2 _ _ _ rfl (by kernel_rfl)
        have e74 := hK.slot 4 _ _ _ rfl (by kernel_rfl)
        clear hK
        go_simp
        exact hC _ hS
      refine Reg.from_some 6 rfl rfl (fun a wq hS hK K hC => ?_) ?_
      · refine Reg.step_on (by rfl) ?_
        have e75 := hK.slot 5 _ _ _ rfl (by kernel_rfl)
        clear hK
        go_simp
        exact hC _ hS
      refine Reg.from_some 7 rfl rfl (fun a wq hS hK K hC => ?_) ?_
      · refine Reg.step_off (wanted_off (g := 6) rfl rfl rfl (hK.slot 6 _ _ _ rfl (by kernel_rfl))) ?_
        exact hC _ hS
      refine Reg.from_some 8 rfl rfl (fun a wq hS hK K hC => ?_) ?_
      · refine Reg.step_off (wanted_off (g := 6) rfl rfl rfl (hK.slot 6 _ _ _ rfl (by kernel_rfl))) ?_
        exact hC _ hS
      refine Reg.from_some 9 rfl rfl (fun a wq hS hK K hC => ?_) ?_
      · refine Reg.step_off (wanted_off (g := 6) rfl rfl rfl (hK.slot 6 _ _ _ rfl (by kernel_rfl))) ?_
        exact hC _ hS
      refine Reg.from_some 10 rfl rfl (fun a wq hS hK K hC => ?_) ?_
      · refine Reg.step_off (wanted_off (g := 6) rfl rfl rfl (hK.slot 6 _ _ _ rfl (by kernel_rfl))) ?_
        exact hC _ hS
      refine Reg.from_some 11 rfl rfl (fun a wq hS hK K hC => ?_) ?_
      · refine Reg.step_off (wanted_off (g := 6) rfl rfl rfl (hK.slot 6 _ _ _ rfl (by kernel_rfl))) ?_
        exact hC _ hS
      refine Reg.from_some 12 rfl rfl (fun a wq hS hK K hC => ?_) ?_
      · refine Reg.step_off (wanted_off (g := 6) rfl rfl rfl (hK.slot 6 _ _ _ rfl (by kernel_rfl))) ?_
        exact hC _ hS
      refine Reg.from_some 13 rfl rfl (fun a wq hS hK K hC => ?_) ?_
      · refine Reg.step_off (wanted_off (g := 6) rfl rfl rfl (hK.slot 6 _ _ _ rfl (by kernel_rfl))) ?_
        exact hC _ hS
      refine Reg.from_some 14 rfl rfl (fun a wq hS hK K hC => ?_) ?_
      · refine Reg.step_on (by rfl) ?_
        have e76 := hK.slot 6 _ _ _ rfl (by kernel_rfl)
        have e83 := hK.slot 13 _ _ _ rfl (by kernel_rfl)
        clear hK
        go_simp
        exact hC _ hS
      refine Reg.from_some 15 rfl rfl (fun a wq hS hK K hC => ?_) ?_
      · refine Reg.step_on (by rfl) ?_
        have e84 := hK.slot 14 _ _ _ rfl (by kernel_rfl)
        clear hK
        go_simp
        exact hC _ hS
      refine Reg.from_some 16 rfl rfl (fun a wq hS hK K hC => ?_) ?_
      · refine Reg.step_on (wanted_on (g := 15) rfl rfl rfl (hK.slot 15 _ _ _ rfl (by kernel_rfl))) ?_
        clear hK
        go_simp
        go_at_call 12; (with_reducible refine (HAB.out wq hS).mono ?_)
        rintro e w' ⟨rfl, hb⟩
        exact hC w' (below_step hS hb)
      refine Reg.from_some 17 rfl rfl (fun a wq hS hK K hC => ?_) ?_
      · refine Reg.step_on (by rfl) ?_
        have e85 := hK.slot 15 _ _ _ rfl (by kernel_rfl)
        have e86 := hK.slot 16 _ _ _ rfl (by kernel_rfl)
        clear hK
        go_simp
        exact hC _ hS
      refine Reg.from_some 18 rfl rfl (fun a wq hS hK K hC => ?_) ?_
      · refine Reg.step_on (by rfl) ?_
        have e87 := hK.slot 17 _ _ _ rfl (by kernel_rfl)
        clear hK
        go_simp
        exact hC _ hS
      exact Reg.from_nil
    case r1okv => rfl
    case r1hlt => rfl
    case r1fin =>
      intro wz hS
      simp only [Reg.putV, List.foldl_cons, List.foldl_nil, Act.put, List.setIfInBounds_toArray, List.set_cons_zero, List.set_cons_succ]
      have HSz := Aside0.mk hS
      clear hS
      go_wp2
      go_ret
      exact ⟨rfl, below_step HWB.out HSz.out⟩
end Go.Proofs.YtnhlfbkpohidpaaDoor.PAll

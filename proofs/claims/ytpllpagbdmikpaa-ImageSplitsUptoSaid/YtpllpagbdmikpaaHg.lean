import Derived.Test.YtpllpagbdmikpaaHf
import Derived.Lib.AppendStr
import Derived.Lib.SmallJoins
import Derived.Lib.AtoiErrMem
import Derived.Deep.RegionLaw
import Derived.WalkSpells
import Derived.Outline
namespace Go.Proofs.Ytpllpagbdmikpaa.PAll
open Go.RowKit Go.Proofs.YtpllpagbdmikpaaW.PrintWords Go.Proofs.YtpllpagbdmikpaaW.PrintLast Go.Proofs.YtpllpagbdmikpaaW.PrintMore
attribute [local go_sem] max2_int min2_int max_two min_two max_three min_three max_four min_four
theorem bytesWorld_below' (w : World) (e : TypeId) (s : ByteArray) : Below w.heap.size w (Lib.bytesWorld w e s) := Lib.bytesWorld_below w e s
/-! ### pumiceref10.Pack -/
theorem conv_get (l : List S50) (k : Nat) (hk : k < l.length) : (l.map conv).getD k z69 = conv (l.getD k z50) := by simp [List.getD, hk]
theorem right_key2 {lv : Int} {l : List S50} (h : rightB lv (l.map conv) = true) {k : Nat} (hk : k < l.length) : (l.getD k z50).f0.size ≤ 64 := by
  have h2 := right_key h (k := k) (by rw [List.length_map]; exact hk)
  rw [conv_get l k hk] at h2
  exact h2
set_option maxRecDepth 100000 in
set_option maxHeartbeats 4000000 in
theorem rpack_yes (lv : Int) (A : Option Addr) (c : Nat) (l : List S50) (w : World) (hr : Kd.C k50 w A l.length l) (hc : l.length ≤ c) (hG : ∀ s ∈ l, s.f0.size ≤ 140737488351232) (hl : l.length ≤ 3518437208883) (hR : rightB lv (l.map conv) = true) :
    Calls Try.prog 17 #[.agg #[.int .i64 lv, .slice A l.length c]] w fun e w' => ∃ v0_ : Value, e = .returned (.tuple #[v0_, .int .i64 0]) ∧ Kd.R (Kd.int .u8) 5 w' w.heap.size (fun _ => True) v0_ (packL lv (l.map conv)) ∧ Below w.heap.size w w' := by
  obtain ⟨KR, hKR⟩ := rRight_ev lv l (fun s hs => by have := hG s hs; omega) (by omega)
  have hKR2 := hKR KR (Nat.le_refl _)
  rw [hR] at hKR2
  have HKR := Aside0.mk hKR2
  obtain ⟨m, hm⟩ : ∃ m, m = l.map conv := ⟨_, rfl⟩
  have hml : m.length = l.length := by rw [hm, List.length_map]
  have HM := Aside0.mk hm
  have HML := Aside0.mk hml
  have HT := Aside0.mk hR
  rw [← hm]
  have HR := Aside0.mk hr
  have HC := Aside0.mk hc
  obtain ⟨g1, g2, g3, g4⟩ := right_8 hR
  rw [List.length_map] at g3 g4
  have h88 : (l.length : Int) ≤ 8 := by omega
  obtain ⟨ad, rfl, _⟩ := HR.out.2.2 (by omega)
  clear hr hc hR hKR hKR2 hm hml hG hl
  go_enter Try.func17, Try.ntmps17
  go_wp2_with (first
    | (go_at_call 19; (with_reducible refine (pumiceref10_Right.calls KR lv (some ad) c l true _ ?a1 ?a2 HKR.out).mono ?_); (case a1 => exact Kd.C_alloc HR.out _); (case a2 => exact HC.out); rintro e w1 ⟨rfl, hb1⟩; have HB1 := Aside0.mk hb1; have hbx := keep_below (new_blk _ _ _) hb1; have HX := Aside0.mk hbx; have hz := blk_lt hbx; have x0 := Joins.cell_of_block hbx 0; have x1 := Joins.cell_of_block hbx 1; clear hb1 hbx))
  go_loopw [4, 5] (fun v i wr => ∃ k : Nat, k ≤ l.length ∧ i = .int .i64 k ∧ Kd.R (Kd.int .u8) 5 wr w.heap.size (fun _ => True) v (packTo lv m k) ∧ Aside0 ((packTo lv m k).length ≤ 3 + 72 * k) ∧ Below w.heap.size w wr ∧ wr.heap[w.heap.size]? = some (.cells #[.int .i64 lv, .slice (some ad) l.length c] 31 (0, 0))) (fun _ i _ => l.length - (intOf i).toNat)
  case atStart => exact ⟨0, Nat.zero_le _, rfl, R_ints (xs := packTo lv m 0) (by simp only [packTo, List.take_zero, List.flatMap_nil, List.append_nil, HML.out]; exact new_blk _ _ _) (below_size (below_step (below_alloc (Below.refl _ _) _) HB1.out)) (by unfold maxLen; simp [packTo]), ⟨by simp [packTo]⟩, below_alloc (below_step (below_alloc (Below.refl _ _) _) HB1.out) _, keep_alloc HX.out _⟩
  case round =>
    obtain ⟨k, hk, rfl, ho, HLn, hb, hx⟩ := hrel
    have HO := Aside0.mk ho
    have HB := Aside0.mk hb
    have HX0 := Aside0.mk hx
    have x0 := Joins.cell_of_block hx 0
    have x1 := Joins.cell_of_block hx 1
    clear ho hb hx
    by_cases hlt : k < l.length
    · obtain ⟨ad', e0, c0, c1, c2, c3⟩ := at_T50 (Kd.C_below HR.out HB.out) (k : Int) (by omega) (by omega)
      cases e0
      simp only [Int.toNat_natCast] at c0 c1 c2 c3
      obtain ⟨s, hs⟩ : ∃ s, s = l.getD k z50 := ⟨_, rfl⟩
      have ers : rd_T50 l (k : Int) = s := by rw [hs]; rfl
      rw [ers] at c0 c1 c2 c3
      have hsz : s.f0.size ≤ 64 := by rw [hs]; exact right_key2 HT.out hlt
      have HSZ := Aside0.mk hsz
      have HSM := Aside0.mk (show s.f0.size ≤ 9223372036854775807 by omega)
      have HS := Aside0.mk hs
      obtain ⟨K6, hK6⟩ := rput_is s.f1.f0 2 (by omega)
      obtain ⟨K7, hK7⟩ := rput_is s.f1.f1 3 (by omega)
      obtain ⟨K8, hK8⟩ := rput_is s.f1.f2 2 (by omega)
      have HK6 := Aside0.mk hK6
      have HK7 := Aside0.mk hK7
      have HK8 := Aside0.mk hK8
      have kb := fun W => print_bytes (P := Try.prog) 9 32 5 Try.underlying9 Try.underlying32 Try.underlying5 s.f0 W
      have hwu : IntKind.u8.wrap (s.f0.size : Int) = (s.f0.size : Int) := by simp [IntKind.wrap, IntKind.signed, IntKind.bits]; omega
      clear hs ers hK6 hK7 hK8
      have hbW : Below wr.heap.size wr (wr.alloc (.cells #[.string s.f0, .int .i64 s.f1.f0, .int .i64 s.f1.f1, .int .i64 s.f1.f2] 50)) := below_alloc (Below.refl _ _) _
      have HO1 := Aside0.mk (Kd.R_below HO.out hbW)
      have HB1' := Aside0.mk (below_step HB.out hbW)
      have HXa := Aside0.mk (keep_below HX0.out hbW)
      have HS0 := Aside0.mk (show (wr.alloc (.cells #[.string s.f0, .int .i64 s.f1.f0, .int .i64 s.f1.f1, .int .i64 s.f1.f2] 50)).heap[wr.heap.size]? = some (.cells #[.string s.f0, .int .i64 s.f1.f0, .int .i64 s.f1.f1, .int .i64 s.f1.f2] 50 (0, 0)) from new_blk _ _ _)
      have HAS := Aside0.mk (show (wr.alloc (.cells #[.string s.f0, .int .i64 s.f1.f0, .int .i64 s.f1.f1, .int .i64 s.f1.f2] 50)).heap.size = wr.heap.size + 1 from Array.size_push _)
      clear hbW
      go_wp2_with (first
        | ((with_reducible refine gate_builtin (b := .append) (xs := #[.tmp 30, .tmp 35]) rfl ?_); at_builtin; refine Kd.R_append (Kd.int .u8) (w0 := w) (W := (wr.alloc (.cells #[.string s.f0, .int .i64 s.f1.f0, .int .i64 s.f1.f1, .int .i64 s.f1.f2] 50))) w.heap.size rfl (.tmp 30) (.tmp 35) 32 5 (.int .u8 0) 1 rfl Try.underlying32 info5 rfl Nat.zero_lt_one Nat.zero_lt_one u4 (packTo lv m k) (s.f0.size : Int) [.int .u8 (s.f0.size : Int)] (fun _ => True) (fun _ => False) rfl ?x3 rfl (fun _ h => h.elim) (fun _ _ => trivial) HO1.out HB1'.out ?s3 ?l3 ?_; (case x3 => rw [HAS.out]; rfl); (case s3 => exact below_size HB1'.out); (case l3 => have := HLn.out; omega); intro v3 w3 ho hb hg _; have HO3 := Aside0.mk ho; have HB3 := Aside0.mk hb; have HS3 := Aside0.mk (keep_row HS0.out hg (Kd.R_ne HO1.out HS0.out (by decide))); have HX3 := Aside0.mk (keep_row HXa.out hg (Kd.R_ne HO1.out HXa.out (by decide))); have z30 := Joins.cell_of_block HS3.out 0; have z31 := Joins.cell_of_block HS3.out 1; have z32 := Joins.cell_of_block HS3.out 2; have z33 := Joins.cell_of_block HS3.out 3; have HCB := Aside0.mk (Kd.C_of_reads (d := (0 : Int)) (h1 := fun _ => rfl) (bytes_reads w3 5 s.f0 HSM.out)); have hbb := bytesWorld_below' w3 5 s.f0; have HO4 := Aside0.mk (Kd.R_below HO3.out hbb); have HB4 := Aside0.mk (below_step HB3.out hbb); have HS4 := Aside0.mk (keep_below HS3.out hbb); have HX4 := Aside0.mk (keep_below HX3.out hbb); have y0 := Joins.cell_of_block HS4.out 0; clear ho hb hg hbb)
        | ((with_reducible refine gate_builtin (b := .append) (xs := #[.tmp 37, .tmp 40]) rfl ?_); at_builtin; refine Kd.R_append_rows (Kd.int .u8) (w0 := w) w.heap.size rfl (.tmp 37) (.tmp 40) 32 5 (.int .u8 0) 1 rfl Try.underlying32 info5 rfl Nat.zero_lt_one Nat.zero_lt_one v3 (packTo lv m k ++ [(s.f0.size : Int)]) (bytesOf s.f0) _ _ _ (fun _ => True) (fun _ => False) rfl rfl ?o5 ?r5 (fun _ _ h => h) (fun _ h => h.elim) ?f5 ?b5 ?s5 ?l5 ?_; (case o5 => exact HO4.out); (case r5 => exact HCB.out); (case f5 => exact fun _ _ => trivial); (case b5 => exact HB4.out); (case s5 => exact below_size HB4.out); (case l5 => have := HLn.out; have := HSZ.out; simp only [List.length_append, List.length_cons, List.length_nil]; omega); intro v5 w5 ho hb hg _; have HO5 := Aside0.mk ho; have HB5 := Aside0.mk hb; have HS5 := Aside0.mk (keep_row HS4.out hg (Kd.R_ne HO4.out HS4.out (by decide))); have HX5 := Aside0.mk (keep_row HX4.out hg (Kd.R_ne HO4.out HX4.out (by decide))); have z50 := Joins.cell_of_block HS5.out 0; have z51 := Joins.cell_of_block HS5.out 1; have z52 := Joins.cell_of_block HS5.out 2; have z53 := Joins.cell_of_block HS5.out 3; clear ho hb hg)
        | (go_at_call 34; (with_reducible refine (pumiceref01_Put.calls K6 (IntKind.u64.wrap s.f1.f0) 2 _ _ HK6.out).mono ?_); rintro e w6a ⟨v6a, rfl, hoa, hba⟩; have HP6 := Aside0.mk hoa; have HO6a := Aside0.mk (Kd.R_below HO5.out hba); have HB6a := Aside0.mk (below_step HB5.out hba); have HS6a := Aside0.mk (keep_below HS5.out hba); have HX6a := Aside0.mk (keep_below HX5.out hba); clear hoa hba; obtain ⟨Ap6, cp6, ep6⟩ := Kd.R_slice HP6.out; rw [Plain.putL_length] at ep6; subst ep6)
        | ((with_reducible refine gate_builtin (b := .append) (xs := #[.tmp 42, .tmp 47]) rfl ?_); at_builtin; refine Kd.R_append_rows (Kd.int .u8) (w0 := w) w.heap.size rfl (.tmp 42) (.tmp 47) 32 5 (.int .u8 0) 1 rfl Try.underlying32 info5 rfl Nat.zero_lt_one Nat.zero_lt_one v5 (packTo lv m k ++ [(s.f0.size : Int)] ++ bytesOf s.f0) (Plain.putL 2 (IntKind.u64.wrap s.f1.f0)) _ _ _ (fun _ => True) (fun _ => False) rfl rfl ?o6 ?r6 (fun _ _ h => h) (fun _ h => h.elim) ?f6 ?b6 ?s6 ?l6 ?_; (case o6 => exact HO6a.out); (case r6 => exact (Kd.R_reads' HP6.out).2.2); (case f6 => exact fun _ _ => trivial); (case b6 => exact HB6a.out); (case s6 => exact below_size HB6a.out); (case l6 => have := HLn.out; have := HSZ.out; simp only [List.length_append, List.length_cons, List.length_nil, bytesOf_length]; omega); intro v6 w6 ho hb hg _; have HO6 := Aside0.mk ho; have HB6 := Aside0.mk hb; have HS6 := Aside0.mk (keep_row HS6a.out hg (Kd.R_ne HO6a.out HS6a.out (by decide))); have HX6 := Aside0.mk (keep_row HX6a.out hg (Kd.R_ne HO6a.out HX6a.out (by decide))); have z60 := Joins.cell_of_block HS6.out 0; have z61 := Joins.cell_of_block HS6.out 1; have z62 := Joins.cell_of_block HS6.out 2; have z63 := Joins.cell_of_block HS6.out 3; clear ho hb hg)
        | (go_at_call 34; (with_reducible refine (pumiceref01_Put.calls K7 (IntKind.u64.wrap s.f1.f1) 3 _ _ HK7.out).mono ?_); rintro e w7a ⟨v7a, rfl, hoa, hba⟩; have HP7 := Aside0.mk hoa; have HO7a := Aside0.mk (Kd.R_below HO6.out hba); have HB7a := Aside0.mk (below_step HB6.out hba); have HS7a := Aside0.mk (keep_below HS6.out hba); have HX7a := Aside0.mk (keep_below HX6.out hba); clear hoa hba; obtain ⟨Ap7, cp7, ep7⟩ := Kd.R_slice HP7.out; rw [Plain.putL_length] at ep7; subst ep7)
        | ((with_reducible refine gate_builtin (b := .append) (xs := #[.tmp 49, .tmp 54]) rfl ?_); at_builtin; refine Kd.R_append_rows (Kd.int .u8) (w0 := w) w.heap.size rfl (.tmp 49) (.tmp 54) 32 5 (.int .u8 0) 1 rfl Try.underlying32 info5 rfl Nat.zero_lt_one Nat.zero_lt_one v6 (packTo lv m k ++ [(s.f0.size : Int)] ++ bytesOf s.f0 ++ Plain.putL 2 (IntKind.u64.wrap s.f1.f0)) (Plain.putL 3 (IntKind.u64.wrap s.f1.f1)) _ _ _ (fun _ => True) (fun _ => False) rfl rfl ?o7 ?r7 (fun _ _ h => h) (fun _ h => h.elim) ?f7 ?b7 ?s7 ?l7 ?_; (case o7 => exact HO7a.out); (case r7 => exact (Kd.R_reads' HP7.out).2.2); (case f7 => exact fun _ _ => trivial); (case b7 => exact HB7a.out); (case s7 => exact below_size HB7a.out); (case l7 => have := HLn.out; have := HSZ.out; simp only [List.length_append, List.length_cons, List.length_nil, Plain.putL_length, bytesOf_length]; omega); intro v7 w7 ho hb hg _; have HO7 := Aside0.mk ho; have HB7 := Aside0.mk hb; have HS7 := Aside0.mk (keep_row HS7a.out hg (Kd.R_ne HO7a.out HS7a.out (by decide))); have HX7 := Aside0.mk (keep_row HX7a.out hg (Kd.R_ne HO7a.out HX7a.out (by decide))); have z70 := Joins.cell_of_block HS7.out 0; have z71 := Joins.cell_of_block HS7.out 1; have z72 := Joins.cell_of_block HS7.out 2; have z73 := Joins.cell_of_block HS7.out 3; clear ho hb hg)
        | (go_at_call 34; (with_reducible refine (pumiceref01_Put.calls K8 (IntKind.u64.wrap s.f1.f2) 2 _ _ HK8.out).mono ?_); rintro e w8a ⟨v8a, rfl, hoa, hba⟩; have HP8 := Aside0.mk hoa; have HO8a := Aside0.mk (Kd.R_below HO7.out hba); have HB8a := Aside0.mk (below_step HB7.out hba); have HS8a := Aside0.mk (keep_below HS7.out hba); have HX8a := Aside0.mk (keep_below HX7.out hba); clear hoa hba; obtain ⟨Ap8, cp8, ep8⟩ := Kd.R_slice HP8.out; rw [Plain.putL_length] at ep8; subst ep8)
        | ((with_reducible refine gate_builtin (b := .append) (xs := #[.tmp 56, .tmp 61]) rfl ?_); at_builtin; refine Kd.R_append_rows (Kd.int .u8) (w0 := w) w.heap.size rfl (.tmp 56) (.tmp 61) 32 5 (.int .u8 0) 1 rfl Try.underlying32 info5 rfl Nat.zero_lt_one Nat.zero_lt_one v7 (packTo lv m k ++ [(s.f0.size : Int)] ++ bytesOf s.f0 ++ Plain.putL 2 (IntKind.u64.wrap s.f1.f0) ++ Plain.putL 3 (IntKind.u64.wrap s.f1.f1)) (Plain.putL 2 (IntKind.u64.wrap s.f1.f2)) _ _ _ (fun _ => True) (fun _ => False) rfl rfl ?o8 ?r8 (fun _ _ h => h) (fun _ h => h.elim) ?f8 ?b8 ?s8 ?l8 ?_; (case o8 => exact HO8a.out); (case r8 => exact (Kd.R_reads' HP8.out).2.2); (case f8 => exact fun _ _ => trivial); (case b8 => exact HB8a.out); (case s8 => exact below_size HB8a.out); (case l8 => have := HLn.out; have := HSZ.out; simp only [List.length_append, List.length_cons, List.length_nil, Plain.putL_length, bytesOf_length]; omega); intro v8 w8 ho hb hg _; have HO8 := Aside0.mk ho; have HB8 := Aside0.mk hb; have HS8 := Aside0.mk (keep_row HS8a.out hg (Kd.R_ne HO8a.out HS8a.out (by decide))); have HX8 := Aside0.mk (keep_row HX8a.out hg (Kd.R_ne HO8a.out HX8a.out (by decide))); have z80 := Joins.cell_of_block HS8.out 0; have z81 := Joins.cell_of_block HS8.out 1; have z82 := Joins.cell_of_block HS8.out 2; have z83 := Joins.cell_of_block HS8.out 3; clear ho hb hg))
      go_roundw
      case rel => exact ⟨k + 1, by omega, by go_num, by rw [packTo_succ lv m k (by have := HML.out; omega), HM.out, conv_get l k hlt, ← HS.out, ← HM.out]; have e := HO8.out; simp only [List.append_assoc] at e; unfold slotBytes conv; simp only [List.append_assoc]; exact e, ⟨by rw [packTo_succ lv m k (by have := HML.out; omega), List.length_append, slotBytes_len, HM.out, conv_get l k hlt, ← HS.out, ← HM.out]; have := HLn.out; have := HSZ.out; unfold conv; simp only; omega⟩, HB8.out, HX8.out⟩
      case measure => simp [intOf]; omega
    · have hkl : k = l.length := by omega
      subst hkl
      clear hlt
      go_wp2
      go_ret2
      exact ⟨_, rfl, by rw [← packTo_all, HML.out]; exact HO.out, HB.out⟩
end Go.Proofs.Ytpllpagbdmikpaa.PAll

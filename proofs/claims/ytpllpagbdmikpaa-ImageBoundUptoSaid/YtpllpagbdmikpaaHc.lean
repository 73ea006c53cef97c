import Derived.Test.YtpllpagbdmikpaaPAllx4
import Derived.Test.YtpllpagbdmikpaaPAllx7
import Derived.Test.YtpllpagbdmikpaaHb
import Derived.Test.YtpllpagbdmikpaaHr
import Derived.Test.YtpllpagbdmikpaaMath
import Derived.Lib.AppendStr
import Derived.Lib.SmallJoins
import Derived.Deep.RegionLaw
import Derived.WalkSpells

import Derived.Outline
namespace Go.Proofs.Ytpllpagbdmikpaa.PAll
open Go.RowKit Go.Proofs.YtpllpagbdmikpaaW.PrintWords Go.Proofs.YtpllpagbdmikpaaW.PrintLast Go.Proofs.YtpllpagbdmikpaaW.PrintMore
attribute [local go_sem] max2_int min2_int max_two min_two max_three min_three max_four min_four
/-! ### image.Pack -/
section
variable {P : Program} {ops : Array Oper} {o : Oper} {a : Act} {Q : Exit → Act → World → Prop} {Kc : Act → World → Prop}
theorem R_str_step {w0 W : World} (base : Nat) (hw : Region.wanted o (yielded ops a.tmps) = true) (s x : Operand) (t u e : TypeId)
    (ho : o.op = .call { callee := .builtin .append, args := #[s, x], argTypes := #[t, u] })
    (ht : P.underlying t = some (.slice e)) (hu : P.underlying u = some .string) (hinfo : (P.info? e).map (fun i => (i.zero, i.size, i.bytes)) = some (some (.int .u8 0), 1, 1))
    (v : Value) (xs : List Int) (y : ByteArray) (hs : a.eval s = v) (hx : a.eval x = .string y)
    (HO : (Kd.int .u8).R e W base (fun _ => True) v xs) (HB : Below base w0 W) (hbase : base ≤ W.heap.size) (hl : xs.length + y.size ≤ 140737488355328)
    (h : ∀ v1 w1, (Kd.int .u8).R e w1 base (fun _ => True) v1 (xs ++ bytesOf y) → Below base w0 w1 → W.grownBy w1 v.ownBlock → Kc (a.put o.dst v1) w1) :
    if Region.wanted o (yielded ops a.tmps) = true then Oper.wp P o a W Kc Q else Kc (a.put o.dst undef) W := by
  obtain ⟨i0, hi, hzz⟩ := Option.map_eq_some_iff.1 hinfo
  simp only [Prod.mk.injEq] at hzz
  obtain ⟨hz0, hz1, hz2⟩ := hzz
  rw [if_pos hw]
  have hown := Kd.own_of_R HO
  obtain ⟨v1, w1, hr, hown1, hg, _⟩ := Lib.run_append_own_string W base t u o.type e i0 ht hu hi hz0 hz1 hz2 v xs.length (nums .u8 xs) hown y (by simp only [maxLen]; omega) hl hbase
  unfold Oper.wp execOp
  simp only [ho, resolve, invoke, builtin, Sem.run_bind, Sem.run_pure, Result.andThen_ok, List.map_toArray, List.map_cons, List.map_nil, hs, hx, hr]
  have hl2 : (xs ++ bytesOf y).length = xs.length + y.size := by rw [List.length_append, bytesOf_length]
  have hc : nums .u8 (xs ++ bytesOf y) = nums .u8 xs ++ Lib.strCells y := by
    rw [nums_append]
    congr 1
    simp [nums, bytesOf, Lib.strCells]
  refine h v1 w1 (Kd.R_of_own (by rw [hl2]; show w1.ownsRow base e 1 v1 (xs.length + y.size) (nums .u8 (xs ++ bytesOf y)); rw [hc]; exact hown1) (fun _ _ => trivial)) (HB.grown hg hbase (own_base hown)) hg
end
theorem keep_row {W w1 : World} {row : Option Nat} {g t : Nat} {cs : Array Value} (h : W.heap[g]? = some (.cells cs t (0, 0))) (hg : W.grownBy w1 row) (hne : some g ≠ row) : w1.heap[g]? = some (.cells cs t (0, 0)) := by
  rw [hg.block g (blk_lt h) hne]; exact h
def slotBytes (s : S69) : List Int := [((s.f0.size : Nat) : Int)] ++ bytesOf s.f0 ++ Plain.putL 2 (IntKind.u64.wrap s.f1.f0) ++ Plain.putL 3 (IntKind.u64.wrap s.f1.f1) ++ Plain.putL 2 (IntKind.u64.wrap s.f1.f2)
def packL (lv : Int) (l : List S69) : List Int := [84, lv, ((l.length : Nat) : Int)] ++ l.flatMap slotBytes
def clampP (b : Int) : Nat := if b < 0 then 0 else if 8 < b then 8 else b.toNat
theorem bPut_is (n b : Int) (_ : 0 ≤ n) : bits_Put.f n b = some (Plain.putL (clampP b) n) := by
  have hc : b < 0 ∨ b = 0 ∨ b = 1 ∨ b = 2 ∨ b = 3 ∨ b = 4 ∨ b = 5 ∨ b = 6 ∨ b = 7 ∨ b = 8 ∨ 8 < b := by omega
  rcases hc with hc | rfl | rfl | rfl | rfl | rfl | rfl | rfl | rfl | rfl | hc
  · have e0 : mn (mx b 0) 8 = 0 := by unfold mn mx; rw [if_pos hc]; rfl
    simp [bits_Put.f, e0, clampP, hc, Plain.putL]
  · simp [bits_Put.f, mn, mx, clampP, Plain.putL]
  · simp [bits_Put.f, mn, mx, clampP, Plain.putL, List.range_succ]
  · simp [bits_Put.f, mn, mx, clampP, Plain.putL, List.range_succ, List.replicate]
  · simp [bits_Put.f, mn, mx, clampP, Plain.putL, List.range_succ, List.replicate]
  · simp [bits_Put.f, mn, mx, clampP, Plain.putL, List.range_succ, List.replicate]
  · simp [bits_Put.f, mn, mx, clampP, Plain.putL, List.range_succ, List.replicate]
  · simp [bits_Put.f, mn, mx, clampP, Plain.putL, List.range_succ, List.replicate]
  · simp [bits_Put.f, mn, mx, clampP, Plain.putL, List.range_succ, List.replicate]
  · simp [bits_Put.f, mn, mx, clampP, Plain.putL, List.range_succ, List.replicate]
  · have e0 : mn (mx b 0) 8 = 8 := by unfold mn mx; rw [if_neg (by omega : ¬ b < 0), if_pos hc]
    have e1 : clampP b = 8 := by unfold clampP; rw [if_neg (by omega), if_pos hc]
    rw [e1]
    simp [bits_Put.f, e0, Plain.putL, List.range_succ, List.replicate]
theorem putw_2 (n : Int) : bits_Put.f (IntKind.u64.wrap n) 2 = some (Plain.putL 2 (IntKind.u64.wrap n)) := bPut_is _ 2 (Plain.wrapU64_nn n).1
theorem putw_3 (n : Int) : bits_Put.f (IntKind.u64.wrap n) 3 = some (Plain.putL 3 (IntKind.u64.wrap n)) := bPut_is _ 3 (Plain.wrapU64_nn n).1
theorem right_8 {lv : Int} {l : List S69} (h : rightB lv l = true) : 0 ≤ lv ∧ lv ≤ 15 ∧ 1 ≤ l.length ∧ l.length ≤ 8 := by
  unfold rightB at h
  rw [Bool.and_eq_true] at h
  exact of_decide_eq_true h.1
theorem right_key {lv : Int} {l : List S69} (h : rightB lv l = true) {k : Nat} (hk : k < l.length) : (l.getD k z69).f0.size ≤ 64 := by
  unfold rightB at h
  rw [Bool.and_eq_true, List.all_eq_true] at h
  have h2 := h.2 k (List.mem_range.2 hk)
  unfold slotOk keyOk at h2
  simp only [Bool.and_eq_true, decide_eq_true_eq] at h2
  exact h2.1.1.2
theorem slotBytes_len (s : S69) : (slotBytes s).length = s.f0.size + 8 := by
  simp only [slotBytes, List.length_append, Plain.putL_length, bytesOf_length, List.length_cons, List.length_nil]; omega
def packTo (lv : Int) (l : List S69) (k : Nat) : List Int := [84, lv, ((l.length : Nat) : Int)] ++ (l.take k).flatMap slotBytes
theorem packTo_succ (lv : Int) (l : List S69) (k : Nat) (hk : k < l.length) : packTo lv l (k + 1) = packTo lv l k ++ slotBytes (l.getD k z69) := by
  unfold packTo
  rw [List.take_succ_eq_append_getElem hk, List.flatMap_append, List.append_assoc]
  simp [hk]
theorem packTo_all (lv : Int) (l : List S69) : packTo lv l l.length = packL lv l := by unfold packTo packL; rw [List.take_length]
set_option maxRecDepth 100000 in
set_option maxHeartbeats 4000000 in
theorem pack_yes (lv : Int) (A : Option Addr) (c : Nat) (l : List S69) (w : World) (hr : Kd.C k69 w A l.length l) (hc : l.length ≤ c) (hR : rightB lv l = true) :
    Calls Try.prog 15 #[.agg #[.int .i64 lv, .slice A l.length c]] w fun e w' => ∃ v0_ : Value, e = .returned (.tuple #[v0_, .int .i64 0]) ∧ Kd.R (Kd.int .u8) 5 w' w.heap.size (fun _ => True) v0_ (packL lv l) ∧ Below w.heap.size w w' := by
  have HR := Aside0.mk hr
  have HC := Aside0.mk hc
  have HT := Aside0.mk hR
  have h8 := (right_8 hR).2.2.2
  have h88 : (l.length : Int) ≤ 8 := by omega
  obtain ⟨g1, g2, g3, _⟩ := right_8 hR
  obtain ⟨ad, rfl, _⟩ := HR.out.2.2 (by omega)
  clear hr hc hR
  go_enter Try.func15, Try.ntmps15
  go_wp2_with (first
    | (go_at_call 18; (refine (right_any lv (some ad) c l _ ?a1 ?a2).mono ?_); (case a1 => exact Kd.C_alloc HR.out _); (case a2 => exact HC.out); rintro e w1 ⟨rfl, hb1⟩; rw [HT.out]; have HB1 := Aside0.mk hb1; have hbx := keep_below (new_blk _ _ _) hb1; have HX := Aside0.mk hbx; have hz := blk_lt hbx; have x0 := Joins.cell_of_block hbx 0; have x1 := Joins.cell_of_block hbx 1; clear hb1 hbx))
  go_loopw [4, 21] (fun v i wr => ∃ k : Nat, k ≤ l.length ∧ i = .int .i64 k ∧ Kd.R (Kd.int .u8) 5 wr w.heap.size (fun _ => True) v (packTo lv l k) ∧ Aside0 ((packTo lv l k).length ≤ 3 + 72 * k) ∧ Below w.heap.size w wr ∧ wr.heap[w.heap.size]? = some (.cells #[.int .i64 lv, .slice (some ad) l.length c] 37 (0, 0))) (fun _ i _ => l.length - (intOf i).toNat)
  case atStart => exact ⟨0, Nat.zero_le _, rfl, R_ints (xs := packTo lv l 0) (new_blk _ _ _) (below_size (below_step (below_alloc (Below.refl _ _) _) HB1.out)) (by unfold maxLen; simp [packTo]), ⟨by simp [packTo]⟩, below_alloc (below_step (below_alloc (Below.refl _ _) _) HB1.out) _, keep_alloc HX.out _⟩
  case round =>
    obtain ⟨k, hk, rfl, ho, HLn, hb, hx⟩ := hrel
    have HO := Aside0.mk ho
    have HB := Aside0.mk hb
    have HX3 := Aside0.mk hx
    clear ho hb hx
    by_cases hlt : k < l.length
    · obtain ⟨ad', e0, c0, c1, c2, c3⟩ := at_T69 (Kd.C_below HR.out HB.out) (k : Int) (by omega) (by omega)
      cases e0
      simp only [Int.toNat_natCast] at c0 c1 c2 c3
      obtain ⟨s, hs⟩ : ∃ s, s = l.getD k z69 := ⟨_, rfl⟩
      have ers : rd_T69 l (k : Int) = s := by rw [hs]; rfl
      rw [ers] at c0 c1 c2 c3
      have hsz : s.f0.size ≤ 64 := by rw [hs]; exact right_key HT.out hlt
      have HS := Aside0.mk hs
      clear hs ers
      go_wp2
      generalize hW : wr.alloc (.cells #[.string s.f0, .int .i64 s.f1.f0, .int .i64 s.f1.f1, .int .i64 s.f1.f2] 69) = W0
      have hbW : Below wr.heap.size wr W0 := by rw [← hW]; exact below_alloc (Below.refl _ _) _
      have hS0 : W0.heap[wr.heap.size]? = some (.cells #[.string s.f0, .int .i64 s.f1.f0, .int .i64 s.f1.f1, .int .i64 s.f1.f2] 69 (0, 0)) := by rw [← hW]; exact new_blk _ _ _
      have HO1 := Aside0.mk (Kd.R_below HO.out hbW)
      have HB2 := Aside0.mk (below_step HB.out hbW)
      have HXa := Aside0.mk (keep_below HX3.out hbW)
      have HS0 := Aside0.mk hS0
      have d0 := Joins.cell_of_block hS0 0
      have d0a : ∀ o, (W0.alloc o).cell? ⟨wr.heap.size, 0, none⟩ = some (.string s.f0) := fun o => Joins.cell_of_block (keep_alloc hS0 o) 0
      clear hW hbW hS0 c0 c1 c2 c3
      have hwu : IntKind.u8.wrap (s.f0.size : Int) = (s.f0.size : Int) := by simp [IntKind.wrap, IntKind.signed, IntKind.bits]; omega
      have hne := Kd.R_ne HO1.out HS0.out (by decide)
      have hneX := Kd.R_ne HO1.out HXa.out (by decide)
      have HN := Aside0.mk hne
      have HNX := Aside0.mk hneX
      clear hne hneX
      go_region_law (first
        | (rw [show (W0.alloc (.cells #[.int .u8 (s.f0.size : Int)] 5)).drew = W0.drew.alloc (.cells #[.int .u8 (s.f0.size : Int)] 5) from rfl]; refine Kd.R_append_step (Kd.int .u8) (w0 := w) w.heap.size ?z0 (.tmp 25) (.tmp 30) 32 5 (.int .u8 0) 1 ?za Try.underlying32 info5 rfl Nat.zero_lt_one Nat.zero_lt_one u4 (packTo lv l k) (s.f0.size : Int) [.int .u8 (s.f0.size : Int)] (fun _ => True) (fun _ => False) ?zb ?zc rfl (fun _ h => h.elim) (fun _ _ => trivial) (Kd.R_drew HO1.out) (below_drew HB2.out) ?z1 ?z2 ?_; (case z0 => rfl); (case za => rfl); (case zb => rfl); (case zc => rfl); (case z1 => exact below_size (below_drew HB2.out)); (case z2 => have := HLn.out; omega); intro v3 w3 ho3 hb3 hg3 hat3; have HO3 := Aside0.mk ho3; have HB3 := Aside0.mk hb3; have hs3 := keep_row (W := W0.drew) HS0.out hg3 HN.out; have HX4 := Aside0.mk (keep_row (W := W0.drew) HXa.out hg3 HNX.out); have HS3 := Aside0.mk hs3; have d3 := Joins.cell_of_block hs3 0; clear ho3 hb3 hg3 hat3 hs3)
        | (refine R_str_step (w0 := w) w.heap.size ?y0 (.tmp 31) (.tmp 33) 32 9 5 ?ya Try.underlying32 Try.underlying9 info5 v3 (packTo lv l k ++ [(s.f0.size : Int)]) s.f0 ?yb ?yc HO3.out HB3.out (below_size HB3.out) ?yd ?_; (case y0 => rfl); (case ya => rfl); (case yb => rfl); (case yc => rfl); (case yd => have := HLn.out; simp only [List.length_append, List.length_cons, List.length_nil]; omega); intro v5 w5 ho4 hb4 hg4; have HO4 := Aside0.mk ho4; have HB4 := Aside0.mk hb4; have hne3 := Kd.R_ne HO3.out HS3.out (by decide); have hne4 := Kd.R_ne HO3.out HX4.out (by decide); have HS4 := Aside0.mk (keep_row HS3.out hg4 hne3); have HX5 := Aside0.mk (keep_row HX4.out hg4 hne4); have HO5 := HO4; have HB5 := HB4; have HS5 := HS4; have z51 := Joins.cell_of_block HS4.out 1; have z52 := Joins.cell_of_block HS4.out 2; have z53 := Joins.cell_of_block HS4.out 3; clear ho4 hb4 hg4 hne3 hne4))
      all_goals
        go_wp2_with (first
        | (go_at_call 33; (with_reducible refine (bits_Put.calls (IntKind.u64.wrap s.f1.f0) 2 _ _ (putw_2 s.f1.f0)).mono ?_); rintro e w6a ⟨v6a, rfl, hoa, hba⟩; have HP6 := Aside0.mk hoa; have HO6a := Aside0.mk (Kd.R_below HO5.out hba); have HB6a := Aside0.mk (below_step HB5.out hba); have HS6a := Aside0.mk (keep_below HS5.out hba); have HX6a := Aside0.mk (keep_below HX5.out hba); clear hoa hba; obtain ⟨Ap6, cp6, ep6⟩ := Kd.R_slice HP6.out; rw [Plain.putL_length] at ep6; subst ep6)
        | ((with_reducible refine gate_builtin (b := .append) (xs := #[.tmp 35, .tmp 40]) rfl ?_); at_builtin; refine Kd.R_append_rows (Kd.int .u8) (w0 := w) w.heap.size rfl (.tmp 35) (.tmp 40) 32 5 (.int .u8 0) 1 rfl Try.underlying32 info5 rfl Nat.zero_lt_one Nat.zero_lt_one v5 (packTo lv l k ++ [(s.f0.size : Int)] ++ bytesOf s.f0) (Plain.putL 2 (IntKind.u64.wrap s.f1.f0)) _ _ _ (fun _ => True) (fun _ => False) rfl rfl ?o6 ?r6 (fun _ _ h => h) (fun _ h => h.elim) ?f6 ?b6 ?s6 ?l6 ?_; (case o6 => exact HO6a.out); (case r6 => exact (Kd.R_reads' HP6.out).2.2); (case f6 => exact fun _ _ => trivial); (case b6 => exact HB6a.out); (case s6 => exact below_size HB6a.out); (case l6 => have := HLn.out; simp only [List.length_append, List.length_cons, List.length_nil, bytesOf_length]; omega); intro v6 w6 ho hb hg _; have HO6 := Aside0.mk ho; have HB6 := Aside0.mk hb; have HS6 := Aside0.mk (keep_row HS6a.out hg (Kd.R_ne HO6a.out HS6a.out (by decide))); have HX6 := Aside0.mk (keep_row HX6a.out hg (Kd.R_ne HO6a.out HX6a.out (by decide))); have z61 := Joins.cell_of_block HS6.out 1; have z62 := Joins.cell_of_block HS6.out 2; have z63 := Joins.cell_of_block HS6.out 3; clear ho hb hg)
        | (go_at_call 33; (with_reducible refine (bits_Put.calls (IntKind.u64.wrap s.f1.f1) 3 _ _ (putw_3 s.f1.f1)).mono ?_); rintro e w7a ⟨v7a, rfl, hoa, hba⟩; have HP7 := Aside0.mk hoa; have HO7a := Aside0.mk (Kd.R_below HO6.out hba); have HB7a := Aside0.mk (below_step HB6.out hba); have HS7a := Aside0.mk (keep_below HS6.out hba); have HX7a := Aside0.mk (keep_below HX6.out hba); clear hoa hba; obtain ⟨Ap7, cp7, ep7⟩ := Kd.R_slice HP7.out; rw [Plain.putL_length] at ep7; subst ep7)
        | ((with_reducible refine gate_builtin (b := .append) (xs := #[.tmp 42, .tmp 47]) rfl ?_); at_builtin; refine Kd.R_append_rows (Kd.int .u8) (w0 := w) w.heap.size rfl (.tmp 42) (.tmp 47) 32 5 (.int .u8 0) 1 rfl Try.underlying32 info5 rfl Nat.zero_lt_one Nat.zero_lt_one v6 (packTo lv l k ++ [(s.f0.size : Int)] ++ bytesOf s.f0 ++ Plain.putL 2 (IntKind.u64.wrap s.f1.f0)) (Plain.putL 3 (IntKind.u64.wrap s.f1.f1)) _ _ _ (fun _ => True) (fun _ => False) rfl rfl ?o7 ?r7 (fun _ _ h => h) (fun _ h => h.elim) ?f7 ?b7 ?s7 ?l7 ?_; (case o7 => exact HO7a.out); (case r7 => exact (Kd.R_reads' HP7.out).2.2); (case f7 => exact fun _ _ => trivial); (case b7 => exact HB7a.out); (case s7 => exact below_size HB7a.out); (case l7 => have := HLn.out; simp only [List.length_append, List.length_cons, List.length_nil, Plain.putL_length, bytesOf_length]; omega); intro v7 w7 ho hb hg _; have HO7 := Aside0.mk ho; have HB7 := Aside0.mk hb; have HS7 := Aside0.mk (keep_row HS7a.out hg (Kd.R_ne HO7a.out HS7a.out (by decide))); have HX7 := Aside0.mk (keep_row HX7a.out hg (Kd.R_ne HO7a.out HX7a.out (by decide))); have z71 := Joins.cell_of_block HS7.out 1; have z72 := Joins.cell_of_block HS7.out 2; have z73 := Joins.cell_of_block HS7.out 3; clear ho hb hg)
        | (go_at_call 33; (with_reducible refine (bits_Put.calls (IntKind.u64.wrap s.f1.f2) 2 _ _ (putw_2 s.f1.f2)).mono ?_); rintro e w8a ⟨v8a, rfl, hoa, hba⟩; have HP8 := Aside0.mk hoa; have HO8a := Aside0.mk (Kd.R_below HO7.out hba); have HB8a := Aside0.mk (below_step HB7.out hba); have HS8a := Aside0.mk (keep_below HS7.out hba); have HX8a := Aside0.mk (keep_below HX7.out hba); clear hoa hba; obtain ⟨Ap8, cp8, ep8⟩ := Kd.R_slice HP8.out; rw [Plain.putL_length] at ep8; subst ep8)
        | ((with_reducible refine gate_builtin (b := .append) (xs := #[.tmp 49, .tmp 54]) rfl ?_); at_builtin; refine Kd.R_append_rows (Kd.int .u8) (w0 := w) w.heap.size rfl (.tmp 49) (.tmp 54) 32 5 (.int .u8 0) 1 rfl Try.underlying32 info5 rfl Nat.zero_lt_one Nat.zero_lt_one v7 (packTo lv l k ++ [(s.f0.size : Int)] ++ bytesOf s.f0 ++ Plain.putL 2 (IntKind.u64.wrap s.f1.f0) ++ Plain.putL 3 (IntKind.u64.wrap s.f1.f1)) (Plain.putL 2 (IntKind.u64.wrap s.f1.f2)) _ _ _ (fun _ => True) (fun _ => False) rfl rfl ?o8 ?r8 (fun _ _ h => h) (fun _ h => h.elim) ?f8 ?b8 ?s8 ?l8 ?_; (case o8 => exact HO8a.out); (case r8 => exact (Kd.R_reads' HP8.out).2.2); (case f8 => exact fun _ _ => trivial); (case b8 => exact HB8a.out); (case s8 => exact below_size HB8a.out); (case l8 => have := HLn.out; simp only [List.length_append, List.length_cons, List.length_nil, Plain.putL_length, bytesOf_length]; omega); intro v8 w8 ho hb hg _; have HO8 := Aside0.mk ho; have HB8 := Aside0.mk hb; have HS8 := Aside0.mk (keep_row HS8a.out hg (Kd.R_ne HO8a.out HS8a.out (by decide))); have HX8 := Aside0.mk (keep_row HX8a.out hg (Kd.R_ne HO8a.out HX8a.out (by decide))); have z81 := Joins.cell_of_block HS8.out 1; have z82 := Joins.cell_of_block HS8.out 2; have z83 := Joins.cell_of_block HS8.out 3; clear ho hb hg))
        go_roundw
        case rel => exact ⟨k + 1, by omega, by go_num, by rw [packTo_succ lv l k hlt, ← HS.out]; have e := HO8.out; simp only [List.append_assoc] at e; unfold slotBytes; simp only [List.append_assoc]; exact e, ⟨by rw [packTo_succ lv l k hlt, List.length_append, slotBytes_len, ← HS.out]; have := HLn.out; omega⟩, HB8.out, HX8.out⟩
        case measure => simp [intOf]; omega
    · have hkl : k = l.length := by omega
      subst hkl
      clear hlt
      go_wp2
      go_ret2
      exact ⟨_, rfl, by rw [← packTo_all]; exact HO.out, HB.out⟩
end Go.Proofs.Ytpllpagbdmikpaa.PAll

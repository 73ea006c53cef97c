/- Headers: Count, Mapping, frames, numbers on both sides, by their plain answers. -/
import Derived.Test.YtdlimghdimkadaaDoorEv
import Derived.Test.YtdlimghdimkadaaDoorHp
namespace Go.Proofs.YtdlimghdimkadaaDoor.PAll
open Go.RowKit Go.Proofs.YtdlimghdimkadaaDoorW.PrintWords Go.Proofs.YtdlimghdimkadaaDoorW.PrintLast Go.Proofs.YtdlimghdimkadaaDoor.Plain
set_option linter.unusedVariables false
set_option linter.unusedSimpArgs false
theorem Ev.succ {α : Type} {g : Nat → Option α} {r : α} (h : Ev (fun k => g (k + 1)) r) : Ev g r := Ev.step (fun _ => rfl) h
theorem rImage_ev (p : List Int) (hp : Bytes p) (h1 : p.length ≤ 50) (page : Int) (hq : 0 ≤ page ∧ page ≤ 512) : Ev (fun k => pumiceref05_image.f k p page) (imageL p page) := by
  unfold pumiceref05_image.f
  obtain ⟨q, rfl⟩ : ∃ q : Nat, page = (q : Int) := ⟨page.toNat, by omega⟩
  refine Ev.bind (rFrame_ev p hp (by omega)) ?_
  exact Ev.bind (rFill_ev _ q (by omega)) (Ev.now _)
theorem rCount_ev (n page : Int) : Ev (fun k => pumiceref05_Count.f k n page) (countL n page) := by
  unfold pumiceref05_Count.f countL
  by_cases h : n < 0 ∨ 2147483647 < n ∨ page < 64 ∨ 512 < page
  · rw [if_pos h]
    have hj : Ev (fun k => pumiceref05_Count.j0 k n page true) ([], 22) := Ev.succ (by simp only [pumiceref05_Count.j0, if_true]; exact Ev.now _)
    by_cases h1 : page < 64
    · simp only [if_pos h1]; exact hj
    · by_cases h2 : page > 512
      · simp only [if_neg h1, if_pos h2]; exact hj
      · by_cases h3 : n < 0
        · simp only [if_neg h1, if_neg h2, if_pos h3]; exact hj
        · simp only [if_neg h1, if_neg h2, if_neg h3, decide_eq_true (show n > 2147483647 by omega)]; exact hj
  · rw [if_neg h]
    simp only [if_neg (show ¬ (page < 64) by omega), if_neg (show ¬ (page > 512) by omega), if_neg (show ¬ (n < 0) by omega), decide_eq_false (show ¬ (n > 2147483647) by omega)]
    refine Ev.succ ?_
    simp only [pumiceref05_Count.j0, Bool.false_eq_true, if_false]
    rw [wrapU64_of (by omega) (by omega)]
    simp only [Option.bind_some]
    have h4 := rPut_ev n 4 (by omega)
    rw [show clamp 4 = 4 from rfl] at h4
    refine Ev.bind h4 ?_
    have hc := countP_bytes n
    have hl := countP_length n
    simp only [if_pos (show ([69] : List Int).length + (putL 4 n).length < 140737488355328 by rw [putL_length]; decide)]
    exact Ev.bind (rImage_ev (countP n) hc (by omega) page (by omega)) (Ev.now _)
theorem rMapping_ev (leb seq pages page : Int) (hs : 0 ≤ seq) : Ev (fun k => pumiceref05_Mapping.f k leb seq pages page) (mapL leb seq pages page) := by
  unfold pumiceref05_Mapping.f mapL
  by_cases h : leb < 0 ∨ 256 ≤ leb ∨ pages < 0 ∨ 64 < pages ∨ page < 64 ∨ 512 < page
  · rw [if_pos h]
    have hj : Ev (fun k => pumiceref05_Mapping.j0 k page true leb seq pages) ([], 22) := Ev.succ (by simp only [pumiceref05_Mapping.j0, if_true]; exact Ev.now _)
    by_cases h4 : page < 64
    · simp only [if_pos h4]; exact hj
    · by_cases h5 : page > 512
      · simp only [if_neg h4, if_pos h5]; exact hj
      · by_cases h1 : leb < 0
        · simp only [if_neg h4, if_neg h5, if_pos h1]; exact hj
        · by_cases h2 : leb ≥ 256
          · simp only [if_neg h4, if_neg h5, if_neg h1, if_pos h2]; exact hj
          · by_cases h3 : pages < 0
            · simp only [if_neg h4, if_neg h5, if_neg h1, if_neg h2, if_pos h3]; exact hj
            · simp only [if_neg h4, if_neg h5, if_neg h1, if_neg h2, if_neg h3, decide_eq_true (show pages > 64 by omega)]; exact hj
  · rw [if_neg h]
    simp only [if_neg (show ¬ (page < 64) by omega), if_neg (show ¬ (page > 512) by omega), if_neg (show ¬ (leb < 0) by omega), if_neg (show ¬ (leb ≥ 256) by omega), if_neg (show ¬ (pages < 0) by omega), decide_eq_false (show ¬ (pages > 64) by omega)]
    refine Ev.succ ?_
    simp only [pumiceref05_Mapping.j0, Bool.false_eq_true, if_false]
    rw [wrapU64_of (by omega) (by omega), show pages % 256 = pages by omega]
    simp only [Option.bind_some]
    have h2 := rPut_ev leb 2 (by omega)
    rw [show clamp 2 = 2 from rfl] at h2
    have h8 := rPut_ev seq 8 hs
    rw [show clamp 8 = 8 from rfl] at h8
    refine Ev.bind h2 ?_
    simp only [if_pos (show ([77] : List Int).length + (putL 2 leb).length < 140737488355328 by rw [putL_length]; decide)]
    refine Ev.bind h8 ?_
    have hc := mapP_bytes leb seq pages (by omega)
    have hl := mapP_length leb seq pages
    simp only [if_pos (show ([77] ++ putL 2 leb : List Int).length + (putL 8 seq).length < 140737488355328 by rw [List.length_append, putL_length, putL_length]; decide), if_pos (show ([77] ++ putL 2 leb ++ putL 8 seq : List Int).length < 140737488355328 by simp only [List.length_append, putL_length, List.length_cons, List.length_nil]; decide)]
    exact Ev.bind (rImage_ev (mapP leb seq pages) hc (by omega) page (by omega)) (Ev.now _)
/-! ### contracts -/
theorem rcount_is (n page : Int) (w : World) : Calls Tryd.prog 16 #[.int .i64 n, .int .i64 page] w fun e w' => ∃ v : Value, e = .returned (.tuple #[v, .int .i64 (countL n page).2]) ∧ Kd.R (Kd.int .u8) 5 w' w.heap.size (fun _ => True) v (countL n page).1 ∧ Below w.heap.size w w' := by
  obtain ⟨k, hk⟩ := (rCount_ev n page).rounds
  exact pumiceref05_Count.calls k n page _ _ w hk
theorem rmapping_is (leb seq pages page : Int) (hs : 0 ≤ seq) (w : World) : Calls Tryd.prog 17 #[.agg #[.int .i64 leb, .int .u64 seq, .int .i64 pages], .int .i64 page] w fun e w' => ∃ v : Value, e = .returned (.tuple #[v, .int .i64 (mapL leb seq pages page).2]) ∧ Kd.R (Kd.int .u8) 5 w' w.heap.size (fun _ => True) v (mapL leb seq pages page).1 ∧ Below w.heap.size w w' := by
  obtain ⟨k, hk⟩ := (rMapping_ev leb seq pages page hs).rounds
  exact pumiceref05_Mapping.calls k leb seq pages page _ _ w hk
section
variable (A : Option Addr) (c : Nat) (l : List Int) (w : World)
theorem unframe_is (hl : Bytes l) (hn : l.length ≤ 1000000) (hr : Kd.C (Kd.int .u8) w A l.length l) (hc : l.length ≤ c) : Calls Tryd.prog 71 #[.slice A l.length c] w fun e w' => ∃ v : Value, e = .returned (.tuple #[v, .int .i64 (unframeL l).2.1, .bool (unframeL l).2.2]) ∧ Kd.R (Kd.int .u8) 5 w' w.heap.size (fun _ => True) v (unframeL l).1 ∧ Below w.heap.size w w' := by
  obtain ⟨k, hk⟩ := (bUnframe_ev l hl (by omega)).rounds
  exact bits_Unframe.calls k A c l _ _ _ w hr hc hk
theorem get_is (hl : Bytes l) (hr : Kd.C (Kd.int .u8) w A l.length l) (hc : l.length ≤ c) : Calls Tryd.prog 75 #[.slice A l.length c] w fun e w' => e = .returned (.int .u64 (getL l)) ∧ Below w.heap.size w w' := by
  obtain ⟨k, hk⟩ := (bGet_ev l hl).rounds
  exact bits_Get.calls k A c l _ w hr hc hk
theorem blank_is (hn : l.length ≤ 9223372036854775806) (hr : Kd.C (Kd.int .u8) w A l.length l) (hc : l.length ≤ c) : Calls Tryd.prog 72 #[.slice A l.length c] w fun e w' => e = .returned (.bool (blankL l)) ∧ Below w.heap.size w w' := by
  obtain ⟨k, hk⟩ := (bBlank_ev l hn).rounds
  exact (bits_Blank.calls k A c l _ w hr hc hk).mono fun e w' h => ⟨h.1, h.2.below⟩
end
end Go.Proofs.YtdlimghdimkadaaDoor.PAll

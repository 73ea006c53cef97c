/- Headers, plain: what the two page images are, and what is read of any bytes. -/
import Derived.Test.YtdlimghdimkadaaDoorMath
namespace Go.Proofs.YtdlimghdimkadaaDoor.Plain
open Go Go.RowKit Go.Proofs.YtdlimghdimkadaaDoorW.PrintWords
def okPage (page : Int) : Prop := 64 ≤ page ∧ page ≤ 512
def imageL (p : List Int) (page : Int) : List Int := fillL (frameL p).1 page.toNat
def countP (n : Int) : List Int := 69 :: putL 4 n
def mapP (leb seq pages : Int) : List Int := 77 :: putL 2 leb ++ putL 8 seq ++ [pages]
def countL (n page : Int) : List Int × Int := if n < 0 ∨ 2147483647 < n ∨ page < 64 ∨ 512 < page then ([], 22) else (imageL (countP n) page, 0)
def mapL (leb seq pages page : Int) : List Int × Int := if leb < 0 ∨ 256 ≤ leb ∨ pages < 0 ∨ 64 < pages ∨ page < 64 ∨ 512 < page then ([], 22) else (imageL (mapP leb seq pages) page, 0)
/-- The payload of an image of a kind and a length. -/
def openL (b : List Int) (kind : Int) (n : Nat) : Option (List Int) :=
  if b.length < 64 ∨ 512 < b.length then none
  else if (unframeL b).2.2 = true ∧ (unframeL b).1.length = n ∧ (unframeL b).1.getD 0 0 = kind ∧ blankL (b.drop (unframeL b).2.1.toNat) = true then some (unframeL b).1 else none
def parseCountL (b : List Int) : Int × Bool :=
  match openL b 69 5 with
  | none => (0, false)
  | some p => if 2147483647 < getL (p.drop 1) then (0, false) else (getL (p.drop 1), true)
def parseMapL (b : List Int) : (Int × Int × Int) × Bool :=
  match openL b 77 12 with
  | none => ((0, 0, 0), false)
  | some p => if 256 ≤ getL ((p.drop 1).take 2) ∨ 64 < getL ((p.drop 11).take 1) then ((0, 0, 0), false) else ((getL ((p.drop 1).take 2), getL ((p.drop 3).take 8), getL ((p.drop 11).take 1)), true)
theorem unframe_bytes {b : List Int} (hb : Bytes b) : Bytes (unframeL b).1 := by
  unfold unframeL
  split
  · exact fun _ h => by cases h
  · split
    · exact fun _ h => by cases h
    · split
      · exact (hb.take _).drop _
      · exact fun _ h => by cases h
theorem unframe_end {b : List Int} (hb : Bytes b) : 0 ≤ (unframeL b).2.1 ∧ (unframeL b).2.1 ≤ b.length := by
  unfold unframeL
  split
  · exact ⟨Int.le_refl _, by simp⟩
  · rename_i h6
    have h0 := (getL_bd (hb.take 2)).1
    split
    · exact ⟨Int.le_refl _, by simp⟩
    · rename_i hc
      split
      · simp only [not_or, Int.not_lt] at hc
        exact ⟨by show 0 ≤ 6 + getL (b.take 2); omega, by show 6 + getL (b.take 2) ≤ b.length; omega⟩
      · exact ⟨Int.le_refl _, by simp⟩
theorem unframe_len {b : List Int} : (unframeL b).1.length ≤ 1024 := by
  unfold unframeL
  split
  · simp
  · split
    · simp
    · rename_i h6 hc
      split
      · simp only [not_or, Int.not_lt] at hc
        simp only [List.length_drop, List.length_take]
        omega
      · simp
theorem open_bytes {b p : List Int} {kind : Int} {n : Nat} (hb : Bytes b) (h : openL b kind n = some p) : Bytes p ∧ p.length = n ∧ p.getD 0 0 = kind := by
  unfold openL at h
  split at h
  · cases h
  · split at h
    · rename_i hc
      cases h
      exact ⟨unframe_bytes hb, hc.2.1, hc.2.2.1⟩
    · cases h
theorem countP_bytes (n : Int) : Bytes (countP n) := fun x hx => by
  rcases List.mem_cons.1 hx with rfl | hx
  · decide
  · exact Bytes.putL 4 n x hx
theorem countP_length (n : Int) : (countP n).length = 5 := by simp [countP, putL_length]
theorem mapP_bytes (leb seq pages : Int) (hp : 0 ≤ pages ∧ pages < 256) : Bytes (mapP leb seq pages) := by
  unfold mapP
  refine Bytes.append (Bytes.append (fun x hx => ?_) (Bytes.putL 8 seq)) (fun x hx => ?_)
  · rcases List.mem_cons.1 hx with rfl | hx
    · decide
    · exact Bytes.putL 2 leb x hx
  · rcases List.mem_singleton.1 hx with rfl
    exact hp
theorem mapP_length (leb seq pages : Int) : (mapP leb seq pages).length = 12 := by simp [mapP, putL_length]
theorem frame_len {p : List Int} (h0 : p.length ≠ 0) (h1 : p.length ≤ 1024) : (frameL p).1.length = 6 + p.length := by
  rw [frame_parts h0 h1]
  simp only [List.length_append, putL_length]
theorem frame_bytes {p : List Int} (hp : Bytes p) : Bytes (frameL p).1 := by
  unfold frameL
  split
  · exact fun _ h => by cases h
  · exact ((Bytes.putL _ _).append (Bytes.putL _ _)).append hp
theorem fill_bytes {l : List Int} (hl : Bytes l) (n : Nat) : Bytes (fillL l n) := by
  unfold fillL
  refine (hl.take n).append (fun x hx => ?_)
  rw [List.eq_of_mem_replicate hx]
  decide
theorem image_bytes {p : List Int} (hp : Bytes p) (page : Int) : Bytes (imageL p page) := fill_bytes (frame_bytes hp) _
theorem image_length (p : List Int) (page : Int) : (imageL p page).length = page.toNat := fillL_length _ _
theorem image_parts {p : List Int} (h0 : p.length ≠ 0) (h1 : p.length ≤ 50) {page : Int} (hp : 64 ≤ page) : imageL p page = (frameL p).1 ++ List.replicate (page.toNat - (6 + p.length)) 255 := by
  have hl := frame_len h0 (by omega)
  unfold imageL fillL
  rw [List.take_of_length_le (by omega), hl]
theorem blank_rep (n : Nat) : blankL (List.replicate n 255) = true := by
  unfold blankL
  rw [List.all_eq_true]
  intro x hx
  rw [List.eq_of_mem_replicate hx]
  rfl
theorem image_unframe {p : List Int} (h0 : p.length ≠ 0) (h1 : p.length ≤ 50) {page : Int} (hp : 64 ≤ page) : unframeL (imageL p page) = (p, 6 + (p.length : Int), true) := by
  rw [image_parts h0 h1 hp]
  exact unframe_frame _ h0 (by omega)
theorem image_open {p : List Int} (h0 : p.length ≠ 0) (h1 : p.length ≤ 50) {page : Int} (hp : 64 ≤ page) (hq : page ≤ 512) (kind : Int) (n : Nat) :
    openL (imageL p page) kind n = if p.length = n ∧ p.getD 0 0 = kind then some p else none := by
  have hd : (imageL p page).drop (6 + (p.length : Int)).toNat = List.replicate (page.toNat - (6 + p.length)) 255 := by
    rw [image_parts h0 h1 hp, List.drop_left' (by rw [frame_len h0 (by omega)]; omega)]
  unfold openL
  rw [if_neg (by rw [image_length]; omega), image_unframe h0 h1 hp]
  simp only [hd, blank_rep, true_and, and_true]
theorem parse_count {n page : Int} (hn : 0 ≤ n ∧ n ≤ 2147483647) (hp : 64 ≤ page ∧ page ≤ 512) : parseCountL (imageL (countP n) page) = (n, true) := by
  have h1 : getL ((countP n).drop 1) = n := by
    show getL (putL 4 n) = n
    rw [getL_putL _ _ (by omega)]
    omega
  unfold parseCountL
  rw [image_open (by rw [countP_length]; decide) (by rw [countP_length]; decide) hp.1 hp.2, if_pos ⟨countP_length n, rfl⟩]
  show (if 2147483647 < getL ((countP n).drop 1) then ((0 : Int), false) else (getL ((countP n).drop 1), true)) = _
  rw [h1, if_neg (by omega)]
theorem parse_count_map {leb seq pages page : Int} (hp : 64 ≤ page ∧ page ≤ 512) : parseCountL (imageL (mapP leb seq pages) page) = (0, false) := by
  unfold parseCountL
  rw [image_open (by rw [mapP_length]; decide) (by rw [mapP_length]; decide) hp.1 hp.2, if_neg (fun h => by rw [mapP_length] at h; exact absurd h.1 (by decide))]
theorem parse_map_count {n page : Int} (hp : 64 ≤ page ∧ page ≤ 512) : parseMapL (imageL (countP n) page) = ((0, 0, 0), false) := by
  unfold parseMapL
  rw [image_open (by rw [countP_length]; decide) (by rw [countP_length]; decide) hp.1 hp.2, if_neg (fun h => by rw [countP_length] at h; exact absurd h.1 (by decide))]
theorem parse_map {leb seq pages page : Int} (h1 : 0 ≤ leb ∧ leb < 256) (h2 : 0 ≤ seq ∧ seq < 18446744073709551616) (h3 : 0 ≤ pages ∧ pages ≤ 64) (hp : 64 ≤ page ∧ page ≤ 512) : parseMapL (imageL (mapP leb seq pages) page) = ((leb, seq, pages), true) := by
  have e1 : ((mapP leb seq pages).drop 1).take 2 = putL 2 leb := by
    show (putL 2 leb ++ putL 8 seq ++ [pages]).take 2 = _
    rw [List.append_assoc, List.take_left' (putL_length _ _)]
  have e2 : ((mapP leb seq pages).drop 3).take 8 = putL 8 seq := by
    show ((putL 2 leb ++ putL 8 seq ++ [pages]).drop 2).take 8 = _
    rw [List.append_assoc, List.drop_left' (putL_length _ _), List.take_left' (putL_length _ _)]
  have e3 : ((mapP leb seq pages).drop 11).take 1 = [pages] := by
    show ((putL 2 leb ++ putL 8 seq ++ [pages]).drop 10).take 1 = _
    rw [List.drop_left' (by rw [List.length_append, putL_length, putL_length])]
    rfl
  have g1 : getL (putL 2 leb) = leb := by rw [getL_putL _ _ (by omega)]; omega
  have g2 : getL (putL 8 seq) = seq := by rw [getL_putL _ _ (by omega)]; omega
  have g3 : getL [pages] = pages := by
    show getN [pages] 1 = pages
    simp [getN]
  unfold parseMapL
  rw [image_open (by rw [mapP_length]; decide) (by rw [mapP_length]; decide) hp.1 hp.2, if_pos ⟨mapP_length _ _ _, rfl⟩]
  show (if 256 ≤ getL (((mapP leb seq pages).drop 1).take 2) ∨ 64 < getL (((mapP leb seq pages).drop 11).take 1) then (((0 : Int), (0 : Int), (0 : Int)), false) else ((getL (((mapP leb seq pages).drop 1).take 2), getL (((mapP leb seq pages).drop 3).take 8), getL (((mapP leb seq pages).drop 11).take 1)), true)) = _
  rw [e1, e2, e3, g1, g2, g3, if_neg (by omega)]
end Go.Proofs.YtdlimghdimkadaaDoor.Plain

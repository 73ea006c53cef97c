import Derived.Test.YtpllpagbdmikpaaHh
import Derived.Test.YtpllpagbdmikpaaPAllx9
namespace Go.Proofs.Ytpllpagbdmikpaa.PAll
open Go.RowKit Go.Proofs.YtpllpagbdmikpaaW.PrintWords Go.Proofs.Ytpllpagbdmikpaa.Plain
/-! ### what the small readers tell; the plain reader of images -/

theorem bGet_l0 (l : List Int) (hl : Bytes l) : ∀ (d i : Nat), i + d = min l.length 8 → Ev (fun k => bits_Get.l0 k l (getN l i) (mn (l.length : Int) 8) (i : Int)) (getL l)
  | 0, i, hi => by
    refine Ev.step (f := fun _ => some _) (fun k => ?_) (Ev.now _)
    have hi2 : i = min l.length 8 := by omega
    simp only [bits_Get.l0]
    rw [if_neg (by unfold mn; split <;> omega)]
    unfold getL
    rw [hi2]
  | d + 1, i, hi => by
    have h2 := bGet_l0 l hl d (i + 1) (by omega)
    refine Ev.step (fun k => ?_) h2
    simp only [bits_Get.l0]
    have hb := rd_lt l hl i
    have e1 : wrap64 (8 * (i : Int)) = 8 * (i : Int) := wrap64_of (by omega) (by omega)
    have e5 : wrap64 ((i : Int) + 1) = ((i + 1 : Nat) : Int) := by rw [wrap64_of (by omega) (by omega)]; simp
    rw [if_pos (by unfold mn; split <;> omega), if_pos (by omega), if_pos (by omega), e1, if_pos (by omega), e5, or64 i (by omega) (getN_bd hl i (by omega)) hb]
    rfl
theorem bGet_ev (l : List Int) (hl : Bytes l) : Ev (fun k => bits_Get.f k l) (getL l) := bGet_l0 l hl (min l.length 8) 0 (by omega)

theorem rGet_l0 (l : List Int) (hl : Bytes l) : ∀ (d i : Nat), i + d = min l.length 8 → Ev (fun k => pumiceref01_Get.l0 k l (getN l i) (i : Int)) (getL l)
  | 0, i, hi => by
    refine Ev.step (f := fun _ => some _) (fun k => ?_) (Ev.now _)
    have hi2 : i = min l.length 8 := by omega
    simp only [pumiceref01_Get.l0]
    have e : getL l = getN l i := by unfold getL; rw [hi2]
    rw [e]
    by_cases h : (i : Int) < (l.length : Int)
    · rw [if_pos h, if_neg (by omega)]
    · rw [if_neg h]
  | d + 1, i, hi => by
    have h2 := rGet_l0 l hl d (i + 1) (by omega)
    refine Ev.step (fun k => ?_) h2
    simp only [pumiceref01_Get.l0]
    have hb := rd_lt l hl i
    have e1 : wrap64 (8 * (i : Int)) = 8 * (i : Int) := wrap64_of (by omega) (by omega)
    have e2 : IntKind.u64.wrap (8 * (i : Int)) = 8 * (i : Int) := wrapU64_of (by omega) (by omega)
    have e5 : wrap64 ((i : Int) + 1) = ((i + 1 : Nat) : Int) := by rw [wrap64_of (by omega) (by omega)]; simp
    rw [if_pos (by omega), if_pos (by omega), if_pos (by omega), e1, e2, if_pos (by omega), e5, or64 i (by omega) (getN_bd hl i (by omega)) hb]
    rfl
theorem rGet_ev (l : List Int) (hl : Bytes l) : Ev (fun k => pumiceref01_Get.f k l) (getL l) := rGet_l0 l hl (min l.length 8) 0 (by omega)

/-- The bytes l as a string. -/
def strL (l : List Int) : ByteArray := strOfNums l
/-- One slot off the rest. -/
def slot1 (l : List Int) : Option (S69 × List Int) :=
  match l with
  | [] => none
  | n :: r => if r.length < 7 + n.toNat then none else
    some (⟨strL (r.take n.toNat), ⟨getL ((r.drop n.toNat).take 2), getL ((r.drop (n.toNat + 2)).take 3), getL ((r.drop (n.toNat + 5)).take 2)⟩⟩, r.drop (n.toNat + 7))
def slotsN : Nat → List Int → Option (List S69 × List Int)
  | 0, l => some ([], l)
  | k + 1, l => (slot1 l).bind fun x => (slotsN k x.2).map fun y => (x.1 :: y.1, y.2)
def unpackL (l : List Int) : Option (Int × List S69) :=
  match l with
  | 84 :: lv :: many :: r => (slotsN many.toNat r).bind fun y => if y.2 = [] ∧ rightB lv y.1 = true then some (lv, y.1) else none
  | _ => none
theorem slot1_slot (s : S69) (r : List Int) (hk : strOfNums (bytesOf s.f0) = s.f0) (h : plOk s.f1.f0 s.f1.f1 s.f1.f2 = true) : slot1 (slotBytes s ++ r) = some (s, r) := by
  unfold plOk at h
  simp only [decide_eq_true_eq] at h
  have w0 : IntKind.u64.wrap s.f1.f0 = s.f1.f0 := by simp [IntKind.wrap, IntKind.signed, IntKind.bits]; omega
  have w1 : IntKind.u64.wrap s.f1.f1 = s.f1.f1 := by simp [IntKind.wrap, IntKind.signed, IntKind.bits]; omega
  have w2 : IntKind.u64.wrap s.f1.f2 = s.f1.f2 := by simp [IntKind.wrap, IntKind.signed, IntKind.bits]; omega
  have g0 : getL (putL 2 s.f1.f0) = s.f1.f0 := by rw [getL_putL _ 2 (by omega)]; omega
  have g1 : getL (putL 3 s.f1.f1) = s.f1.f1 := by rw [getL_putL _ 3 (by omega)]; omega
  have g2 : getL (putL 2 s.f1.f2) = s.f1.f2 := by rw [getL_putL _ 2 (by omega)]; omega
  have lb := bytesOf_length s.f0
  have l0 := putL_length 2 s.f1.f0
  have l1 := putL_length 3 s.f1.f1
  have l2 := putL_length 2 s.f1.f2
  unfold slotBytes
  rw [w0, w1, w2]
  generalize putL 2 s.f1.f0 = p0 at *
  generalize putL 3 s.f1.f1 = p1 at *
  generalize putL 2 s.f1.f2 = p2 at *
  generalize hbb : bytesOf s.f0 = bb at *
  have e : ([((s.f0.size : Nat) : Int)] ++ bb ++ p0 ++ p1 ++ p2 ++ r) = ((s.f0.size : Nat) : Int) :: (bb ++ (p0 ++ (p1 ++ (p2 ++ r)))) := by simp
  rw [e]
  unfold slot1
  simp only [Int.toNat_natCast, ← lb]
  rw [if_neg (by simp only [List.length_append]; omega)]
  have t0 : (bb ++ (p0 ++ (p1 ++ (p2 ++ r)))).take bb.length = bb := List.take_left
  have d0 : (bb ++ (p0 ++ (p1 ++ (p2 ++ r)))).drop bb.length = p0 ++ (p1 ++ (p2 ++ r)) := List.drop_left
  have d1 : (bb ++ (p0 ++ (p1 ++ (p2 ++ r)))).drop (bb.length + 2) = p1 ++ (p2 ++ r) := by rw [← List.drop_drop, d0, ← l0]; exact List.drop_left
  have d2 : (bb ++ (p0 ++ (p1 ++ (p2 ++ r)))).drop (bb.length + 5) = p2 ++ r := by rw [show bb.length + 5 = bb.length + 2 + 3 from rfl, ← List.drop_drop, d1, ← l1]; exact List.drop_left
  have d3 : (bb ++ (p0 ++ (p1 ++ (p2 ++ r)))).drop (bb.length + 7) = r := by rw [show bb.length + 7 = bb.length + 5 + 2 from rfl, ← List.drop_drop, d2, ← l2]; exact List.drop_left
  have k0 : (p0 ++ (p1 ++ (p2 ++ r))).take 2 = p0 := by rw [← l0]; exact List.take_left
  have k1 : (p1 ++ (p2 ++ r)).take 3 = p1 := by rw [← l1]; exact List.take_left
  have k2 : (p2 ++ r).take 2 = p2 := by rw [← l2]; exact List.take_left
  rw [t0, d0, d1, d2, d3, k0, k1, k2, g0, g1, g2]
  unfold strL
  rw [hk]
end Go.Proofs.Ytpllpagbdmikpaa.PAll

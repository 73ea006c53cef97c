/- Plain laws, no program in sight: numbers of 32 and 64 bits by BitVec, the check sum's crcStep, numbers as bytes. -/
import Derived.Test.YtdlimghdimkadaaDoorWX
import Derived.RowKit
namespace Go.Proofs.YtdlimghdimkadaaDoor.Plain
open Go Go.RowKit Go.Proofs.YtdlimghdimkadaaDoorW.PrintWords

/-! ### numbers -/
theorem wrap64_of {n : Int} (h0 : -9223372036854775808 ≤ n) (h1 : n ≤ 9223372036854775807) : wrap64 n = n := by
  unfold wrap64; omega
theorem wrapU64_of {n : Int} (h0 : 0 ≤ n) (h1 : n < 18446744073709551616) : IntKind.u64.wrap n = n := by
  simp [IntKind.wrap, IntKind.signed, IntKind.bits]; omega
theorem wrapU32_of {n : Int} (h0 : 0 ≤ n) (h1 : n < 4294967296) : IntKind.u32.wrap n = n := by
  simp [IntKind.wrap, IntKind.signed, IntKind.bits]; omega
theorem wrapU64_nn (n : Int) : 0 ≤ IntKind.u64.wrap n ∧ IntKind.u64.wrap n < 18446744073709551616 := by
  simp [IntKind.wrap, IntKind.signed, IntKind.bits]; omega
theorem byte_of {x : Int} (h : (Lit.int .u8 x).wf = true) : 0 ≤ x ∧ x < 256 := by
  simp [Lit.wf, IntKind.min, IntKind.max, IntKind.signed, IntKind.bits] at h; omega

theorem rd_lt (l : List Int) (h : ∀ x ∈ l, 0 ≤ x ∧ x < 256) (i : Int) : 0 ≤ rd l i ∧ rd l i < 256 := by
  unfold rd
  rw [List.getD_eq_getElem?_getD]
  rcases hx : l[i.toNat]? with _ | x
  · simp
  · simp; exact h x (List.mem_of_getElem? hx)
theorem rd_at (l : List Int) (i : Nat) (h : i < l.length) : rd l (i : Int) = l[i] := by
  unfold rd; simp [h]

/-! ### 32 bits -/
theorem xor32 (s t : BitVec 32) : Go.bits .xor .u32 (s.toNat : Int) (t.toNat : Int) = ((s ^^^ t).toNat : Int) := by
  unfold Go.bits
  have h := (s ^^^ t).isLt
  simp only [IntKind.bits, BitVec.ofInt_natCast, BitVec.ofNat_toNat, BitVec.setWidth_eq]
  exact wrapU32_of (by omega) (by omega)
theorem and32 (s t : BitVec 32) : Go.bits .and .u32 (s.toNat : Int) (t.toNat : Int) = ((s &&& t).toNat : Int) := by
  unfold Go.bits
  have h := (s &&& t).isLt
  simp only [IntKind.bits, BitVec.ofInt_natCast, BitVec.ofNat_toNat, BitVec.setWidth_eq]
  exact wrapU32_of (by omega) (by omega)
theorem odd32 (s : BitVec 32) : (Go.bits .and .u32 (s.toNat : Int) 1 = 1) ↔ s.getLsbD 0 = true := by
  have h := and32 s 1#32
  have e : ((1#32).toNat : Int) = 1 := rfl
  rw [e] at h
  rw [h, BitVec.toNat_and]
  simp [BitVec.getLsbD, Nat.testBit, Nat.and_one_is_mod]
  omega
theorem half32 (s : BitVec 32) : (Nat.cast s.toNat : Int) / (2 : Int) = (Nat.cast (s >>> 1).toNat : Int) := by
  simp [Nat.shiftRight_eq_div_pow]
theorem byte32 (x : Int) : x % 4294967296 = ((BitVec.ofInt 32 x).toNat : Int) := by
  rw [BitVec.toNat_ofInt]; simp; omega
theorem poly32 : (3988292384 : Int) = ((0xEDB88320#32).toNat : Int) := rfl
theorem ones32 : (4294967295 : Int) = ((0xFFFFFFFF#32).toNat : Int) := rfl

def crcStep (s : BitVec 32) : BitVec 32 := if s.getLsbD 0 then (s >>> 1) ^^^ 0xEDB88320#32 else s >>> 1
def steps : Nat → BitVec 32 → BitVec 32
  | 0, s => s
  | n + 1, s => steps n (crcStep s)
def feed (s : BitVec 32) (c : Int) : BitVec 32 := steps 8 (s ^^^ BitVec.ofInt 32 c)
def crc (l : List Int) : BitVec 32 := 0xFFFFFFFF#32 ^^^ l.foldl feed 0xFFFFFFFF#32

theorem step_xor (a b : BitVec 32) : crcStep (a ^^^ b) = crcStep a ^^^ crcStep b := by
  unfold crcStep
  have e : (a ^^^ b) >>> 1 = (a >>> 1) ^^^ (b >>> 1) := BitVec.ushiftRight_xor_distrib a b 1
  rw [e, BitVec.getLsbD_xor]
  rcases ha : a.getLsbD 0 <;> rcases hb : b.getLsbD 0 <;> simp
  · rw [BitVec.xor_assoc]
  · rw [BitVec.xor_assoc, BitVec.xor_assoc, BitVec.xor_comm (b >>> 1)]
  · rw [BitVec.xor_assoc, ← BitVec.xor_assoc 0xEDB88320#32, BitVec.xor_comm 0xEDB88320#32, BitVec.xor_assoc, BitVec.xor_self, BitVec.xor_zero]
theorem steps_xor (n : Nat) : ∀ a b : BitVec 32, steps n (a ^^^ b) = steps n a ^^^ steps n b := by
  induction n with
  | zero => intro a b; rfl
  | succ n ih => intro a b; simp only [steps]; rw [step_xor, ih]
theorem step_zero {a : BitVec 32} (h : crcStep a = 0#32) : a = 0#32 := by
  unfold crcStep at h
  rcases ha : a.getLsbD 0
  · rw [ha, if_neg (by simp)] at h
    have h2 : a.toNat / 2 = 0 := by
      have := congrArg BitVec.toNat h
      simpa [Nat.shiftRight_eq_div_pow] using this
    have h3 : a.toNat % 2 = 0 := by
      rw [BitVec.getLsbD, Nat.testBit_zero] at ha
      have := of_decide_eq_false ha
      omega
    exact BitVec.eq_of_toNat_eq (by show a.toNat = 0; omega)
  · rw [ha, if_pos rfl] at h
    have h2 : (a >>> 1 ^^^ 0xEDB88320#32).getLsbD 31 = (0#32).getLsbD 31 := by rw [h]
    rw [BitVec.getLsbD_xor, BitVec.getLsbD_ushiftRight, BitVec.getLsbD_of_ge _ (1 + 31) (by omega)] at h2
    exact absurd h2 (by decide)
theorem steps_zero (n : Nat) : ∀ a : BitVec 32, steps n a = 0#32 → a = 0#32 := by
  induction n with
  | zero => intro a h; exact h
  | succ n ih => intro a h; exact step_zero (ih _ h)
theorem xor_zero_iff (a b : BitVec 32) : a ^^^ b = 0#32 ↔ a = b := by
  constructor
  · intro h
    have h2 : (a ^^^ b) ^^^ b = 0#32 ^^^ b := by rw [h]
    rw [BitVec.xor_assoc, BitVec.xor_self, BitVec.xor_zero, BitVec.zero_xor] at h2
    exact h2
  · intro h; rw [h, BitVec.xor_self]
theorem steps_inj (n : Nat) {a b : BitVec 32} (h : steps n a = steps n b) : a = b := by
  rw [← xor_zero_iff] at h ⊢
  rw [← steps_xor] at h
  exact steps_zero n _ h
theorem byte_inj {x y : Int} (hx : 0 ≤ x ∧ x < 256) (hy : 0 ≤ y ∧ y < 256) (h : BitVec.ofInt 32 x = BitVec.ofInt 32 y) : x = y := by
  have h1 := byte32 x
  have h2 := byte32 y
  rw [h] at h1
  omega
theorem xor_left_inj {a b c : BitVec 32} (h : a ^^^ b = a ^^^ c) : b = c := by
  have h2 : a ^^^ (a ^^^ b) = a ^^^ (a ^^^ c) := by rw [h]
  rwa [← BitVec.xor_assoc, ← BitVec.xor_assoc, BitVec.xor_self, BitVec.zero_xor, BitVec.zero_xor] at h2
theorem xor_right_inj {a b c : BitVec 32} (h : b ^^^ a = c ^^^ a) : b = c := by
  rw [BitVec.xor_comm b, BitVec.xor_comm c] at h; exact xor_left_inj h
theorem feed_state {a b : BitVec 32} {c : Int} (h : feed a c = feed b c) : a = b := xor_right_inj (steps_inj 8 h)
theorem feed_byte {a : BitVec 32} {c d : Int} (hc : 0 ≤ c ∧ c < 256) (hd : 0 ≤ d ∧ d < 256) (h : feed a c = feed a d) : c = d :=
  byte_inj hc hd (xor_left_inj (steps_inj 8 h))
theorem foldl_state : ∀ (l : List Int) {a b : BitVec 32}, l.foldl feed a = l.foldl feed b → a = b
  | [], _, _, h => h
  | _ :: l, _, _, h => feed_state (foldl_state l h)
/-- A list with one byte turned has another sum. -/
theorem crc_turned (l : List Int) (i : Nat) (y : Int) (hi : i < l.length) (hl : ∀ x ∈ l, 0 ≤ x ∧ x < 256) (hy : 0 ≤ y ∧ y < 256) (h : crc (l.set i y) = crc l) : y = l[i] := by
  have h2 := xor_left_inj h
  have e1 : l.set i y = l.take i ++ y :: l.drop (i + 1) := List.set_eq_take_append_cons_drop.trans (by rw [if_pos hi])
  have e2 : l = l.take i ++ l[i] :: l.drop (i + 1) := by rw [List.getElem_cons_drop, List.take_append_drop]
  rw [e1] at h2
  conv at h2 => rhs; rw [e2]
  rw [List.foldl_append, List.foldl_append, List.foldl_cons, List.foldl_cons] at h2
  exact feed_byte hy (hl _ (List.getElem_mem hi)) (foldl_state _ h2)

/-! ### numbers as bytes -/
def putL (k : Nat) (n : Int) : List Int := (List.range k).map fun i => n / 256 ^ i % 256
def getN (l : List Int) : Nat → Int
  | 0 => 0
  | k + 1 => getN l k + l.getD k 0 * 256 ^ k
def getL (l : List Int) : Int := getN l (min l.length 8)
def Bytes (l : List Int) : Prop := ∀ x ∈ l, 0 ≤ x ∧ x < 256
theorem bytes_of {l : List Int} (h : ∀ x ∈ l, (Lit.int .u8 x).wf = true) : Bytes l := fun x hx => byte_of (h x hx)
theorem Bytes.getD {l : List Int} (h : Bytes l) (i : Nat) : 0 ≤ l.getD i 0 ∧ l.getD i 0 < 256 := by
  have := rd_lt l h i
  simpa [rd] using this
theorem Bytes.take {l : List Int} (h : Bytes l) (n : Nat) : Bytes (l.take n) := fun x hx => h x (List.mem_of_mem_take hx)
theorem Bytes.drop {l : List Int} (h : Bytes l) (n : Nat) : Bytes (l.drop n) := fun x hx => h x (List.mem_of_mem_drop hx)
theorem Bytes.append {l m : List Int} (h : Bytes l) (k : Bytes m) : Bytes (l ++ m) := fun x hx => (List.mem_append.1 hx).elim (h x) (k x)
theorem Bytes.putL (k : Nat) (n : Int) : Bytes (putL k n) := by
  intro x hx
  obtain ⟨i, _, rfl⟩ := List.mem_map.1 hx
  omega
theorem putL_length (k : Nat) (n : Int) : (putL k n).length = k := by simp [putL]
theorem putL_succ (k : Nat) (n : Int) : putL (k + 1) n = putL k n ++ [n / 256 ^ k % 256] := by simp [putL, List.range_succ]
theorem getN_bd {l : List Int} (h : Bytes l) : ∀ k, k ≤ 8 → 0 ≤ getN l k ∧ getN l k < 256 ^ k
  | 0, _ => by simp [getN]
  | k + 1, hk => by
    obtain ⟨h0, h1⟩ := getN_bd h k (by omega)
    obtain ⟨b0, b1⟩ := h.getD k
    simp only [getN]
    generalize l.getD k 0 = x at b0 b1 ⊢
    generalize getN l k = y at h0 h1 ⊢
    clear h
    have hk2 : k = 0 ∨ k = 1 ∨ k = 2 ∨ k = 3 ∨ k = 4 ∨ k = 5 ∨ k = 6 ∨ k = 7 := by omega
    rcases hk2 with rfl | rfl | rfl | rfl | rfl | rfl | rfl | rfl <;> simp at h1 ⊢ <;> omega
theorem getL_bd {l : List Int} (h : Bytes l) : 0 ≤ getL l ∧ getL l < 256 ^ (min l.length 8) := getN_bd h _ (by omega)
theorem getN_congr {l m : List Int} : ∀ k, (∀ i, i < k → l.getD i 0 = m.getD i 0) → getN l k = getN m k
  | 0, _ => rfl
  | k + 1, h => by simp only [getN]; rw [getN_congr k (fun i hi => h i (by omega)), h k (by omega)]
theorem getN_putL (n : Int) (m : Nat) : ∀ k, k ≤ m → k ≤ 8 → getN (putL m n) k = n % 256 ^ k
  | 0, _, _ => by simp [getN]
  | k + 1, hm, hk => by
    simp only [getN]
    rw [getN_putL n m k (by omega) (by omega)]
    have e : (putL m n).getD k 0 = n / 256 ^ k % 256 := by
      have hl : k < (List.range m).length := by simp; omega
      simp [putL, List.getD_eq_getElem?_getD, List.getElem?_map, List.getElem?_range (show k < m by omega)]
    rw [e]
    have hk2 : k = 0 ∨ k = 1 ∨ k = 2 ∨ k = 3 ∨ k = 4 ∨ k = 5 ∨ k = 6 ∨ k = 7 := by omega
    rcases hk2 with rfl | rfl | rfl | rfl | rfl | rfl | rfl | rfl <;> simp <;> omega
theorem getL_putL (n : Int) (k : Nat) (hk : k ≤ 8) : getL (putL k n) = n % 256 ^ k := by
  unfold getL
  rw [putL_length, Nat.min_eq_left hk, getN_putL n k k (Nat.le_refl _) hk]
theorem pow_is : ∀ i : Nat, i < 8 → (2 : Int) ^ (8 * i) = 256 ^ i := by
  intro i hi
  have hk2 : i = 0 ∨ i = 1 ∨ i = 2 ∨ i = 3 ∨ i = 4 ∨ i = 5 ∨ i = 6 ∨ i = 7 := by omega
  rcases hk2 with rfl | rfl | rfl | rfl | rfl | rfl | rfl | rfl <;> rfl
/-- A number or'ed with a byte above it. -/
theorem or64 {a b : Int} (k : Nat) (hk : k < 8) (ha : 0 ≤ a ∧ a < 256 ^ k) (hb : 0 ≤ b ∧ b < 256) :
    Go.bits .or .u64 a (shl .u64 (IntKind.u64.wrap b) (8 * (k : Int))) = a + b * 256 ^ k := by
  have e1 : IntKind.u64.wrap b = b := wrapU64_of (by omega) (by omega)
  have e3 : min (8 * (k : Int)).toNat IntKind.u64.bits = 8 * k := by simp only [IntKind.bits]; omega
  have e4 : (2 : Int) ^ (8 * k) = 256 ^ k := by
    have hk2 : k = 0 ∨ k = 1 ∨ k = 2 ∨ k = 3 ∨ k = 4 ∨ k = 5 ∨ k = 6 ∨ k = 7 := by omega
    rcases hk2 with rfl | rfl | rfl | rfl | rfl | rfl | rfl | rfl <;> rfl
  have hb2 : 0 ≤ b * 256 ^ k ∧ b * 256 ^ k < 18446744073709551616 := by
    have hk2 : k = 0 ∨ k = 1 ∨ k = 2 ∨ k = 3 ∨ k = 4 ∨ k = 5 ∨ k = 6 ∨ k = 7 := by omega
    rcases hk2 with rfl | rfl | rfl | rfl | rfl | rfl | rfl | rfl <;> simp <;> omega
  have hs : a + b * 256 ^ k < 18446744073709551616 := by
    have hk2 : k = 0 ∨ k = 1 ∨ k = 2 ∨ k = 3 ∨ k = 4 ∨ k = 5 ∨ k = 6 ∨ k = 7 := by omega
    rcases hk2 with rfl | rfl | rfl | rfl | rfl | rfl | rfl | rfl <;> simp at ha ⊢ <;> omega
  unfold shl
  rw [e1, e3, e4, wrapU64_of hb2.1 hb2.2]
  obtain ⟨x, rfl⟩ : ∃ x : Nat, a = x := ⟨a.toNat, by omega⟩
  obtain ⟨y, rfl⟩ : ∃ y : Nat, b = y := ⟨b.toNat, by omega⟩
  have hx : x < 2 ^ (8 * k) := by
    have h2 := ha.2
    have hk2 : k = 0 ∨ k = 1 ∨ k = 2 ∨ k = 3 ∨ k = 4 ∨ k = 5 ∨ k = 6 ∨ k = 7 := by omega
    rcases hk2 with rfl | rfl | rfl | rfl | rfl | rfl | rfl | rfl <;> simp at h2 ⊢ <;> omega
  have hor : x ||| (y * 256 ^ k) = x + y * 256 ^ k := by
    have h2 := Nat.shiftLeft_add_eq_or_of_lt hx y
    have e5 : (256 : Nat) ^ k = 2 ^ (8 * k) := by
      have hk2 : k = 0 ∨ k = 1 ∨ k = 2 ∨ k = 3 ∨ k = 4 ∨ k = 5 ∨ k = 6 ∨ k = 7 := by omega
      rcases hk2 with rfl | rfl | rfl | rfl | rfl | rfl | rfl | rfl <;> rfl
    rw [Nat.shiftLeft_eq] at h2
    rw [e5, Nat.or_comm, ← h2, Nat.add_comm]
  have e6 : ((y : Int) * 256 ^ k) = ((y * 256 ^ k : Nat) : Int) := by simp
  rw [e6] at hb2 hs ⊢
  show IntKind.u64.wrap (((BitVec.ofInt 64 (x : Int)) ||| (BitVec.ofInt 64 ((y * 256 ^ k : Nat) : Int))).toNat : Int) = _
  rw [BitVec.ofInt_natCast, BitVec.ofInt_natCast, BitVec.toNat_or, BitVec.toNat_ofNat, BitVec.toNat_ofNat, Nat.mod_eq_of_lt (by omega), Nat.mod_eq_of_lt (by omega), hor, wrapU64_of (by omega) (by omega)]
  simp

/-! ### frames -/
def frameL (l : List Int) : List Int × Int :=
  if l.length = 0 ∨ 1024 < l.length then ([], 22) else (putL 2 l.length ++ putL 4 (crc l).toNat ++ l, 0)
def unframeL (l : List Int) : List Int × Int × Bool :=
  if l.length < 6 then ([], 0, false)
  else if getL (l.take 2) = 0 ∨ 1024 < getL (l.take 2) ∨ (l.length : Int) - 6 < getL (l.take 2) then ([], 0, false)
  else if ((crc ((l.take (6 + getL (l.take 2)).toNat).drop 6)).toNat : Int) = getL ((l.take 6).drop 2) then ((l.take (6 + getL (l.take 2)).toNat).drop 6, 6 + getL (l.take 2), true)
  else ([], 0, false)

/-- A frame read by its parts: two bytes of the length, four of the sum, the payload, and what stands behind. -/
theorem unframe_parts (A C p rest : List Int) (hA : A.length = 2) (hC : C.length = 4) (hn : getL A = (p.length : Int)) (h0 : p.length ≠ 0) (h1 : p.length ≤ 1024) :
    unframeL (A ++ C ++ p ++ rest) = if (((crc p).toNat : Nat) : Int) = getL C then (p, 6 + (p.length : Int), true) else ([], 0, false) := by
  have e1 : (A ++ C ++ p ++ rest).take 2 = A := by
    rw [List.append_assoc, List.append_assoc, List.take_left' hA]
  have e2 : ((A ++ C ++ p ++ rest).take 6).drop 2 = C := by
    rw [List.append_assoc, List.take_left' (by rw [List.length_append]; omega), List.drop_left' hA]
  have e3 : ((A ++ C ++ p ++ rest).take (6 + (p.length : Int)).toNat).drop 6 = p := by
    rw [List.take_left' (by simp only [List.length_append]; omega), List.drop_left' (by rw [List.length_append]; omega)]
  unfold unframeL
  rw [if_neg (by simp only [List.length_append]; omega), e1, hn, e2, e3, if_neg (by simp only [List.length_append]; omega)]
theorem frame_parts {l : List Int} (h0 : l.length ≠ 0) (h1 : l.length ≤ 1024) : frameL l = (putL 2 l.length ++ putL 4 (crc l).toNat ++ l, 0) := by
  unfold frameL; rw [if_neg (by omega)]
theorem getL_len {n : Nat} (h : n ≤ 1024) : getL (putL 2 (n : Int)) = (n : Int) := by
  rw [getL_putL _ _ (by omega)]; omega
theorem getL_crc (l : List Int) : getL (putL 4 (((crc l).toNat : Nat) : Int)) = (((crc l).toNat : Nat) : Int) := by
  rw [getL_putL _ _ (by omega)]
  have := (crc l).isLt
  omega
theorem unframe_frame {l : List Int} (rest : List Int) (h0 : l.length ≠ 0) (h1 : l.length ≤ 1024) : unframeL ((frameL l).1 ++ rest) = (l, 6 + (l.length : Int), true) := by
  rw [frame_parts h0 h1]
  rw [unframe_parts _ _ l rest (putL_length _ _) (putL_length _ _) (getL_len h1) h0 h1, getL_crc, if_pos rfl]
theorem four_turned {C : List Int} (hC : C.length = 4) (hb : Bytes C) {j : Nat} {v : Int} (hj : j < 4) (h : getL (C.set j v) = getL C) : v = C.getD j 0 := by
  obtain ⟨a, b, c, d, rfl⟩ : ∃ a b c d, C = [a, b, c, d] := by
    match C, hC with
    | [a, b, c, d], _ => exact ⟨a, b, c, d, rfl⟩
  have ha := hb a (by simp)
  have hb2 := hb b (by simp)
  have hc := hb c (by simp)
  have hd := hb d (by simp)
  have hk : j = 0 ∨ j = 1 ∨ j = 2 ∨ j = 3 := by omega
  rcases hk with rfl | rfl | rfl | rfl <;> simp [getL, getN] at h ⊢ <;> omega
/-- A frame with one byte of its sum or payload turned is none. -/
theorem unframe_turned {l : List Int} (hl : Bytes l) (h0 : l.length ≠ 0) (h1 : l.length ≤ 1024) {i : Nat} {v : Int} (hi : 2 ≤ i) (hi2 : i < (frameL l).1.length) (hv : 0 ≤ v ∧ v < 256) (hne : v ≠ (frameL l).1.getD i 0) :
    unframeL ((frameL l).1.set i v) = ([], 0, false) := by
  rw [frame_parts h0 h1] at hi2 hne ⊢
  simp only [List.length_append, putL_length] at hi2
  by_cases h6 : i < 6
  · have e : (putL 2 (l.length : Int) ++ putL 4 (((crc l).toNat : Nat) : Int) ++ l).set i v = putL 2 (l.length : Int) ++ (putL 4 (((crc l).toNat : Nat) : Int)).set (i - 2) v ++ l ++ [] := by
      rw [List.set_append_left _ _ (by simp only [List.length_append, putL_length]; omega), List.set_append_right _ _ (by rw [putL_length]; omega), putL_length, List.append_nil]
    simp only [e]
    rw [unframe_parts _ _ l [] (putL_length _ _) (by rw [List.length_set, putL_length]) (getL_len h1) h0 h1, if_neg]
    intro hc
    have h2 := four_turned (j := i - 2) (putL_length _ _) (Bytes.putL _ _) (by omega) (hc.symm.trans (getL_crc l).symm)
    apply hne
    rw [h2]
    simp only [List.getD_eq_getElem?_getD]
    rw [List.getElem?_append_left (by simp only [List.length_append, putL_length]; omega), List.getElem?_append_right (by rw [putL_length]; omega), putL_length]
  · have e : (putL 2 (l.length : Int) ++ putL 4 (((crc l).toNat : Nat) : Int) ++ l).set i v = putL 2 (l.length : Int) ++ putL 4 (((crc l).toNat : Nat) : Int) ++ l.set (i - 6) v ++ [] := by
      rw [List.set_append_right _ _ (by simp only [List.length_append, putL_length]; omega), List.append_nil]
      simp only [List.length_append, putL_length]
    simp only [e]
    rw [unframe_parts _ _ (l.set (i - 6) v) [] (putL_length _ _) (putL_length _ _) (by rw [List.length_set]; exact getL_len h1) (by rw [List.length_set]; exact h0) (by rw [List.length_set]; exact h1), getL_crc, if_neg]
    intro hc
    have h2 : crc (l.set (i - 6) v) = crc l := BitVec.eq_of_toNat_eq (by omega)
    have h3 := crc_turned l (i - 6) v (by omega) hl hv h2
    apply hne
    rw [h3]
    simp only [List.getD_eq_getElem?_getD]
    rw [List.getElem?_append_right (by simp only [List.length_append, putL_length]; omega)]
    simp only [List.length_append, putL_length]
    rw [List.getElem?_eq_getElem (by omega)]
    rfl
theorem xor8 {x y : Int} (hx : 0 ≤ x ∧ x < 256) (hy : 0 ≤ y ∧ y < 256) : Go.bits .xor .u8 x y = ((x.toNat ^^^ y.toNat : Nat) : Int) ∧ x.toNat ^^^ y.toNat < 256 := by
  obtain ⟨m, rfl⟩ : ∃ m : Nat, x = m := ⟨x.toNat, by omega⟩
  obtain ⟨n, rfl⟩ : ∃ n : Nat, y = n := ⟨y.toNat, by omega⟩
  have hlt : m ^^^ n < 2 ^ 8 := Nat.xor_lt_two_pow (by omega) (by omega)
  refine ⟨?_, by simpa using hlt⟩
  show IntKind.u8.wrap (((BitVec.ofInt 8 (m : Int)) ^^^ (BitVec.ofInt 8 (n : Int))).toNat : Int) = _
  rw [BitVec.ofInt_natCast, BitVec.ofInt_natCast, BitVec.toNat_xor, BitVec.toNat_ofNat, BitVec.toNat_ofNat, Nat.mod_eq_of_lt (by omega), Nat.mod_eq_of_lt (by omega)]
  simp [IntKind.wrap, IntKind.signed, IntKind.bits]
  omega
theorem xor8_byte {x y : Int} (hx : 0 ≤ x ∧ x < 256) (hy : 0 ≤ y ∧ y < 256) : 0 ≤ Go.bits .xor .u8 x y ∧ Go.bits .xor .u8 x y < 256 := by
  obtain ⟨h1, h2⟩ := xor8 hx hy
  rw [h1]; omega
theorem xor8_ne {x y : Int} (hx : 0 ≤ x ∧ x < 256) (hy : 0 ≤ y ∧ y < 256) (h0 : y ≠ 0) : Go.bits .xor .u8 x y ≠ x := by
  intro h
  rw [(xor8 hx hy).1] at h
  have h2 : x.toNat ^^^ y.toNat = x.toNat := by omega
  have h3 : x.toNat ^^^ (x.toNat ^^^ y.toNat) = x.toNat ^^^ x.toNat := by rw [h2]
  rw [← Nat.xor_assoc, Nat.xor_self, Nat.zero_xor] at h3
  omega
theorem xor8_32 {x y : Int} (hx : 0 ≤ x ∧ x < 256) (hy : 0 ≤ y ∧ y < 256) : BitVec.ofInt 32 (Go.bits .xor .u8 x y) = BitVec.ofInt 32 x ^^^ BitVec.ofInt 32 y := by
  rw [(xor8 hx hy).1]
  obtain ⟨m, rfl⟩ : ∃ m : Nat, x = m := ⟨x.toNat, by omega⟩
  obtain ⟨n, rfl⟩ : ∃ n : Nat, y = n := ⟨y.toNat, by omega⟩
  rw [BitVec.ofInt_natCast, BitVec.ofInt_natCast, BitVec.ofInt_natCast]
  exact BitVec.ofNat_xor

/-! ### the sum is linear -/
def xor3 (a b c : List Int) (i : Nat) : Int := Go.bits .xor .u8 (Go.bits .xor .u8 (rd a i) (rd b i)) (rd c i)
def xorL (a b c : List Int) (n : Nat) : List Int := (List.range n).map (xor3 a b c)
theorem xorL_succ (a b c : List Int) (n : Nat) : xorL a b c (n + 1) = xorL a b c n ++ [xor3 a b c n] := by simp [xorL, List.range_succ]
theorem xorL_length (a b c : List Int) (n : Nat) : (xorL a b c n).length = n := by simp [xorL]
theorem xorL_bytes {a b c : List Int} (ha : Bytes a) (hb : Bytes b) (hc : Bytes c) (n : Nat) : Bytes (xorL a b c n) := by
  intro x hx
  obtain ⟨i, _, rfl⟩ := List.mem_map.1 hx
  exact xor8_byte (xor8_byte (rd_lt a ha i) (rd_lt b hb i)) (rd_lt c hc i)
theorem feed3 (x y z : BitVec 32) {p q r : Int} (hp : 0 ≤ p ∧ p < 256) (hq : 0 ≤ q ∧ q < 256) (hr : 0 ≤ r ∧ r < 256) :
    feed (x ^^^ y ^^^ z) (Go.bits .xor .u8 (Go.bits .xor .u8 p q) r) = feed x p ^^^ feed y q ^^^ feed z r := by
  unfold feed
  rw [xor8_32 (xor8_byte hp hq) hr, xor8_32 hp hq, ← steps_xor, ← steps_xor]
  congr 1
  ac_rfl
theorem fold3 {a b c : List Int} (ha : Bytes a) (hb : Bytes b) (hc : Bytes c) (x y z : BitVec 32) : ∀ n, n ≤ a.length → n ≤ b.length → n ≤ c.length →
    (xorL a b c n).foldl feed (x ^^^ y ^^^ z) = (a.take n).foldl feed x ^^^ (b.take n).foldl feed y ^^^ (c.take n).foldl feed z
  | 0, _, _, _ => by simp [xorL]
  | n + 1, h1, h2, h3 => by
    rw [xorL_succ, List.foldl_append, fold3 ha hb hc x y z n (by omega) (by omega) (by omega)]
    rw [List.take_succ_eq_append_getElem (by omega : n < a.length), List.take_succ_eq_append_getElem (by omega : n < b.length), List.take_succ_eq_append_getElem (by omega : n < c.length)]
    simp only [List.foldl_append, List.foldl_cons, List.foldl_nil]
    unfold xor3
    rw [feed3 _ _ _ (rd_lt a ha n) (rd_lt b hb n) (rd_lt c hc n), rd_at a n (by omega), rd_at b n (by omega), rd_at c n (by omega)]
theorem crc_linear {a b c : List Int} (ha : Bytes a) (hb : Bytes b) (hc : Bytes c) (h1 : b.length = a.length) (h2 : c.length = a.length) :
    crc a ^^^ crc b ^^^ crc c = crc (xorL a b c a.length) := by
  unfold crc
  have h := fold3 ha hb hc 0xFFFFFFFF#32 0xFFFFFFFF#32 0xFFFFFFFF#32 a.length (Nat.le_refl _) (by omega) (by omega)
  rw [List.take_length, ← h1, List.take_length, h1, ← h2, List.take_length, h2] at h
  have e : (0xFFFFFFFF#32 ^^^ 0xFFFFFFFF#32 ^^^ 0xFFFFFFFF#32) = 0xFFFFFFFF#32 := by decide
  rw [e] at h
  rw [h]
  have hassoc : ∀ o x y z : BitVec 32, (o ^^^ x) ^^^ (o ^^^ y) ^^^ (o ^^^ z) = (o ^^^ o ^^^ o) ^^^ (x ^^^ y ^^^ z) := by intro o x y z; ac_rfl
  rw [hassoc, e]
/-! ### masks, blank and filled bytes -/
theorem mask64 {x : Int} (hx : 0 ≤ x ∧ x < 18446744073709551616) (b : Nat) (hb : b < 8) : Go.bits .and .u64 x (256 ^ b - 1) = x % 256 ^ b := by
  obtain ⟨m, rfl⟩ : ∃ m : Nat, x = m := ⟨x.toNat, by omega⟩
  have key : ∀ M : Nat, M < 18446744073709551616 → Go.bits .and .u64 (m : Int) (M : Int) = ((m &&& M : Nat) : Int) := by
    intro M hM
    have hle : m &&& M ≤ m := Nat.and_le_left
    show IntKind.u64.wrap (((BitVec.ofInt 64 (m : Int)) &&& (BitVec.ofInt 64 (M : Int))).toNat : Int) = _
    rw [BitVec.ofInt_natCast, BitVec.ofInt_natCast, BitVec.toNat_and, BitVec.toNat_ofNat, BitVec.toNat_ofNat, Nat.mod_eq_of_lt (by omega), Nat.mod_eq_of_lt (by omega), wrapU64_of (by omega) (by omega)]
  have hk2 : b = 0 ∨ b = 1 ∨ b = 2 ∨ b = 3 ∨ b = 4 ∨ b = 5 ∨ b = 6 ∨ b = 7 := by omega
  have hm : ∀ k, m &&& (2 ^ k - 1) = m % 2 ^ k := fun k => Nat.and_two_pow_sub_one_eq_mod m k
  rcases hk2 with rfl | rfl | rfl | rfl | rfl | rfl | rfl | rfl
  · have h := key (2 ^ 0 - 1) (by omega); rw [hm] at h; simpa using h
  · have h := key (2 ^ 8 - 1) (by omega); rw [hm] at h; simpa using h
  · have h := key (2 ^ 16 - 1) (by omega); rw [hm] at h; simpa using h
  · have h := key (2 ^ 24 - 1) (by omega); rw [hm] at h; simpa using h
  · have h := key (2 ^ 32 - 1) (by omega); rw [hm] at h; simpa using h
  · have h := key (2 ^ 40 - 1) (by omega); rw [hm] at h; simpa using h
  · have h := key (2 ^ 48 - 1) (by omega); rw [hm] at h; simpa using h
  · have h := key (2 ^ 56 - 1) (by omega); rw [hm] at h; simpa using h
def blankL (l : List Int) : Bool := l.all (· == 255)
def fillL (l : List Int) (n : Nat) : List Int := l.take n ++ List.replicate (n - l.length) 255
theorem fillL_length (l : List Int) (n : Nat) : (fillL l n).length = n := by simp only [fillL, List.length_append, List.length_take, List.length_replicate]; omega
theorem fillL_succ (l : List Int) (n : Nat) : fillL l (n + 1) = fillL l n ++ [if n < l.length then rd l (n : Int) else 255] := by
  unfold fillL
  by_cases h : n < l.length
  · rw [if_pos h, rd_at l n h, List.take_succ_eq_append_getElem h, show n + 1 - l.length = 0 by omega, show n - l.length = 0 by omega]
    simp
  · rw [if_neg h, List.take_of_length_le (by omega), List.take_of_length_le (by omega), show n + 1 - l.length = (n - l.length) + 1 by omega, List.replicate_succ', List.append_assoc]
end Go.Proofs.YtdlimghdimkadaaDoor.Plain

/- header.open, the reader's take. -/
import Derived.Test.YtdlimghdimkadaaDoorCa
import Derived.Test.YtdlimghdimkadaaDoorHb
import Derived.Test.YtdlimghdimkadaaDoorBase
import Derived.BigQuiet
namespace Go.Proofs.YtdlimghdimkadaaDoor.PAll
open Go.RowKit Go.Proofs.YtdlimghdimkadaaDoorW.PrintWords Go.Proofs.YtdlimghdimkadaaDoorW.PrintLast Go.Proofs.YtdlimghdimkadaaDoorW.PrintMore Go.Proofs.YtdlimghdimkadaaDoor.Plain
set_option linter.unusedVariables false
set_option linter.unusedSimpArgs false
attribute [local go_sem] max2_int min2_int max_two min_two max_three min_three max_four min_four
theorem infoB : ∃ i, Tryd.prog.info? 5 = some i ∧ i.size = 1 := by
  have h : (Tryd.prog.info? 5).map (·.size) = some 1 := by kernel_rfl
  obtain ⟨i, hi, hs⟩ := Option.map_eq_some_iff.1 h
  exact ⟨i, hi, hs⟩
theorem sl_from (A : Option Addr) (c : Nat) (l : List Int) (j : Int) (h0 : 0 ≤ j) (hj : j ≤ l.length) (hc : l.length ≤ c) :
    ∃ (A' : Option Addr) (c' : Nat), (∀ W : World, (Instr.slice 39 (.slice A l.length c) (some (.int .i64 j)) none none).run Tryd.prog W = .ok (.slice A' (l.drop j.toNat).length c') W) ∧ (l.drop j.toNat).length ≤ c' ∧ ∀ w : World, Kd.C kB w A l.length l → Kd.C kB w A' (l.drop j.toNat).length (l.drop j.toNat) := by
  obtain ⟨i, hi, hs⟩ := infoB
  refine ⟨if c = j.toNat then A else A.map (·.add (j.toNat * 1)), c - j.toNat, fun W => ?_, by rw [List.length_drop]; omega, fun w h => Kd.C_drop h (by omega) hc⟩
  rw [List.length_drop]
  exact cut_from 39 5 .i64 Tryd.underlying39 hi 1 hs A l.length c j h0 hj W
theorem sl_to (A : Option Addr) (c : Nat) (l : List Int) (j : Int) (h0 : 0 ≤ j) (hj : j ≤ l.length) (hc : l.length ≤ c) :
    (∀ W : World, (Instr.slice 39 (.slice A l.length c) none (some (.int .i64 j)) none).run Tryd.prog W = .ok (.slice A (l.take j.toNat).length c) W) ∧ (l.take j.toNat).length ≤ c ∧ ∀ w : World, Kd.C kB w A l.length l → Kd.C kB w A (l.take j.toNat).length (l.take j.toNat) := by
  obtain ⟨i, hi, hs⟩ := infoB
  refine ⟨fun W => ?_, by rw [List.length_take]; omega, fun w h => Kd.C_take h (by omega)⟩
  rw [List.length_take, show min j.toNat l.length = j.toNat by omega]
  exact cut_to 39 5 .i64 Tryd.underlying39 hi A l.length c j h0 hj hc W
theorem sl_mid (A : Option Addr) (c : Nat) (l : List Int) (a b : Int) (h0 : 0 ≤ a) (h1 : a ≤ b) (hj : b ≤ l.length) (hc : l.length ≤ c) :
    ∃ (A' : Option Addr) (c' : Nat), (∀ W : World, (Instr.slice 39 (.slice A l.length c) (some (.int .i64 a)) (some (.int .i64 b)) none).run Tryd.prog W = .ok (.slice A' ((l.drop a.toNat).take (b.toNat - a.toNat)).length c') W) ∧ ((l.drop a.toNat).take (b.toNat - a.toNat)).length ≤ c' ∧ ∀ w : World, Kd.C kB w A l.length l → Kd.C kB w A' ((l.drop a.toNat).take (b.toNat - a.toNat)).length ((l.drop a.toNat).take (b.toNat - a.toNat)) := by
  obtain ⟨i, hi, hs⟩ := infoB
  refine ⟨if c = a.toNat then A else A.map (·.add (a.toNat * 1)), c - a.toNat, fun W => ?_, by rw [List.length_take, List.length_drop]; omega, fun w h => Kd.C_take (Kd.C_drop h (by omega) hc) (by rw [List.length_drop]; omega)⟩
  rw [List.length_take, List.length_drop, show min (b.toNat - a.toNat) (l.length - a.toNat) = b.toNat - a.toNat by omega]
  exact cut_mid 39 5 .i64 .i64 Tryd.underlying39 hi 1 hs A l.length c a b h0 h1 hj hc W
theorem cell_far {W : World} {q : Addr} {x : Value} (h1 : W.cell? q = some x) {g t : Nat} {fr : Nat × Nat} {cs : Array Value} (hx : W.heap[g]? = some (.cells cs t fr)) (hno : ∀ k : Nat, cs[k]? ≠ some x) (k : Nat) (v : Value) : (W.setCell ⟨g, k, none⟩ v).cell? q = some x := by
  have hne : q.block ≠ g := fun e => by
    unfold World.cell? at h1
    rw [e, hx] at h1
    simp only at h1
    split at h1
    · cases h1
    · exact hno _ h1
  unfold World.cell? at h1 ⊢
  rw [Below.heap_setCell W ⟨g, k, none⟩ v _ hne]
  exact h1
/-- Bytes stay where a block that holds no byte is written. -/
theorem C_far {W : World} {A : Option Addr} {l : List Int} (h : Kd.C kB W A l.length l) {g t : Nat} {fr : Nat × Nat} {cs : Array Value} (hx : W.heap[g]? = some (.cells cs t fr)) (hno : ∀ k : Nat, ∀ n : Int, cs[k]? ≠ some (.int .u8 n)) (k : Nat) (v : Value) : Kd.C kB (W.setCell ⟨g, k, none⟩ v) A l.length l := by
  refine ⟨h.1, h.2.1, fun hp => ?_⟩
  obtain ⟨ad, hA, hr⟩ := h.2.2 hp
  refine ⟨ad, hA, fun j x hj => ?_⟩
  obtain ⟨cs2, hs, hK, hc⟩ := hr j x hj
  refine ⟨cs2, hs, hK, fun i u hu => ?_⟩
  have h1 := hc i u hu
  have hcs : cs2 = [.int .u8 x] := hK
  subst hcs
  have hu2 : u = .int .u8 x := by
    cases i with
    | zero => simpa using hu.symm
    | succ i => simp at hu
  subst hu2
  exact cell_far h1 hx (fun q => hno q x) k v
/-- What open answers. -/
def Opened (w w' : World) (a : Addr) (v : Value) : Option (List Int) → Prop
  | none => ∃ x, v = .tuple #[.pointer none, x] ∧ (x = .iface 158 (.pointer (some a)) ∨ ∃ k : Addr, x = .iface 137 (.pointer (some k)))
  | some p => ∃ (g : Nat) (B : Option Addr) (c : Nat), v = .tuple #[.pointer (some ⟨g, 0, none⟩), .nilIface] ∧ w.heap.size ≤ g ∧ w'.heap[g]? = some (.cells #[.slice B (p.drop 1).length c] 141 (0, 0)) ∧ (p.drop 1).length ≤ c ∧ Kd.C kB w' B (p.drop 1).length (p.drop 1)
set_option maxRecDepth 100000 in
set_option maxHeartbeats 8000000 in
theorem open_is (A : Option Addr) (c : Nat) (l : List Int) (a : Addr) (kind : Int) (n : Nat) (w : World) (hn : 0 < n) (hl : Bytes l) (hr : Kd.C kB w A l.length l) (hc : l.length ≤ c) (hg : gNone w a) :
    Calls Tryd.prog 68 #[.slice A l.length c, .int .u8 kind, .int .i64 n] w fun e w' => ∃ v, e = .returned v ∧ Opened w w' a v (openL l kind n) ∧ Below w.heap.size w w' := by
  have HR := Aside0.mk hr
  have HC := Aside0.mk hc
  have HL := Aside0.mk hl
  have HG := Aside0.mk hg
  have HN := Aside0.mk hn
  clear hr hc hl hg hn
  by_cases h64 : l.length < 64 ∨ 512 < l.length
  · have hO : openL l kind n = none := by unfold openL; rw [if_pos h64]
    rw [hO]
    have HG2 : w.cell? ⟨0, 0, none⟩ = some (.iface 158 (.pointer (some a))) := HG.out
    by_cases h1 : l.length < 64
    · have d0 : decide ((l.length : Int) < 64) = true := decide_eq_true (by omega)
      have d1 : decide (l.length < 64) = true := decide_eq_true h1
      clear h64 h1 hO
      go_enter Tryd.func68, Tryd.ntmps68
      go_wp2
      go_region
      go_wp2
      go_ret2
      exact ⟨_, rfl, ⟨_, rfl, .inl rfl⟩, below_drew (Below.refl _ _)⟩
    · have d0 : decide ((l.length : Int) < 64) = false := decide_eq_false (by omega)
      have d1 : decide (l.length < 64) = false := decide_eq_false h1
      have d2 : decide (512 < (l.length : Int)) = true := decide_eq_true (by omega)
      have d3 : decide (512 < l.length) = true := decide_eq_true (by omega)
      clear h64 h1 hO
      go_enter Tryd.func68, Tryd.ntmps68
      go_wp2
      go_region
      go_wp2
      go_ret2
      exact ⟨_, rfl, ⟨_, rfl, .inl rfl⟩, below_drew (Below.refl _ _)⟩
  · have d0 : decide ((l.length : Int) < 64) = false := decide_eq_false (by omega)
    have d1 : decide (l.length < 64) = false := decide_eq_false (by omega)
    have d2 : decide (512 < (l.length : Int)) = false := decide_eq_false (by omega)
    have d3 : decide (512 < l.length) = false := decide_eq_false (by omega)
    have hO : openL l kind n = if (unframeL l).2.2 = true ∧ (unframeL l).1.length = n ∧ (unframeL l).1.getD 0 0 = kind ∧ blankL (l.drop (unframeL l).2.1.toNat) = true then some (unframeL l).1 else none := by
      unfold openL
      rw [if_neg h64]
    have HU := Aside0.mk (unframe_is A c l w HL.out (by omega) HR.out HC.out)
    have hpb := unframe_bytes HL.out
    have hln : (l.drop (unframeL l).2.1.toNat).length ≤ 9223372036854775806 := by rw [List.length_drop]; omega
    have hen := unframe_end HL.out
    rw [hO]
    clear h64 hO
    generalize (unframeL l).1 = p at HU hpb ⊢
    generalize (unframeL l).2.1 = en at HU hen hln ⊢
    generalize (unframeL l).2.2 = ok at HU ⊢
    obtain ⟨A2, c2, hcut, hc2, hC2⟩ := sl_from A c l en hen.1 hen.2 HC.out
    generalize l.drop en.toNat = dl at hcut hc2 hC2 hln ⊢
    have HB2 := Aside0.mk (fun (w' : World) (hb : Below w.heap.size w w') => blank_is A2 c2 dl w' hln (hC2 w' (Kd.C_below HR.out hb)) hc2)
    have HE := Aside0.mk hen
    have hu63 := Tryd.underlying139
    have hu65 := Tryd.underlying141
    clear hC2 hc2 hen hln
    cases ok with
    | false =>
      rw [if_neg (by rintro ⟨h, _⟩; cases h)]
      go_enter Tryd.func68, Tryd.ntmps68
      go_upto_region 4 with (first
        | (go_at_call 71; (with_reducible refine HU.out.mono ?_); rintro e w1 ⟨v1, rfl, hr1, hb1⟩; obtain ⟨A1, c1, rfl, hl1, hC1⟩ := Kd.R_reads hr1; have HC1 := Aside0.mk hC1; have HB1 := Aside0.mk hb1; have HL1 := Aside0.mk hl1; have HBL := Aside0.mk (HB2.out w1 hb1); clear hr1 hC1 hb1 hl1))
      go_wp2
      go_ret2
      exact ⟨_, rfl, ⟨_, rfl, .inr ⟨_, rfl⟩⟩, below_alloc HB1.out _⟩
    | true =>
      by_cases hpn : p.length = n
      · subst hpn
        have e1 : ((p.length : Int) == (p.length : Int)) = true := by simp
        have e2 : ((p.length : Int) != (p.length : Int)) = false := by simp
        by_cases hk : p.getD 0 0 = kind
        · have e3 : (p.getD 0 0 == kind) = true := beq_iff_eq.mpr hk
          have e4 : (p.getD 0 0 != kind) = false := bne_eq_false_iff_eq.mpr hk
          cases hbl : blankL dl with
          | false =>
            rw [if_neg (by rintro ⟨_, _, _, h⟩; cases h)]
            rw [hbl] at HB2
            clear hbl
            go_enter Tryd.func68, Tryd.ntmps68
            go_upto_region 4 with (first
              | (go_at_call 71; (with_reducible refine HU.out.mono ?_); rintro e w1 ⟨v1, rfl, hr1, hb1⟩; obtain ⟨A1, c1, rfl, hl1, hC1⟩ := Kd.R_reads hr1; have HC1 := Aside0.mk hC1; have HB1 := Aside0.mk hb1; have HL1 := Aside0.mk hl1; have HBL := Aside0.mk (HB2.out w1 hb1); clear hr1 hC1 hb1 hl1))
            have hp0 : 0 < p.length := by have := HN.out; omega
            obtain ⟨ad, hA1, hx0⟩ := Kd.at_int HC1.out 0 (by decide) (by omega)
            subst hA1
            have hx1 : w1.cell? ad = some (.int .u8 (p.getD 0 0)) := by simpa [Addr.add, rd] using hx0
            clear hx0
            have hq0 : ((0 : Int) < (p.length : Int)) = True := eq_true (by omega)
            have hq1 : (0 < p.length) = True := eq_true hp0
            generalize p.getD 0 0 = p0 at hx1 e3 e4 hk
            clear hk
            go_wp2_with (first
              | (go_at_call 72; (with_reducible refine HBL.out.mono ?_); rintro e w2 ⟨rfl, hb2⟩; have HB3 := Aside0.mk (below_step HB1.out hb2); clear hb2))
            go_ret2
            exact ⟨_, rfl, ⟨_, rfl, .inr ⟨_, rfl⟩⟩, below_alloc HB3.out _⟩
          | true =>
            rw [if_pos ⟨rfl, rfl, hk, rfl⟩]
            rw [hbl] at HB2
            clear hbl
            go_enter Tryd.func68, Tryd.ntmps68
            go_upto_region 4 with (first
              | (go_at_call 71; (with_reducible refine HU.out.mono ?_); rintro e w1 ⟨v1, rfl, hr1, hb1⟩; obtain ⟨A1, c1, rfl, hl1, hC1⟩ := Kd.R_reads hr1; have HC1 := Aside0.mk hC1; have HB1 := Aside0.mk hb1; have HL1 := Aside0.mk hl1; have HBL := Aside0.mk (HB2.out w1 hb1); clear hr1 hC1 hb1 hl1))
            have hp0 : 0 < p.length := by have := HN.out; omega
            obtain ⟨ad, hA1, hx0⟩ := Kd.at_int HC1.out 0 (by decide) (by omega)
            subst hA1
            have hx1 : w1.cell? ad = some (.int .u8 (p.getD 0 0)) := by simpa [Addr.add, rd] using hx0
            clear hx0
            have hq0 : ((0 : Int) < (p.length : Int)) = True := eq_true (by omega)
            have hq1 : (0 < p.length) = True := eq_true hp0
            generalize p.getD 0 0 = p0 at hx1 e3 e4 hk
            obtain ⟨A5, c5, hcut5, hc5, hC5⟩ := sl_from (some ad) c1 p 1 (by decide) (by omega) HL1.out
            obtain ⟨q, hq⟩ : ∃ q, q = p.drop (1 : Int).toNat := ⟨_, rfl⟩
            have HQ := Aside0.mk hq
            rw [← hq] at hcut5 hc5 hC5
            have HC5 := Aside0.mk (hC5 w1 HC1.out)
            have HL5 := Aside0.mk hc5
            clear hC5 hc5 hk hq
            go_wp2_with (first
              | (go_at_call 72; (with_reducible refine HBL.out.mono ?_); rintro e w2 ⟨rfl, hb2⟩; have HB3 := Aside0.mk (below_step HB1.out hb2); have HB4 := Aside0.mk hb2; clear hb2))
            go_ret2
            have hq := HQ.out
            subst hq
            exact ⟨_, rfl, ⟨_, A5, c5, rfl, below_size HB3.out, new_blk _ _ _, HL5.out, Kd.C_below HC5.out (below_alloc HB4.out _)⟩, below_alloc HB3.out _⟩
        · rw [if_neg (by rintro ⟨_, _, h, _⟩; exact hk h)]
          have e3 : (p.getD 0 0 == kind) = false := beq_eq_false_iff_ne.mpr hk
          have e4 : (p.getD 0 0 != kind) = true := bne_iff_ne.mpr hk
          go_enter Tryd.func68, Tryd.ntmps68
          go_upto_region 4 with (first
            | (go_at_call 71; (with_reducible refine HU.out.mono ?_); rintro e w1 ⟨v1, rfl, hr1, hb1⟩; obtain ⟨A1, c1, rfl, hl1, hC1⟩ := Kd.R_reads hr1; have HC1 := Aside0.mk hC1; have HB1 := Aside0.mk hb1; have HL1 := Aside0.mk hl1; have HBL := Aside0.mk (HB2.out w1 hb1); clear hr1 hC1 hb1 hl1))
          have hp0 : 0 < p.length := by have := HN.out; omega
          obtain ⟨ad, hA1, hx0⟩ := Kd.at_int HC1.out 0 (by decide) (by omega)
          subst hA1
          have hx1 : w1.cell? ad = some (.int .u8 (p.getD 0 0)) := by simpa [Addr.add, rd] using hx0
          clear hx0
          have hq0 : ((0 : Int) < (p.length : Int)) = True := eq_true (by omega)
          have hq1 : (0 < p.length) = True := eq_true hp0
          generalize p.getD 0 0 = p0 at hx1 e3 e4 hk
          clear hk
          go_wp2
          go_ret2
          exact ⟨_, rfl, ⟨_, rfl, .inr ⟨_, rfl⟩⟩, below_alloc HB1.out _⟩
      · rw [if_neg (by rintro ⟨_, h, _⟩; exact hpn h)]
        have e1 : ((p.length : Int) == (n : Int)) = false := by simp; omega
        have e2 : ((p.length : Int) != (n : Int)) = true := by simp; omega
        clear hpn
        go_enter Tryd.func68, Tryd.ntmps68
        go_upto_region 4 with (first
          | (go_at_call 71; (with_reducible refine HU.out.mono ?_); rintro e w1 ⟨v1, rfl, hr1, hb1⟩; obtain ⟨A1, c1, rfl, hl1, hC1⟩ := Kd.R_reads hr1; have HC1 := Aside0.mk hC1; have HB1 := Aside0.mk hb1; have HL1 := Aside0.mk hl1; have HBL := Aside0.mk (HB2.out w1 hb1); clear hr1 hC1 hb1 hl1))
        go_wp2
        go_ret2
        exact ⟨_, rfl, ⟨_, rfl, .inr ⟨_, rfl⟩⟩, below_alloc HB1.out _⟩
end Go.Proofs.YtdlimghdimkadaaDoor.PAll

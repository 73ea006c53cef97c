import Derived.Test.YtpllpagbdmikpaaHv
namespace Go.Proofs.Ytpllpagbdmikpaa.PAll
open Go.RowKit Go.Proofs.YtpllpagbdmikpaaW.PrintWords Go.Proofs.YtpllpagbdmikpaaW.PrintLast Go.Proofs.YtpllpagbdmikpaaW.PrintMore
set_option linter.unusedSimpArgs false
set_option linter.unusedVariables false
attribute [local go_sem] max2_int min2_int max_two min_two max_three min_three max_four min_four
theorem at_key {w : World} {A : Option Addr} {ks : List ByteArray} (h : Kd.string.C w A ks.length ks) (i : Nat) (hi : i < ks.length) : ∃ ad, A = some ad ∧ w.cell? (ad.add i) = some (.string (ks.getD i z9)) := by
  obtain ⟨ad, e, c⟩ := Kd.at_string h (i : Int) (by omega) (by omega)
  rw [Int.toNat_natCast] at c
  refine ⟨ad, e, ?_⟩
  rw [c]
  congr 2
def lenOf : Value → Nat
  | .slice _ n _ => n
  | _ => 0
set_option maxRecDepth 100000 in
set_option maxHeartbeats 8000000 in
theorem bound_any (A : Option Addr) (c : Nat) (ks : List ByteArray) (w : World) (hr : Kd.string.C w A ks.length ks) (hc : ks.length ≤ c) (hn : ks.length ≤ 1048576) :
    Calls Try.prog 30 #[.slice A ks.length c] w fun e w' => e = .returned (.int .i64 (boundL ks : Nat)) ∧ Below w.heap.size w w' := by
  have HR := Aside0.mk hr
  have HN := Aside0.mk hn
  clear hr
  go_enter Try.func30, Try.ntmps30
  go_wp2
  go_loopw [3, 14] (fun v3 v14 wr => ∃ i : Nat, i ≤ ks.length ∧ v14 = .int .i64 i ∧ Aside0 (Kd.R k69 69 wr w.heap.size (fun _ => True) v3 ((ks.take i).map sk)) ∧ Aside0 (∀ t, t < i → keyAt ks t = true) ∧ Aside0 (Below w.heap.size w wr)) (fun _ i _ => ks.length - (intOf i).toNat)
  case atStart => exact ⟨0, Nat.zero_le _, rfl, ⟨Kd.R_nil _ _ _ _ _⟩, ⟨fun t ht => absurd ht (Nat.not_lt_zero _)⟩, ⟨Below.refl _ _⟩⟩
  case round =>
    obtain ⟨i, hi, rfl, HO, HK, HB⟩ := hrel
    by_cases hlt : i < ks.length
    · have d0 : decide ((i : Int) < (ks.length : Int)) = true := decide_eq_true (by omega)
      obtain ⟨ad, rfl, hx⟩ := at_key (Kd.C_below HR.out HB.out) i hlt
      obtain ⟨k, hk⟩ : ∃ k, k = ks.getD i z9 := ⟨_, rfl⟩
      rw [← hk] at hx
      have hq : (i < ks.length) = True := eq_true hlt
      have HKK := Aside0.mk hk
      obtain ⟨la, hla⟩ : ∃ la, la = (ks.take i).map sk := ⟨_, rfl⟩
      have hll : la.length = i := by rw [hla, List.length_map, List.length_take]; omega
      have ho := HO.out
      rw [← hla] at ho
      have HO1 := Aside0.mk ho
      have HLA := Aside0.mk hla
      have HLL := Aside0.mk hll
      obtain ⟨A3, c3, e3⟩ := Kd.R_slice ho
      rw [hll] at e3
      subst e3
      have hkf := key_f k
      clear hk hla ho HO
      cases hko : keyOk k with
      | false =>
        rw [hko] at hkf
        have HKF := Aside0.mk hkf
        have hres : boundL ks = 0 := by
          unfold boundL
          rw [if_neg]
          intro h
          have h2 := List.all_eq_true.1 h i (List.mem_range.2 hlt)
          unfold keyAt at h2
          rw [← HKK.out, hko] at h2
          simp at h2
        have HRES := Aside0.mk hres
        clear hkf hko hres
        go_wp2_with (first
          | (go_at_call 35; (with_reducible refine (image_goodKey.calls k false _ HKF.out).mono ?_); rintro e w1 ⟨rfl, hb1⟩; have HB1 := Aside0.mk (below_step HB.out hb1.below); clear hb1))
        go_ret
        rw [HRES.out]
        exact ⟨rfl, HB1.out⟩
      | true =>
        rw [hko] at hkf
        have HKF := Aside0.mk hkf
        have HKO := Aside0.mk hko
        clear hkf hko
        rcases Nat.eq_zero_or_pos i with h0 | hpos
        · subst h0
          have hx0 : wr.cell? ad = some (.string k) := by have h := hx; rw [Addr.add_zero'] at h; exact h
          have HKI := Aside0.mk (show ∀ t, t < 0 + 1 → keyAt ks t = true from fun t ht => by
            obtain rfl : t = 0 := by omega
            unfold keyAt
            rw [← HKK.out, HKO.out]
            rfl)
          go_wp2_with (first
            | (go_at_call 35; (with_reducible refine (image_goodKey.calls k true _ HKF.out).mono ?_); rintro e w1 ⟨rfl, hb1⟩; have HB1 := Aside0.mk (below_step HB.out hb1.below); have HO2 := Aside0.mk (Kd.R_below HO1.out hb1.below); clear hb1)
            | ((with_reducible refine gate_builtin (b := .append) (xs := #[.tmp 47, .tmp 50]) rfl ?_); at_builtin; refine Kd.R_append k69 (w0 := w) (W := w1) w.heap.size rfl (.tmp 47) (.tmp 50) 25 69 (.agg #[(.string ⟨#[]⟩), (.int .i64 0), (.int .i64 0), (.int .i64 0)]) 40 rfl Try.underlying25 info69 rfl (by decide) (by omega) (.slice A3 0 c3) la (sk k) [.string k, .int .i64 0, .int .i64 0, .int .i64 0] (fun _ => True) (fun _ => False) rfl rfl ?axP (fun _ hk => hk.elim) (fun _ _ => trivial) ?axO ?axB ?axS ?axL ?_; (case axP => exact k69_mkM _ _ _ (sk k)); (case axO => exact HO2.out); (case axB => exact HB1.out); (case axS => exact below_size HB1.out); (case axL => have := HLL.out; have := HN.out; omega); intro v9 w9 ho hb hg hat; have HO9 := Aside0.mk ho; have HB9 := Aside0.mk hb; clear ho hb hg hat))
          go_roundw
          case rel =>
            refine ⟨0 + 1, hlt, ?rw10, ⟨?rw20⟩, HKI, HB9⟩
            case rw10 => push_cast; rfl
            case rw20 => have e := HO9.out; rw [HLA.out, HKK.out] at e; rw [List.take_succ_eq_append_getElem hlt, List.map_append]; rw [show ks.getD 0 z9 = ks[0] by simp [List.getD, hlt]] at e; exact e
          case measure => simp [intOf]; omega
        · obtain ⟨j, hj⟩ : ∃ j, i = j + 1 := ⟨i - 1, by omega⟩
          obtain ⟨kj, hkj⟩ : ∃ k, k = ks.getD j z9 := ⟨_, rfl⟩
          obtain ⟨ad2, e2, hxj⟩ := at_key HR.out j (by omega)
          cases e2
          rw [← hkj] at hxj
          have d1 : decide ((i : Int) > 0) = true := decide_eq_true (by omega)
          have d2 : decide (0 < i) = true := decide_eq_true hpos
          have d3 : decide (0 < (i : Int)) = true := decide_eq_true (by omega)
          have w1 : IntKind.i64.wrap ((i : Int) - 1) = (j : Int) := by rw [IntWalk.i64_in _ (by omega)]; omega
          have hqj : (j < ks.length) = True := eq_true (by omega)
          have hget : ∀ t, t < i → la.getD t z69 = sk (ks.getD t z9) := fun t ht => by rw [HLA.out]; simp [List.getD, show t < ks.length by omega, ht]
          have hmono : ∀ a b, a ≤ b → b < la.length → geB k (la.getD a z69) = true → geB k (la.getD b z69) = true := fun a b hab hb h => by
            rw [HLL.out] at hb
            rw [hget a (by omega)] at h
            rw [hget b hb]
            unfold geB at h ⊢
            rw [Bool.not_eq_true'] at h ⊢
            cases hbk : Op.bytesLess (sk (ks.getD b z9)).f0.toList k.toList with
            | false => rfl
            | true =>
              rcases Nat.lt_or_ge a b with hlt2 | hge
              · have h3 := bl_trans (asc_lt HK.out hlt2 hb) hbk
                have h4 : Op.bytesLess (ks.getD a z9).toList k.toList = false := h
                rw [h3] at h4
                cases h4
              · obtain rfl : a = b := by omega
                rw [hbk] at h
                cases h
          have HMONO := Aside0.mk hmono
          have HXJ := Aside0.mk hxj
          have HJ := Aside0.mk hj
          have HKJ := Aside0.mk hkj
          cases hless : Op.bytesLess kj.toList k.toList with
          | true =>
            have hm : ∀ m, m ≤ la.length → (∀ t, m ≤ t → t < la.length → geB k (la.getD t z69) = true) → m = i := fun m hm1 hm3 => by
              rw [HLL.out] at hm1 hm3
              rcases Nat.lt_or_ge m i with hlt2 | hge
              · have h1 := hm3 m (Nat.le_refl _) hlt2
                rw [hget m hlt2] at h1
                unfold geB at h1
                rw [Bool.not_eq_true'] at h1
                have h2 : Op.bytesLess (ks.getD m z9).toList k.toList = false := h1
                rcases Nat.lt_or_ge m j with hmj | hmj
                · have h3 := bl_trans (asc_lt HK.out hmj (by omega)) (show Op.bytesLess (ks.getD j z9).toList k.toList = true by rw [← hkj]; exact hless)
                  rw [h3] at h2
                  cases h2
                · obtain rfl : m = j := by omega
                  rw [← hkj, hless] at h2
                  cases h2
              · omega
            have HM := Aside0.mk hm
            have e1 : (kj.toList == k.toList) = false := by
              rw [beq_eq_false_iff_ne]
              intro h
              rw [h, bl_irrefl] at hless
              cases hless
            have HKI := Aside0.mk (show ∀ t, t < i + 1 → keyAt ks t = true from fun t ht => by
              rcases Nat.lt_or_ge t i with h | h
              · exact HK.out t h
              · obtain rfl : t = i := by omega
                unfold keyAt
                rw [← HKK.out, HKO.out, show t - 1 = j by omega, ← hkj, hless]
                simp)
            clear hless hm hmono hget hxj hj hkj hpos
            go_wp2_with (first
              | (go_at_call 35; (with_reducible refine (image_goodKey.calls k true _ HKF.out).mono ?_); rintro e w1 ⟨rfl, hb1⟩; have HB1 := Aside0.mk (below_step HB.out hb1.below); have HO2 := Aside0.mk (Kd.R_below HO1.out hb1.below); clear hb1)
              | (go_at_call 43; rw [← HLL.out]; (with_reducible refine (find_any A3 c3 la k _ ?f1 ?f2 HMONO.out).mono ?_); (case f1 => have h := HO2.out; rw [← HLL.out] at h; exact (Kd.R_reads' h).2.2); (case f2 => have := HLL.out; omega); rw [HLL.out]; rintro e w2 ⟨⟨m, hm1, rfl, hm2, hm3⟩, hb2⟩; have hmi : i = m := (HM.out m (HLL.out.symm ▸ hm1) (HLL.out.symm ▸ hm3)).symm; subst hmi; have HB2 := Aside0.mk (below_step HB1.out hb2); have HO3 := Aside0.mk (Kd.R_below HO2.out hb2); have zj := cell_below HXJ.out HB2.out; clear hm1 hm2 hm3 hb2)
              | ((with_reducible refine gate_builtin (b := .append) (xs := #[.tmp 47, .tmp 50]) rfl ?_); at_builtin; refine Kd.R_append k69 (w0 := w) (W := w2) w.heap.size rfl (.tmp 47) (.tmp 50) 25 69 (.agg #[(.string ⟨#[]⟩), (.int .i64 0), (.int .i64 0), (.int .i64 0)]) 40 rfl Try.underlying25 info69 rfl (by decide) (by omega) (.slice A3 i c3) la (sk k) [.string k, .int .i64 0, .int .i64 0, .int .i64 0] (fun _ => True) (fun _ => False) rfl rfl ?ayP (fun _ hk => hk.elim) (fun _ _ => trivial) ?ayO ?ayB ?ayS ?ayL ?_; (case ayP => exact k69_mkM _ _ _ (sk k)); (case ayO => exact HO3.out); (case ayB => exact HB2.out); (case ayS => exact below_size HB2.out); (case ayL => have := HLL.out; have := HN.out; omega); intro v9 w9 ho hb hg hat; have HO9 := Aside0.mk ho; have HB9 := Aside0.mk hb; clear ho hb hg hat))
            go_roundw
            case rel =>
              refine ⟨i + 1, hlt, ?rw1i, ⟨?rw2i⟩, HKI, HB9⟩
              case rw1i => push_cast; rfl
              case rw2i => have e := HO9.out; rw [HLA.out, HKK.out] at e; rw [List.take_succ_eq_append_getElem hlt, List.map_append]; rw [show ks.getD i z9 = ks[i] by simp [List.getD, hlt]] at e; exact e
            case measure => simp [intOf]; omega
          | false =>
            have hres : boundL ks = 0 := by
              unfold boundL
              rw [if_neg]
              intro h
              have h2 := List.all_eq_true.1 h i (List.mem_range.2 hlt)
              unfold keyAt at h2
              rw [← HKK.out, show i - 1 = j by omega, ← hkj, hless, show (i == 0) = false by simp; omega] at h2
              simp at h2
            have hm : ∀ m, (∀ t, t < m → geB k (la.getD t z69) = false) → m ≠ i := fun m hm2 e => by
              subst e
              have h1 := hm2 j (by omega)
              rw [hget j (by omega)] at h1
              unfold geB at h1
              rw [show (sk (ks.getD j z9)).f0 = kj from hkj.symm, hless] at h1
              cases h1
            have HRES := Aside0.mk hres
            have hm' : ∀ m : Nat, (∀ t, t < m → geB k (la.getD t z69) = false) → ((m : Int) == (i : Int)) = false ∧ ((m : Int) != (i : Int)) = true ∧ (m == i) = false := fun m h => by
              have h1 := hm m h
              refine ⟨?_, ?_, ?_⟩
              · simp only [beq_eq_false_iff_ne]; omega
              · simp only [bne_iff_ne]; omega
              · simp only [beq_eq_false_iff_ne]; omega
            have HM := Aside0.mk hm'
            clear hm'
            clear hless hm hmono hget hxj hj hkj hpos hres
            go_wp2_with (first
              | (go_at_call 35; (with_reducible refine (image_goodKey.calls k true _ HKF.out).mono ?_); rintro e w1 ⟨rfl, hb1⟩; have HB1 := Aside0.mk (below_step HB.out hb1.below); have HO2 := Aside0.mk (Kd.R_below HO1.out hb1.below); clear hb1)
              | (go_at_call 43; rw [← HLL.out]; (with_reducible refine (find_any A3 c3 la k _ ?f3 ?f4 HMONO.out).mono ?_); (case f3 => have h := HO2.out; rw [← HLL.out] at h; exact (Kd.R_reads' h).2.2); (case f4 => have := HLL.out; omega); rw [HLL.out]; rintro e w2 ⟨⟨m, hm1, rfl, hm2, hm3⟩, hb2⟩; obtain ⟨q1, q2, q3⟩ := HM.out m hm2; have HB2 := Aside0.mk (below_step HB1.out hb2); clear hm1 hm2 hm3 hb2))
            go_ret
            rw [HRES.out]
            exact ⟨rfl, HB2.out⟩
    · have hin : i = ks.length := by omega
      subst hin
      have d0 : decide ((ks.length : Int) < (ks.length : Int)) = false := by simp
      have hasc : ascB ks = true := List.all_eq_true.2 (fun t ht => HK.out t (List.mem_range.1 ht))
      obtain ⟨B, hB⟩ : ∃ B, B = bnd (ks.length + 1) ks := ⟨_, rfl⟩
      have hres : boundL ks = B := by unfold boundL; rw [if_pos hasc, hB]
      have hBl : B ≤ 1000000000 := by
        rcases Nat.eq_zero_or_pos ks.length with h0 | h0
        · rw [hB, List.length_eq_zero_iff.1 h0]; simp [bnd]
        · have h1 := bnd_le (ks.length + 1) (ks.length + 1) ks (asc_key hasc) (by omega) h0
          have h2 := lvls_le (ks.length + 1) ks.length
          omega
      have HRES := Aside0.mk hres
      have hbeq : 0 + bnd (ks.length + 1) ks = B := by omega
      have HBE := Aside0.mk hbeq
      have ho := HO.out
      rw [List.take_length] at ho
      obtain ⟨A3, c3, e3, hc3, hr3⟩ := Kd.R_reads ho
      rw [List.length_map] at e3 hc3 hr3
      subst e3
      have HR3 := Aside0.mk hr3
      clear ho hr3 hB hres hbeq hasc
      go_wp2
      go_loopw [3, 6] (fun v3 v6 w2 => ∃ (ks' : List ByteArray) (f tot : Nat) (A' : Option Addr) (c' : Nat), ks'.length ≤ c' ∧ ks'.length ≤ 1048576 ∧ v3 = .slice A' ks'.length c' ∧ v6 = .int .i64 tot ∧ Aside0 (Kd.C k69 w2 A' ks'.length (ks'.map sk)) ∧ Aside0 (tot + bnd f ks' = B) ∧ Aside0 (ks'.length < f) ∧ Aside0 (Below w.heap.size w w2)) (fun v3 _ _ => lenOf v3)
      case atStart => exact ⟨ks, ks.length + 1, 0, A3, c3, hc3, hn, rfl, rfl, HR3, HBE, ⟨Nat.lt_succ_self _⟩, HB⟩
      case round =>
        obtain ⟨ks', f, tot, A', c', hc', hn', rfl, rfl, HC, HE, HF, HB2⟩ := hrel
        by_cases h0 : ks'.length = 0
        · have d1 : decide ((ks'.length : Int) > 0) = false := decide_eq_false (by omega)
          have d2 : decide (0 < ks'.length) = false := decide_eq_false (by omega)
          have d3 : decide (0 < (ks'.length : Int)) = false := decide_eq_false (by omega)
          have ht : tot = B := by
            have h1 := HE.out
            have h2 := HF.out
            match f, h2 with
            | f + 1, _ =>
              simp only [bnd] at h1
              rw [if_pos h0] at h1
              omega
          have HT := Aside0.mk ht
          clear ht h0
          go_wp2
          go_ret
          rw [HRES.out, HT.out]
          exact ⟨rfl, HB2.out⟩
        · have d1 : decide ((ks'.length : Int) > 0) = true := decide_eq_true (by omega)
          have d2 : decide (0 < ks'.length) = true := decide_eq_true (by omega)
          have d3 : decide (0 < (ks'.length : Int)) = true := decide_eq_true (by omega)
          obtain ⟨m, hm⟩ : ∃ m, m = ks'.map sk := ⟨_, rfl⟩
          have hml : m.length = ks'.length := by rw [hm, List.length_map]
          obtain ⟨q, hq⟩ : ∃ q, q = nPart ks'.length := ⟨_, rfl⟩
          have hsl : (splitL m).length = q := by rw [splitL_len, hml, hq]; rfl
          obtain ⟨f', hf'⟩ : ∃ f', f = f' + 1 := ⟨f - 1, by have := HF.out; omega⟩
          have hbn : tot + (9 * q + kSum ks' + (if q = 1 then 0 else bnd f' (heads ks'))) = B := by
            have h1 := HE.out
            rw [hf'] at h1
            simp only [bnd] at h1
            rw [if_neg h0, ← hq] at h1
            exact h1
          have hqle : q ≤ ks'.length := by rw [hq]; unfold nPart; omega
          have hq1 : 1 ≤ q := by rw [hq]; unfold nPart; omega
          have hqlt : q ≠ 1 → q < ks'.length := fun h => by rw [hq]; exact nPart_lt (by rw [hq] at h; unfold nPart at h; omega)
          have NS := split_any A' c' m wr (by rw [hml, hm]; exact HC.out) (by omega) (by omega)
          rw [hml] at NS
          have NSP := Aside0.mk NS
          have HM := Aside0.mk hm
          have HML := Aside0.mk hml
          have HQ := Aside0.mk hq
          have HSL := Aside0.mk hsl
          have HF' := Aside0.mk hf'
          have HBN := Aside0.mk hbn
          have HQL := Aside0.mk hqle
          have HQ1 := Aside0.mk hq1
          have HQT := Aside0.mk hqlt
          have hqs : q ≤ 1048576 := by omega
          clear NS hm hml hq hsl hf' hbn hqle hq1 hqlt
          go_wp2_with (first
            | (go_at_call 11; (with_reducible refine NSP.out.mono ?_); rintro e w3 ⟨v57, rfl, ho3, hb3⟩; obtain ⟨A5, c5, e5, hc5, hr5⟩ := Kd.R_reads ho3; rw [HSL.out] at e5; subst e5; have HR5 := Aside0.mk hr5; have HB3 := Aside0.mk (below_step HB2.out hb3); clear ho3 hb3 hc5 hr5))
          go_loopw [6, 7, 59] (fun v6 v7 v59 w4 => ∃ (i T0 : Nat), i ≤ q ∧ v59 = .int .i64 i ∧ v6 = .int .i64 T0 ∧ Aside0 (T0 = tot + 9 * i + kSum (ks'.take (partLo ks'.length i))) ∧ Aside0 (Kd.R k69 69 w4 w3.heap.size (fun _ => True) v7 (((heads ks').take i).map sk)) ∧ Aside0 (Below w3.heap.size w3 w4)) (fun _ _ i _ => q - (intOf i).toNat)
          case atStart => exact ⟨0, tot, Nat.zero_le _, rfl, rfl, ⟨by simp [partLo, kSum]⟩, ⟨Kd.R_nil _ _ _ _ _⟩, ⟨Below.refl _ _⟩⟩
          case round =>
            obtain ⟨i, T0, hi, rfl, rfl, HT0, HO7, HB4⟩ := hrel
            obtain ⟨lh, hlh⟩ : ∃ l, l = ((heads ks').take i).map sk := ⟨_, rfl⟩
            have hlhl : lh.length = i := by rw [hlh, List.length_map, List.length_take, heads_len, ← HQ.out]; omega
            have ho7 := HO7.out
            rw [← hlh] at ho7
            have HO8 := Aside0.mk ho7
            have HLH := Aside0.mk hlh
            have HLHL := Aside0.mk hlhl
            obtain ⟨A7, c7, e7, hc7, hr7⟩ := Kd.R_reads ho7
            rw [hlhl] at e7 hc7 hr7
            have HR7 := Aside0.mk hr7
            have HC7 := Aside0.mk hc7
            subst e7
            clear ho7 hlh hlhl HO7 hr7 hc7
            by_cases hlt : i < q
            · have d4 : decide ((i : Int) < (q : Int)) = true := decide_eq_true (by omega)
              obtain ⟨ad5, A6, c6, e5, hx5, hc6, hr6⟩ := row_at m (Kd.C_below HR5.out HB4.out) i (by rw [HML.out]; have := HQ.out; unfold nPart at this; omega)
              subst e5
              obtain ⟨pt, hpt⟩ : ∃ p, p = part ks' i := ⟨_, rfl⟩
              have hpl : pt.length = partN ks'.length i := by rw [hpt, part_len ks' i (by have := HQ.out; unfold nPart at this; omega)]
              have hpm : part m i = pt.map sk := by rw [HM.out, part_map, hpt]
              rw [HML.out, ← hpl] at hx5 hc6 hr6
              rw [hpm] at hr6
              have hp1 : 1 ≤ pt.length := by rw [hpt]; exact part_pos ks' i (by rw [← HQ.out]; exact hlt)
              have hp2 : pt.length ≤ 8 := by rw [hpl]; exact partN_le _ i (by have := HQ.out; unfold nPart at this; omega)
              have hks : kSum (ks'.take (partLo ks'.length (i + 1))) = kSum (ks'.take (partLo ks'.length i)) + kSum pt := by rw [hpt]; exact kSum_part ks' i (by rw [← HQ.out]; exact hlt)
              have hksl := kSum_take_le ks' (partLo ks'.length (i + 1))
              have hTB : T0 + 9 + kSum pt ≤ B := by
                have h1 := HT0.out
                have h2 := HBN.out
                omega
              have HR6 := Aside0.mk hr6
              have HPT := Aside0.mk hpt
              have HKS := Aside0.mk hks
              have HTB := Aside0.mk hTB
              have hqi : (i < q) = True := eq_true hlt
              have wt : IntKind.i64.wrap ((T0 : Int) + 9) = (T0 : Int) + 9 := IntWalk.i64_in _ (by omega)
              clear hr6 hpt hks hpm hpl hksl hTB
              go_wp2
              go_loopw [6, 67] (fun v6 v67 w5 => ∃ (j T1 : Nat), j ≤ pt.length ∧ v67 = .int .i64 j ∧ v6 = .int .i64 T1 ∧ Aside0 (T1 = T0 + 9 + kSum (pt.take j)) ∧ Aside0 (Below wr.heap.size wr w5)) (fun _ j _ => pt.length - (intOf j).toNat)
              case atStart => exact ⟨0, T0 + 9, Nat.zero_le _, rfl, rfl, ⟨by simp [kSum]⟩, ⟨Below.refl _ _⟩⟩
              case round =>
                obtain ⟨j, T1, hj, rfl, rfl, HT1, HB5⟩ := hrel
                by_cases hjl : j < pt.length
                · have d5 : decide ((j : Int) < (pt.length : Int)) = true := decide_eq_true (by omega)
                  obtain ⟨ad6, e6, g0, g1, g2, g3⟩ := at_T69 (Kd.C_below HR6.out HB5.out) (j : Int) (by omega) (by omega)
                  cases e6
                  simp only [Int.toNat_natCast] at g0 g1 g2 g3
                  obtain ⟨kk, hkk⟩ : ∃ k, k = pt.getD j z9 := ⟨_, rfl⟩
                  have erd : rd_T69 (pt.map sk) (j : Int) = sk kk := by rw [hkk, ← sk_get pt j hjl]; rfl
                  rw [erd] at g0 g1 g2 g3
                  have hsz : T1 + (8 + kk.size) = T0 + 9 + kSum (pt.take (j + 1)) := by rw [kSum_take_succ pt j hjl, ← hkk, HT1.out]; omega
                  have hle := kSum_take_le pt (j + 1)
                  have hTB := HTB.out
                  have wa : IntKind.i64.wrap (8 + (kk.size : Int)) = 8 + (kk.size : Int) := IntWalk.i64_in _ (by omega)
                  have wb : IntKind.i64.wrap ((T1 : Int) + (8 + (kk.size : Int))) = (T1 : Int) + (8 + (kk.size : Int)) := IntWalk.i64_in _ (by omega)
                  have hqj : (j < pt.length) = True := eq_true hjl
                  have HSZ := Aside0.mk hsz
                  clear hkk erd hsz hle hTB
                  change _ = some (Value.string kk) at g0
                  change _ = some (Value.int .i64 0) at g1
                  change _ = some (Value.int .i64 0) at g2
                  change _ = some (Value.int .i64 0) at g3
                  go_wp2
                  go_roundw
                  case rel => exact ⟨j + 1, T1 + (8 + kk.size), hjl, by push_cast; rfl, by push_cast; rfl, HSZ, ⟨below_alloc HB5.out _⟩⟩
                  case measure => simp only [intOf]; omega
                · obtain rfl : j = pt.length := by omega
                  have d5 : decide ((pt.length : Int) < (pt.length : Int)) = false := by simp
                  obtain ⟨ad6, e6, g0, _, _, _⟩ := at_T69 (Kd.C_below HR6.out HB5.out) (0 : Int) (by omega) (by omega)
                  cases e6
                  obtain ⟨kh, hkh⟩ : ∃ k, k = pt.getD 0 z9 := ⟨_, rfl⟩
                  have erd : rd_T69 (pt.map sk) (0 : Int) = sk kh := by rw [hkh, ← sk_get pt 0 hp1]; rfl
                  rw [erd, show (0 : Int).toNat * 4 = 0 from rfl, Addr.add_zero'] at g0
                  change _ = some (Value.string kh) at g0
                  have hq0 : (0 < pt.length) = True := eq_true hp1
                  have HB6 := Aside0.mk (below_step HB4.out HB5.out)
                  have HO9 := Aside0.mk (Kd.R_below HO8.out HB5.out)
                  obtain ⟨lh2, hlh2⟩ : ∃ l, l = lh ++ [sk kh] := ⟨_, rfl⟩
                  have HLH2 := Aside0.mk hlh2
                  have HKH := Aside0.mk hkh
                  clear hkh erd hlh2
                  go_wp2_with (first
                    | ((with_reducible refine gate_builtin (b := .append) (xs := #[.tmp 78, .tmp 84]) rfl ?_); at_builtin; refine Kd.R_append k69 (w0 := w3) (W := wr) w3.heap.size rfl (.tmp 78) (.tmp 84) 25 69 (.agg #[(.string ⟨#[]⟩), (.int .i64 0), (.int .i64 0), (.int .i64 0)]) 40 rfl Try.underlying25 info69 rfl (by decide) (by omega) (.slice A7 i c7) lh (sk kh) [.string kh, .int .i64 0, .int .i64 0, .int .i64 0] (fun _ => True) (fun _ => False) rfl rfl ?azP (fun _ hk => hk.elim) (fun _ _ => trivial) ?azO ?azB ?azS ?azL ?_; (case azP => exact k69_mkM _ _ _ (sk kh)); (case azO => exact HO9.out); (case azB => exact HB6.out); (case azS => exact below_size HB6.out); (case azL => have := HLHL.out; omega); intro v9 w9 ho hb hg hat; have HO10 := Aside0.mk ho; have HB10 := Aside0.mk hb; clear ho hb hg hat))
                  go_roundw
                  case rel =>
                    refine ⟨i + 1, T1, hlt, ?q1, rfl, ⟨?q2⟩, ⟨?q3⟩, HB10⟩
                    case q1 => push_cast; rfl
                    case q2 => have h1 := HT0.out; have h2 := HT1.out; have h3 := HKS.out; rw [List.take_length] at h2; omega
                    case q3 => have e := HO10.out; rw [HLH.out, HKH.out, HPT.out] at e; rw [heads_take ks' i (by rw [← HQ.out]; exact hlt), List.map_append]; exact e
                  case measure => simp only [intOf]; omega
            · obtain rfl : i = q := by omega
              have d4 : decide ((i : Int) < (i : Int)) = false := by simp
              have hT : T0 = tot + 9 * i + kSum ks' := by
                have h1 := HT0.out
                have h2 : partLo ks'.length i = ks'.length := by rw [HQ.out]; exact partLo_end _
                rw [h2, List.take_length] at h1
                exact h1
              have HT := Aside0.mk hT
              clear hT
              by_cases h1 : i = 1
              · have e1 : ((i : Int) == 1) = true := by rw [h1]; rfl
                have e2 : (i == 1) = true := by rw [h1]; rfl
                have hTB : T0 = B := by
                  have h2 := HT.out
                  have h3 := HBN.out
                  rw [if_pos h1] at h3
                  omega
                have HTB := Aside0.mk hTB
                clear hTB h1
                go_wp2
                go_ret
                rw [HRES.out, HTB.out]
                exact ⟨rfl, below_step HB3.out HB4.out⟩
              · have e1 : ((i : Int) == 1) = false := by simp only [beq_eq_false_iff_ne]; omega
                have e2 : (i == 1) = false := by simp only [beq_eq_false_iff_ne]; omega
                have hi1 := HQT.out h1
                have hTB : T0 + bnd f' (heads ks') = B := by
                  have h2 := HT.out
                  have h3 := HBN.out
                  rw [if_neg h1] at h3
                  omega
                have HTB := Aside0.mk hTB
                clear hTB h1
                go_wp2
                go_roundw
                case rel =>
                  have hhl : (heads ks').length = i := by rw [heads_len, ← HQ.out]
                  refine ⟨heads ks', f', T0, A7, c7, by rw [hhl]; exact HC7.out, by rw [hhl]; exact hqs, by rw [hhl], rfl, ⟨?k1⟩, HTB, ⟨?k2⟩, ⟨below_step HB3.out HB4.out⟩⟩
                  case k1 => rw [hhl]; have e := HR7.out; rw [HLH.out, show (heads ks').take i = heads ks' by rw [← hhl, List.take_length]] at e; exact e
                  case k2 => rw [hhl]; have := HF.out; have := HF'.out; omega
                case measure => simp only [lenOf]; exact hi1
end Go.Proofs.Ytpllpagbdmikpaa.PAll

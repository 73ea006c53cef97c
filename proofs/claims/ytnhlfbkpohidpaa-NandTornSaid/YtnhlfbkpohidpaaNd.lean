import Derived.Test.YtnhlfbkpohidpaaNc
namespace Go.Proofs.Ytnhlfbkpohidpaa.PAll
open Go.RowKit Go.Proofs.YtnhlfbkpohidpaaW.PrintWords Go.Proofs.YtnhlfbkpohidpaaW.PrintLast Go.Proofs.YtnhlfbkpohidpaaW.PrintMore
set_option linter.unusedSimpArgs false
set_option linter.unusedVariables false
attribute [local go_sem] max2_int min2_int max_two min_two max_three min_three max_four min_four
variable {w0 W : World} {gc gb : Nat} {gp : Nat → Nat} {m : Ch} {D : Nat → Nat → List Int}
theorem add0 (g n : Nat) : (⟨g, 0, none⟩ : Addr).add n = ⟨g, n, none⟩ := by
  by_cases h : n = 0
  · subst h; simp [Addr.add]
  · simp [Addr.add, h]
theorem info5' : (Try.prog.info? 5).map (fun i => (i.zero, i.size, i.bytes)) = some (some (.int .u8 0), 1, 1) := by kernel_rfl
theorem setPg_twice (b : Bk) (j : Nat) (p q : Pg) : (b.setPg j p).setPg j q = b.setPg j q := by
  unfold Bk.setPg
  congr 1
  funext x
  by_cases h : x = j <;> simp [h]
theorem setPg_self (b : Bk) (j : Nat) (p : Pg) : (b.setPg j p).pg j = p := by simp [Bk.setPg]
theorem setBk_self (m : Ch) (i : Nat) (b : Bk) : (m.setBk i b).bk i = b := by simp [Ch.setBk]
theorem setBk_twice (m : Ch) (i : Nat) (b c : Bk) : (m.setBk i b).setBk i c = m.setBk i c := by
  unfold Ch.setBk
  congr 1
  funext x
  by_cases h : x = i <;> simp [h]
theorem setBk_other (m : Ch) (i x : Nat) (b : Bk) (h : x ≠ i) : (m.setBk i b).bk x = m.bk x := by simp [Ch.setBk, h]
def updD (D : Nat → Nat → List Int) (i j : Nat) (xs : List Int) : Nat → Nat → List Int := fun x y => if x = i ∧ y = j then xs else D x y
theorem cB_pg (gp : Nat → Nat) (m : Ch) (i : Nat) (b : Bk) (h1 : b.bad = (m.bk i).bad) (h2 : b.er = (m.bk i).er) (h3 : b.nx = (m.bk i).nx) : cB gp (m.setBk i b) = cB gp m := by
  unfold cB
  congr 1
  funext k
  unfold bcell Ch.setBk
  by_cases h : k.val / 4 = i <;> simp [h, h1, h2, h3]
/-- A page is written. -/
theorem St.page (h : St w0 W gc gb gp m D) (i : Nat) (hi : i < 16) (j : Nat) (hj : j < 16) (st : Int) (v : Value) (xs : List Int) (hv : Kd.R (Kd.int .u8) 5 W w0.heap.size (fun _ => True) v xs) :
    St w0 ((W.setCell ⟨gp i, j * 2, none⟩ (.int .i64 st)).setCell ⟨gp i, j * 2 + 1, none⟩ v) gc gb gp (m.setBk i ((m.bk i).setPg j ⟨st, v⟩)) (updD D i j xs) := by
  have h1 : St w0 (W.setCell ⟨gp i, j * 2, none⟩ (.int .i64 st)) gc gb gp (m.setBk i ((m.bk i).setPg j { (m.bk i).pg j with st := st })) D := by
    refine h.setP (m' := m.setBk i ((m.bk i).setPg j { (m.bk i).pg j with st := st })) i hi (j * 2) (.int .i64 st) ?_ rfl (cB_pg gp m i _ rfl rfl rfl) (fun x _ hx => setBk_other m i x _ hx) (fun x y hx hy => ?_) ⟨rfl, rfl⟩
    · rw [setBk_self]; exact cP_st _ _ _
    · have hd := h.d x y hx hy
      by_cases hxi : x = i
      · subst hxi
        rw [setBk_self]
        by_cases hyj : y = j
        · subst hyj; rw [setPg_self]; exact hd
        · simp only [Bk.setPg, hyj, if_false]; exact hd
      · rw [setBk_other m i x _ hxi]; exact hd
  have h2 := h1.setP (m' := (m.setBk i ((m.bk i).setPg j { (m.bk i).pg j with st := st })).setBk i (((m.bk i).setPg j { (m.bk i).pg j with st := st }).setPg j ⟨st, v⟩)) (D' := updD D i j xs) i hi (j * 2 + 1) v ?_ rfl (cB_pg gp _ i _ (by rw [setBk_self]; rfl) (by rw [setBk_self]; rfl) (by rw [setBk_self]; rfl)) (fun x _ hx => setBk_other _ i x _ hx) (fun x y hx hy => ?_) ⟨rfl, rfl⟩
  · rw [setBk_twice, setPg_twice] at h2
    exact h2
  · rw [setBk_self, setBk_self, cP_d, setPg_self]
  · have hp := h.p i hi
    by_cases hxi : x = i
    · subst hxi
      rw [setBk_self]
      by_cases hyj : y = j
      · subst hyj
        rw [setPg_self]
        unfold updD
        rw [if_pos ⟨rfl, rfl⟩]
        exact Kd.R_set hv hp (by decide) _ _
      · have e : updD D x j xs x y = D x y := by unfold updD; rw [if_neg (fun h => hyj h.2)]
        rw [e]
        simp only [Bk.setPg, hyj, if_false]
        exact Kd.R_set (h.d x y hx hy) hp (by decide) _ _
    · have e : updD D i j xs x y = D x y := by unfold updD; rw [if_neg (fun h => hxi h.1)]
      rw [e, setBk_other _ i x _ hxi, setBk_other _ i x _ hxi]
      exact Kd.R_set (h.d x y hx hy) hp (by decide) _ _
theorem St.pageD (h : St w0 W gc gb gp m D) (i : Nat) (hi : i < 16) (j : Nat) (hj : j < 16) (v : Value) (xs : List Int) (hv : Kd.R (Kd.int .u8) 5 W w0.heap.size (fun _ => True) v xs) :
    St w0 (W.setCell ⟨gp i, j * 2 + 1, none⟩ v) gc gb gp (m.setBk i ((m.bk i).setPg j ⟨((m.bk i).pg j).st, v⟩)) (updD D i j xs) := by
  refine h.setP (m' := m.setBk i ((m.bk i).setPg j ⟨((m.bk i).pg j).st, v⟩)) (D' := updD D i j xs) i hi (j * 2 + 1) v ?_ rfl (cB_pg gp _ i _ rfl rfl rfl) (fun x _ hx => setBk_other _ i x _ hx) (fun x y hx hy => ?_) ⟨rfl, rfl⟩
  · rw [setBk_self, cP_d]
  · by_cases hxi : x = i
    · subst hxi
      rw [setBk_self]
      by_cases hyj : y = j
      · subst hyj
        rw [setPg_self]
        unfold updD
        rw [if_pos ⟨rfl, rfl⟩]
        exact hv
      · have e : updD D x j xs x y = D x y := by unfold updD; rw [if_neg (fun h => hyj h.2)]
        rw [e]
        simp only [Bk.setPg, hyj, if_false]
        exact h.d x y hx hy
    · have e : updD D i j xs x y = D x y := by unfold updD; rw [if_neg (fun h => hxi h.1)]
      rw [e, setBk_other _ i x _ hxi]
      exact h.d x y hx hy
theorem updD_twice (D : Nat → Nat → List Int) (i j : Nat) (xs ys : List Int) : updD (updD D i j xs) i j ys = updD D i j ys := by
  funext x y
  unfold updD
  by_cases h : x = i ∧ y = j <;> simp [h]
theorem St.nx (h : St w0 W gc gb gp m D) (i : Nat) (x : Int) : St w0 (W.setCell ⟨gb, i * 4 + 3, none⟩ (.int .i64 x)) gc gb gp (m.setBk i { m.bk i with nx := x }) D :=
  h.setB _ _ (cB_nx gp m i x) rfl (fun k _ => by by_cases hk : k = i <;> simp [Ch.setBk, hk]) ⟨rfl, rfl⟩
theorem St.er (h : St w0 W gc gb gp m D) (i : Nat) (x : Int) : St w0 (W.setCell ⟨gb, i * 4 + 1, none⟩ (.int .i64 x)) gc gb gp (m.setBk i { m.bk i with er := x }) D :=
  h.setB _ _ (cB_er gp m i x) rfl (fun k _ => by by_cases hk : k = i <;> simp [Ch.setBk, hk]) ⟨rfl, rfl⟩
theorem St.badS (h : St w0 W gc gb gp m D) (i : Nat) (x : Bool) : St w0 (W.setCell ⟨gb, i * 4, none⟩ (.bool x)) gc gb gp (m.setBk i { m.bk i with bad := x }) D :=
  h.setB _ _ (cB_bad gp m i x) rfl (fun k _ => by by_cases hk : k = i <;> simp [Ch.setBk, hk]) ⟨rfl, rfl⟩
theorem St.ops (h : St w0 W gc gb gp m D) (x : Int) : St w0 (W.setCell ⟨gc, 8, none⟩ (.int .i64 x)) gc gb gp { m with ops := x } D := h.setC 8 _ rfl rfl h.pln
theorem St.wrong (h : St w0 W gc gb gp m D) (x : Int) : St w0 (W.setCell ⟨gc, 9, none⟩ (.int .i64 x)) gc gb gp { m with wrong := x } D := h.setC 9 _ rfl rfl h.pln
/-- A block that is none of the chip's is written. -/
theorem St.other (h : St w0 W gc gb gp m D) {g : Nat} {cs : Array Value} (hg : W.heap[g]? = some (.cells cs 44 (0, 0))) (hge : w0.heap.size ≤ g) (k : Nat) (v : Value) (hpl : Kd.R k44 44 (W.setCell ⟨g, k, none⟩ v) w0.heap.size (fun _ => True) m.plan m.pl) : St w0 (W.setCell ⟨g, k, none⟩ v) gc gb gp m D :=
  ⟨blk_far h.c (ne_of_type h.c hg (by decide)) _, blk_far h.b (ne_of_type h.b hg (by decide)) _, fun i hi => blk_far (h.p i hi) (ne_of_type (h.p i hi) hg (by decide)) _, h.inj, h.ec, h.eb, h.ep, fun i j hi hj => Kd.R_set (h.d i j hi hj) hg (by decide) _ _, hpl, below_set h.below hge⟩
theorem set44 {g : Nat} {a b c : Value} (h : W.heap[g]? = some (.cells #[a, b, c] 44 (0, 0))) (x y z : Value) : (((W.setCell ⟨g, 0, none⟩ x).setCell ⟨g, 1, none⟩ y).setCell ⟨g, 2, none⟩ z).heap[g]? = some (.cells #[x, y, z] 44 (0, 0)) :=
  blk_put (blk_put (blk_put h 0 x (cs' := #[x, b, c]) rfl) 1 y (cs' := #[x, y, c]) rfl) 2 z rfl
theorem St.other3 (h : St w0 W gc gb gp m D) {g : Nat} {a b c : Value} (hg : W.heap[g]? = some (.cells #[a, b, c] 44 (0, 0))) (hge : w0.heap.size ≤ g) {ok : Nat → Prop} (hok : ∀ k, ok k → k ≠ g) (hpl : Kd.R k44 44 W w0.heap.size ok m.plan m.pl) (x y z : Value) : St w0 (((W.setCell ⟨g, 0, none⟩ x).setCell ⟨g, 1, none⟩ y).setCell ⟨g, 2, none⟩ z) gc gb gp m D := by
  have p1 := Kd.R_far hpl (p := ⟨g, 0, none⟩) hok x
  have p2 := Kd.R_far p1 (p := ⟨g, 1, none⟩) hok y
  have p3 := Kd.R_far p2 (p := ⟨g, 2, none⟩) hok z
  exact ((h.other hg hge 0 x (Kd.R_mono p1 (fun _ _ => trivial))).other (blk_put hg 0 x (cs' := #[x, b, c]) rfl) hge 1 y (Kd.R_mono p2 (fun _ _ => trivial))).other (blk_put (blk_put hg 0 x (cs' := #[x, b, c]) rfl) 1 y (cs' := #[x, y, c]) rfl) hge 2 z (Kd.R_mono p3 (fun _ _ => trivial))
theorem Keeps.set3 {W W1 : World} (h : Keeps W W1) {g : Nat} {a b c : Value} (hg : W1.heap[g]? = some (.cells #[a, b, c] 44 (0, 0))) (x y z : Value) : Keeps W (((W1.setCell ⟨g, 0, none⟩ x).setCell ⟨g, 1, none⟩ y).setCell ⟨g, 2, none⟩ z) :=
  ((h.set hg (by decide) 0 x).set (blk_put hg 0 x (cs' := #[x, b, c]) rfl) (by decide) 1 y).set (blk_put (blk_put hg 0 x (cs' := #[x, b, c]) rfl) 1 y (cs' := #[x, y, c]) rfl) (by decide) 2 z
theorem St.lower {w1 : World} (h : St w1 W gc gb gp m D) (hb : Below w0.heap.size w0 w1) : St w0 W gc gb gp m D :=
  ⟨h.c, h.b, h.p, h.inj, Nat.le_trans (below_size hb) h.ec, Nat.le_trans (below_size hb) h.eb, fun i hi => Nat.le_trans (below_size hb) (h.ep i hi), fun i j hi hj => Kd.R_lower (h.d i j hi hj) (below_size hb), Kd.R_lower h.pln (below_size hb), below_step hb h.below⟩
set_option maxRecDepth 100000 in
theorem clone_bytes (A : Option Addr) (c : Nat) (l : List Int) (w : World) (hr : Kd.C (Kd.int .u8) w A l.length l) (hc : l.length ≤ c) (hb : l.length ≤ 140737488355328) :
    Calls Try.prog 30 #[.slice A l.length c] w fun e w' => ∃ v0_ : Value, e = .returned (v0_) ∧ Kd.R (Kd.int .u8) 5 w' w.heap.size (fun _ => True) v0_ l ∧ Below w.heap.size w w' := by
  have HR := Aside0.mk hr
  have HC := Aside0.mk hc
  have HBs := Aside0.mk hb
  clear hc hb
  rcases A with _ | ad
  · have h0 : l = [] := by
      rcases Nat.eq_zero_or_pos l.length with h0 | h0
      · exact List.eq_nil_of_length_eq_zero h0
      · obtain ⟨ad, h, _⟩ := hr.2.2 h0
        cases h
    subst h0
    clear hr
    have hnil := fun W : World => Lib.run_eql_slice_nil (P := Try.prog) W 31 5 none 0 c 0 0 Try.underlying31
    go_enter Try.func30, Try.ntmps30
    go_wp2
    go_ret
    exact ⟨_, rfl, Kd.R_nil _ _ _ _ _, Below.refl _ _⟩
  · clear hr
    have hnil := fun W : World => Lib.run_eql_slice_nil (P := Try.prog) W 31 5 (some ad) l.length c 0 0 Try.underlying31
    go_enter Try.func30, Try.ntmps30
    go_wp2_with (first
      | ((with_reducible refine gate_dst (N := 5) rfl ?_); refine Kd.R_lit (Kd.int .u8) w.heap.size 5 ?hg (N := 5) ?hd (xs := ([] : List Int)) (inner := []) (ok := fun _ => True) (okp := fun _ => True) ?hr ?hp (fun _ hk => hk) trivial (Below.refl _ _) (Nat.le_refl _) (by simp) ?_; (case hd => rfl); (case hg => rfl); (case hr => first | (go_simp; done) | (go_simp; rfl)); (case hp => exact (Reps.none _ _)); intro v1 w1 ho hb _ _; have HO := Aside0.mk ho; have HB := Aside0.mk hb; clear ho hb)
      | ((with_reducible refine gate_builtin (b := .append) (xs := #[.tmp 5, .tmp 6]) rfl ?_); at_builtin; refine Kd.R_append_rows (Kd.int .u8) (w0 := w) w.heap.size rfl (.tmp 5) (.tmp 6) 31 5 (.int .u8 0) 1 rfl Try.underlying31 info5' rfl Nat.zero_lt_one Nat.zero_lt_one v1 [] l _ _ _ (fun _ => True) (fun _ => False) rfl rfl ?aO ?aR (fun _ _ h => h) (fun _ h => h.elim) ?aF ?aB ?aS ?aL ?_; (case aO => exact HO.out); (case aR => exact Kd.C_below HR.out HB.out); (case aF => exact fun _ _ => trivial); (case aB => exact HB.out); (case aS => exact below_size HB.out); (case aL => have := HBs.out; simp; exact this); intro v2 w2 ho2 hb2 _ _; have HO2 := Aside0.mk ho2; have HB2 := Aside0.mk hb2; clear ho2 hb2))
    go_ret
    exact ⟨_, rfl, HO2.out, HB2.out⟩
set_option maxRecDepth 100000 in
set_option maxHeartbeats 4000000 in
theorem begin_miss (h : St w0 W gc gb gp m D) (hp : ∀ f ∈ m.pl, f.f0 ≠ wrap64 (wrap64 (m.ops + 1) - m.frm)) :
    Calls Try.prog 29 #[cp gc] W fun e w' => e = .returned (.tuple #[.agg #[.int .i64 0, .int .i64 0, .int .i64 0], .bool false]) ∧ St w0 w' gc gb gp { m with ops := wrap64 (m.ops + 1) } D ∧ Keeps W w' := by
  have c8 : ∀ o, (W.alloc o).cell? ⟨gc, 8, none⟩ = some (.int .i64 m.ops) := fun o => (h.grow (below_alloc (Below.refl _ _) o)).cellC 8
  have f8 : ∀ o, (W.alloc o).frozen? ⟨gc, 8, none⟩ = false := fun o => blk_frozen (h.grow (below_alloc (Below.refl _ _) o)).c 8
  have H := Aside0.mk h
  have HP := Aside0.mk hp
  have hu44 := Try.underlying44
  obtain ⟨A5, c5, e5⟩ := Kd.R_slice h.pln
  have hform : 0 < m.pl.length → ∃ g5, A5 = some ⟨g5, 0, none⟩ := fun hpos => by
    obtain ⟨g5, c, e, _⟩ := Kd.R_form h.pln hpos
    rw [e5] at e
    simp only [Value.slice.injEq] at e
    exact ⟨g5, e.1⟩
  have HF5 := Aside0.mk hform
  have HPV := Aside0.mk e5
  have hpb : Kd.R k44 44 W w0.heap.size (fun k => k < W.heap.size) m.plan m.pl := Kd.R_mono (Kd.R_bound h.pln) (fun k hk => hk.2.2.1)
  have HPB0 := Aside0.mk hpb
  have hmx : m.pl.length ≤ 9223372036854775807 := by
    have h7 := h.pln
    rw [e5] at h7
    exact Kd.C_max (Kd.R_reads' h7).2.2
  clear h hp e5 hform hpb
  go_enter Try.func29, Try.ntmps29
  go_upto_region 2 with (fail)
  generalize hW : (W.alloc (.cells #[.int .i64 0, .int .i64 0, .int .i64 0] 44)).setCell ⟨gc, 8, none⟩ (.int .i64 (wrap64 (m.ops + 1))) = W1
  have h1 : St w0 W1 gc gb gp { m with ops := wrap64 (m.ops + 1) } D := by rw [← hW]; exact (H.out.grow (below_alloc (Below.refl _ _) _)).ops _
  have hk : Keeps W W1 := by rw [← hW]; exact (Keeps.of_below (below_alloc (Below.refl _ _) _)).set (H.out.grow (below_alloc (Below.refl _ _) _)).c (by decide) _ _
  have hx : W1.heap[W.heap.size]? = some (.cells #[.int .i64 0, .int .i64 0, .int .i64 0] 44 (0, 0)) := by rw [← hW]; exact blk_far (new_blk _ _ _) (ne_of_type (new_blk W #[.int .i64 0, .int .i64 0, .int .i64 0] 44) (H.out.grow (below_alloc (Below.refl _ _) (.cells #[.int .i64 0, .int .i64 0, .int .i64 0] 44))).c (by decide)) _
  have hpb1 : Kd.R k44 44 W1 w0.heap.size (fun k => k < W.heap.size) m.plan m.pl := by rw [← hW]; exact Kd.R_set (Kd.R_below HPB0.out (below_alloc (Below.refl _ _) _)) (H.out.grow (below_alloc (Below.refl _ _) _)).c (by decide) _ _
  have cc5 : W1.cell? ⟨gc, 5, none⟩ = some (.slice A5 m.pl.length c5) := by rw [h1.cellC 5]; simp [cC, HPV.out]
  have x0 := Joins.cell_of_block hx 0
  have x1 := Joins.cell_of_block hx 1
  have x2 := Joins.cell_of_block hx 2
  have fx0 := blk_frozen hx 0
  have fx1 := blk_frozen hx 1
  have fx2 := blk_frozen hx 2
  have H1 := Aside0.mk h1
  have HK := Aside0.mk hk
  have HX := Aside0.mk hx
  have HPB := Aside0.mk hpb1
  clear hW h1 hk hx c8 f8 hpb1
  go_upto_region 3 with (fail)
  go_loopw [18] (fun v18 wr => ∃ i : Nat, i ≤ m.pl.length ∧ v18 = .int .i64 i ∧ Aside0 (Below W1.heap.size W1 wr)) (fun i _ => m.pl.length - (intOf i).toNat)
  case atStart => exact ⟨0, Nat.zero_le _, rfl, ⟨Below.refl _ _⟩⟩
  case round =>
    obtain ⟨i, hi, rfl, HBr⟩ := hrel
    clear cc5 x0 x1 x2 fx0 fx1 fx2
    have HXr := Aside0.mk (keep_below HX.out HBr.out)
    have x0 := Joins.cell_of_block HXr.out 0
    have x1 := Joins.cell_of_block HXr.out 1
    have x2 := Joins.cell_of_block HXr.out 2
    have fx0 := blk_frozen HXr.out 0
    have fx1 := blk_frozen HXr.out 1
    have fx2 := blk_frozen HXr.out 2
    by_cases hlt : i < m.pl.length
    · have d0 : decide ((i : Int) < (m.pl.length : Int)) = true := decide_eq_true (by omega)
      have hq : (i < m.pl.length) = True := eq_true hlt
      have hqi : ((i : Int) < (m.pl.length : Int)) = True := eq_true (by omega)
      have hqm : (m.pl.length ≤ i) = False := eq_false (by omega)
      have hr5 := Kd.R_below (H1.out.pln) HBr.out
      have hf5 := HF5.out (Nat.lt_of_le_of_lt (Nat.zero_le _) hlt)
      obtain ⟨g5, rfl⟩ := hf5
      have hr6 := hr5
      rw [show ({ m with ops := wrap64 (m.ops + 1) } : Ch).plan = m.plan from rfl, show ({ m with ops := wrap64 (m.ops + 1) } : Ch).pl = m.pl from rfl, HPV.out] at hr6
      obtain ⟨ad, ead, y0, y1, y2⟩ := at_T44 (Kd.R_reads' hr6).2.2 (i : Int) (by omega) (by omega)
      obtain rfl : (⟨g5, 0, none⟩ : Addr) = ad := by simpa using ead
      rw [add0, Int.toNat_natCast] at y0 y1 y2
      have hmem : rd_T44 m.pl (i : Int) ∈ m.pl := by
        unfold rd_T44
        rw [Int.toNat_natCast, List.getD_eq_getElem?_getD, List.getElem?_eq_getElem hlt]
        exact List.getElem_mem hlt
      have hne := HP.out _ hmem
      generalize rd_T44 m.pl (i : Int) = f at y0 y1 y2 hne
      have e1 : (f.f0 == IntKind.i64.wrap (wrap64 (m.ops + 1) - m.frm)) = false := by simp only [beq_eq_false_iff_ne]; rw [i64_w]; exact hne
      have HQ9 := Aside0.mk (fun o => below_step HBr.out (below_alloc (Below.refl wr.heap.size wr) o))
      clear ead hmem hne hr5 hr6
      go_upto_region 5 with (fail)
      generalize hW6 : wr.alloc (.cells #[.int .i64 f.f0, .int .i64 f.f1, .int .i64 f.f2] 44) = W6
      have HF6 := Aside0.mk (show W6.heap[wr.heap.size]? = some (.cells #[.int .i64 f.f0, .int .i64 f.f1, .int .i64 f.f2] 44 (0, 0)) by rw [← hW6]; exact new_blk _ _ _)
      have HB6 := Aside0.mk (show Below W1.heap.size W1 W6 by rw [← hW6]; exact HQ9.out _)
      have H6 := Aside0.mk (H1.out.grow HB6.out)
      clear hW6 y0 y1 y2
      refine Reg.det [(0, 22, ?r2v0), (1, 23, ?r2v1), (2, 24, ?r2v2), (3, 25, ?r2v3), (4, 26, ?r2v4), (5, 27, ?r2v5), (6, 28, ?r2v6), (7, 29, ?r2v7), (8, 30, ?r2v8), (9, 31, ?r2v9), (10, 32, ?r2v10), (11, 33, ?r2v11)] (fun w' => Below W6.heap.size W6 w') (by rfl) rfl (by kernel_rfl) ?r2S ?r2steps ?r2okv ?r2hlt ?r2fin
      case r2S => exact below_drew (Below.refl _ _)
      case r2steps =>
        refine Reg.from_some 0 rfl rfl (fun a w hS hK K hC => ?_) ?_
        · refine Reg.step_on (by rfl) ?_
          have e5 := hK.off 5 _ rfl rfl
          clear hK
          go_simp
          exact hC _ hS
        refine Reg.from_some 1 rfl rfl (fun a w hS hK K hC => ?_) ?_
        · refine Reg.step_on (by rfl) ?_
          have e22 := hK.slot 0 _ _ _ rfl (by kernel_rfl)
          have k8 := (H6.out.grow hS).cellC 8
          change _ = some (Value.int .i64 (wrap64 (m.ops + 1))) at k8
          have k6 := (H6.out.grow hS).cellC 6
          change _ = some (Value.int .i64 m.frm) at k6
          have kf := Joins.cell_of_block (keep_below HF6.out hS) 0
          clear hK
          go_simp
          exact hC _ hS
        refine Reg.from_some 2 rfl rfl (fun a w hS hK K hC => ?_) ?_
        · refine Reg.step_on (by rfl) ?_
          have e0 := hK.off 0 _ rfl rfl
          clear hK
          go_simp
          exact hC _ hS
        refine Reg.from_some 3 rfl rfl (fun a w hS hK K hC => ?_) ?_
        · refine Reg.step_on (by rfl) ?_
          have e24 := hK.slot 2 _ _ _ rfl (by kernel_rfl)
          clear hK
          go_simp
          exact hC _ hS
        refine Reg.from_some 4 rfl rfl (fun a w hS hK K hC => ?_) ?_
        · refine Reg.step_on (by rfl) ?_
          have e25 := hK.slot 3 _ _ _ rfl (by kernel_rfl)
          clear hK
          go_simp
          exact hC _ hS
        refine Reg.from_some 5 rfl rfl (fun a w hS hK K hC => ?_) ?_
        · refine Reg.step_on (by rfl) ?_
          have e26 := hK.slot 4 _ _ _ rfl (by kernel_rfl)
          have k8 := (H6.out.grow hS).cellC 8
          change _ = some (Value.int .i64 (wrap64 (m.ops + 1))) at k8
          have k6 := (H6.out.grow hS).cellC 6
          change _ = some (Value.int .i64 m.frm) at k6
          have kf := Joins.cell_of_block (keep_below HF6.out hS) 0
          clear hK
          go_simp
          exact hC _ hS
        refine Reg.from_some 6 rfl rfl (fun a w hS hK K hC => ?_) ?_
        · refine Reg.step_on (by rfl) ?_
          have e0 := hK.off 0 _ rfl rfl
          clear hK
          go_simp
          exact hC _ hS
        refine Reg.from_some 7 rfl rfl (fun a w hS hK K hC => ?_) ?_
        · refine Reg.step_on (by rfl) ?_
          have e28 := hK.slot 6 _ _ _ rfl (by kernel_rfl)
          clear hK
          go_simp
          exact hC _ hS
        refine Reg.from_some 8 rfl rfl (fun a w hS hK K hC => ?_) ?_
        · refine Reg.step_on (by rfl) ?_
          have e29 := hK.slot 7 _ _ _ rfl (by kernel_rfl)
          clear hK
          go_simp
          exact hC _ hS
        refine Reg.from_some 9 rfl rfl (fun a w hS hK K hC => ?_) ?_
        · refine Reg.step_on (by rfl) ?_
          have e30 := hK.slot 8 _ _ _ rfl (by kernel_rfl)
          have k8 := (H6.out.grow hS).cellC 8
          change _ = some (Value.int .i64 (wrap64 (m.ops + 1))) at k8
          have k6 := (H6.out.grow hS).cellC 6
          change _ = some (Value.int .i64 m.frm) at k6
          have kf := Joins.cell_of_block (keep_below HF6.out hS) 0
          clear hK
          go_simp
          exact hC _ hS
        refine Reg.from_some 10 rfl rfl (fun a w hS hK K hC => ?_) ?_
        · refine Reg.step_on (by rfl) ?_
          have e27 := hK.slot 5 _ _ _ rfl (by kernel_rfl)
          have e31 := hK.slot 9 _ _ _ rfl (by kernel_rfl)
          clear hK
          go_simp
          exact hC _ hS
        refine Reg.from_some 11 rfl rfl (fun a w hS hK K hC => ?_) ?_
        · refine Reg.step_on (by rfl) ?_
          have e23 := hK.slot 1 _ _ _ rfl (by kernel_rfl)
          have e32 := hK.slot 10 _ _ _ rfl (by kernel_rfl)
          clear hK
          go_simp
          exact hC _ hS
        exact Reg.from_nil
      case r2okv => rfl
      case r2hlt => rfl
      case r2fin =>
        intro wz hS
        simp only [Reg.putV, List.foldl_cons, List.foldl_nil, Act.put, List.setIfInBounds_toArray, List.set_cons_zero, List.set_cons_succ]
        have HBz := Aside0.mk (below_step HB6.out hS)
        clear hS
        go_wp2
        go_roundw
        case rel => exact ⟨i + 1, by omega, by push_cast; rfl, HBz⟩
        case measure => simp [intOf]; omega
    · obtain rfl : i = m.pl.length := by omega
      go_wp2
      refine bodyPost_ret (results_ct rfl _ _ W.heap.size 44 #[.int .i64 0, .int .i64 0, .int .i64 0] (0, 0) _ rfl (set44 HXr.out _ _ _) Try.underlying44 rfl (by kernel_rfl)) rfl ?_
      exact ⟨rfl, (H1.out.grow HBr.out).other3 HXr.out (below_size H.out.below) (fun k hk => Nat.ne_of_lt hk) (Kd.R_below HPB.out HBr.out) _ _ _, (HK.out.trans (Keeps.of_below HBr.out)).set3 HXr.out _ _ _⟩
set_option maxRecDepth 100000 in
set_option maxHeartbeats 8000000 in
theorem program_ok (h : St w0 W gc gb gp m D) (hoff : m.off = false) (hplan : ∀ f ∈ m.pl, f.f0 ≠ wrap64 (wrap64 (m.ops + 1) - m.frm)) (n p : Nat) (hn : n < 16) (hp : p < 16) (hbad : (m.bk n).bad = false) (hnx : (m.bk n).nx = p) (A : Option Addr) (c : Nat) (l : List Int) (hr : ∀ w', Below w0.heap.size w0 w' → Keeps W w' → Kd.C (Kd.int .u8) w' A l.length l) (hc : l.length ≤ c) (hl : l.length ≤ 128) :
    Calls Try.prog 11 #[cp gc, .int .i64 n, .int .i64 p, .slice A l.length c] W fun e w' => e = .returned (.int .i64 0) ∧ (∃ v : Value, St w0 w' gc gb gp (({ m with ops := wrap64 (m.ops + 1) } : Ch).setBk n { ((m.bk n).setPg p ⟨1, v⟩) with nx := (p : Int) + 1 }) (updD D n p l)) ∧ Keeps W w' := by
  have HRY := Aside0.mk (ready_yes h hoff n hn)
  have H := Aside0.mk h
  have HPL := Aside0.mk hplan
  have HBD := Aside0.mk hbad
  have HNX := Aside0.mk hnx
  have HRD := Aside0.mk hr
  have HCC := Aside0.mk hc
  have d1 : decide ((p : Int) < 0) = false := decide_eq_false (by omega)
  have d2 : decide ((16 : Int) ≤ (p : Int)) = false := decide_eq_false (by omega)
  have d3 : decide (16 ≤ p) = false := decide_eq_false (by omega)
  have d4 : decide ((128 : Int) < (l.length : Int)) = false := decide_eq_false (by omega)
  have d5 : decide (128 < l.length) = false := decide_eq_false (by omega)
  have hqp : ((p : Int) < 16) = True := eq_true (by omega)
  have hqp2 : (p < 16) = True := eq_true hp
  have hu44 := Try.underlying44
  have hu65 := Try.underlying65
  clear h hoff hplan hbad hnx hr hc
  go_enter Try.func11, Try.ntmps11
  go_upto_region 9 with (first
    | (go_at_call 27; (with_reducible refine HRY.out.mono ?_); rintro e w1 ⟨rfl, hb1⟩; have h1 := H.out.grow hb1; have H1 := Aside0.mk h1; have HB1 := Aside0.mk hb1; obtain ⟨z0, z1, z2, z3⟩ := h1.cellB n hn; rw [HBD.out] at z0; rw [HNX.out] at z3; have y2 : w1.cell? ⟨gc, 2, none⟩ = some (.int .i64 128) := h1.cellC 2; clear hb1 h1))
  clear z0 z1 z2 z3 y2
  have HBN := Aside0.mk (begin_miss H1.out HPL.out)
  go_upto_region 21 with (first
    | (go_at_call 29; (with_reducible refine HBN.out.mono ?_); rintro e w2 ⟨rfl, h2, hk2⟩; have H2 := Aside0.mk h2; have HK2 := Aside0.mk ((Keeps.of_below HB1.out).trans hk2); clear h2 hk2))
  generalize hW : w2.alloc (.cells #[.int .i64 0, .int .i64 0, .int .i64 0] 44) = W3
  have hb3 : Below w2.heap.size w2 W3 := by rw [← hW]; exact below_alloc (Below.refl _ _) _
  have h3 := H2.out.grow hb3
  obtain ⟨z0, z1, z2, z3⟩ := h3.cellB n hn
  obtain ⟨q0, q1⟩ := h3.cellP n hn p hp
  have fq0 := blk_frozen (h3.p n hn) (p * 2)
  have fq1 := blk_frozen (h3.p n hn) (p * 2 + 1)
  have H3 := Aside0.mk h3
  have HK3 := Aside0.mk (HK2.out.trans (Keeps.of_below hb3))
  clear hW hb3 h3
  go_upto_region 22 with (fail)
  generalize hW : (W3.setCell ⟨gp n, p * 2, none⟩ (.int .i64 1)).setCell ⟨gp n, p * 2 + 1, none⟩ (.slice none 0 0) = W4
  have h4 := H3.out.page n hn p hp 1 (.slice none 0 0) [] (Kd.R_nil _ _ _ _ _)
  have hk4 := (HK3.out.set (H3.out.p n hn) (by decide) (p * 2) (.int .i64 1)).set (blk_set (H3.out.p n hn) (p * 2) (.int .i64 1)) (by decide) (p * 2 + 1) (.slice none 0 0)
  rw [hW] at h4 hk4
  have H4 := Aside0.mk h4
  have HK4 := Aside0.mk hk4
  clear hW h4 hk4 z0 z1 z2 z3 q0 q1 fq0 fq1
  go_upto_region 23 with (fail)
  refine Rel.tail (m := 9) [(0, 96, .inl ?r1v0), (1, 97, .inl ?r1v1), (2, 98, .inl ?r1v2), (3, 99, .inl ?r1v3), (4, 100, .inl ?r1v4), (5, 101, .inl ?r1v5), (6, 102, .inr (fun v w' => Kd.R (Kd.int .u8) 5 w' w0.heap.size (fun _ => True) v l)), (7, 103, .inl ?r1v7), (8, 104, .inl ?r1v8)] (fun w' => Below W4.heap.size W4 w') (fun w' w'' => Below w'.heap.size w' w'') (by rfl) rfl (by kernel_rfl) (by kernel_rfl) (by kernel_rfl) ?r1S (Rel.stable_inl (Rel.stable_inl (Rel.stable_inl (Rel.stable_inl (Rel.stable_inl (Rel.stable_inl (Rel.stable_inr (fun v w w' hb h => Kd.R_below h hb) (Rel.stable_inl (Rel.stable_inl Rel.stable_nil))))))))) ?r1steps ?r1okv ?r1hlt ?r1fin
  case r1S => exact below_drew (Below.refl _ _)
  case r1steps =>
    refine Rel.from_some 0 rfl rfl (fun a wq hS hK K hC => ?_) ?_
    · refine Reg.step_on (by rfl) ?_
      have e9 := hK.off 9 _ rfl rfl
      clear hK
      go_simp
      exact hC _ hS (Below.refl _ _)
    refine Rel.from_some 1 rfl rfl (fun a wq hS hK K hC => ?_) ?_
    · refine Reg.step_on (by rfl) ?_
      have e96 := hK.slot 0 _ _ _ rfl (by kernel_rfl)
      clear hK
      go_simp
      exact hC _ hS (Below.refl _ _)
    refine Rel.from_some 2 rfl rfl (fun a wq hS hK K hC => ?_) ?_
    · refine Reg.step_on (by rfl) ?_
      have e97 := hK.slot 1 _ _ _ rfl (by kernel_rfl)
      clear hK
      go_simp
      exact hC _ hS (Below.refl _ _)
    refine Rel.from_some 3 rfl rfl (fun a wq hS hK K hC => ?_) ?_
    · refine Reg.step_on (by rfl) ?_
      have e98 := hK.slot 2 _ _ _ rfl (by kernel_rfl)
      have zz := ((H4.out.grow hS).cellB n hn).2.2.1
      clear hK
      go_simp
      exact hC _ hS (Below.refl _ _)
    refine Rel.from_some 4 rfl rfl (fun a wq hS hK K hC => ?_) ?_
    · refine Reg.step_on (by rfl) ?_
      have e2 := hK.off 2 _ rfl rfl
      clear hK
      go_simp
      exact hC _ hS (Below.refl _ _)
    refine Rel.from_some 5 rfl rfl (fun a wq hS hK K hC => ?_) ?_
    · refine Reg.step_on (by rfl) ?_
      have e3 := hK.off 3 _ rfl rfl
      clear hK
      go_simp
      exact hC _ hS (Below.refl _ _)
    refine Rel.from_rel 6 rfl rfl (fun a wq hS hK K hC => ?_) ?_
    · refine Reg.step_on (by rfl) ?_
      have e101 := hK.slot 5 _ _ _ rfl (by kernel_rfl)
      clear hK
      go_simp
      go_at_call 30; (with_reducible refine (clone_bytes A c l wq (HRD.out wq (H4.out.grow hS).below (HK4.out.trans (Keeps.of_below hS))) HCC.out ?cb).mono ?_)
      case cb => omega
      rintro e w' ⟨v, rfl, ho, hb⟩
      exact hC v w' (below_step hS hb) hb (Kd.R_lower ho (below_size (H4.out.grow hS).below))
    refine Rel.from_some 7 rfl rfl (fun a wq hS hK K hC => ?_) ?_
    · refine Reg.step_on (by rfl) ?_
      have e99 := hK.slot 3 _ _ _ rfl (by kernel_rfl)
      have e100 := hK.slot 4 _ _ _ rfl (by kernel_rfl)
      clear hK
      go_simp
      exact hC _ hS (Below.refl _ _)
    refine Rel.from_some 8 rfl rfl (fun a wq hS hK K hC => ?_) ?_
    · refine Reg.step_on (by rfl) ?_
      have e103 := hK.slot 7 _ _ _ rfl (by kernel_rfl)
      clear hK
      go_simp
      exact hC _ hS (Below.refl _ _)
    exact Rel.from_nil
  case r1okv => rfl
  case r1hlt => rfl
  case r1fin =>
    intro U wz hS hU
    have q6 := hU 6 _ _ _ rfl
    clear hU
    simp only [Rel.inst, Nat.zero_add, Nat.reduceAdd, Reg.putV, List.foldl_cons, List.foldl_nil, Act.put, List.setIfInBounds_toArray, List.set_cons_zero, List.set_cons_succ]
    have h5 := H4.out.grow hS
    have HQ := Aside0.mk q6
    obtain ⟨r0, r1⟩ := h5.cellP n hn p hp
    have fr1 := blk_frozen (h5.p n hn) (p * 2 + 1)
    have H5 := Aside0.mk h5
    have HK5 := Aside0.mk (HK4.out.trans (Keeps.of_below hS))
    obtain ⟨A6, c6, e6⟩ := Kd.R_slice q6
    rw [e6] at HQ ⊢
    clear hS h5 q6 e6
    refine Rel.tail_cons (fun K hK => ?_)
    refine Reg.step_on (by rfl) ?_
    go_simp
    refine hK _ _ ?_
    clear hK r0 r1 fr1
    refine Rel.tail_nil ?_
    have h6 := H5.out.pageD n hn p hp (.slice A6 l.length c6) l HQ.out
    have hk6 := HK5.out.set (H5.out.p n hn) (by decide) (p * 2 + 1) (.slice A6 l.length c6)
    rw [setBk_self, setBk_twice, setPg_self, setPg_twice, updD_twice] at h6
    generalize wz.setCell ⟨gp n, p * 2 + 1, none⟩ (.slice A6 l.length c6) = W6 at h6 hk6 ⊢
    obtain ⟨z0, z1, z2, z3⟩ := h6.cellB n hn
    rw [setBk_self] at z3
    change W6.cell? ⟨gb, n * 4 + 3, none⟩ = some (.int .i64 (m.bk n).nx) at z3
    rw [HNX.out] at z3
    have f3 := blk_frozen h6.b (n * 4 + 3)
    have H6 := Aside0.mk h6
    have HK6 := Aside0.mk hk6
    clear h6 hk6 z0 z1 z2
    go_wp2
    go_ret
    have h7 := H6.out.nx n ((p : Int) + 1)
    rw [setBk_self, setBk_twice] at h7
    exact ⟨rfl, ⟨_, h7⟩, HK6.out.set H6.out.b (by decide) _ _⟩
set_option maxRecDepth 100000 in
set_option maxHeartbeats 8000000 in
theorem program_perm (h : St w0 W gc gb gp m D) (hoff : m.off = false) (n p : Nat) (hn : n < 16) (hp : p < 16) (hbad : (m.bk n).bad = true ∨ (m.bk n).nx ≠ p) (A : Option Addr) (len c : Nat) (hl : len ≤ 128) :
    Calls Try.prog 11 #[cp gc, .int .i64 n, .int .i64 p, .slice A len c] W fun e w' => e = .returned (.int .i64 1) ∧ St w0 w' gc gb gp { m with wrong := wrap64 (m.wrong + 1) } D ∧ Keeps W w' := by
  have HRY := Aside0.mk (ready_yes h hoff n hn)
  have H := Aside0.mk h
  have HBD := Aside0.mk hbad
  have d1 : decide ((p : Int) < 0) = false := decide_eq_false (by omega)
  have d2 : decide ((16 : Int) ≤ (p : Int)) = false := decide_eq_false (by omega)
  have d3 : decide (16 ≤ p) = false := decide_eq_false (by omega)
  have d4 : decide ((128 : Int) < (len : Int)) = false := decide_eq_false (by omega)
  have d5 : decide (128 < len) = false := decide_eq_false (by omega)
  clear h hoff hbad
  cases hb : (m.bk n).bad with
  | true =>
    have HB := Aside0.mk hb
    clear hb
    go_enter Try.func11, Try.ntmps11
    go_wp2_with (first
      | (go_at_call 27; (with_reducible refine HRY.out.mono ?_); rintro e w1 ⟨rfl, hb1⟩; have h1 := H.out.grow hb1; have H1 := Aside0.mk h1; have HB1 := Aside0.mk hb1; obtain ⟨z0, z1, z2, z3⟩ := h1.cellB n hn; rw [HB.out] at z0; have y2 : w1.cell? ⟨gc, 2, none⟩ = some (.int .i64 128) := h1.cellC 2; have y9 : w1.cell? ⟨gc, 9, none⟩ = some (.int .i64 m.wrong) := h1.cellC 9; have f9 := blk_frozen h1.c 9; clear hb1 h1))
    go_ret
    exact ⟨rfl, H1.out.wrong _, (Keeps.of_below HB1.out).set H1.out.c (by decide) _ _⟩
  | false =>
    have hne : (m.bk n).nx ≠ p := by
      rcases HBD.out with h | h
      · rw [hb] at h; cases h
      · exact h
    have e1 : ((p : Int) == (m.bk n).nx) = false := by simp only [beq_eq_false_iff_ne]; exact fun h => hne h.symm
    have e2 : ((p : Int) != (m.bk n).nx) = true := by simp only [bne_iff_ne]; exact fun h => hne h.symm
    have HB := Aside0.mk hb
    clear hb hne
    go_enter Try.func11, Try.ntmps11
    go_wp2_with (first
      | (go_at_call 27; (with_reducible refine HRY.out.mono ?_); rintro e w1 ⟨rfl, hb1⟩; have h1 := H.out.grow hb1; have H1 := Aside0.mk h1; have HB1 := Aside0.mk hb1; obtain ⟨z0, z1, z2, z3⟩ := h1.cellB n hn; rw [HB.out] at z0; have y2 : w1.cell? ⟨gc, 2, none⟩ = some (.int .i64 128) := h1.cellC 2; have y9 : w1.cell? ⟨gc, 9, none⟩ = some (.int .i64 m.wrong) := h1.cellC 9; have f9 := blk_frozen h1.c 9; clear hb1 h1))
    go_ret
    exact ⟨rfl, H1.out.wrong _, (Keeps.of_below HB1.out).set H1.out.c (by decide) _ _⟩
end Go.Proofs.Ytnhlfbkpohidpaa.PAll

import Derived.Test.YtdlimghdimkadaaDoorCb
import Derived.Test.YtdlimghdimkadaaDoorRelTail
import Derived.Deep.CutBlock
namespace Go.Proofs.YtdlimghdimkadaaDoor.PAll
open Go.RowKit Go.Proofs.YtdlimghdimkadaaDoorW.PrintWords Go.Proofs.YtdlimghdimkadaaDoorW.PrintLast Go.Proofs.YtdlimghdimkadaaDoorW.PrintMore
set_option linter.unusedSimpArgs false
set_option linter.unusedVariables false
attribute [local go_sem] max2_int min2_int max_two min_two max_three min_three max_four min_four
variable {w0 W : World} {gc gb : Nat} {gp : Nat → Nat} {m : Ch} {D : Nat → Nat → List Int}
theorem add0 (g n : Nat) : (⟨g, 0, none⟩ : Addr).add n = ⟨g, n, none⟩ := by
  by_cases h : n = 0
  · subst h; simp [Addr.add]
  · simp [Addr.add, h]
theorem info5' : (Tryd.prog.info? 5).map (fun i => (i.zero, i.size, i.bytes)) = some (some (.int .u8 0), 1, 1) := by kernel_rfl
theorem setPg_twice (b : Bk) (j : Nat) (p q : Pg) : (b.setPg j p).setPg j q = b.setPg j q := by
  unfold Bk.setPg
  congr 1
  funext x
  by_cases h : x = j <;> simp [h]
theorem setPg_self (b : Bk) (j : Nat) (p : Pg) : (b.setPg j p).pg j = p := by simp [Bk.setPg]
theorem setBk_self (m : Ch) (i : Nat) (b : Bk) : (m.setBk i b).bk i = b := by simp [Ch.setBk]
theorem setBk_twice (m : Ch) (i : Nat) (b c : Bk) : (m.setBk i b).setBk i c = m.setBk i c := by
  unfold Ch.setBk
  congr 1
  funext x
  by_cases h : x = i <;> simp [h]
theorem setBk_other (m : Ch) (i x : Nat) (b : Bk) (h : x ≠ i) : (m.setBk i b).bk x = m.bk x := by simp [Ch.setBk, h]
def updD (D : Nat → Nat → List Int) (i j : Nat) (xs : List Int) : Nat → Nat → List Int := fun x y => if x = i ∧ y = j then xs else D x y
theorem cB_pg (gp : Nat → Nat) (m : Ch) (i : Nat) (b : Bk) (h1 : b.bad = (m.bk i).bad) (h2 : b.er = (m.bk i).er) (h3 : b.nx = (m.bk i).nx) : cB gp (m.setBk i b) = cB gp m := by
  unfold cB
  congr 1
  funext k
  unfold bcell Ch.setBk
  by_cases h : k.val / 4 = i <;> simp [h, h1, h2, h3]
/-- A page is written. -/
theorem St.page (h : St w0 W gc gb gp m D) (i : Nat) (hi : i < m.g.B) (j : Nat) (hj : j < m.g.P) (st : Int) (v : Value) (xs : List Int) (hv : Kd.R kB 5 W w0.heap.size (fun _ => True) v xs) :
    St w0 ((W.setCell ⟨gp i, j * 2, none⟩ (.int .i64 st)).setCell ⟨gp i, j * 2 + 1, none⟩ v) gc gb gp (m.setBk i ((m.bk i).setPg j ⟨st, v⟩)) (updD D i j xs) := by
  have h1 : St w0 (W.setCell ⟨gp i, j * 2, none⟩ (.int .i64 st)) gc gb gp (m.setBk i ((m.bk i).setPg j { (m.bk i).pg j with st := st })) D := by
    refine h.setP (m' := m.setBk i ((m.bk i).setPg j { (m.bk i).pg j with st := st })) i hi (j * 2) (.int .i64 st) ?_ rfl rfl (cB_pg gp m i _ rfl rfl rfl) (fun x _ hx => setBk_other m i x _ hx) (fun x y hx hy => ?_) ⟨rfl, rfl⟩
    · rw [setBk_self]; exact cP_st _ _ _ _
    · have hd := h.d x y hx hy
      by_cases hxi : x = i
      · subst hxi
        rw [setBk_self]
        by_cases hyj : y = j
        · subst hyj; rw [setPg_self]; exact hd
        · simp only [Bk.setPg, hyj, if_false]; exact hd
      · rw [setBk_other m i x _ hxi]; exact hd
  have h2 := h1.setP (m' := (m.setBk i ((m.bk i).setPg j { (m.bk i).pg j with st := st })).setBk i (((m.bk i).setPg j { (m.bk i).pg j with st := st }).setPg j ⟨st, v⟩)) (D' := updD D i j xs) i hi (j * 2 + 1) v ?_ rfl rfl (cB_pg gp _ i _ (by rw [setBk_self]; rfl) (by rw [setBk_self]; rfl) (by rw [setBk_self]; rfl)) (fun x _ hx => setBk_other _ i x _ hx) (fun x y hx hy => ?_) ⟨rfl, rfl⟩
  · rw [setBk_twice, setPg_twice] at h2
    exact h2
  · rw [setBk_self, setBk_self, cP_d, setPg_self]
  · have hp := h.p i hi
    by_cases hxi : x = i
    · subst hxi
      rw [setBk_self]
      by_cases hyj : y = j
      · subst hyj
        rw [setPg_self]
        unfold updD
        rw [if_pos ⟨rfl, rfl⟩]
        exact Kd.R_set hv hp (by decide) _ _
      · have e : updD D x j xs x y = D x y := by unfold updD; rw [if_neg (fun h => hyj h.2)]
        rw [e]
        simp only [Bk.setPg, hyj, if_false]
        exact Kd.R_set (h.d x y hx hy) hp (by decide) _ _
    · have e : updD D i j xs x y = D x y := by unfold updD; rw [if_neg (fun h => hxi h.1)]
      rw [e, setBk_other _ i x _ hxi, setBk_other _ i x _ hxi]
      exact Kd.R_set (h.d x y hx hy) hp (by decide) _ _
theorem St.pageD (h : St w0 W gc gb gp m D) (i : Nat) (hi : i < m.g.B) (j : Nat) (hj : j < m.g.P) (v : Value) (xs : List Int) (hv : Kd.R kB 5 W w0.heap.size (fun _ => True) v xs) :
    St w0 (W.setCell ⟨gp i, j * 2 + 1, none⟩ v) gc gb gp (m.setBk i ((m.bk i).setPg j ⟨((m.bk i).pg j).st, v⟩)) (updD D i j xs) := by
  refine h.setP (m' := m.setBk i ((m.bk i).setPg j ⟨((m.bk i).pg j).st, v⟩)) (D' := updD D i j xs) i hi (j * 2 + 1) v ?_ rfl rfl (cB_pg gp _ i _ rfl rfl rfl) (fun x _ hx => setBk_other _ i x _ hx) (fun x y hx hy => ?_) ⟨rfl, rfl⟩
  · rw [setBk_self, cP_d]
  · by_cases hxi : x = i
    · subst hxi
      rw [setBk_self]
      by_cases hyj : y = j
      · subst hyj
        rw [setPg_self]
        unfold updD
        rw [if_pos ⟨rfl, rfl⟩]
        exact hv
      · have e : updD D x j xs x y = D x y := by unfold updD; rw [if_neg (fun h => hyj h.2)]
        rw [e]
        simp only [Bk.setPg, hyj, if_false]
        exact h.d x y hx hy
    · have e : updD D i j xs x y = D x y := by unfold updD; rw [if_neg (fun h => hxi h.1)]
      rw [e, setBk_other _ i x _ hxi]
      exact h.d x y hx hy
theorem updD_twice (D : Nat → Nat → List Int) (i j : Nat) (xs ys : List Int) : updD (updD D i j xs) i j ys = updD D i j ys := by
  funext x y
  unfold updD
  by_cases h : x = i ∧ y = j <;> simp [h]
theorem St.nx (h : St w0 W gc gb gp m D) (i : Nat) (x : Int) : St w0 (W.setCell ⟨gb, i * 4 + 3, none⟩ (.int .i64 x)) gc gb gp (m.setBk i { m.bk i with nx := x }) D :=
  h.setB _ _ (cB_nx gp m i x) rfl rfl (fun k _ => by by_cases hk : k = i <;> simp [Ch.setBk, hk]) ⟨rfl, rfl⟩
theorem St.er (h : St w0 W gc gb gp m D) (i : Nat) (x : Int) : St w0 (W.setCell ⟨gb, i * 4 + 1, none⟩ (.int .i64 x)) gc gb gp (m.setBk i { m.bk i with er := x }) D :=
  h.setB _ _ (cB_er gp m i x) rfl rfl (fun k _ => by by_cases hk : k = i <;> simp [Ch.setBk, hk]) ⟨rfl, rfl⟩
theorem St.badS (h : St w0 W gc gb gp m D) (i : Nat) (x : Bool) : St w0 (W.setCell ⟨gb, i * 4, none⟩ (.bool x)) gc gb gp (m.setBk i { m.bk i with bad := x }) D :=
  h.setB _ _ (cB_bad gp m i x) rfl rfl (fun k _ => by by_cases hk : k = i <;> simp [Ch.setBk, hk]) ⟨rfl, rfl⟩
theorem St.ops (h : St w0 W gc gb gp m D) (x : Int) : St w0 (W.setCell ⟨gc, 8, none⟩ (.int .i64 x)) gc gb gp { m with ops := x } D := h.setC 8 _ rfl rfl rfl h.pln
theorem St.wrong (h : St w0 W gc gb gp m D) (x : Int) : St w0 (W.setCell ⟨gc, 9, none⟩ (.int .i64 x)) gc gb gp { m with wrong := x } D := h.setC 9 _ rfl rfl rfl h.pln
/-- A block that is none of the chip's is written. -/
theorem St.other (h : St w0 W gc gb gp m D) {g : Nat} {cs : Array Value} (hg : W.heap[g]? = some (.cells cs 71 (0, 0))) (hge : w0.heap.size ≤ g) (k : Nat) (v : Value) (hpl : Kd.R kF 71 (W.setCell ⟨g, k, none⟩ v) w0.heap.size (fun _ => True) m.plan m.pl) : St w0 (W.setCell ⟨g, k, none⟩ v) gc gb gp m D :=
  ⟨blk_far h.c (ne_of_type h.c hg (by decide)) _, blk_far h.b (ne_of_type h.b hg (by decide)) _, fun i hi => blk_far (h.p i hi) (ne_of_type (h.p i hi) hg (by decide)) _, h.inj, h.ec, h.eb, h.ep, fun i j hi hj => Kd.R_set (h.d i j hi hj) hg (by decide) _ _, hpl, below_set h.below hge, h.gok⟩
theorem set44 {g : Nat} {a b c : Value} (h : W.heap[g]? = some (.cells #[a, b, c] 71 (0, 0))) (x y z : Value) : (((W.setCell ⟨g, 0, none⟩ x).setCell ⟨g, 1, none⟩ y).setCell ⟨g, 2, none⟩ z).heap[g]? = some (.cells #[x, y, z] 71 (0, 0)) :=
  blk_put (blk_put (blk_put h 0 x (cs' := #[x, b, c]) rfl) 1 y (cs' := #[x, y, c]) rfl) 2 z rfl
theorem St.other3 (h : St w0 W gc gb gp m D) {g : Nat} {a b c : Value} (hg : W.heap[g]? = some (.cells #[a, b, c] 71 (0, 0))) (hge : w0.heap.size ≤ g) {ok : Nat → Prop} (hok : ∀ k, ok k → k ≠ g) (hpl : Kd.R kF 71 W w0.heap.size ok m.plan m.pl) (x y z : Value) : St w0 (((W.setCell ⟨g, 0, none⟩ x).setCell ⟨g, 1, none⟩ y).setCell ⟨g, 2, none⟩ z) gc gb gp m D := by
  have p1 := Kd.R_far hpl (p := ⟨g, 0, none⟩) hok x
  have p2 := Kd.R_far p1 (p := ⟨g, 1, none⟩) hok y
  have p3 := Kd.R_far p2 (p := ⟨g, 2, none⟩) hok z
  exact ((h.other hg hge 0 x (Kd.R_mono p1 (fun _ _ => trivial))).other (blk_put hg 0 x (cs' := #[x, b, c]) rfl) hge 1 y (Kd.R_mono p2 (fun _ _ => trivial))).other (blk_put (blk_put hg 0 x (cs' := #[x, b, c]) rfl) 1 y (cs' := #[x, y, c]) rfl) hge 2 z (Kd.R_mono p3 (fun _ _ => trivial))
theorem Keeps.set3 {W W1 : World} (h : Keeps W W1) {g : Nat} {a b c : Value} (hg : W1.heap[g]? = some (.cells #[a, b, c] 71 (0, 0))) (x y z : Value) : Keeps W (((W1.setCell ⟨g, 0, none⟩ x).setCell ⟨g, 1, none⟩ y).setCell ⟨g, 2, none⟩ z) :=
  ((h.set hg (by decide) 0 x).set (blk_put hg 0 x (cs' := #[x, b, c]) rfl) (by decide) 1 y).set (blk_put (blk_put hg 0 x (cs' := #[x, b, c]) rfl) 1 y (cs' := #[x, y, c]) rfl) (by decide) 2 z
theorem St.lower {w1 : World} (h : St w1 W gc gb gp m D) (hb : Below w0.heap.size w0 w1) : St w0 W gc gb gp m D :=
  ⟨h.c, h.b, h.p, h.inj, Nat.le_trans (below_size hb) h.ec, Nat.le_trans (below_size hb) h.eb, fun i hi => Nat.le_trans (below_size hb) (h.ep i hi), fun i j hi hj => Kd.R_lower (h.d i j hi hj) (below_size hb), Kd.R_lower h.pln (below_size hb), below_step hb h.below, h.gok⟩
set_option maxRecDepth 100000 in
theorem clone_bytes (A : Option Addr) (c : Nat) (l : List Int) (w : World) (hr : Kd.C kB w A l.length l) (hc : l.length ≤ c) (hb : l.length ≤ 140737488355328) :
    Calls Tryd.prog 35 #[.slice A l.length c] w fun e w' => ∃ v0_ : Value, e = .returned (v0_) ∧ Kd.R kB 5 w' w.heap.size (fun _ => True) v0_ l ∧ Below w.heap.size w w' := by
  have HR := Aside0.mk hr
  have HC := Aside0.mk hc
  have HBs := Aside0.mk hb
  clear hc hb
  rcases A with _ | ad
  · have h0 : l = [] := by
      rcases Nat.eq_zero_or_pos l.length with h0 | h0
      · exact List.eq_nil_of_length_eq_zero h0
      · obtain ⟨ad, h, _⟩ := hr.2.2 h0
        cases h
    subst h0
    clear hr
    have hnil := fun W : World => Lib.run_eql_slice_nil (P := Tryd.prog) W 39 5 none 0 c 0 0 Tryd.underlying39
    go_enter Tryd.func35, Tryd.ntmps35
    go_wp2
    go_ret
    exact ⟨_, rfl, Kd.R_nil _ _ _ _ _, Below.refl _ _⟩
  · clear hr
    have hnil := fun W : World => Lib.run_eql_slice_nil (P := Tryd.prog) W 39 5 (some ad) l.length c 0 0 Tryd.underlying39
    go_enter Tryd.func35, Tryd.ntmps35
    go_wp2_with (first
      | ((with_reducible refine gate_dst (N := 5) rfl ?_); refine Kd.R_lit kB w.heap.size 5 ?hg (N := 5) ?hd (xs := ([] : List Int)) (inner := []) (ok := fun _ => True) (okp := fun _ => True) ?hr ?hp (fun _ hk => hk) trivial (Below.refl _ _) (Nat.le_refl _) (by simp) ?_; (case hd => rfl); (case hg => rfl); (case hr => first | (go_simp; done) | (go_simp; rfl)); (case hp => exact (Reps.none _ _)); intro v1 w1 ho hb _ _; have HO := Aside0.mk ho; have HB := Aside0.mk hb; clear ho hb)
      | ((with_reducible refine gate_builtin (b := .append) (xs := #[.tmp 5, .tmp 6]) rfl ?_); at_builtin; refine Kd.R_append_rows kB (w0 := w) w.heap.size rfl (.tmp 5) (.tmp 6) 39 5 (.int .u8 0) 1 rfl Tryd.underlying39 info5' rfl Nat.zero_lt_one Nat.zero_lt_one v1 [] l _ _ _ (fun _ => True) (fun _ => False) rfl rfl ?aO ?aR (fun _ _ h => h) (fun _ h => h.elim) ?aF ?aB ?aS ?aL ?_; (case aO => exact HO.out); (case aR => exact Kd.C_below HR.out HB.out); (case aF => exact fun _ _ => trivial); (case aB => exact HB.out); (case aS => exact below_size HB.out); (case aL => have := HBs.out; simp; exact this); intro v2 w2 ho2 hb2 _ _; have HO2 := Aside0.mk ho2; have HB2 := Aside0.mk hb2; clear ho2 hb2))
    go_ret
    exact ⟨_, rfl, HO2.out, HB2.out⟩
/-- The fault at an operation's number. -/
def hitOf (pl : List F3) (t : Int) : Option F3 := pl.find? (fun f => decide (f.f0 = t))
def bgV (o : Option F3) : Value := .tuple #[.agg #[.int .i64 (o.getD zF).f0, .int .i64 (o.getD zF).f1, .int .i64 (o.getD zF).f2], .bool o.isSome]
theorem hitOf_hit {pl : List F3} {t : Int} {i : Nat} {f : F3} (h : hitOf (pl.take i) t = none) (hg : pl[i]? = some f) (hf : f.f0 = t) : hitOf pl t = some f := by
  obtain ⟨hlt, he⟩ := List.getElem?_eq_some_iff.1 hg
  have e : pl = pl.take i ++ f :: pl.drop (i + 1) := by rw [← he, List.getElem_cons_drop, List.take_append_drop]
  unfold hitOf at h ⊢
  rw [e, List.find?_append, h]
  simp [hf]
theorem hitOf_next {pl : List F3} {t : Int} {i : Nat} {f : F3} (h : hitOf (pl.take i) t = none) (hg : pl[i]? = some f) (hf : f.f0 ≠ t) : hitOf (pl.take (i + 1)) t = none := by
  obtain ⟨hlt, rfl⟩ := List.getElem?_eq_some_iff.1 hg
  unfold hitOf at h ⊢
  rw [List.take_add_one, List.getElem?_eq_getElem hlt, List.find?_append, h]
  simp [hf]
set_option maxRecDepth 100000 in
set_option maxHeartbeats 4000000 in
theorem begin_any (h : St w0 W gc gb gp m D) :
    Calls Tryd.prog 34 #[cp gc] W fun e w' => e = .returned (bgV (hitOf m.pl (wrap64 (wrap64 (m.ops + 1) - m.frm)))) ∧ St w0 w' gc gb gp { m with ops := wrap64 (m.ops + 1) } D ∧ Keeps W w' := by
  have c8 : ∀ o, (W.alloc o).cell? ⟨gc, 8, none⟩ = some (.int .i64 m.ops) := fun o => (h.grow (below_alloc (Below.refl _ _) o)).cellC 8
  have f8 : ∀ o, (W.alloc o).frozen? ⟨gc, 8, none⟩ = false := fun o => blk_frozen (h.grow (below_alloc (Below.refl _ _) o)).c 8
  have H := Aside0.mk h
  have hu44 := Tryd.underlying71
  obtain ⟨A5, c5, e5⟩ := Kd.R_slice h.pln
  have hform : 0 < m.pl.length → ∃ g5, A5 = some ⟨g5, 0, none⟩ := fun hpos => by
    obtain ⟨g5, c, e, _⟩ := Kd.R_form h.pln hpos
    rw [e5] at e
    simp only [Value.slice.injEq] at e
    exact ⟨g5, e.1⟩
  have HF5 := Aside0.mk hform
  have HPV := Aside0.mk e5
  have hpb : Kd.R kF 71 W w0.heap.size (fun k => k < W.heap.size) m.plan m.pl := Kd.R_mono (Kd.R_bound h.pln) (fun k hk => hk.2.2.1)
  have HPB0 := Aside0.mk hpb
  have hmx : m.pl.length ≤ 9223372036854775807 := by
    have h7 := h.pln
    rw [e5] at h7
    exact Kd.C_max (Kd.R_reads' h7).2.2
  clear h e5 hform hpb
  go_enter Tryd.func34, Tryd.ntmps34
  go_upto_region 2 with (fail)
  generalize hW : (W.alloc (.cells #[.int .i64 0, .int .i64 0, .int .i64 0] 71)).setCell ⟨gc, 8, none⟩ (.int .i64 (wrap64 (m.ops + 1))) = W1
  have h1 : St w0 W1 gc gb gp { m with ops := wrap64 (m.ops + 1) } D := by rw [← hW]; exact (H.out.grow (below_alloc (Below.refl _ _) _)).ops _
  have hk : Keeps W W1 := by rw [← hW]; exact (Keeps.of_below (below_alloc (Below.refl _ _) _)).set (H.out.grow (below_alloc (Below.refl _ _) _)).c (by decide) _ _
  have hx : W1.heap[W.heap.size]? = some (.cells #[.int .i64 0, .int .i64 0, .int .i64 0] 71 (0, 0)) := by rw [← hW]; exact blk_far (new_blk _ _ _) (ne_of_type (new_blk W #[.int .i64 0, .int .i64 0, .int .i64 0] 71) (H.out.grow (below_alloc (Below.refl _ _) (.cells #[.int .i64 0, .int .i64 0, .int .i64 0] 71))).c (by decide)) _
  have hpb1 : Kd.R kF 71 W1 w0.heap.size (fun k => k < W.heap.size) m.plan m.pl := by rw [← hW]; exact Kd.R_set (Kd.R_below HPB0.out (below_alloc (Below.refl _ _) _)) (H.out.grow (below_alloc (Below.refl _ _) _)).c (by decide) _ _
  have cc5 : W1.cell? ⟨gc, 5, none⟩ = some (.slice A5 m.pl.length c5) := by rw [h1.cellC 5]; simp [cC, HPV.out]
  have x0 := Joins.cell_of_block hx 0
  have x1 := Joins.cell_of_block hx 1
  have x2 := Joins.cell_of_block hx 2
  have fx0 := blk_frozen hx 0
  have fx1 := blk_frozen hx 1
  have fx2 := blk_frozen hx 2
  have H1 := Aside0.mk h1
  have HK := Aside0.mk hk
  have HX := Aside0.mk hx
  have HPB := Aside0.mk hpb1
  clear hW h1 hk hx c8 f8 hpb1
  go_upto_region 3 with (fail)
  go_loopw [18] (fun v18 wr => ∃ i : Nat, i ≤ m.pl.length ∧ v18 = .int .i64 i ∧ Aside0 (hitOf (m.pl.take i) (wrap64 (wrap64 (m.ops + 1) - m.frm)) = none) ∧ Aside0 (Below W1.heap.size W1 wr)) (fun i _ => m.pl.length - (intOf i).toNat)
  case atStart => exact ⟨0, Nat.zero_le _, rfl, ⟨rfl⟩, ⟨Below.refl _ _⟩⟩
  case round =>
    obtain ⟨i, hi, rfl, HM, HBr⟩ := hrel
    clear cc5 x0 x1 x2 fx0 fx1 fx2
    have HXr := Aside0.mk (keep_below HX.out HBr.out)
    have x0 := Joins.cell_of_block HXr.out 0
    have x1 := Joins.cell_of_block HXr.out 1
    have x2 := Joins.cell_of_block HXr.out 2
    have fx0 := blk_frozen HXr.out 0
    have fx1 := blk_frozen HXr.out 1
    have fx2 := blk_frozen HXr.out 2
    by_cases hlt : i < m.pl.length
    · have d0 : decide ((i : Int) < (m.pl.length : Int)) = true := decide_eq_true (by omega)
      have hq : (i < m.pl.length) = True := eq_true hlt
      have hqi : ((i : Int) < (m.pl.length : Int)) = True := eq_true (by omega)
      have hqm : (m.pl.length ≤ i) = False := eq_false (by omega)
      have hr5 := Kd.R_below (H1.out.pln) HBr.out
      have hf5 := HF5.out (Nat.lt_of_le_of_lt (Nat.zero_le _) hlt)
      obtain ⟨g5, rfl⟩ := hf5
      have hr6 := hr5
      rw [show ({ m with ops := wrap64 (m.ops + 1) } : Ch).plan = m.plan from rfl, show ({ m with ops := wrap64 (m.ops + 1) } : Ch).pl = m.pl from rfl, HPV.out] at hr6
      obtain ⟨ad, ead, y0, y1, y2⟩ := at_F (Kd.R_reads' hr6).2.2 (i : Int) (by omega) (by omega)
      obtain rfl : (⟨g5, 0, none⟩ : Addr) = ad := by simpa using ead
      rw [add0, Int.toNat_natCast] at y0 y1 y2
      have hget : m.pl[i]? = some (rd_F m.pl (i : Int)) := by
        unfold rd_F
        rw [Int.toNat_natCast, List.getD_eq_getElem?_getD, List.getElem?_eq_getElem hlt]
        rfl
      generalize rd_F m.pl (i : Int) = f at y0 y1 y2 hget
      have HGT := Aside0.mk hget
      have HQ9 := Aside0.mk (fun o => below_step HBr.out (below_alloc (Below.refl wr.heap.size wr) o))
      clear ead hget hr5 hr6
      by_cases hf : f.f0 = wrap64 (wrap64 (m.ops + 1) - m.frm)
      · have e1 : (f.f0 == IntKind.i64.wrap (wrap64 (m.ops + 1) - m.frm)) = true := by rw [i64_w, ← hf]; simp
        have HE := Aside0.mk (hitOf_hit HM.out HGT.out hf)
        clear hf
        go_upto_region 5 with (fail)
        generalize hW6 : wr.alloc (.cells #[.int .i64 f.f0, .int .i64 f.f1, .int .i64 f.f2] 71) = W6
        have HF6 := Aside0.mk (show W6.heap[wr.heap.size]? = some (.cells #[.int .i64 f.f0, .int .i64 f.f1, .int .i64 f.f2] 71 (0, 0)) by rw [← hW6]; exact new_blk _ _ _)
        have HB6 := Aside0.mk (show Below W1.heap.size W1 W6 by rw [← hW6]; exact HQ9.out _)
        have H6 := Aside0.mk (H1.out.grow HB6.out)
        clear hW6 y0 y1 y2
        refine Reg.det [(0, 22, ?r1v0), (1, 23, ?r1v1), (2, 24, ?r1v2), (3, 25, ?r1v3), (4, 26, ?r1v4), (5, 27, ?r1v5), (6, 28, ?r1v6), (7, 29, ?r1v7), (8, 30, ?r1v8), (9, 31, ?r1v9), (10, 32, ?r1v10), (11, 33, ?r1v11)] (fun w' => Below W6.heap.size W6 w') (by rfl) rfl (by kernel_rfl) ?r1S ?r1steps ?r1okv ?r1hlt ?r1fin
        case r1S => exact below_drew (Below.refl _ _)
        case r1steps =>
          refine Reg.from_some 0 rfl rfl (fun a w hS hK K hC => ?_) ?_
          · refine Reg.step_on (by rfl) ?_
            have e5 := hK.off 5 _ rfl rfl
            clear hK
            go_simp
            exact hC _ hS
          refine Reg.from_some 1 rfl rfl (fun a w hS hK K hC => ?_) ?_
          · refine Reg.step_on (by rfl) ?_
            have e22 := hK.slot 0 _ _ _ rfl (by kernel_rfl)
            have k8 := (H6.out.grow hS).cellC 8
            change _ = some (Value.int .i64 (wrap64 (m.ops + 1))) at k8
            have k6 := (H6.out.grow hS).cellC 6
            change _ = some (Value.int .i64 m.frm) at k6
            have kf := Joins.cell_of_block (keep_below HF6.out hS) 0
            clear hK
            go_simp
            exact hC _ hS
          refine Reg.from_some 2 rfl rfl (fun a w hS hK K hC => ?_) ?_
          · refine Reg.step_on (by rfl) ?_
            have e0 := hK.off 0 _ rfl rfl
            clear hK
            go_simp
            exact hC _ hS
          refine Reg.from_some 3 rfl rfl (fun a w hS hK K hC => ?_) ?_
          · refine Reg.step_on (by rfl) ?_
            have e24 := hK.slot 2 _ _ _ rfl (by kernel_rfl)
            clear hK
            go_simp
            exact hC _ hS
          refine Reg.from_some 4 rfl rfl (fun a w hS hK K hC => ?_) ?_
          · refine Reg.step_on (by rfl) ?_
            have e25 := hK.slot 3 _ _ _ rfl (by kernel_rfl)
            clear hK
            go_simp
            exact hC _ hS
          refine Reg.from_some 5 rfl rfl (fun a w hS hK K hC => ?_) ?_
          · refine Reg.step_on (by rfl) ?_
            have e26 := hK.slot 4 _ _ _ rfl (by kernel_rfl)
            have k8 := (H6.out.grow hS).cellC 8
            change _ = some (Value.int .i64 (wrap64 (m.ops + 1))) at k8
            have k6 := (H6.out.grow hS).cellC 6
            change _ = some (Value.int .i64 m.frm) at k6
            have kf := Joins.cell_of_block (keep_below HF6.out hS) 0
            clear hK
            go_simp
            exact hC _ hS
          refine Reg.from_some 6 rfl rfl (fun a w hS hK K hC => ?_) ?_
          · refine Reg.step_on (by rfl) ?_
            have e0 := hK.off 0 _ rfl rfl
            clear hK
            go_simp
            exact hC _ hS
          refine Reg.from_some 7 rfl rfl (fun a w hS hK K hC => ?_) ?_
          · refine Reg.step_on (by rfl) ?_
            have e28 := hK.slot 6 _ _ _ rfl (by kernel_rfl)
            clear hK
            go_simp
            exact hC _ hS
          refine Reg.from_some 8 rfl rfl (fun a w hS hK K hC => ?_) ?_
          · refine Reg.step_on (by rfl) ?_
            have e29 := hK.slot 7 _ _ _ rfl (by kernel_rfl)
            clear hK
            go_simp
            exact hC _ hS
          refine Reg.from_some 9 rfl rfl (fun a w hS hK K hC => ?_) ?_
          · refine Reg.step_on (by rfl) ?_
            have e30 := hK.slot 8 _ _ _ rfl (by kernel_rfl)
            have k8 := (H6.out.grow hS).cellC 8
            change _ = some (Value.int .i64 (wrap64 (m.ops + 1))) at k8
            have k6 := (H6.out.grow hS).cellC 6
            change _ = some (Value.int .i64 m.frm) at k6
            have kf := Joins.cell_of_block (keep_below HF6.out hS) 0
            clear hK
            go_simp
            exact hC _ hS
          refine Reg.from_some 10 rfl rfl (fun a w hS hK K hC => ?_) ?_
          · refine Reg.step_on (by rfl) ?_
            have e27 := hK.slot 5 _ _ _ rfl (by kernel_rfl)
            have e31 := hK.slot 9 _ _ _ rfl (by kernel_rfl)
            clear hK
            go_simp
            exact hC _ hS
          refine Reg.from_some 11 rfl rfl (fun a w hS hK K hC => ?_) ?_
          · refine Reg.step_on (by rfl) ?_
            have e23 := hK.slot 1 _ _ _ rfl (by kernel_rfl)
            have e32 := hK.slot 10 _ _ _ rfl (by kernel_rfl)
            clear hK
            go_simp
            exact hC _ hS
          exact Reg.from_nil
        case r1okv => rfl
        case r1hlt => rfl
        case r1fin =>
          intro wz hS
          simp only [Reg.putV, List.foldl_cons, List.foldl_nil, Act.put, List.setIfInBounds_toArray, List.set_cons_zero, List.set_cons_succ]
          have HBz := Aside0.mk (below_step HB6.out hS)
          have HXz := Aside0.mk (keep_below HX.out HBz.out)
          have HFz := Aside0.mk (keep_below HF6.out hS)
          have HB1z := Aside0.mk (H1.out.grow HBr.out)
          clear x0 x1 x2 fx0 fx1 fx2
          have x0 := Joins.cell_of_block HXz.out 0
          have x1 := Joins.cell_of_block HXz.out 1
          have x2 := Joins.cell_of_block HXz.out 2
          have fx0 := blk_frozen HXz.out 0
          have fx1 := blk_frozen HXz.out 1
          have fx2 := blk_frozen HXz.out 2
          have k0 := Joins.cell_of_block HFz.out 0
          have k1 := Joins.cell_of_block HFz.out 1
          have k2 := Joins.cell_of_block HFz.out 2
          clear hS
          go_wp2
          refine bodyPost_ret (results_ct rfl _ _ W.heap.size 71 #[.int .i64 f.f0, .int .i64 f.f1, .int .i64 f.f2] (0, 0) _ rfl (set44 HXz.out _ _ _) Tryd.underlying71 rfl (by kernel_rfl)) rfl ?_
          rw [HE.out]
          exact ⟨rfl, (H1.out.grow HBz.out).other3 HXz.out (below_size H.out.below) (fun k hk => Nat.ne_of_lt hk) (Kd.R_below HPB.out HBz.out) _ _ _, (HK.out.trans (Keeps.of_below HBz.out)).set3 HXz.out _ _ _⟩
      · have e1 : (f.f0 == IntKind.i64.wrap (wrap64 (m.ops + 1) - m.frm)) = false := by simp only [beq_eq_false_iff_ne]; rw [i64_w]; exact hf
        have HM2 := Aside0.mk (hitOf_next HM.out HGT.out hf)
        clear hf
        go_upto_region 5 with (fail)
        generalize hW6 : wr.alloc (.cells #[.int .i64 f.f0, .int .i64 f.f1, .int .i64 f.f2] 71) = W6
        have HF6 := Aside0.mk (show W6.heap[wr.heap.size]? = some (.cells #[.int .i64 f.f0, .int .i64 f.f1, .int .i64 f.f2] 71 (0, 0)) by rw [← hW6]; exact new_blk _ _ _)
        have HB6 := Aside0.mk (show Below W1.heap.size W1 W6 by rw [← hW6]; exact HQ9.out _)
        have H6 := Aside0.mk (H1.out.grow HB6.out)
        clear hW6 y0 y1 y2
        refine Reg.det [(0, 22, ?r2v0), (1, 23, ?r2v1), (2, 24, ?r2v2), (3, 25, ?r2v3), (4, 26, ?r2v4), (5, 27, ?r2v5), (6, 28, ?r2v6), (7, 29, ?r2v7), (8, 30, ?r2v8), (9, 31, ?r2v9), (10, 32, ?r2v10), (11, 33, ?r2v11)] (fun w' => Below W6.heap.size W6 w') (by rfl) rfl (by kernel_rfl) ?r2S ?r2steps ?r2okv ?r2hlt ?r2fin
        case r2S => exact below_drew (Below.refl _ _)
        case r2steps =>
          refine Reg.from_some 0 rfl rfl (fun a w hS hK K hC => ?_) ?_
          · refine Reg.step_on (by rfl) ?_
            have e5 := hK.off 5 _ rfl rfl
            clear hK
            go_simp
            exact hC _ hS
          refine Reg.from_some 1 rfl rfl (fun a w hS hK K hC => ?_) ?_
          · refine Reg.step_on (by rfl) ?_
            have e22 := hK.slot 0 _ _ _ rfl (by kernel_rfl)
            have k8 := (H6.out.grow hS).cellC 8
            change _ = some (Value.int .i64 (wrap64 (m.ops + 1))) at k8
            have k6 := (H6.out.grow hS).cellC 6
            change _ = some (Value.int .i64 m.frm) at k6
            have kf := Joins.cell_of_block (keep_below HF6.out hS) 0
            clear hK
            go_simp
            exact hC _ hS
          refine Reg.from_some 2 rfl rfl (fun a w hS hK K hC => ?_) ?_
          · refine Reg.step_on (by rfl) ?_
            have e0 := hK.off 0 _ rfl rfl
            clear hK
            go_simp
            exact hC _ hS
          refine Reg.from_some 3 rfl rfl (fun a w hS hK K hC => ?_) ?_
          · refine Reg.step_on (by rfl) ?_
            have e24 := hK.slot 2 _ _ _ rfl (by kernel_rfl)
            clear hK
            go_simp
            exact hC _ hS
          refine Reg.from_some 4 rfl rfl (fun a w hS hK K hC => ?_) ?_
          · refine Reg.step_on (by rfl) ?_
            have e25 := hK.slot 3 _ _ _ rfl (by kernel_rfl)
            clear hK
            go_simp
            exact hC _ hS
          refine Reg.from_some 5 rfl rfl (fun a w hS hK K hC => ?_) ?_
          · refine Reg.step_on (by rfl) ?_
            have e26 := hK.slot 4 _ _ _ rfl (by kernel_rfl)
            have k8 := (H6.out.grow hS).cellC 8
            change _ = some (Value.int .i64 (wrap64 (m.ops + 1))) at k8
            have k6 := (H6.out.grow hS).cellC 6
            change _ = some (Value.int .i64 m.frm) at k6
            have kf := Joins.cell_of_block (keep_below HF6.out hS) 0
            clear hK
            go_simp
            exact hC _ hS
          refine Reg.from_some 6 rfl rfl (fun a w hS hK K hC => ?_) ?_
          · refine Reg.step_on (by rfl) ?_
            have e0 := hK.off 0 _ rfl rfl
            clear hK
            go_simp
            exact hC _ hS
          refine Reg.from_some 7 rfl rfl (fun a w hS hK K hC => ?_) ?_
          · refine Reg.step_on (by rfl) ?_
            have e28 := hK.slot 6 _ _ _ rfl (by kernel_rfl)
            clear hK
            go_simp
            exact hC _ hS
          refine Reg.from_some 8 rfl rfl (fun a w hS hK K hC => ?_) ?_
          · refine Reg.step_on (by rfl) ?_
            have e29 := hK.slot 7 _ _ _ rfl (by kernel_rfl)
            clear hK
            go_simp
            exact hC _ hS
          refine Reg.from_some 9 rfl rfl (fun a w hS hK K hC => ?_) ?_
          · refine Reg.step_on (by rfl) ?_
            have e30 := hK.slot 8 _ _ _ rfl (by kernel_rfl)
            have k8 := (H6.out.grow hS).cellC 8
            change _ = some (Value.int .i64 (wrap64 (m.ops + 1))) at k8
            have k6 := (H6.out.grow hS).cellC 6
            change _ = some (Value.int .i64 m.frm) at k6
            have kf := Joins.cell_of_block (keep_below HF6.out hS) 0
            clear hK
            go_simp
            exact hC _ hS
          refine Reg.from_some 10 rfl rfl (fun a w hS hK K hC => ?_) ?_
          · refine Reg.step_on (by rfl) ?_
            have e27 := hK.slot 5 _ _ _ rfl (by kernel_rfl)
            have e31 := hK.slot 9 _ _ _ rfl (by kernel_rfl)
            clear hK
            go_simp
            exact hC _ hS
          refine Reg.from_some 11 rfl rfl (fun a w hS hK K hC => ?_) ?_
          · refine Reg.step_on (by rfl) ?_
            have e23 := hK.slot 1 _ _ _ rfl (by kernel_rfl)
            have e32 := hK.slot 10 _ _ _ rfl (by kernel_rfl)
            clear hK
            go_simp
            exact hC _ hS
          exact Reg.from_nil
        case r2okv => rfl
        case r2hlt => rfl
        case r2fin =>
          intro wz hS
          simp only [Reg.putV, List.foldl_cons, List.foldl_nil, Act.put, List.setIfInBounds_toArray, List.set_cons_zero, List.set_cons_succ]
          have HBz := Aside0.mk (below_step HB6.out hS)
          clear hS
          go_wp2
          go_roundw
          case rel => exact ⟨i + 1, by omega, by push_cast; rfl, HM2, HBz⟩
          case measure => simp [intOf]; omega
    · obtain rfl : i = m.pl.length := by omega
      go_wp2
      refine bodyPost_ret (results_ct rfl _ _ W.heap.size 71 #[.int .i64 0, .int .i64 0, .int .i64 0] (0, 0) _ rfl (set44 HXr.out _ _ _) Tryd.underlying71 rfl (by kernel_rfl)) rfl ?_
      have HM3 := HM.out
      rw [List.take_length] at HM3
      rw [HM3]
      exact ⟨rfl, (H1.out.grow HBr.out).other3 HXr.out (below_size H.out.below) (fun k hk => Nat.ne_of_lt hk) (Kd.R_below HPB.out HBr.out) _ _ _, (HK.out.trans (Keeps.of_below HBr.out)).set3 HXr.out _ _ _⟩
end Go.Proofs.YtdlimghdimkadaaDoor.PAll

/- What the bound on the arguments' bulk gives for a list of strings. -/
import Derived.Test.YtpllpagbdmikpaaRows
import Derived.Test.YtpllpagbdmikpaaHo
import Derived.Test.YtpllpagbdmikpaaIa
namespace Go.Proofs.Ytpllpagbdmikpaa.PAll
open Go Go.RowKit Go.Deep Go.Proofs.YtpllpagbdmikpaaW.PrintWords Go.Proofs.Ytpllpagbdmikpaa.Opens
theorem bulk_append {H : Type} (l r : List (DataW H)) : Rows.uptoBulkAll (l ++ r) = Rows.uptoBulkAll l + Rows.uptoBulkAll r := by
  induction l with
  | nil => simp [Rows.uptoBulkAll]
  | cons x l ih => simp only [List.cons_append, Rows.uptoBulkAll, ih]; omega
theorem keys_bulk {H : Type} (D : Nat → DataW H) (S : Nat → ByteArray) : ∀ len : Nat, (∀ i, i < len → D i = .lit (.string (S i).data.toList)) → kSum ((List.range len).map S) ≤ 8 * Rows.uptoBulkAll ((List.range len).map D) ∧ len ≤ Rows.uptoBulkAll ((List.range len).map D) ∧ ∀ k ∈ (List.range len).map S, k.size ≤ Rows.uptoBulkAll ((List.range len).map D)
  | 0, _ => by simp [kSum]
  | len + 1, h => by
    obtain ⟨h1, h2, h3⟩ := keys_bulk D S len (fun i hi => h i (by omega))
    have e := h len (by omega)
    have hs : (S len).data.toList.length = (S len).size := by rw [Array.length_toList]; rfl
    have e2 : Rows.uptoBulkAll [D len] = (S len).size + 1 := by rw [e]; simp only [Rows.uptoBulkAll, Rows.uptoBulk]; omega
    rw [List.range_succ, List.map_append, List.map_append, kSum_append, bulk_append]
    simp only [List.map_cons, List.map_nil, e2]
    refine ⟨?_, by omega, fun k hk => ?_⟩
    · simp only [kSum]; omega
    · rcases List.mem_append.1 hk with hk | hk
      · have := h3 k hk; omega
      · rw [List.mem_singleton.1 hk]; omega
theorem keys_arg {H : Type} {enc : TypeId × Value → H} {W : World} {held : Bool} {v : Value} {x : DataW H} {ps : List MemPlace} (hv : DataW.Trod enc Try.prog W 0 (fun _ => true) held 59 v x ps) :
    ∃ ks : List ByteArray, (Kd.slice 9 Kd.string).K W ks v.cells.toList ∧ kSum ks ≤ 8 * Rows.uptoBulk x ∧ ks.length ≤ Rows.uptoBulk x ∧ ∀ k ∈ ks, k.size ≤ Rows.uptoBulk x := by
  obtain ⟨fuel, h⟩ := hv
  rcases open_slice1 Try.underlying59 (by kernel_rfl) h with ⟨hcs, _⟩ | ⟨a, len, cap, m, n, V, D, Pl, hcs, _, hl, hm, hmm, hx, hel⟩
  · rw [hcs]
    exact ⟨[], ⟨none, 0, rfl, Nat.le_refl _, Kd.C_nil Kd.string W⟩, by simp [kSum], by simp, by simp⟩
  · obtain rfl : m = cap := by simpa using hmm
    obtain ⟨rfl, _⟩ := Prod.mk.inj hx
    have hS : ∃ S : Nat → ByteArray, ∀ i, i < len → W.cell? (a.add i) = some (.string (S i)) ∧ D i = .lit (.string (S i).data.toList) := by
      have h1 : ∀ i, ∃ s : ByteArray, i < len → W.cell? (a.add i) = some (.string s) ∧ D i = .lit (.string s.data.toList) := fun i => by
        by_cases hi : i < len
        · obtain ⟨hc, ht⟩ := hel i (by omega)
          obtain ⟨s, hs, hd, _⟩ := DataW.trod_string Try.underlying9 ht
          obtain ⟨hd1, _⟩ := Prod.mk.inj hd
          have hv : V i = .string s := by simpa using hs
          exact ⟨s, fun _ => ⟨by rw [hc, hv], hd1⟩⟩
        · exact ⟨⟨#[]⟩, fun h => absurd h hi⟩
      exact ⟨fun i => (h1 i).choose, fun i => (h1 i).choose_spec⟩
    obtain ⟨S, hS⟩ := hS
    obtain ⟨h1, h2, h3⟩ := keys_bulk D S len (fun i hi => (hS i hi).2)
    have hb : Rows.uptoBulkAll ((List.range len).map D) ≤ Rows.uptoBulk (.slice ((List.range len).map D) ((List.range (m - len)).map fun j => D (len + j))) := by simp only [Rows.uptoBulk]; omega
    have hlen : ((List.range len).map S).length = len := by simp
    rw [hcs]
    refine ⟨(List.range len).map S, ⟨some a, m, by rw [hlen], by omega, rfl, by rw [hlen]; unfold maxLen at hm; omega, fun _ => ⟨a, rfl, fun j p hj => ?_⟩⟩, by omega, by omega, fun k hk => Nat.le_trans (h3 k hk) hb⟩
    have hjl : j < len := by have := (List.getElem?_eq_some_iff.1 hj).1; rwa [hlen] at this
    have hp : p = S j := by
      rw [List.getElem?_map, List.getElem?_range hjl] at hj
      simpa using hj.symm
    refine ⟨[.string p], rfl, rfl, fun i u hu => ?_⟩
    match i, hu with
    | 0, hu =>
      have hu2 : u = .string p := by simpa using hu.symm
      rw [hu2, hp, show j * Kd.string.sz + 0 = j by show j * 1 + 0 = j; omega]
      exact (hS j hjl).1
theorem wf64_le {n : Int} (h : wf64 n) : n ≤ 9223372036854775807 := by
  unfold wf64 Lit.wf at h
  rw [Bool.and_eq_true, decide_eq_true_eq, decide_eq_true_eq] at h
  exact h.2
end Go.Proofs.Ytpllpagbdmikpaa.PAll

import Derived.Test.YtfbcmndhjoebbaaRows
import Derived.Test.YtfbcmndhjoebbaaZdSxLaw
import Derived.Deep.CondSized
import Derived.JoinedCond
import Derived.SliceStrings
set_option linter.unusedVariables false
set_option linter.unusedSimpArgs false
/-
  What the bound of a statement of the second form gives: the bytes of all slices of a slice together. No condition.
-/
namespace Go.Sx
open Go Go.ChangeShapes Go.WideShapes Go.RowKit Go.Proofs.Ytfbcmndhjoebbaa
section
variable {H : Type} {enc : TypeId × Value → H} {P : Program} {W : World} {base : Nat} {held : Bool}

/-- Cells that come in at a type, with a reading of at most so much bulk. -/
def CameB (enc : TypeId × Value → H) (P : Program) (W : World) (base : Nat) (held : Bool) (t : TypeId) (cs : List Value) (B : Nat) : Prop :=
  ∃ fuel x, DataW.trod enc P W base (fun _ => true) held fuel t cs = some x ∧ Light P t x.1 ∧ Rows.uptoBulk x.1 ≤ B
theorem CameB.came {t : TypeId} {cs : List Value} {B : Nat} (h : CameB enc P W base held t cs B) : Came enc P W base held t cs := by
  obtain ⟨f, x, h1, h2, _⟩ := h
  exact ⟨f, x, h1, h2⟩
theorem cameB {t : TypeId} {v : Value} {d : DataW H} {ps : List MemPlace} {B : Nat} (h : DataW.Trod enc P W base (fun _ => true) held t v d ps) (hl : Light P t d) (hb : Rows.uptoBulk d ≤ B) : CameB enc P W base held t v.cells.toList B := by
  obtain ⟨f, hf⟩ := h
  exact ⟨f, _, hf, hl, hb⟩
theorem bulk_one (d : DataW H) : 1 ≤ Rows.uptoBulk d := by
  cases d with
  | lit l => cases l <;> simp [Rows.uptoBulk]
  | nil => simp [Rows.uptoBulk]
  | ptr d => simp [Rows.uptoBulk]
  | slice elems spare => simp [Rows.uptoBulk]
  | agg parts => simp [Rows.uptoBulk]
  | iface t d => simp [Rows.uptoBulk]
  | map entries => simp [Rows.uptoBulk]
  | held h => simp [Rows.uptoBulk]
theorem bulk_part {d : DataW H} {l : List (DataW H)} (h : d ∈ l) : Rows.uptoBulk d ≤ Rows.uptoBulkAll l := by
  induction l with
  | nil => cases h
  | cons x r ih =>
    simp only [Rows.uptoBulkAll]
    cases List.mem_cons.1 h with
    | inl e => subst e; omega
    | inr e => have := ih e; omega
theorem bulk_len (l : List (DataW H)) : l.length ≤ Rows.uptoBulkAll l := by
  induction l with
  | nil => simp [Rows.uptoBulkAll]
  | cons x r ih => have := bulk_one x; simp only [Rows.uptoBulkAll, List.length_cons]; omega
theorem bulk_sum (l : List (DataW H)) : Rows.uptoBulkAll l = (l.map Rows.uptoBulk).sum := by
  induction l with
  | nil => simp [Rows.uptoBulkAll]
  | cons x r ih => simp only [Rows.uptoBulkAll, List.map_cons, List.sum_cons, ih]
theorem bulk_of {l : List (DataW H)} {d : DataW H} (hk : Rows.uptoSmall H l = true) (hd : d ∈ l) : Rows.uptoBulk d ≤ 1048576 := by
  have : Rows.uptoBulkAll l ≤ 1048576 := by simpa [Rows.uptoSmall] using hk
  exact Nat.le_trans (bulk_part hd) this

theorem cameB_bytes' {t e : TypeId} {cs : List Value} {B : Nat} (ht : P.underlying t = some (.slice e)) (he : P.underlying e = some (.int .u8)) (hc : P.cellsOf e = 1) (hb : P.bytesOf e = 1) (h : CameB enc P W base held t cs B) :
    ∃ p n c l, cs = [.slice p n c] ∧ RdV W p (bs l) ∧ l.length = n ∧ n ≤ 140737488351232 ∧ n ≤ c ∧ n ≤ B := by
  obtain ⟨p, n, c, l, h1, h2, h3, h4, h5⟩ := came_bytes' ht he hc hb h.came
  refine ⟨p, n, c, l, h1, h2, h3, h4, h5, ?_⟩
  subst h1
  obtain ⟨f, x, hf, hl, hB⟩ := h
  rcases open_ints ht he hc hf with ⟨h0, _⟩ | ⟨a, len, cap, zs, h0, _, hlc, _, hz, hx, hcell, hwf⟩
  · cases h0; omega
  · cases h0
    subst hx
    simp only [if_true] at hz
    simp only [Rows.uptoBulk] at hB
    have h6 := bulk_len (lits (H := H) .u8 (zs.take n))
    simp only [lits, List.length_map, List.length_take] at h6
    simp only [lits] at hB
    omega
theorem cameB_bytes {t e : TypeId} {v : Value} {r : Reach} {b0 B : Nat} (ht : P.underlying t = some (.slice e)) (he : P.underlying e = some (.int .u8)) (hc : P.cellsOf e = 1) (hb : P.bytesOf e = 1) (hv : Value.okWide P W r b0 t v) (h : CameB enc P W base held t v.cells.toList B) :
    ∃ p n c l, v = .slice p n c ∧ RdV W p (bs l) ∧ l.length = n ∧ n ≤ 140737488351232 ∧ n ≤ c ∧ n ≤ B := by
  obtain ⟨p, n, c, l, h1, h2⟩ := cameB_bytes' ht he hc hb h
  exact ⟨p, n, c, l, slice_cells ht hv h1, h2⟩

/-- A slice whose elements take one cell each: the elements' bulks together. -/
theorem cameB_slice1' {t e : TypeId} {cs : List Value} {B : Nat} (ht : P.underlying t = some (.slice e)) (hc : P.cellsOf e = 1) (h : CameB enc P W base held t cs B) :
    ∃ p n c L, ∃ bl : List Nat, cs = [.slice p n c] ∧ RdV W p L ∧ L.length = n ∧ n * P.bytesOf e ≤ 140737488351232 ∧ n ≤ 9223372036854775807 ∧ n ≤ c ∧ bl.length = n ∧ bl.sum ≤ B ∧ n ≤ B ∧ ∀ (i : Nat) v b, L[i]? = some v → bl[i]? = some b → CameB enc P W base held e [v] b := by
  obtain ⟨f, x, hf, hl, hB⟩ := h
  rcases Go.Deep.open_slice1 ht hc hf with ⟨rfl, _⟩ | ⟨a, len, cap, m, n, V, D, Pl, rfl, _, hlc, hm, hmm, rfl, hV⟩
  · exact ⟨none, 0, 0, [], [], rfl, RdV.nil .., rfl, by omega, by omega, by omega, rfl, by simp, by omega, fun i v b hv => by simp at hv⟩
  · simp only [if_true] at hmm
    subst hmm
    have hB' : Rows.uptoBulkAll ((List.range len).map D) ≤ B := by
      simp only [Rows.uptoBulk] at hB
      omega
    refine ⟨some a, len, m, (List.range len).map V, (List.range len).map fun i => Rows.uptoBulk (D i), rfl, RdV.of fun i v hi => ?_, by simp, ?_, ?_, hlc, by simp, ?_, ?_, fun i v b hv hb => ?_⟩
    · simp only [List.getElem?_map, Option.map_eq_some_iff] at hi
      obtain ⟨j, hj, rfl⟩ := hi
      obtain ⟨hlt, e⟩ := List.getElem?_eq_some_iff.1 hj
      simp only [List.getElem_range] at e
      simp only [List.length_range] at hlt
      subst e
      exact (hV i (by omega)).1
    · have := hl _ (by simp only [DataW.weights, ht]; exact List.mem_cons_self ..)
      simp only [List.length_map, List.length_range] at this
      exact reach_le (Nat.le_trans (Nat.mul_le_mul_right _ (by omega)) this)
    · unfold maxLen at hm; omega
    · rw [bulk_sum, List.map_map] at hB'
      exact hB'
    · have := bulk_len ((List.range len).map D)
      simp only [List.length_map, List.length_range] at this
      omega
    · simp only [List.getElem?_map, Option.map_eq_some_iff] at hv hb
      obtain ⟨j, hj, rfl⟩ := hv
      obtain ⟨j', hj', rfl⟩ := hb
      obtain rfl : j = j' := Option.some.inj (hj.symm.trans hj')
      obtain ⟨hlt, e⟩ := List.getElem?_eq_some_iff.1 hj
      simp only [List.getElem_range] at e
      simp only [List.length_range] at hlt
      subst e
      refine ⟨n, _, (hV i (by omega)).2, fun q hq => hl q ?_, Nat.le_refl _⟩
      simp only [DataW.weights, ht]
      refine List.mem_cons_of_mem _ (List.mem_append_left _ ?_)
      exact weightsAll_mem (List.mem_map.2 ⟨i, List.mem_range.2 hlt, rfl⟩) hq

end
end Go.Sx

/-
  A slice of strings that comes in, with the bound of a statement of the second form. No condition.
-/
namespace Go.Sx
open Go Go.ChangeShapes Go.WideShapes Go.RowKit Go.Proofs.Ytfbcmndhjoebbaa
section
variable {H : Type} {enc : TypeId × Value → H} {P : Program} {W : World} {base : Nat} {held : Bool}
theorem bulk_strs {l : List ByteArray} {s : ByteArray} (h : s ∈ l) : s.size ≤ Rows.uptoBulkAll (strs (H := H) l) := by
  have h1 : (DataW.lit (.string s.data.toList) : DataW H) ∈ strs (H := H) l := List.mem_map.2 ⟨s, h, rfl⟩
  have h2 := bulk_part h1
  simp only [Rows.uptoBulk, Array.length_toList] at h2
  have : s.size = s.data.size := rfl
  omega
theorem cameB_strs {t e : TypeId} {v : Value} {r : Reach} {b0 B : Nat} (ht : P.underlying t = some (.slice e)) (he : P.underlying e = some .string) (hc : P.cellsOf e = 1)
    (hv : Value.okWide P W r b0 t v) (h : CameB enc P W base held t v.cells.toList B) :
    ∃ p n c, ∃ ss : List ByteArray, v = .slice p n c ∧ RdV W p (ss.map Value.string) ∧ ss.length = n ∧ n ≤ c ∧ n ≤ B ∧ ∀ s ∈ ss, s.size ≤ B := by
  obtain ⟨p, n, c, L, bl, h1, h2, h3, _, _, h5, hbl, hbs, hnB, h6⟩ := cameB_slice1' ht hc h
  obtain ⟨f, x, hf, hl, hB⟩ := h
  have hvs := slice_cells ht hv h1
  rcases open_strings ht he hc hf with ⟨h0, _⟩ | ⟨a, len, cap, ss, h0, _, hlc, _, hz, hx, hcell, _⟩
  · rw [h1] at h0
    cases h0
    exact ⟨none, 0, 0, [], hvs, RdV.nil .., rfl, by omega, by omega, fun s hs => by simp at hs⟩
  · rw [h1] at h0
    cases h0
    subst hx
    simp only [if_true] at hz
    simp only [Rows.uptoBulk] at hB
    refine ⟨some a, n, c, ss.take n, hvs, RdV.of fun i v hi => ?_, by rw [List.length_take]; omega, h5, hnB, fun s hs => by have := bulk_strs (H := H) hs; omega⟩
    rw [List.getElem?_map, Option.map_eq_some_iff] at hi
    obtain ⟨s, hs, rfl⟩ := hi
    have hlt := (List.getElem?_eq_some_iff.1 hs).1
    rw [List.length_take] at hlt
    rw [List.getElem?_take_of_lt (by omega)] at hs
    have := hcell i (by omega)
    rw [List.getD_eq_getElem?_getD, hs] at this
    exact this
end
end Go.Sx

/-
  A slice of strings that comes in, with the bound of a statement of the second form. No condition.
-/
import Derived.Test.YtfnbedjnbofliaaSxUpto
import Derived.SliceStrings
set_option linter.unusedVariables false
set_option linter.unusedSimpArgs false
namespace Go.Sx
open Go Go.ChangeShapes Go.WideShapes Go.RowKit Go.Proofs.Ytfnbedjnbofliaa
section
variable {H : Type} {enc : TypeId × Value → H} {P : Program} {W : World} {base : Nat} {held : Bool}
theorem bulk_strs {l : List ByteArray} {s : ByteArray} (h : s ∈ l) : s.size ≤ Rows.uptoBulkAll (strs (H := H) l) := by
  have h1 : (DataW.lit (.string s.data.toList) : DataW H) ∈ strs (H := H) l := List.mem_map.2 ⟨s, h, rfl⟩
  have h2 := bulk_part h1
  simp only [Rows.uptoBulk, Array.length_toList] at h2
  have : s.size = s.data.size := rfl
  omega
theorem cameB_strs {t e : TypeId} {v : Value} {r : Reach} {b0 B : Nat} (ht : P.underlying t = some (.slice e)) (he : P.underlying e = some .string) (hc : P.cellsOf e = 1)
    (hv : Value.okWide P W r b0 t v) (h : CameB enc P W base held t v.cells.toList B) :
    ∃ p n c, ∃ ss : List ByteArray, v = .slice p n c ∧ RdV W p (ss.map Value.string) ∧ ss.length = n ∧ n ≤ c ∧ n ≤ B ∧ ∀ s ∈ ss, s.size ≤ B := by
  obtain ⟨p, n, c, L, bl, h1, h2, h3, _, _, h5, hbl, hbs, hnB, h6⟩ := cameB_slice1' ht hc h
  obtain ⟨f, x, hf, hl, hB⟩ := h
  have hvs := slice_cells ht hv h1
  rcases open_strings ht he hc hf with ⟨h0, _⟩ | ⟨a, len, cap, ss, h0, _, hlc, _, hz, hx, hcell, _⟩
  · rw [h1] at h0
    cases h0
    exact ⟨none, 0, 0, [], hvs, RdV.nil .., rfl, by omega, by omega, fun s hs => by simp at hs⟩
  · rw [h1] at h0
    cases h0
    subst hx
    simp only [if_true] at hz
    simp only [Rows.uptoBulk] at hB
    refine ⟨some a, n, c, ss.take n, hvs, RdV.of fun i v hi => ?_, by rw [List.length_take]; omega, h5, hnB, fun s hs => by have := bulk_strs (H := H) hs; omega⟩
    rw [List.getElem?_map, Option.map_eq_some_iff] at hi
    obtain ⟨s, hs, rfl⟩ := hi
    have hlt := (List.getElem?_eq_some_iff.1 hs).1
    rw [List.length_take] at hlt
    rw [List.getElem?_take_of_lt (by omega)] at hs
    have := hcell i (by omega)
    rw [List.getD_eq_getElem?_getD, hs] at this
    exact this
end
end Go.Sx

/-
  Rows of elements that take several cells each. Each element takes as many.
-/
import Derived.Test.YtckfeakolpjleaaSxStruct
set_option linter.unusedVariables false
set_option linter.unusedSimpArgs false
namespace Go.Sx
open Go Go.Proofs

def rowsC {α : Type} (f : α → List Value) (xs : List α) : List Value := (xs.map f).flatten
section
variable {α : Type} {f : α → List Value} {s : Nat}
theorem rowsC_length : ∀ {xs : List α}, (∀ x ∈ xs, (f x).length = s) → (rowsC f xs).length = xs.length * s
  | [], _ => by simp [rowsC]
  | x :: r, h => by
    have ih := rowsC_length (xs := r) (fun y hy => h y (List.mem_cons_of_mem _ hy))
    unfold rowsC at ih ⊢
    rw [List.map_cons, List.flatten_cons, List.length_append, ih, h x (by simp), List.length_cons, Nat.add_mul]; omega
theorem rowsC_append (xs ys : List α) : rowsC f (xs ++ ys) = rowsC f xs ++ rowsC f ys := by simp [rowsC]
theorem rowsC_one (x : α) : rowsC f [x] = f x := by simp [rowsC]
theorem rowsC_at {xs : List α} {i : Nat} {x : α} (h : xs[i]? = some x) : rowsC f (xs.take (i + 1)) = rowsC f (xs.take i) ++ f x := by
  rw [List.take_add_one, h, rowsC_append]
  show rowsC f (xs.take i) ++ rowsC f [x] = _
  rw [rowsC_one]
theorem rowsC_split {xs : List α} {i : Nat} {x : α} (h : xs[i]? = some x) : rowsC f xs = rowsC f (xs.take i) ++ (f x ++ rowsC f (xs.drop (i + 1))) := by
  rw [← List.append_assoc, ← rowsC_at h, ← rowsC_append, List.take_append_drop]
theorem rowsC_take {xs : List α} {i : Nat} (hm : ∀ x ∈ xs, (f x).length = s) (hi : i ≤ xs.length) : (rowsC f (xs.take i)).length = i * s := by
  rw [rowsC_length (fun x hx => hm x (List.mem_of_mem_take hx)), List.length_take, Nat.min_eq_left hi]
theorem rowsC_get {xs : List α} {i : Nat} {x : α} (hm : ∀ x ∈ xs, (f x).length = s) (h : xs[i]? = some x) : ((rowsC f xs).drop (i * s)).take s = f x := by
  have hi := (List.getElem?_eq_some_iff.1 h).1
  rw [rowsC_split h, List.drop_left' (rowsC_take hm (by omega)), List.take_left' (hm x (List.mem_of_getElem? h))]
theorem rowsC_cell {xs : List α} {i j : Nat} {x : α} {v : Value} (hm : ∀ x ∈ xs, (f x).length = s) (h : xs[i]? = some x) (hj : (f x)[j]? = some v) : (rowsC f xs)[i * s + j]? = some v := by
  have hi := (List.getElem?_eq_some_iff.1 h).1
  have hl := rowsC_take hm (show i ≤ xs.length by omega)
  have hlt := (List.getElem?_eq_some_iff.1 hj).1
  rw [rowsC_split h, List.getElem?_append_right (by omega), hl, show i * s + j - i * s = j by omega, List.getElem?_append_left hlt, hj]
theorem rowsC_ext {xs : List α} {i : Nat} {x : α} (J : List Value) (hm : ∀ x ∈ xs, (f x).length = s) (h : xs[i]? = some x) : (rowsC f xs ++ J).toArray.extract (0 + i * s) (0 + i * s + s) = (f x).toArray := by
  have hi := (List.getElem?_eq_some_iff.1 h).1
  apply Array.ext'
  simp only [Array.toList_extract, List.extract_eq_take_drop]
  rw [Nat.zero_add, Nat.add_sub_cancel_left, rowsC_split h, List.append_assoc, List.drop_left' (rowsC_take hm (by omega)), List.append_assoc, List.take_left' (hm x (List.mem_of_getElem? h))]
theorem rowsC_part {xs : List α} {i o k : Nat} {x : α} (J : List Value) (hm : ∀ x ∈ xs, (f x).length = s) (h : xs[i]? = some x) (hok : o + k ≤ s) : (rowsC f xs ++ J).toArray.extract (0 + i * s + o) (0 + i * s + o + k) = (((f x).drop o).take k).toArray := by
  have hi := (List.getElem?_eq_some_iff.1 h).1
  have hx := hm x (List.mem_of_getElem? h)
  apply Array.ext'
  simp only [Array.toList_extract, List.extract_eq_take_drop]
  rw [Nat.zero_add, Nat.add_sub_cancel_left, rowsC_split h, List.append_assoc, ← List.drop_drop, List.drop_left' (rowsC_take hm (by omega)), List.append_assoc, List.drop_append_of_le_length (by omega), List.take_append_of_le_length (by rw [List.length_drop]; omega)]
theorem rowsC_cellJ {xs : List α} {i j : Nat} {x : α} {v : Value} (J : List Value) (hm : ∀ x ∈ xs, (f x).length = s) (h : xs[i]? = some x) (hj : (f x)[j]? = some v) : (rowsC f xs ++ J).toArray[0 + i * s + j]? = some v := by
  have hc := rowsC_cell hm h hj
  have hlt := (List.getElem?_eq_some_iff.1 hc).1
  rw [List.getElem?_toArray, Nat.zero_add, List.getElem?_append_left hlt, hc]
theorem rowsC_one1 {xs : List α} (hf : ∀ x, ∀ u ∈ f x, u.oneCell' = true) : ∀ u ∈ rowsC f xs, u.oneCell' = true := fun u hu => by
  unfold rowsC at hu
  obtain ⟨l, hl, hul⟩ := List.mem_flatten.1 hu
  obtain ⟨x, _, rfl⟩ := List.mem_map.1 hl
  exact hf x u hul
end
/-- One part more laid into cells. -/
theorem fill_stp {pl : Nat → Option (Nat × Nat)} {A : Array Value} {C : List Value} {v : Value} {i off s : Nat} {r : List (Nat × Value)} (hv : v.cells = C.toArray) (hp : pl i = some (off, s)) (hC : C.length = s) (hA : off + s ≤ A.size) : Instr.fill pl A ((i, v) :: r) = Instr.fill pl (A.toList.take off ++ C ++ A.toList.drop (off + s)).toArray r := by
  have h1 := set_cells off C 0 A (by omega)
  simp only [Nat.add_zero, hC] at h1
  simp only [Instr.fill, hp, hv, List.size_toArray, hC]
  rw [if_neg (by simp; omega), ← h1]
  congr 1
  rw [← Array.foldl_toList, Array.toList_zipIdx]
end Go.Sx

/-
  Turning every byte of a list: of the reference. No condition.
-/
import Derived.Test.YtbnfocnhmpegjaaC7
set_option linter.unusedVariables false
set_option linter.unusedSimpArgs false
namespace Go.Sx
open Go Go.Proofs

def overL (l : List (BitVec 8)) (i : Nat) : List (BitVec 8) := (l.take i).map (· ^^^ 90#8) ++ l.drop i
theorem overL_length (l : List (BitVec 8)) (i : Nat) : (overL l i).length = l.length := by simp [overL]; omega
theorem overL_get {l : List (BitVec 8)} {i : Nat} {x : BitVec 8} (h : l[i]? = some x) : (overL l i)[i]? = some x := by
  have hi := (List.getElem?_eq_some_iff.1 h).1
  unfold overL
  rw [List.getElem?_append_right (by simp; omega)]
  simp [List.getElem?_drop]
  rw [show i + (i - min i l.length) = i by omega, h]
theorem overL_set {l : List (BitVec 8)} {i : Nat} {x : BitVec 8} (h : l[i]? = some x) : (overL l i).set i (x ^^^ 90#8) = overL l (i + 1) := by
  have hi := (List.getElem?_eq_some_iff.1 h).1
  unfold overL
  rw [List.set_append_right _ _ (by simp; omega)]
  have e1 : i - ((l.take i).map (· ^^^ 90#8)).length = 0 := by simp; omega
  have e2 : l.drop i = x :: l.drop (i + 1) := by
    rw [List.drop_eq_getElem_cons hi]
    rw [List.getElem?_eq_getElem hi] at h
    cases h; rfl
  rw [e1, e2, List.set_cons_zero, List.take_add_one, h]
  simp


end Go.Sx

/-
  Cutting bytes into pieces, of the codec and of its reference; are two lists of lists equal. At most 2^47 / 24 sizes.
-/
import Derived.Test.YtbnfocnhmpegjaaC5
import Derived.Test.YtbnfocnhmpegjaaWords
set_option linter.unusedVariables false
set_option linter.unusedSimpArgs false
namespace Go.Sx
open Go Go.Proofs

theorem By.fst {w : World} {p : Option Addr} {n : Nat} {l : List (BitVec 8)} (h : By w p n l) (j : Nat) (hj : j ≤ n) : By w p j (l.take j) := by
  have h1 := h.rd.fst (n := j)
  rw [bs_take] at h1
  exact ⟨h1, by rw [List.length_take, h.len]; omega, by have := h.big; omega⟩

/-- The bytes that the first sizes take. -/
def cutS (ns : List Int) : Nat := (ns.map Int.toNat).sum
/-- The pieces. -/
def cutP : List (BitVec 8) → List Int → List (List (BitVec 8))
  | _, [] => []
  | l, z :: r => l.take z.toNat :: cutP (l.drop z.toNat) r
def cutE (l : List (BitVec 8)) (ns : List Int) : Int := if ns.any (· < 0) then 1 else if cutS ns = l.length then 0 else 2
def cutV (l : List (BitVec 8)) (ns : List Int) : List (List (BitVec 8)) := if cutE l ns = 0 then cutP l ns else []
theorem cutP_length : ∀ (l : List (BitVec 8)) (ns : List Int), (cutP l ns).length = ns.length
  | _, [] => rfl
  | l, z :: r => by simp [cutP, cutP_length]
theorem cutV_length (l : List (BitVec 8)) (ns : List Int) : (cutV l ns).length ≤ ns.length := by
  unfold cutV
  split
  · rw [cutP_length]; omega
  · simp
theorem cutS_snoc (ns : List Int) (z : Int) : cutS (ns ++ [z]) = cutS ns + z.toNat := by simp [cutS]
theorem cutP_snoc : ∀ (l : List (BitVec 8)) (ns : List Int) (z : Int), cutP l (ns ++ [z]) = cutP l ns ++ [(l.drop (cutS ns)).take z.toNat]
  | l, [], z => by simp [cutP, cutS]
  | l, y :: r, z => by simp [cutP, cutS, cutP_snoc, List.drop_drop]
theorem cutS_take_le (ns : List Int) (i : Nat) : cutS (ns.take i) ≤ cutS ns := by
  have h : cutS ns = cutS (ns.take i) + cutS (ns.drop i) := by
    conv => lhs; rw [← List.take_append_drop i ns]
    simp only [cutS, List.map_append, List.sum_append]
  omega
theorem cutS_at {ns : List Int} {i : Nat} {z : Int} (h : ns[i]? = some z) : cutS (ns.take (i + 1)) = cutS (ns.take i) + z.toNat := by
  rw [List.take_add_one, h]; exact cutS_snoc _ _
theorem cutP_at {l : List (BitVec 8)} {ns : List Int} {i : Nat} {z : Int} (h : ns[i]? = some z) : cutP l (ns.take (i + 1)) = cutP l (ns.take i) ++ [(l.drop (cutS (ns.take i))).take z.toNat] := by
  rw [List.take_add_one, h]; exact cutP_snoc _ _ _
theorem cut_bad {l : List (BitVec 8)} {ns : List Int} (h : ns.any (· < 0) = true) : cutE l ns = 1 ∧ cutV l ns = [] := by
  have : cutE l ns = 1 := by simp only [cutE, h, if_true]
  exact ⟨this, by simp [cutV, this]⟩
theorem cut_off {l : List (BitVec 8)} {ns : List Int} (h : ns.any (· < 0) = false) (h2 : cutS ns ≠ l.length) : cutE l ns = 2 ∧ cutV l ns = [] := by
  have : cutE l ns = 2 := by simp [cutE, h, h2]
  exact ⟨this, by simp [cutV, this]⟩
theorem cut_ok {l : List (BitVec 8)} {ns : List Int} (h : ns.any (· < 0) = false) (h2 : cutS ns = l.length) : cutE l ns = 0 ∧ cutV l ns = cutP l ns := by
  have : cutE l ns = 0 := by simp [cutE, h, h2]
  exact ⟨this, by simp [cutV, this]⟩
theorem any_lt {ns : List Int} (h : ns.any (· < 0) = false) {i : Nat} {z : Int} (hz : ns[i]? = some z) : 0 ≤ z := by
  have := List.any_eq_false.1 h z (List.mem_of_getElem? hz)
  simp at this; omega
theorem flat_cutP : ∀ (l : List (BitVec 8)) (ns : List Int), (cutP l ns).flatten = l.take (cutS ns)
  | _, [] => by simp [cutP, cutS]
  | l, z :: r => by
    have e : cutS (z :: r) = z.toNat + cutS r := by simp [cutS]
    rw [cutP, List.flatten_cons, flat_cutP, e, List.take_add]
/-- Cut at their lengths, the lists joined are the lists. -/
theorem cutP_flat : ∀ (ls : List (List (BitVec 8))), cutP ls.flatten (ls.map fun l => (l.length : Int)) = ls
  | [] => rfl
  | l :: r => by simp [cutP, cutP_flat]
theorem cutS_flat (ls : List (List (BitVec 8))) : cutS (ls.map fun l => (l.length : Int)) = ls.flatten.length := by
  simp only [cutS, List.map_map, List.length_flatten]
  congr 1
theorem noNeg_flat (ls : List (List (BitVec 8))) : (ls.map fun l => (l.length : Int)).any (· < 0) = false := by
  rw [List.any_eq_false]
  intro z hz
  obtain ⟨l, _, rfl⟩ := List.mem_map.1 hz
  simp
def is (ns : List Int) : List Value := ns.map (.int .i64)
theorem is_get {ns : List Int} {i : Nat} {z : Int} (h : ns[i]? = some z) : (is ns)[i]? = some (.int .i64 z) := by simp [is, h]
theorem is_length (ns : List Int) : (is ns).length = ns.length := by simp [is]

end Go.Sx

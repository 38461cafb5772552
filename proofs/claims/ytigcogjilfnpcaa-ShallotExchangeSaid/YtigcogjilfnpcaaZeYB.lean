import Derived.Test.YtigcogjilfnpcaaZeYA
set_option linter.unusedVariables false
set_option linter.unusedSimpArgs false
/-
  Lists of 32 bit words, and reading them out of bytes, the least first. No condition.
-/
namespace Go.Sx
open Go Go.Proofs

theorem bs_setW (m : List (BitVec 8)) (i : Nat) (x : BitVec 8) : (bs m).set (0 + i) (b8 x) = bs (m.set i x) := by rw [Nat.zero_add]; simp [bs, List.map_set]
theorem all_bs (l : List (BitVec 8)) : (bs l).all (kindIs .u8) = true := by
  rw [List.all_eq_true]
  intro u hu
  obtain ⟨x, _, rfl⟩ := List.mem_map.1 hu
  rfl

/-- What has been filled in from the front. -/
def fillW {α : Type} (z : α) (full : List α) (k : Nat) : List α := full.take k ++ List.replicate (full.length - k) z
theorem fillW_length {α : Type} {z : α} {full : List α} {k : Nat} : (fillW z full k).length = full.length := by simp [fillW]; omega
theorem fillW_end {α : Type} (z : α) (full : List α) : fillW z full full.length = full := by simp [fillW]
theorem fillW_set {α : Type} {z : α} {full : List α} {k : Nat} {x : α} (h : full[k]? = some x) : (fillW z full k).set k x = fillW z full (k + 1) := by
  have hk := (List.getElem?_eq_some_iff.1 h).1
  apply List.ext_getElem?
  intro j
  rw [List.getElem?_set, fillW_length]
  unfold fillW
  by_cases hj : k = j
  · subst hj
    rw [if_pos rfl, if_pos hk, List.getElem?_append_left (by simp; omega), List.getElem?_take, if_pos (by omega), h]
  · rw [if_neg hj]
    by_cases hlt : j < k
    · rw [List.getElem?_append_left (by simp; omega), List.getElem?_append_left (by simp; omega), List.getElem?_take, List.getElem?_take, if_pos hlt, if_pos (by omega)]
    · rw [List.getElem?_append_right (by simp; omega), List.getElem?_append_right (by simp; omega), List.length_take, List.length_take, List.getElem?_replicate, List.getElem?_replicate]
      by_cases hz : j < full.length
      · rw [if_pos (by omega), if_pos (by omega)]
      · rw [if_neg (by omega), if_neg (by omega)]
end Go.Sx

/-
  bits.RotateLeft32. The number of places is 1 to 31.
-/
namespace Go.Sx
open Go Go.Proofs

end Go.Sx

/-
  Writing a number as bytes: the codec's way, its reference's way, and that it is read back. The order is 1 or 2, the width 1 to 8.
-/
namespace Go.Sx
open Go Go.Proofs

end Go.Sx

/-
  The reference's way to write a number as bytes; what is written is read back. The order is 1 or 2, the width 1 to 8.
-/
namespace Go.Sx
open Go Go.Proofs

end Go.Sx

/-
  Lists of bytes joined: bytes.Join without a separator, the codec's Join and its reference's. The whole takes at most 2^47 bytes.
-/
namespace Go.Sx
open Go Go.Proofs

end Go.Sx

/-
  Cutting bytes into pieces, of the codec and of its reference; are two lists of lists equal. At most 2^47 / 24 sizes.
-/
namespace Go.Sx
open Go Go.Proofs

def is (ns : List Int) : List Value := ns.map (.int .i64)
theorem is_get {ns : List Int} {i : Nat} {z : Int} (h : ns[i]? = some z) : (is ns)[i]? = some (.int .i64 z) := by simp [is, h]
theorem is_length (ns : List Int) : (is ns).length = ns.length := by simp [is]

end Go.Sx

/-
  Cutting bytes into pieces, of the codec and of its reference. At most 2^47 / 24 sizes.
-/
namespace Go.Sx
open Go Go.Proofs

end Go.Sx

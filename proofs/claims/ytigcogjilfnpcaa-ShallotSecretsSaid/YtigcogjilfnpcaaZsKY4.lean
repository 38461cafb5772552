import Derived.Test.YtigcogjilfnpcaaZsKY3
import Derived.Test.YtigcogjilfnpcaaZsEK
set_option linter.unusedVariables false
set_option linter.unusedSimpArgs false
/-
  A step against a step, and the fixed fact about the keys. The schedule of valid keys never comes to nought.
-/
namespace Go.Sx
open Go Go.Proofs

theorem sch_rch : ∀ (pubs : List (List (BitVec 8))) {al : List (BitVec 8)} (sc : List (List (BitVec 8))), BasB al → schR pubs al 0 sc = rchR pubs al sc
  | [], _, _, _ => rfl
  | pub :: r, al, sc, h => by
    unfold schR rchR
    rw [if_pos rfl]
    by_cases hc : (chP pub sc).2 = 0
    · rw [if_pos hc, if_pos hc]
      by_cases hr : r = []
      · subst hr
        rw [if_pos rfl, if_pos rfl]; rfl
      · rw [if_neg hr, if_neg hr, h.e (kBlind_length _), sch_rch r _ (h.mul (kBlind_length _))]
    · rw [if_neg hc, if_neg hc]
theorem schP_rch (k : List (BitVec 8)) (pubs : List (List (BitVec 8))) : schP k pubs = rchP k pubs := by
  unfold schP rchP
  by_cases h : okS k pubs = true
  · have hk := ((okS_iff _ _).1 h).1
    rw [if_pos h, if_pos h, pub_ok hk, sch_rch _ _ (basB_nine.mul hk)]
  · rw [if_neg h, if_neg h]
theorem rchR_ok : ∀ {pubs : List (List (BitVec 8))} {al : List (BitVec 8)} {sc : List (List (BitVec 8))}, al.length = 32 → ∀ h ∈ (rchR pubs al sc).2, h.1.length = 32 ∧ h.2.length = 32
  | [], _, _, _, _, hh => by simp [rchR] at hh
  | pub :: r, al, sc, hal, h, hh => by
    unfold rchR at hh
    split at hh
    · unfold comb at hh
      split at hh
      · rcases List.mem_append.1 hh with h1 | h1
        · rw [List.mem_singleton.1 h1]; exact ⟨hal, chP_length _ _⟩
        · exact rchR_ok (xmV_length _ _) h h1
      · simp at hh
    · simp at hh
theorem rchP_ok {k : List (BitVec 8)} {pubs : List (List (BitVec 8))} : ∀ h ∈ (rchP k pubs).2, h.1.length = 32 ∧ h.2.length = 32 := fun h hh => by
  unfold rchP at hh
  split at hh
  · exact rchR_ok (xmV_length _ _) h hh
  · simp at hh
theorem bs_ext (L : List (BitVec 8)) (off n : Nat) : (bs L).toArray.extract off (off + n) = (bs ((L.drop off).take n)).toArray := by
  apply Array.ext'
  simp only [Array.toList_extract, List.extract_eq_take_drop]
  rw [show off + n - off = n by omega, bs_drop, bs_take]
end Go.Sx

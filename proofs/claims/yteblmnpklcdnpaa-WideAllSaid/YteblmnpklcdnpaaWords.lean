/-
  Lists of 32 bit words, and reading them out of bytes, the least first. No condition.
-/
import Derived.Test.YteblmnpklcdnpaaC4
set_option linter.unusedVariables false
set_option linter.unusedSimpArgs false
namespace Go.Sx
open Go Go.Proofs

def ws (l : List (BitVec 32)) : List Value := l.map b32
theorem ws_length (l : List (BitVec 32)) : (ws l).length = l.length := by simp [ws]
theorem ws_get {l : List (BitVec 32)} {i : Nat} {x : BitVec 32} (h : l[i]? = some x) : (ws l)[i]? = some (b32 x) := by simp [ws, h]
theorem ws_load {m : List (BitVec 32)} {i : Nat} {x : BitVec 32} (h : m[i]? = some x) : (ws m).toArray[0 + i]? = some (b32 x) := by
  rw [Nat.zero_add, List.getElem?_toArray]; exact ws_get h
theorem ws_set (m : List (BitVec 32)) (i : Nat) (x : BitVec 32) : (ws m).set (0 + i) (b32 x) = ws (m.set i x) := by rw [Nat.zero_add]; simp [ws, List.map_set]
theorem bs_setW (m : List (BitVec 8)) (i : Nat) (x : BitVec 8) : (bs m).set (0 + i) (b8 x) = bs (m.set i x) := by rw [Nat.zero_add]; simp [bs, List.map_set]
theorem ws_append (l m : List (BitVec 32)) : ws (l ++ m) = ws l ++ ws m := by simp [ws]
theorem oneCell_ws (l : List (BitVec 32)) : ∀ u ∈ ws l, u.oneCell' = true := by
  intro u hu
  obtain ⟨x, _, rfl⟩ := List.mem_map.1 hu
  rfl

theorem all_ws (l : List (BitVec 32)) : (ws l).all (kindIs .u32) = true := by
  rw [List.all_eq_true]
  intro u hu
  obtain ⟨x, _, rfl⟩ := List.mem_map.1 hu
  rfl
theorem all_bs (l : List (BitVec 8)) : (bs l).all (kindIs .u8) = true := by
  rw [List.all_eq_true]
  intro u hu
  obtain ⟨x, _, rfl⟩ := List.mem_map.1 hu
  rfl

/-- The word that the first four bytes are. -/
def word4 (l : List (BitVec 8)) : BitVec 32 := (l.getD 0 0#8).setWidth 32 ||| (l.getD 1 0#8).setWidth 32 <<< 8 ||| (l.getD 2 0#8).setWidth 32 <<< 16 ||| (l.getD 3 0#8).setWidth 32 <<< 24
def wordsL (l : List (BitVec 8)) : List (BitVec 32) := (List.range (l.length / 4)).map fun i => word4 (l.drop (4 * i))

theorem setWidth_shl8 (x : BitVec 64) : (x <<< 8).setWidth 32 = x.setWidth 32 <<< 8 := by
  apply BitVec.eq_of_getLsbD_eq
  intro i hi
  simp only [BitVec.getLsbD_setWidth, BitVec.getLsbD_shiftLeft]
  by_cases h : i < 8
  · simp [h]
  · simp [h, hi, show i < 64 by omega, show i - 8 < 32 by omega]
/-- Horner's way. -/
theorem word4_horner (a b c d : BitVec 32) : ((((d <<< 8) ||| c) <<< 8 ||| b) <<< 8) ||| a = a ||| b <<< 8 ||| c <<< 16 ||| d <<< 24 := by
  have s2 : ∀ x : BitVec 32, (x <<< 8) <<< 8 = x <<< 16 := fun x => (BitVec.shiftLeft_add x 8 8).symm
  have s3 : ∀ x : BitVec 32, (x <<< 16) <<< 8 = x <<< 24 := fun x => (BitVec.shiftLeft_add x 16 8).symm
  have e1 : ((d <<< 8) ||| c) <<< 8 = d <<< 16 ||| c <<< 8 := by rw [BitVec.shiftLeft_or_distrib, s2]
  rw [e1, BitVec.shiftLeft_or_distrib, BitVec.shiftLeft_or_distrib, s3, s2]
  generalize d <<< 24 = x
  generalize c <<< 16 = y
  generalize b <<< 8 = z
  ac_rfl
theorem beV4 (a b c d : BitVec 8) : (beV [d, c, b, a]).setWidth 32 = word4 [a, b, c, d] := by
  have h8 : ∀ x : BitVec 8, (x.setWidth 64).setWidth 32 = x.setWidth 32 := fun x => BitVec.setWidth_setWidth_of_le x (by omega)
  simp only [beV, List.foldl_cons, List.foldl_nil, BitVec.setWidth_or, setWidth_shl8, h8]
  rw [show (0#64).setWidth 32 = 0#32 from rfl, BitVec.zero_shiftLeft, BitVec.zero_or, word4_horner]
  rfl
theorem word4_win {l : List (BitVec 8)} {i : Nat} (h : i + 4 ≤ l.length) : ∃ a b c d, win l i 4 = [a, b, c, d] ∧ word4 (l.drop i) = word4 [a, b, c, d] := by
  have hl := win_length h
  have hd : ∀ j, j < 4 → (win l i 4)[j]? = (l.drop i)[j]? := fun j hj => by rw [win_get hj, List.getElem?_drop]
  match hw : win l i 4, hl with
  | [a, b, c, d], _ =>
    rw [hw] at hd
    refine ⟨a, b, c, d, rfl, ?_⟩
    have h0 := hd 0 (by omega)
    have h1 := hd 1 (by omega)
    have h2 := hd 2 (by omega)
    have h3 := hd 3 (by omega)
    simp only [List.getElem?_cons_zero, List.getElem?_cons_succ] at h0 h1 h2 h3
    unfold word4
    simp only [List.getD, ← h0, ← h1, ← h2, ← h3]
    rfl
/-- The reference's way to read a word. -/
theorem getV_word {l : List (BitVec 8)} {i : Nat} (h : i + 4 ≤ l.length) : (getV 1 l (i : Int) 4).setWidth 32 = word4 (l.drop i) := by
  obtain ⟨a, b, c, d, hw, hw2⟩ := word4_win h
  have hE : getE 1 l.length (i : Int) 4 = 0 := by unfold getE; rw [if_neg (by omega), if_neg (by omega)]
  unfold getV
  rw [if_pos hE]
  have : win l ((i : Int)).toNat (4 : Int).toNat = [a, b, c, d] := hw
  rw [this, hw2]
  exact beV4 a b c d
theorem By.cut {w : World} {p : Option Addr} {n c : Nat} {l : List (BitVec 8)} (h : By w p n l) (hc : n ≤ c) (j : Nat) : By w (cutp p c j 1) (n - j) (l.drop j) := by
  have h1 := h.rd.cut (l := j) (c := c) (by rw [bs_length, h.len]; exact hc)
  rw [bs_drop] at h1
  exact ⟨h1, by rw [List.length_drop, h.len], by have := h.big; omega⟩

/-- What has been filled in from the front. -/
def fillW {α : Type} (z : α) (full : List α) (k : Nat) : List α := full.take k ++ List.replicate (full.length - k) z
theorem fillW_length {α : Type} {z : α} {full : List α} {k : Nat} : (fillW z full k).length = full.length := by simp [fillW]; omega
theorem fillW_end {α : Type} (z : α) (full : List α) : fillW z full full.length = full := by simp [fillW]
theorem fillW_set {α : Type} {z : α} {full : List α} {k : Nat} {x : α} (h : full[k]? = some x) : (fillW z full k).set k x = fillW z full (k + 1) := by
  have hk := (List.getElem?_eq_some_iff.1 h).1
  apply List.ext_getElem?
  intro j
  rw [List.getElem?_set, fillW_length]
  unfold fillW
  by_cases hj : k = j
  · subst hj
    rw [if_pos rfl, if_pos hk, List.getElem?_append_left (by simp; omega), List.getElem?_take, if_pos (by omega), h]
  · rw [if_neg hj]
    by_cases hlt : j < k
    · rw [List.getElem?_append_left (by simp; omega), List.getElem?_append_left (by simp; omega), List.getElem?_take, List.getElem?_take, if_pos hlt, if_pos (by omega)]
    · rw [List.getElem?_append_right (by simp; omega), List.getElem?_append_right (by simp; omega), List.length_take, List.length_take, List.getElem?_replicate, List.getElem?_replicate]
      by_cases hz : j < full.length
      · rw [if_pos (by omega), if_pos (by omega)]
      · rw [if_neg (by omega), if_neg (by omega)]
end Go.Sx

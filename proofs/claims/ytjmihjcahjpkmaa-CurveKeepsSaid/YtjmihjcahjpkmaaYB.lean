import Derived.Test.YtjmihjcahjpkmaaYA
set_option linter.unusedVariables false
set_option linter.unusedSimpArgs false
/-
  Lists of 32 bit words, and reading them out of bytes, the least first. No condition.
-/
namespace Go.Sx
open Go Go.Proofs

def ws (l : List (BitVec 32)) : List Value := l.map b32
theorem ws_length (l : List (BitVec 32)) : (ws l).length = l.length := by simp [ws]
theorem ws_get {l : List (BitVec 32)} {i : Nat} {x : BitVec 32} (h : l[i]? = some x) : (ws l)[i]? = some (b32 x) := by simp [ws, h]
theorem ws_load {m : List (BitVec 32)} {i : Nat} {x : BitVec 32} (h : m[i]? = some x) : (ws m).toArray[0 + i]? = some (b32 x) := by
  rw [Nat.zero_add, List.getElem?_toArray]; exact ws_get h
theorem ws_set (m : List (BitVec 32)) (i : Nat) (x : BitVec 32) : (ws m).set (0 + i) (b32 x) = ws (m.set i x) := by rw [Nat.zero_add]; simp [ws, List.map_set]
theorem bs_setW (m : List (BitVec 8)) (i : Nat) (x : BitVec 8) : (bs m).set (0 + i) (b8 x) = bs (m.set i x) := by rw [Nat.zero_add]; simp [bs, List.map_set]
theorem ws_append (l m : List (BitVec 32)) : ws (l ++ m) = ws l ++ ws m := by simp [ws]
theorem oneCell_ws (l : List (BitVec 32)) : ∀ u ∈ ws l, u.oneCell' = true := by
  intro u hu
  obtain ⟨x, _, rfl⟩ := List.mem_map.1 hu
  rfl

theorem all_ws (l : List (BitVec 32)) : (ws l).all (kindIs .u32) = true := by
  rw [List.all_eq_true]
  intro u hu
  obtain ⟨x, _, rfl⟩ := List.mem_map.1 hu
  rfl
theorem all_bs (l : List (BitVec 8)) : (bs l).all (kindIs .u8) = true := by
  rw [List.all_eq_true]
  intro u hu
  obtain ⟨x, _, rfl⟩ := List.mem_map.1 hu
  rfl

/-- The word that the first four bytes are. -/
def word4 (l : List (BitVec 8)) : BitVec 32 := (l.getD 0 0#8).setWidth 32 ||| (l.getD 1 0#8).setWidth 32 <<< 8 ||| (l.getD 2 0#8).setWidth 32 <<< 16 ||| (l.getD 3 0#8).setWidth 32 <<< 24
def wordsL (l : List (BitVec 8)) : List (BitVec 32) := (List.range (l.length / 4)).map fun i => word4 (l.drop (4 * i))

theorem setWidth_shl8 (x : BitVec 64) : (x <<< 8).setWidth 32 = x.setWidth 32 <<< 8 := by
  apply BitVec.eq_of_getLsbD_eq
  intro i hi
  simp only [BitVec.getLsbD_setWidth, BitVec.getLsbD_shiftLeft]
  by_cases h : i < 8
  · simp [h]
  · simp [h, hi, show i < 64 by omega, show i - 8 < 32 by omega]
/-- Horner's way. -/
theorem word4_horner (a b c d : BitVec 32) : ((((d <<< 8) ||| c) <<< 8 ||| b) <<< 8) ||| a = a ||| b <<< 8 ||| c <<< 16 ||| d <<< 24 := by
  have s2 : ∀ x : BitVec 32, (x <<< 8) <<< 8 = x <<< 16 := fun x => (BitVec.shiftLeft_add x 8 8).symm
  have s3 : ∀ x : BitVec 32, (x <<< 16) <<< 8 = x <<< 24 := fun x => (BitVec.shiftLeft_add x 16 8).symm
  have e1 : ((d <<< 8) ||| c) <<< 8 = d <<< 16 ||| c <<< 8 := by rw [BitVec.shiftLeft_or_distrib, s2]
  rw [e1, BitVec.shiftLeft_or_distrib, BitVec.shiftLeft_or_distrib, s3, s2]
  generalize d <<< 24 = x
  generalize c <<< 16 = y
  generalize b <<< 8 = z
  ac_rfl
theorem beV4 (a b c d : BitVec 8) : (beV [d, c, b, a]).setWidth 32 = word4 [a, b, c, d] := by
  have h8 : ∀ x : BitVec 8, (x.setWidth 64).setWidth 32 = x.setWidth 32 := fun x => BitVec.setWidth_setWidth_of_le x (by omega)
  simp only [beV, List.foldl_cons, List.foldl_nil, BitVec.setWidth_or, setWidth_shl8, h8]
  rw [show (0#64).setWidth 32 = 0#32 from rfl, BitVec.zero_shiftLeft, BitVec.zero_or, word4_horner]
  rfl
theorem word4_win {l : List (BitVec 8)} {i : Nat} (h : i + 4 ≤ l.length) : ∃ a b c d, win l i 4 = [a, b, c, d] ∧ word4 (l.drop i) = word4 [a, b, c, d] := by
  have hl := win_length h
  have hd : ∀ j, j < 4 → (win l i 4)[j]? = (l.drop i)[j]? := fun j hj => by rw [win_get hj, List.getElem?_drop]
  match hw : win l i 4, hl with
  | [a, b, c, d], _ =>
    rw [hw] at hd
    refine ⟨a, b, c, d, rfl, ?_⟩
    have h0 := hd 0 (by omega)
    have h1 := hd 1 (by omega)
    have h2 := hd 2 (by omega)
    have h3 := hd 3 (by omega)
    simp only [List.getElem?_cons_zero, List.getElem?_cons_succ] at h0 h1 h2 h3
    unfold word4
    simp only [List.getD, ← h0, ← h1, ← h2, ← h3]
    rfl
/-- The reference's way to read a word. -/
theorem getV_word {l : List (BitVec 8)} {i : Nat} (h : i + 4 ≤ l.length) : (getV 1 l (i : Int) 4).setWidth 32 = word4 (l.drop i) := by
  obtain ⟨a, b, c, d, hw, hw2⟩ := word4_win h
  have hE : getE 1 l.length (i : Int) 4 = 0 := by unfold getE; rw [if_neg (by omega), if_neg (by omega)]
  unfold getV
  rw [if_pos hE]
  have : win l ((i : Int)).toNat (4 : Int).toNat = [a, b, c, d] := hw
  rw [this, hw2]
  exact beV4 a b c d
theorem By.cut {w : World} {p : Option Addr} {n c : Nat} {l : List (BitVec 8)} (h : By w p n l) (hc : n ≤ c) (j : Nat) : By w (cutp p c j 1) (n - j) (l.drop j) := by
  have h1 := h.rd.cut (l := j) (c := c) (by rw [bs_length, h.len]; exact hc)
  rw [bs_drop] at h1
  exact ⟨h1, by rw [List.length_drop, h.len], by have := h.big; omega⟩

/-- What has been filled in from the front. -/
def fillW {α : Type} (z : α) (full : List α) (k : Nat) : List α := full.take k ++ List.replicate (full.length - k) z
theorem fillW_length {α : Type} {z : α} {full : List α} {k : Nat} : (fillW z full k).length = full.length := by simp [fillW]; omega
theorem fillW_end {α : Type} (z : α) (full : List α) : fillW z full full.length = full := by simp [fillW]
theorem fillW_set {α : Type} {z : α} {full : List α} {k : Nat} {x : α} (h : full[k]? = some x) : (fillW z full k).set k x = fillW z full (k + 1) := by
  have hk := (List.getElem?_eq_some_iff.1 h).1
  apply List.ext_getElem?
  intro j
  rw [List.getElem?_set, fillW_length]
  unfold fillW
  by_cases hj : k = j
  · subst hj
    rw [if_pos rfl, if_pos hk, List.getElem?_append_left (by simp; omega), List.getElem?_take, if_pos (by omega), h]
  · rw [if_neg hj]
    by_cases hlt : j < k
    · rw [List.getElem?_append_left (by simp; omega), List.getElem?_append_left (by simp; omega), List.getElem?_take, List.getElem?_take, if_pos hlt, if_pos (by omega)]
    · rw [List.getElem?_append_right (by simp; omega), List.getElem?_append_right (by simp; omega), List.length_take, List.length_take, List.getElem?_replicate, List.getElem?_replicate]
      by_cases hz : j < full.length
      · rw [if_pos (by omega), if_pos (by omega)]
      · rw [if_neg (by omega), if_neg (by omega)]
end Go.Sx

/-
  bits.RotateLeft32. The number of places is 1 to 31.
-/
namespace Go.Sx
open Go Go.Proofs

def rotL (x : BitVec 32) (k : Nat) : BitVec 32 := x <<< k ||| x >>> (32 - k)
theorem and31 (k : Nat) (h : k < 32) : (BitVec.ofInt 64 (k : Int) &&& 31#64) = BitVec.ofNat 64 k := by
  apply BitVec.eq_of_toNat_eq
  have e : (BitVec.ofInt 64 (k : Int)).toNat = k := by rw [BitVec.toNat_ofInt]; omega
  have h5 := Nat.and_two_pow_sub_one_eq_mod k 5
  rw [BitVec.toNat_and, e, BitVec.toNat_ofNat]
  show k &&& (2 ^ 5 - 1) = k % 2 ^ 64
  rw [h5]; omega

end Go.Sx

/-
  Writing a number as bytes: the codec's way, its reference's way, and that it is read back. The order is 1 or 2, the width 1 to 8.
-/
namespace Go.Sx
open Go Go.Proofs

def putW (n : BitVec 64) (z : Nat) : List (BitVec 8) := (List.range z).map fun i => (n >>> (8 * i)).setWidth 8
def putE (o z : Int) (n : BitVec 64) : Int := if ¬ ShapeOk o z then 1 else if n >>> (8 * z.toNat) ≠ 0#64 then 2 else 0
def putL (o z : Int) (n : BitVec 64) : List (BitVec 8) := if putE o z n = 0 then (if o = 2 then (putW n z.toNat).reverse else putW n z.toNat) else []
def putAt (n : BitVec 64) (z i : Nat) : List (BitVec 8) := (putW n z).take i ++ List.replicate (z - i) 0#8

theorem putW_length (n : BitVec 64) (z : Nat) : (putW n z).length = z := by simp [putW]
theorem putW_get {n : BitVec 64} {z i : Nat} (h : i < z) : (putW n z)[i]? = some ((n >>> (8 * i)).setWidth 8) := by simp [putW, h]
theorem putAt_length {n : BitVec 64} {z i : Nat} (h : i ≤ z) : (putAt n z i).length = z := by simp [putAt, putW_length]; omega
theorem putAt_end (n : BitVec 64) (z : Nat) : putAt n z z = putW n z := by
  unfold putAt
  rw [List.take_of_length_le (by rw [putW_length]; exact Nat.le_refl _)]; simp
theorem putAt_set {n : BitVec 64} {z i : Nat} (h : i < z) : (putAt n z i).set i ((n >>> (8 * i)).setWidth 8) = putAt n z (i + 1) := by
  apply List.ext_getElem?
  intro j
  have hl := putW_length n z
  rw [get_set _ _ _ _ (by rw [putAt_length (by omega)]; exact h)]
  unfold putAt
  by_cases hj : i = j
  · subst hj
    rw [if_pos rfl, List.getElem?_append_left (by simp [hl]; omega), List.getElem?_take, if_pos (by omega), putW_get h]
  · rw [if_neg hj]
    by_cases hlt : j < i
    · rw [List.getElem?_append_left (by simp [hl]; omega), List.getElem?_append_left (by simp [hl]; omega), List.getElem?_take, List.getElem?_take, if_pos hlt, if_pos (by omega)]
    · rw [List.getElem?_append_right (by simp [hl]; omega), List.getElem?_append_right (by simp [hl]; omega), List.length_take, List.length_take, hl, List.getElem?_replicate, List.getElem?_replicate]
      by_cases hz : j < z
      · rw [if_pos (by omega), if_pos (by omega)]
      · rw [if_neg (by omega), if_neg (by omega)]

theorem rev_set (m : List (BitVec 8)) (i : Nat) (x : BitVec 8) (h : i < m.length) : m.reverse.set (m.length - 1 - i) x = (m.set i x).reverse := by
  apply List.ext_getElem?
  intro j
  rw [get_set _ _ _ _ (by simp; omega)]
  by_cases hj : j < m.length
  · rw [List.getElem?_reverse hj, List.getElem?_reverse (by simpa using hj), List.length_set, get_set _ _ _ _ h]
    by_cases e : m.length - 1 - i = j
    · rw [if_pos e, if_pos (by omega)]
    · rw [if_neg e, if_neg (by omega)]
  · rw [if_neg (by omega), List.getElem?_eq_none (by simp; omega), List.getElem?_eq_none (by simp; omega)]

theorem shr_add (n : BitVec 64) (i : Nat) : (n >>> (8 * i)) / 256#64 = n >>> (8 * (i + 1)) := by
  apply BitVec.eq_of_toNat_eq
  rw [BitVec.toNat_udiv, BitVec.toNat_ushiftRight, BitVec.toNat_ushiftRight, Nat.shiftRight_eq_div_pow, Nat.shiftRight_eq_div_pow, show (256#64).toNat = 2 ^ 8 from rfl, Nat.div_div_eq_div_mul, ← Nat.pow_add]
  congr 2
theorem rem_low (n : BitVec 64) : (n % 256#64).setWidth 8 = n.setWidth 8 := by
  apply BitVec.eq_of_toNat_eq
  rw [BitVec.toNat_setWidth, BitVec.toNat_setWidth, BitVec.toNat_umod, show (256#64).toNat = 2 ^ 8 from rfl, Nat.mod_mod]

theorem low_high (n : BitVec 64) : (n.setWidth 8).setWidth 64 + 256#64 * (n >>> 8) = n := by
  rw [← or_add]
  apply BitVec.eq_of_getLsbD_eq
  intro i hi
  simp only [BitVec.getLsbD_or, BitVec.getLsbD_shiftLeft, BitVec.getLsbD_ushiftRight, BitVec.getLsbD_setWidth]
  by_cases h : i < 8
  · simp [h]; omega
  · simp [h, hi, show 8 + (i - 8) = i by omega]
theorem leV_putW : ∀ (z : Nat) (n : BitVec 64), n >>> (8 * z) = 0#64 → leV (putW n z) = n
  | 0, n, h => by
    have : n = 0#64 := by simpa using h
    rw [this]; rfl
  | z + 1, n, h => by
    have e : putW n (z + 1) = n.setWidth 8 :: putW (n >>> 8) z := by
      unfold putW
      rw [List.range_succ_eq_map, List.map_cons, List.map_map]
      simp only [Nat.mul_zero, BitVec.ushiftRight_zero, List.cons.injEq, true_and]
      apply List.map_congr_left
      intro i _
      show (n >>> (8 * (i + 1))).setWidth 8 = ((n >>> 8) >>> (8 * i)).setWidth 8
      rw [← BitVec.shiftRight_add, show 8 + 8 * i = 8 * (i + 1) by omega]
    rw [e]
    simp only [leV]
    rw [leV_putW z (n >>> 8) (by rw [← BitVec.shiftRight_add, show 8 + 8 * z = 8 * (z + 1) by omega]; exact h), low_high]

end Go.Sx

/-
  The reference's way to write a number as bytes; what is written is read back. The order is 1 or 2, the width 1 to 8.
-/
namespace Go.Sx
open Go Go.Proofs

def rowR (o : Int) (n : BitVec 64) (z i : Nat) : List (BitVec 8) := if o = 2 then (putAt n z i).reverse else putAt n z i
theorem rowR_length {o : Int} {n : BitVec 64} {z i : Nat} (h : i ≤ z) : (rowR o n z i).length = z := by unfold rowR; split <;> simp [putAt_length h]
theorem rowR_set {o : Int} {n : BitVec 64} {z i : Nat} (h : i < z) : (rowR o n z i).set (if o = 2 then z - 1 - i else i) ((n >>> (8 * i)).setWidth 8) = rowR o n z (i + 1) := by
  unfold rowR
  by_cases ho : o = 2
  · rw [if_pos ho, if_pos ho, if_pos ho]
    have := rev_set (putAt n z i) i ((n >>> (8 * i)).setWidth 8) (by rw [putAt_length (by omega)]; exact h)
    rw [putAt_length (by omega)] at this
    rw [this, putAt_set h]
  · rw [if_neg ho, if_neg ho, if_neg ho, putAt_set h]

/-- What is written is read back. -/
theorem put_get {o z : Int} {n : BitVec 64} (h : putE o z n = 0) : getE o (putL o z n).length 0 z = 0 ∧ getV o (putL o z n) 0 z = n := by
  have hs : ShapeOk o z := by
    by_cases hs : ShapeOk o z
    · exact hs
    · unfold putE at h; rw [if_pos hs] at h; omega
  have hz := hs.2
  obtain ⟨z, rfl⟩ := Int.eq_ofNat_of_zero_le (show 0 ≤ z by omega)
  have hq : n >>> (8 * z) = 0#64 := by
    by_cases hq : n >>> (8 * z) = 0#64
    · exact hq
    · unfold putE at h
      rw [if_neg (fun h => h hs), if_pos (show n >>> (8 * ((z : Int)).toNat) ≠ 0#64 from hq)] at h
      omega
  have hL : putL o z n = if o = 2 then (putW n z).reverse else putW n z := by unfold putL; rw [if_pos h]; rfl
  have hlen : (putL o z n).length = z := by rw [hL]; split <;> simp [putW_length]
  have hE : getE o (putL o z n).length 0 z = 0 := by rw [hlen]; unfold getE; rw [if_neg (by omega), if_neg (by omega)]
  refine ⟨hE, ?_⟩
  unfold getV
  rw [if_pos hE]
  have hw : win (putL o z n) (0 : Int).toNat (z : Int).toNat = putL o z n := by
    unfold win
    rw [show (0 : Int).toNat = 0 from rfl, List.drop_zero]
    exact List.take_of_length_le (by rw [hlen]; exact Nat.le_refl _)
  rw [hw, beV_rev]
  have hb : (rdS o (putL o z n)).reverse = putW n z := by
    unfold rdS
    rw [hL]
    split <;> simp
  rw [hb, leV_putW z n hq]
end Go.Sx

/-
  Lists of bytes joined: bytes.Join without a separator, the codec's Join and its reference's. The whole takes at most 2^47 bytes.
-/
namespace Go.Sx
open Go Go.Proofs

theorem flat_take {ls : List (List (BitVec 8))} {j : Nat} {l : List (BitVec 8)} (h : ls[j]? = some l) : (ls.take (j + 1)).flatten = (ls.take j).flatten ++ l := by
  rw [List.take_add_one, h]; simp
theorem flat_le (ls : List (List (BitVec 8))) (j : Nat) : (ls.take j).flatten.length ≤ ls.flatten.length := by
  have h := congrArg (fun l => l.flatten.length) (List.take_append_drop j ls)
  simp only [List.flatten_append, List.length_append] at h
  omega

end Go.Sx

/-
  Cutting bytes into pieces, of the codec and of its reference; are two lists of lists equal. At most 2^47 / 24 sizes.
-/
namespace Go.Sx
open Go Go.Proofs

theorem By.fst {w : World} {p : Option Addr} {n : Nat} {l : List (BitVec 8)} (h : By w p n l) (j : Nat) (hj : j ≤ n) : By w p j (l.take j) := by
  have h1 := h.rd.fst (n := j)
  rw [bs_take] at h1
  exact ⟨h1, by rw [List.length_take, h.len]; omega, by have := h.big; omega⟩

/-- The bytes that the first sizes take. -/
def cutS (ns : List Int) : Nat := (ns.map Int.toNat).sum
/-- The pieces. -/
def cutP : List (BitVec 8) → List Int → List (List (BitVec 8))
  | _, [] => []
  | l, z :: r => l.take z.toNat :: cutP (l.drop z.toNat) r
def cutE (l : List (BitVec 8)) (ns : List Int) : Int := if ns.any (· < 0) then 1 else if cutS ns = l.length then 0 else 2
def cutV (l : List (BitVec 8)) (ns : List Int) : List (List (BitVec 8)) := if cutE l ns = 0 then cutP l ns else []
theorem cutP_length : ∀ (l : List (BitVec 8)) (ns : List Int), (cutP l ns).length = ns.length
  | _, [] => rfl
  | l, z :: r => by simp [cutP, cutP_length]
theorem cutV_length (l : List (BitVec 8)) (ns : List Int) : (cutV l ns).length ≤ ns.length := by
  unfold cutV
  split
  · rw [cutP_length]; omega
  · simp
theorem cutS_snoc (ns : List Int) (z : Int) : cutS (ns ++ [z]) = cutS ns + z.toNat := by simp [cutS]
theorem cutP_snoc : ∀ (l : List (BitVec 8)) (ns : List Int) (z : Int), cutP l (ns ++ [z]) = cutP l ns ++ [(l.drop (cutS ns)).take z.toNat]
  | l, [], z => by simp [cutP, cutS]
  | l, y :: r, z => by simp [cutP, cutS, cutP_snoc, List.drop_drop]
theorem cutS_take_le (ns : List Int) (i : Nat) : cutS (ns.take i) ≤ cutS ns := by
  have h : cutS ns = cutS (ns.take i) + cutS (ns.drop i) := by
    conv => lhs; rw [← List.take_append_drop i ns]
    simp only [cutS, List.map_append, List.sum_append]
  omega
theorem cutS_at {ns : List Int} {i : Nat} {z : Int} (h : ns[i]? = some z) : cutS (ns.take (i + 1)) = cutS (ns.take i) + z.toNat := by
  rw [List.take_add_one, h]; exact cutS_snoc _ _
theorem cutP_at {l : List (BitVec 8)} {ns : List Int} {i : Nat} {z : Int} (h : ns[i]? = some z) : cutP l (ns.take (i + 1)) = cutP l (ns.take i) ++ [(l.drop (cutS (ns.take i))).take z.toNat] := by
  rw [List.take_add_one, h]; exact cutP_snoc _ _ _
theorem cut_bad {l : List (BitVec 8)} {ns : List Int} (h : ns.any (· < 0) = true) : cutE l ns = 1 ∧ cutV l ns = [] := by
  have : cutE l ns = 1 := by simp only [cutE, h, if_true]
  exact ⟨this, by simp [cutV, this]⟩
theorem cut_off {l : List (BitVec 8)} {ns : List Int} (h : ns.any (· < 0) = false) (h2 : cutS ns ≠ l.length) : cutE l ns = 2 ∧ cutV l ns = [] := by
  have : cutE l ns = 2 := by simp [cutE, h, h2]
  exact ⟨this, by simp [cutV, this]⟩
theorem cut_ok {l : List (BitVec 8)} {ns : List Int} (h : ns.any (· < 0) = false) (h2 : cutS ns = l.length) : cutE l ns = 0 ∧ cutV l ns = cutP l ns := by
  have : cutE l ns = 0 := by simp [cutE, h, h2]
  exact ⟨this, by simp [cutV, this]⟩
theorem any_lt {ns : List Int} (h : ns.any (· < 0) = false) {i : Nat} {z : Int} (hz : ns[i]? = some z) : 0 ≤ z := by
  have := List.any_eq_false.1 h z (List.mem_of_getElem? hz)
  simp at this; omega
theorem flat_cutP : ∀ (l : List (BitVec 8)) (ns : List Int), (cutP l ns).flatten = l.take (cutS ns)
  | _, [] => by simp [cutP, cutS]
  | l, z :: r => by
    have e : cutS (z :: r) = z.toNat + cutS r := by simp [cutS]
    rw [cutP, List.flatten_cons, flat_cutP, e, List.take_add]
/-- Cut at their lengths, the lists joined are the lists. -/
theorem cutP_flat : ∀ (ls : List (List (BitVec 8))), cutP ls.flatten (ls.map fun l => (l.length : Int)) = ls
  | [] => rfl
  | l :: r => by simp [cutP, cutP_flat]
theorem cutS_flat (ls : List (List (BitVec 8))) : cutS (ls.map fun l => (l.length : Int)) = ls.flatten.length := by
  simp only [cutS, List.map_map, List.length_flatten]
  congr 1
theorem noNeg_flat (ls : List (List (BitVec 8))) : (ls.map fun l => (l.length : Int)).any (· < 0) = false := by
  rw [List.any_eq_false]
  intro z hz
  obtain ⟨l, _, rfl⟩ := List.mem_map.1 hz
  simp
def is (ns : List Int) : List Value := ns.map (.int .i64)
theorem is_get {ns : List Int} {i : Nat} {z : Int} (h : ns[i]? = some z) : (is ns)[i]? = some (.int .i64 z) := by simp [is, h]
theorem is_length (ns : List Int) : (is ns).length = ns.length := by simp [is]

end Go.Sx

/-
  Cutting bytes into pieces, of the codec and of its reference. At most 2^47 / 24 sizes.
-/
namespace Go.Sx
open Go Go.Proofs


end Go.Sx

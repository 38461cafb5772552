import Derived.Test.YtfbcmndhjoebbaaZdYA
set_option linter.unusedVariables false
set_option linter.unusedSimpArgs false
/-
  Lists of 32 bit words, and reading them out of bytes, the least first. No condition.
-/
namespace Go.Sx
open Go Go.Proofs

def ws (l : List (BitVec 32)) : List Value := l.map b32
theorem ws_length (l : List (BitVec 32)) : (ws l).length = l.length := by simp [ws]
theorem ws_get {l : List (BitVec 32)} {i : Nat} {x : BitVec 32} (h : l[i]? = some x) : (ws l)[i]? = some (b32 x) := by simp [ws, h]
theorem ws_load {m : List (BitVec 32)} {i : Nat} {x : BitVec 32} (h : m[i]? = some x) : (ws m).toArray[0 + i]? = some (b32 x) := by
  rw [Nat.zero_add, List.getElem?_toArray]; exact ws_get h
theorem ws_set (m : List (BitVec 32)) (i : Nat) (x : BitVec 32) : (ws m).set (0 + i) (b32 x) = ws (m.set i x) := by rw [Nat.zero_add]; simp [ws, List.map_set]
theorem bs_setW (m : List (BitVec 8)) (i : Nat) (x : BitVec 8) : (bs m).set (0 + i) (b8 x) = bs (m.set i x) := by rw [Nat.zero_add]; simp [bs, List.map_set]
theorem oneCell_ws (l : List (BitVec 32)) : ∀ u ∈ ws l, u.oneCell' = true := by
  intro u hu
  obtain ⟨x, _, rfl⟩ := List.mem_map.1 hu
  rfl

theorem all_ws (l : List (BitVec 32)) : (ws l).all (kindIs .u32) = true := by
  rw [List.all_eq_true]
  intro u hu
  obtain ⟨x, _, rfl⟩ := List.mem_map.1 hu
  rfl
theorem all_bs (l : List (BitVec 8)) : (bs l).all (kindIs .u8) = true := by
  rw [List.all_eq_true]
  intro u hu
  obtain ⟨x, _, rfl⟩ := List.mem_map.1 hu
  rfl

/-- The word that the first four bytes are. -/
def word4 (l : List (BitVec 8)) : BitVec 32 := (l.getD 0 0#8).setWidth 32 ||| (l.getD 1 0#8).setWidth 32 <<< 8 ||| (l.getD 2 0#8).setWidth 32 <<< 16 ||| (l.getD 3 0#8).setWidth 32 <<< 24
theorem setWidth_shl8 (x : BitVec 64) : (x <<< 8).setWidth 32 = x.setWidth 32 <<< 8 := by
  apply BitVec.eq_of_getLsbD_eq
  intro i hi
  simp only [BitVec.getLsbD_setWidth, BitVec.getLsbD_shiftLeft]
  by_cases h : i < 8
  · simp [h]
  · simp [h, hi, show i < 64 by omega, show i - 8 < 32 by omega]
/-- Horner's way. -/
theorem word4_horner (a b c d : BitVec 32) : ((((d <<< 8) ||| c) <<< 8 ||| b) <<< 8) ||| a = a ||| b <<< 8 ||| c <<< 16 ||| d <<< 24 := by
  have s2 : ∀ x : BitVec 32, (x <<< 8) <<< 8 = x <<< 16 := fun x => (BitVec.shiftLeft_add x 8 8).symm
  have s3 : ∀ x : BitVec 32, (x <<< 16) <<< 8 = x <<< 24 := fun x => (BitVec.shiftLeft_add x 16 8).symm
  have e1 : ((d <<< 8) ||| c) <<< 8 = d <<< 16 ||| c <<< 8 := by rw [BitVec.shiftLeft_or_distrib, s2]
  rw [e1, BitVec.shiftLeft_or_distrib, BitVec.shiftLeft_or_distrib, s3, s2]
  generalize d <<< 24 = x
  generalize c <<< 16 = y
  generalize b <<< 8 = z
  ac_rfl
theorem beV4 (a b c d : BitVec 8) : (beV [d, c, b, a]).setWidth 32 = word4 [a, b, c, d] := by
  have h8 : ∀ x : BitVec 8, (x.setWidth 64).setWidth 32 = x.setWidth 32 := fun x => BitVec.setWidth_setWidth_of_le x (by omega)
  simp only [beV, List.foldl_cons, List.foldl_nil, BitVec.setWidth_or, setWidth_shl8, h8]
  rw [show (0#64).setWidth 32 = 0#32 from rfl, BitVec.zero_shiftLeft, BitVec.zero_or, word4_horner]
  rfl
theorem word4_win {l : List (BitVec 8)} {i : Nat} (h : i + 4 ≤ l.length) : ∃ a b c d, win l i 4 = [a, b, c, d] ∧ word4 (l.drop i) = word4 [a, b, c, d] := by
  have hl := win_length h
  have hd : ∀ j, j < 4 → (win l i 4)[j]? = (l.drop i)[j]? := fun j hj => by rw [win_get hj, List.getElem?_drop]
  match hw : win l i 4, hl with
  | [a, b, c, d], _ =>
    rw [hw] at hd
    refine ⟨a, b, c, d, rfl, ?_⟩
    have h0 := hd 0 (by omega)
    have h1 := hd 1 (by omega)
    have h2 := hd 2 (by omega)
    have h3 := hd 3 (by omega)
    simp only [List.getElem?_cons_zero, List.getElem?_cons_succ] at h0 h1 h2 h3
    unfold word4
    simp only [List.getD, ← h0, ← h1, ← h2, ← h3]
    rfl
/-- The reference's way to read a word. -/
theorem getV_word {l : List (BitVec 8)} {i : Nat} (h : i + 4 ≤ l.length) : (getV 1 l (i : Int) 4).setWidth 32 = word4 (l.drop i) := by
  obtain ⟨a, b, c, d, hw, hw2⟩ := word4_win h
  have hE : getE 1 l.length (i : Int) 4 = 0 := by unfold getE; rw [if_neg (by omega), if_neg (by omega)]
  unfold getV
  rw [if_pos hE]
  have : win l ((i : Int)).toNat (4 : Int).toNat = [a, b, c, d] := hw
  rw [this, hw2]
  exact beV4 a b c d
/-- What has been filled in from the front. -/
def fillW {α : Type} (z : α) (full : List α) (k : Nat) : List α := full.take k ++ List.replicate (full.length - k) z
theorem fillW_length {α : Type} {z : α} {full : List α} {k : Nat} : (fillW z full k).length = full.length := by simp [fillW]; omega
theorem fillW_end {α : Type} (z : α) (full : List α) : fillW z full full.length = full := by simp [fillW]
theorem fillW_set {α : Type} {z : α} {full : List α} {k : Nat} {x : α} (h : full[k]? = some x) : (fillW z full k).set k x = fillW z full (k + 1) := by
  have hk := (List.getElem?_eq_some_iff.1 h).1
  apply List.ext_getElem?
  intro j
  rw [List.getElem?_set, fillW_length]
  unfold fillW
  by_cases hj : k = j
  · subst hj
    rw [if_pos rfl, if_pos hk, List.getElem?_append_left (by simp; omega), List.getElem?_take, if_pos (by omega), h]
  · rw [if_neg hj]
    by_cases hlt : j < k
    · rw [List.getElem?_append_left (by simp; omega), List.getElem?_append_left (by simp; omega), List.getElem?_take, List.getElem?_take, if_pos hlt, if_pos (by omega)]
    · rw [List.getElem?_append_right (by simp; omega), List.getElem?_append_right (by simp; omega), List.length_take, List.length_take, List.getElem?_replicate, List.getElem?_replicate]
      by_cases hz : j < full.length
      · rw [if_pos (by omega), if_pos (by omega)]
      · rw [if_neg (by omega), if_neg (by omega)]
end Go.Sx

/-
  bits.RotateLeft32. The number of places is 1 to 31.
-/
namespace Go.Sx
open Go Go.Proofs

def rotL (x : BitVec 32) (k : Nat) : BitVec 32 := x <<< k ||| x >>> (32 - k)
end Go.Sx

/-
  Writing a number as bytes: the codec's way, its reference's way, and that it is read back. The order is 1 or 2, the width 1 to 8.
-/
namespace Go.Sx
open Go Go.Proofs

def putW (n : BitVec 64) (z : Nat) : List (BitVec 8) := (List.range z).map fun i => (n >>> (8 * i)).setWidth 8
def putE (o z : Int) (n : BitVec 64) : Int := if ¬ ShapeOk o z then 1 else if n >>> (8 * z.toNat) ≠ 0#64 then 2 else 0
def putL (o z : Int) (n : BitVec 64) : List (BitVec 8) := if putE o z n = 0 then (if o = 2 then (putW n z.toNat).reverse else putW n z.toNat) else []
def putAt (n : BitVec 64) (z i : Nat) : List (BitVec 8) := (putW n z).take i ++ List.replicate (z - i) 0#8

theorem putW_length (n : BitVec 64) (z : Nat) : (putW n z).length = z := by simp [putW]
theorem putW_get {n : BitVec 64} {z i : Nat} (h : i < z) : (putW n z)[i]? = some ((n >>> (8 * i)).setWidth 8) := by simp [putW, h]
theorem putAt_length {n : BitVec 64} {z i : Nat} (h : i ≤ z) : (putAt n z i).length = z := by simp [putAt, putW_length]; omega
theorem putAt_end (n : BitVec 64) (z : Nat) : putAt n z z = putW n z := by
  unfold putAt
  rw [List.take_of_length_le (by rw [putW_length]; exact Nat.le_refl _)]; simp
theorem putAt_set {n : BitVec 64} {z i : Nat} (h : i < z) : (putAt n z i).set i ((n >>> (8 * i)).setWidth 8) = putAt n z (i + 1) := by
  apply List.ext_getElem?
  intro j
  have hl := putW_length n z
  rw [get_set _ _ _ _ (by rw [putAt_length (by omega)]; exact h)]
  unfold putAt
  by_cases hj : i = j
  · subst hj
    rw [if_pos rfl, List.getElem?_append_left (by simp [hl]; omega), List.getElem?_take, if_pos (by omega), putW_get h]
  · rw [if_neg hj]
    by_cases hlt : j < i
    · rw [List.getElem?_append_left (by simp [hl]; omega), List.getElem?_append_left (by simp [hl]; omega), List.getElem?_take, List.getElem?_take, if_pos hlt, if_pos (by omega)]
    · rw [List.getElem?_append_right (by simp [hl]; omega), List.getElem?_append_right (by simp [hl]; omega), List.length_take, List.length_take, hl, List.getElem?_replicate, List.getElem?_replicate]
      by_cases hz : j < z
      · rw [if_pos (by omega), if_pos (by omega)]
      · rw [if_neg (by omega), if_neg (by omega)]

theorem rev_set (m : List (BitVec 8)) (i : Nat) (x : BitVec 8) (h : i < m.length) : m.reverse.set (m.length - 1 - i) x = (m.set i x).reverse := by
  apply List.ext_getElem?
  intro j
  rw [get_set _ _ _ _ (by simp; omega)]
  by_cases hj : j < m.length
  · rw [List.getElem?_reverse hj, List.getElem?_reverse (by simpa using hj), List.length_set, get_set _ _ _ _ h]
    by_cases e : m.length - 1 - i = j
    · rw [if_pos e, if_pos (by omega)]
    · rw [if_neg e, if_neg (by omega)]
  · rw [if_neg (by omega), List.getElem?_eq_none (by simp; omega), List.getElem?_eq_none (by simp; omega)]

theorem shr_add (n : BitVec 64) (i : Nat) : (n >>> (8 * i)) / 256#64 = n >>> (8 * (i + 1)) := by
  apply BitVec.eq_of_toNat_eq
  rw [BitVec.toNat_udiv, BitVec.toNat_ushiftRight, BitVec.toNat_ushiftRight, Nat.shiftRight_eq_div_pow, Nat.shiftRight_eq_div_pow, show (256#64).toNat = 2 ^ 8 from rfl, Nat.div_div_eq_div_mul, ← Nat.pow_add]
  congr 2
theorem rem_low (n : BitVec 64) : (n % 256#64).setWidth 8 = n.setWidth 8 := by
  apply BitVec.eq_of_toNat_eq
  rw [BitVec.toNat_setWidth, BitVec.toNat_setWidth, BitVec.toNat_umod, show (256#64).toNat = 2 ^ 8 from rfl, Nat.mod_mod]

theorem Put_b (w : World) (o z : Int) (n : BitVec 64) :
    Spec Try.prog 105 #[.int .i64 o, .int .i64 z, b64 n] w (σ := Ow) (fun _ => True) (fun x => .tuple #[x.sl (putL o z n).length, .int .i64 (putE o z n)]) Nob (fun x => [x.ck 5 1 (bs (putL o z n))]) := by
  refine enter Try.func105 rfl rfl (Mem.start w) ?_
  (repeat refine g_seq ?_)
  refine g_region ?_
  refine g_pu rfl rfl rfl (pu_assign rfl rfl) ?_
  refine g_pu rfl rfl rfl (pu_assign rfl rfl) ?_
  refine g_nil ?_
  (repeat refine g_seq ?_)
  refine g_region ?_
  refine g_pu rfl rfl rfl (pu_move rfl rfl) ?_
  refine g_pu rfl rfl rfl (pu_move rfl rfl) ?_
  refine g_call [] rfl rfl rfl rfl rfl rfl (fun w' hm => shape_b w' o z) (fun _ _ => ?_)
  refine g_pu rfl rfl rfl (pu_assign rfl rfl) ?_
  refine g_nil ?_
  have hnil : ∀ q, putE o z n = q → q ≠ 0 → putL o z n = [] := fun q hq h0 => by unfold putL; rw [if_neg (by omega)]
  by_cases hs : ShapeOk o z
  · rw [if_pos hs]
    have hz := hs.2
    obtain ⟨z, rfl⟩ := Int.eq_ofNat_of_zero_le (show 0 ≤ z by omega)
    (repeat refine g_seq ?_)
    refine g_region ?_
    refine g_pu rfl rfl rfl (pu_move rfl rfl) ?_
    first | refine g_pu rfl rfl rfl (pu_neq_t rfl rfl rfl (by omega)) ?_ | refine g_pu rfl rfl rfl (pu_neq_f rfl rfl rfl (by omega)) ?_ | refine g_pu rfl rfl rfl (pu_neq rfl rfl rfl) ?_
    refine g_nil ?_
    (repeat refine g_seq ?_)
    refine g_cond_f rfl (g_skip ?_)
    by_cases hq : n >>> ((8 : Int) * (z : Int)).toNat = 0#64
    · have hq2 : n >>> (8 * z) = 0#64 := by rw [show ((8 : Int) * (z : Int)).toNat = 8 * z by omega] at hq; exact hq
      have hE : putE o z n = 0 := by unfold putE; rw [if_neg (fun h => h hs), if_neg (fun h => h hq2)]
      have hL : putL o z n = if o = 2 then (putW n z).reverse else putW n z := by unfold putL; rw [if_pos hE]; rfl
      have hlen : (putL o z n).length = z := by rw [hL]; split <;> simp [putW_length]
      rw [hE, hlen]
      refine g_seq ?_
      refine g_join (σ := Unit) (fun _ => [(0, .int .i64 o), (1, .int .i64 (z : Int)), (2, b64 n)]) (fun _ => []) (fun _ => True) ?_ (fun _ _ => ?_)
      · by_cases h8 : z < 8
        · (repeat refine g_seq ?_)
          refine g_region ?_
          refine g_pu rfl rfl rfl (pu_move rfl rfl) ?_
          first | refine g_pu rfl rfl rfl (pu_lss_t rfl rfl rfl (by omega)) ?_ | refine g_pu rfl rfl rfl (pu_lss_f rfl rfl rfl (by omega)) ?_ | refine g_pu rfl rfl rfl (pu_lss rfl rfl rfl) ?_
          refine g_pu rfl rfl rfl (pu_move rfl rfl) ?_
          first | refine g_pass rfl rfl rfl ?_ | refine g_pu rfl rfl rfl (pu_move rfl rfl) ?_
          first | refine g_pass rfl rfl rfl ?_ | refine g_pu rfl rfl rfl (pu_move rfl rfl) ?_
          first | refine g_pass rfl rfl rfl ?_ | refine g_pu rfl rfl rfl (pu_mulI rfl rfl rfl (by omega)) ?_
          first | refine g_pass rfl rfl rfl ?_ | refine g_pu rfl rfl rfl (pu_shr64 rfl rfl rfl (by omega)) ?_
          first | refine g_pass rfl rfl rfl ?_ | refine g_pu rfl rfl rfl (pu_neq64_t (b := 0#64) rfl rfl rfl (by first | assumption | decide)) ?_ | refine g_pu rfl rfl rfl (pu_neq64_f (b := 0#64) rfl rfl rfl (by first | rfl | assumption | decide)) ?_ | refine g_pu rfl rfl rfl (pu_neq64 (b := 0#64) rfl rfl rfl) ?_
          first | refine g_pu rfl rfl rfl (pu_pick_t rfl rfl rfl) ?_ | refine g_pu rfl rfl rfl (pu_pick_f rfl rfl rfl) ?_
          refine g_nil ?_
          (repeat refine g_seq ?_)
          refine g_cond_f rfl (g_skip ?_)
          exact g_meet () trivial ⟨rfl, rfl, rfl, trivial⟩ trivial
        · (repeat refine g_seq ?_)
          refine g_region ?_
          refine g_pu rfl rfl rfl (pu_move rfl rfl) ?_
          first | refine g_pu rfl rfl rfl (pu_lss_t rfl rfl rfl (by omega)) ?_ | refine g_pu rfl rfl rfl (pu_lss_f rfl rfl rfl (by omega)) ?_ | refine g_pu rfl rfl rfl (pu_lss rfl rfl rfl) ?_
          refine g_pu rfl rfl rfl (pu_move rfl rfl) ?_
          first | refine g_pass rfl rfl rfl ?_ | refine g_pu rfl rfl rfl (pu_move rfl rfl) ?_
          first | refine g_pass rfl rfl rfl ?_ | refine g_pu rfl rfl rfl (pu_move rfl rfl) ?_
          first | refine g_pass rfl rfl rfl ?_ | refine g_pu rfl rfl rfl (pu_mulI rfl rfl rfl (by omega)) ?_
          first | refine g_pass rfl rfl rfl ?_ | refine g_pu rfl rfl rfl (pu_shr64 rfl rfl rfl (by omega)) ?_
          first | refine g_pass rfl rfl rfl ?_ | refine g_pu rfl rfl rfl (pu_neq64_t (b := 0#64) rfl rfl rfl (by first | assumption | decide)) ?_ | refine g_pu rfl rfl rfl (pu_neq64_f (b := 0#64) rfl rfl rfl (by first | rfl | assumption | decide)) ?_ | refine g_pu rfl rfl rfl (pu_neq64 (b := 0#64) rfl rfl rfl) ?_
          first | refine g_pu rfl rfl rfl (pu_pick_t rfl rfl rfl) ?_ | refine g_pu rfl rfl rfl (pu_pick_f rfl rfl rfl) ?_
          refine g_nil ?_
          (repeat refine g_seq ?_)
          refine g_cond_f rfl (g_skip ?_)
          exact g_meet () trivial ⟨rfl, rfl, rfl, trivial⟩ trivial
      · (repeat refine g_seq ?_)
        refine g_region ?_
        refine g_pu rfl rfl rfl (pu_move rfl rfl) ?_
        refine g_lo [27] rfl rfl rfl rfl (lo_make (n := z) (c := z) rfl rfl rfl (by omega) (by omega) (by omega) rfl) (fun b27 hb27 => ?_)
        refine g_pu rfl rfl rfl (pu_assign rfl rfl) ?_
        refine g_nil ?_
        (repeat refine g_seq ?_)
        refine g_region ?_
        refine g_pu rfl rfl rfl (pu_move rfl rfl) ?_
        first | refine g_pu rfl rfl rfl (pu_len rfl rfl) ?_ | refine g_pu rfl rfl rfl (pu_lenS rfl rfl) ?_
        refine g_pu rfl rfl rfl (pu_move rfl rfl) ?_
        refine g_nil ?_
        refine g_block (g_loop (σ := Nat) (fun i => [(0, .int .i64 o), (2, b64 n), (9, .slice (some ⟨b27, 0, none⟩) z z), (29, .int .i64 (z : Int)), (30, .int .i64 (i : Int))]) (fun i => [(27, .pt b27 (.cells (bs (putAt n z i)).toArray 5 (0, 0)))]) (fun i => i ≤ z) (fun i => z - i) 0 ⟨rfl, rfl, rfl, rfl, rfl, trivial⟩ ⟨by rw [show bs (putAt n z 0) = List.replicate z (b8 0#8) by simp [bs, putAt]]; rfl, trivial⟩ (by omega) ?_)
        intro i hi
        by_cases hlt : i < z
        · (repeat refine g_seq ?_)
          refine g_region ?_
          first | refine g_pu rfl rfl rfl (pu_lss_t rfl rfl rfl (by omega)) ?_ | refine g_pu rfl rfl rfl (pu_lss_f rfl rfl rfl (by omega)) ?_ | refine g_pu rfl rfl rfl (pu_lss rfl rfl rfl) ?_
          refine g_nil ?_
          (repeat refine g_seq ?_)
          refine g_cond_t rfl (g_skip ?_)
          (repeat refine g_seq ?_); refine g_block ?_
          (repeat refine g_seq ?_)
          refine g_region ?_
          refine g_pu rfl rfl rfl (pu_move rfl rfl) ?_
          refine g_pu rfl rfl rfl (pu_assign rfl rfl) ?_
          refine g_nil ?_
          (repeat refine g_seq ?_)
          refine g_region ?_
          refine g_pu rfl rfl rfl (pu_move rfl rfl) ?_
          refine g_pu rfl rfl rfl (pu_move rfl rfl) ?_
          refine g_pu rfl rfl rfl (pu_move rfl rfl) ?_
          refine g_pu rfl rfl rfl (pu_move rfl rfl) ?_
          refine g_pu rfl rfl rfl (pu_mulI rfl rfl rfl (by omega)) ?_
          refine g_pu rfl rfl rfl (pu_shr64 rfl rfl rfl (by omega)) ?_
          refine g_pu rfl rfl rfl (pu_conv64_8 rfl rfl) ?_
          refine g_pu rfl rfl rfl (pu_at1 i rfl rfl rfl rfl hlt) ?_
          refine g_store 27 (v := b8 ((n >>> ((8 : Int) * (i : Int)).toNat).setWidth 8)) rfl rfl rfl rfl rfl rfl rfl (by rw [bs_length, putAt_length hi]; omega) ?_
          refine g_nil ?_
          refine g_blk ?_
          (repeat refine g_seq ?_)
          refine g_region ?_
          refine g_pu rfl rfl rfl (pu_addI rfl rfl rfl (by omega)) ?_
          refine g_pu rfl rfl rfl (pu_move rfl rfl) ?_
          refine g_nil ?_
          have hset : (bs (putAt n z i)).set (0 + i) (b8 ((n >>> ((8 : Int) * (i : Int)).toNat).setWidth 8)) = bs (putAt n z (i + 1)) := by
            rw [← putAt_set hlt, show ((8 : Int) * (i : Int)).toNat = 8 * i by omega, Nat.zero_add]
            simp [bs, List.map_set]
          exact g_round (i + 1) (by omega) (by omega) ⟨rfl, rfl, rfl, rfl, rfl, trivial⟩ ⟨by rw [← hset]; rfl, trivial⟩
        · (repeat refine g_seq ?_)
          refine g_region ?_
          first | refine g_pu rfl rfl rfl (pu_lss_t rfl rfl rfl (by omega)) ?_ | refine g_pu rfl rfl rfl (pu_lss_f rfl rfl rfl (by omega)) ?_ | refine g_pu rfl rfl rfl (pu_lss rfl rfl rfl) ?_
          refine g_nil ?_
          (repeat refine g_seq ?_)
          refine g_cond_f rfl (g_exit rfl ?_)
          have e : i = z := by omega
          subst e
          rw [putAt_end]
          refine g_own 27 (L := bs (putW n i)) (J := []) (c := i) (s := 1) (by rw [List.append_nil]; rfl) (by simp [bs_length, putW_length]) (by omega) ?_
          refine g_seq ?_
          refine g_join (σ := Unit) (fun _ => [(9, .slice (some ⟨b27, 0, none⟩) i i)]) (fun _ => [(27, .fact (At (some ⟨b27, 0, none⟩)) (Own 5 1 (some ⟨b27, 0, none⟩) i (bs (putL o i n))))]) (fun _ => True) ?_ (fun _ _ => ?_)
          · by_cases ho : o = 2
            · (repeat refine g_seq ?_)
              refine g_region ?_
              refine g_pu rfl rfl rfl (pu_move rfl rfl) ?_
              first | refine g_pu rfl rfl rfl (pu_eql_t rfl rfl rfl (by omega)) ?_ | refine g_pu rfl rfl rfl (pu_eql_f rfl rfl rfl (by omega)) ?_ | refine g_pu rfl rfl rfl (pu_eql rfl rfl rfl) ?_
              refine g_nil ?_
              (repeat refine g_seq ?_)
              refine g_cond_t rfl ?_
              (repeat refine g_seq ?_)
              refine g_region ?_
              refine g_pu rfl rfl rfl (pu_move rfl rfl) ?_
              refine g_callW [27] [27] rfl rfl rfl rfl rfl rfl (fun j hj => ⟨27, by simp, _, rfl, hj⟩) (fun w' hm => Reverse_b w' ⟨some ⟨b27, 0, none⟩, i⟩ (hm.holds 27 _ rfl) (hm.below 27 _ rfl) (putW_length n i) (by omega)) (fun _ _ => ?_)
              refine g_nil ?_
              exact g_meet () trivial ⟨rfl, trivial⟩ ⟨by rw [hL, if_pos ho]; rfl, trivial⟩
            · (repeat refine g_seq ?_)
              refine g_region ?_
              refine g_pu rfl rfl rfl (pu_move rfl rfl) ?_
              first | refine g_pu rfl rfl rfl (pu_eql_t rfl rfl rfl (by omega)) ?_ | refine g_pu rfl rfl rfl (pu_eql_f rfl rfl rfl (by omega)) ?_ | refine g_pu rfl rfl rfl (pu_eql rfl rfl rfl) ?_
              refine g_nil ?_
              (repeat refine g_seq ?_)
              refine g_cond_f rfl (g_skip ?_)
              exact g_meet () trivial ⟨rfl, trivial⟩ ⟨by rw [hL, if_neg ho]; rfl, trivial⟩
          · (repeat refine g_seq ?_)
            refine g_region ?_
            refine g_pu rfl rfl rfl (pu_move rfl rfl) ?_
            refine g_pu rfl rfl rfl (pu_assign rfl rfl) ?_
            refine g_pu rfl rfl rfl (pu_assign rfl rfl) ?_
            refine g_nil ?_
            exact g_ret2 rfl rfl rfl (fun w' hm => ⟨⟨some ⟨b27, 0, none⟩, i⟩, trivial, rfl, hm.grows [27] ⟨rfl, trivial⟩ rfl⟩)
    · have hq2 : ¬ n >>> (8 * z) = 0#64 := by rw [show ((8 : Int) * (z : Int)).toNat = 8 * z by omega] at hq; exact hq
      have h8 : z < 8 := by
        rcases Nat.lt_or_ge z 8 with h | h
        · exact h
        · exfalso
          apply hq2
          apply BitVec.eq_of_getLsbD_eq
          intro i hi
          simp [BitVec.getLsbD_of_ge n (8 * z + i) (by omega)]
      have hE : putE o z n = 2 := by unfold putE; rw [if_neg (fun h => h hs), if_pos (show n >>> (8 * ((z : Int)).toNat) ≠ 0#64 from hq2)]
      rw [hnil 2 hE (by omega), hE]
      (repeat refine g_seq ?_)
      refine g_region ?_
      refine g_pu rfl rfl rfl (pu_move rfl rfl) ?_
      first | refine g_pu rfl rfl rfl (pu_lss_t rfl rfl rfl (by omega)) ?_ | refine g_pu rfl rfl rfl (pu_lss_f rfl rfl rfl (by omega)) ?_ | refine g_pu rfl rfl rfl (pu_lss rfl rfl rfl) ?_
      refine g_pu rfl rfl rfl (pu_move rfl rfl) ?_
      first | refine g_pass rfl rfl rfl ?_ | refine g_pu rfl rfl rfl (pu_move rfl rfl) ?_
      first | refine g_pass rfl rfl rfl ?_ | refine g_pu rfl rfl rfl (pu_move rfl rfl) ?_
      first | refine g_pass rfl rfl rfl ?_ | refine g_pu rfl rfl rfl (pu_mulI rfl rfl rfl (by omega)) ?_
      first | refine g_pass rfl rfl rfl ?_ | refine g_pu rfl rfl rfl (pu_shr64 rfl rfl rfl (by omega)) ?_
      first | refine g_pass rfl rfl rfl ?_ | refine g_pu rfl rfl rfl (pu_neq64_t (b := 0#64) rfl rfl rfl (by first | assumption | decide)) ?_ | refine g_pu rfl rfl rfl (pu_neq64_f (b := 0#64) rfl rfl rfl (by first | rfl | assumption | decide)) ?_ | refine g_pu rfl rfl rfl (pu_neq64 (b := 0#64) rfl rfl rfl) ?_
      first | refine g_pu rfl rfl rfl (pu_pick_t rfl rfl rfl) ?_ | refine g_pu rfl rfl rfl (pu_pick_f rfl rfl rfl) ?_
      refine g_nil ?_
      (repeat refine g_seq ?_)
      refine g_cond_t rfl ?_
      (repeat refine g_seq ?_)
      refine g_region ?_
      refine g_pu rfl rfl rfl (pu_assign rfl rfl) ?_
      refine g_pu rfl rfl rfl (pu_assign rfl rfl) ?_
      refine g_nil ?_
      exact g_nilOwn 90 5 1 rfl (g_ret2 rfl rfl rfl (fun w' hm => ⟨⟨none, 0⟩, trivial, rfl, hm.grows [90] ⟨rfl, trivial⟩ rfl⟩))
  · rw [if_neg hs]
    have hE : putE o z n = 1 := by unfold putE; rw [if_pos hs]
    rw [hnil 1 hE (by omega), hE]
    (repeat refine g_seq ?_)
    refine g_region ?_
    refine g_pu rfl rfl rfl (pu_move rfl rfl) ?_
    first | refine g_pu rfl rfl rfl (pu_neq_t rfl rfl rfl (by omega)) ?_ | refine g_pu rfl rfl rfl (pu_neq_f rfl rfl rfl (by omega)) ?_ | refine g_pu rfl rfl rfl (pu_neq rfl rfl rfl) ?_
    refine g_nil ?_
    (repeat refine g_seq ?_)
    refine g_cond_t rfl ?_
    (repeat refine g_seq ?_)
    refine g_region ?_
    refine g_pu rfl rfl rfl (pu_move rfl rfl) ?_
    refine g_pu rfl rfl rfl (pu_assign rfl rfl) ?_
    refine g_pu rfl rfl rfl (pu_assign rfl rfl) ?_
    refine g_nil ?_
    exact g_nilOwn 90 5 1 rfl (g_ret2 rfl rfl rfl (fun w' hm => ⟨⟨none, 0⟩, trivial, rfl, hm.grows [90] ⟨rfl, trivial⟩ rfl⟩))
end Go.Sx

/-
  The reference's way to write a number as bytes; what is written is read back. The order is 1 or 2, the width 1 to 8.
-/
namespace Go.Sx
open Go Go.Proofs

def rowR (o : Int) (n : BitVec 64) (z i : Nat) : List (BitVec 8) := if o = 2 then (putAt n z i).reverse else putAt n z i
theorem rowR_length {o : Int} {n : BitVec 64} {z i : Nat} (h : i ≤ z) : (rowR o n z i).length = z := by unfold rowR; split <;> simp [putAt_length h]
theorem rowR_set {o : Int} {n : BitVec 64} {z i : Nat} (h : i < z) : (rowR o n z i).set (if o = 2 then z - 1 - i else i) ((n >>> (8 * i)).setWidth 8) = rowR o n z (i + 1) := by
  unfold rowR
  by_cases ho : o = 2
  · rw [if_pos ho, if_pos ho, if_pos ho]
    have := rev_set (putAt n z i) i ((n >>> (8 * i)).setWidth 8) (by rw [putAt_length (by omega)]; exact h)
    rw [putAt_length (by omega)] at this
    rw [this, putAt_set h]
  · rw [if_neg ho, if_neg ho, if_neg ho, putAt_set h]

theorem RPut_b (w : World) (o z : Int) (n : BitVec 64) :
    Spec Try.prog 91 #[.int .i64 o, .int .i64 z, b64 n] w (σ := Ow) (fun _ => True) (fun x => .tuple #[x.sl (putL o z n).length, .int .i64 (putE o z n)]) Nob (fun x => [x.ck 5 1 (bs (putL o z n))]) := by
  refine enter Try.func91 rfl rfl (Mem.start w) ?_
  (repeat refine g_seq ?_)
  refine g_region ?_
  refine g_pu rfl rfl rfl (pu_assign rfl rfl) ?_
  refine g_pu rfl rfl rfl (pu_assign rfl rfl) ?_
  refine g_nil ?_
  have hnil : ∀ q, putE o z n = q → q ≠ 0 → putL o z n = [] := fun q hq h0 => by unfold putL; rw [if_neg (by omega)]
  by_cases hs : ShapeOk o z
  · have hz := hs.2
    obtain ⟨z, rfl⟩ := Int.eq_ofNat_of_zero_le (show 0 ≤ z by omega)
    (repeat refine g_seq ?_)
    refine g_region ?_
    refine g_pu rfl rfl rfl (pu_move rfl rfl) ?_
    refine g_pu rfl rfl rfl (pu_move rfl rfl) ?_
    refine g_call [] rfl rfl rfl rfl rfl rfl (fun w' hm => rshape_b w' o z) (fun _ _ => ?_)
    refine g_as (t := 13) (u := .bool true) rfl (by rw [decide_eq_true hs]) rfl ?_
    refine g_pu rfl rfl rfl (pu_not rfl rfl) ?_
    refine g_nil ?_
    (repeat refine g_seq ?_)
    refine g_cond_f rfl (g_skip ?_)
    (repeat refine g_seq ?_)
    refine g_region ?_
    refine g_pu rfl rfl rfl (pu_move rfl rfl) ?_
    refine g_lo [16] rfl rfl rfl rfl (lo_make (n := z) (c := z) rfl rfl rfl (by omega) (by omega) (by omega) rfl) (fun b16 hb16 => ?_)
    refine g_pu rfl rfl rfl (pu_assign rfl rfl) ?_
    refine g_nil ?_
    (repeat refine g_seq ?_)
    refine g_region ?_
    refine g_pu rfl rfl rfl (pu_assign rfl rfl) ?_
    refine g_nil ?_
    refine g_block (g_loop (σ := Nat) (fun i => [(0, .int .i64 o), (1, .int .i64 (z : Int)), (2, b64 (n >>> (8 * i))), (8, .slice (some ⟨b16, 0, none⟩) z z), (9, .int .i64 (i : Int))]) (fun i => [(16, .pt b16 (.cells (bs (rowR o n z i)).toArray 5 (0, 0)))]) (fun i => i ≤ z) (fun i => z - i) 0 ⟨rfl, rfl, by simp; rfl, rfl, rfl, trivial⟩ ⟨by rw [show bs (rowR o n z 0) = List.replicate z (b8 0#8) by unfold rowR; split <;> simp [bs, putAt]]; rfl, trivial⟩ (by omega) ?_)
    intro i hi
    by_cases hlt : i < z
    · (repeat refine g_seq ?_)
      refine g_region ?_
      refine g_pu rfl rfl rfl (pu_move rfl rfl) ?_
      refine g_pu rfl rfl rfl (pu_move rfl rfl) ?_
      first | refine g_pu rfl rfl rfl (pu_lss_t rfl rfl rfl (by omega)) ?_ | refine g_pu rfl rfl rfl (pu_lss_f rfl rfl rfl (by omega)) ?_ | refine g_pu rfl rfl rfl (pu_lss rfl rfl rfl) ?_
      refine g_nil ?_
      (repeat refine g_seq ?_)
      refine g_cond_t rfl (g_skip ?_)
      (repeat refine g_seq ?_); refine g_block ?_
      (repeat refine g_seq ?_)
      refine g_region ?_
      refine g_pu rfl rfl rfl (pu_move rfl rfl) ?_
      refine g_pu rfl rfl rfl (pu_assign rfl rfl) ?_
      refine g_nil ?_
      refine g_seq ?_
      refine g_join (σ := Int) (fun k => [(0, .int .i64 o), (1, .int .i64 (z : Int)), (2, b64 (n >>> (8 * i))), (8, .slice (some ⟨b16, 0, none⟩) z z), (9, .int .i64 (i : Int)), (10, .int .i64 k)]) (fun _ => [(16, .pt b16 (.cells (bs (rowR o n z i)).toArray 5 (0, 0)))]) (fun k => k = ((if o = 2 then z - 1 - i else i : Nat) : Int)) ?_ (fun k hk => ?_)
      · by_cases ho : o = 2
        · (repeat refine g_seq ?_)
          refine g_region ?_
          refine g_pu rfl rfl rfl (pu_move rfl rfl) ?_
          first | refine g_pu rfl rfl rfl (pu_eql_t rfl rfl rfl (by omega)) ?_ | refine g_pu rfl rfl rfl (pu_eql_f rfl rfl rfl (by omega)) ?_ | refine g_pu rfl rfl rfl (pu_eql rfl rfl rfl) ?_
          refine g_nil ?_
          (repeat refine g_seq ?_)
          refine g_cond_t rfl ?_
          (repeat refine g_seq ?_)
          refine g_region ?_
          refine g_pu rfl rfl rfl (pu_move rfl rfl) ?_
          refine g_pu rfl rfl rfl (pu_subI rfl rfl rfl (by omega)) ?_
          refine g_pu rfl rfl rfl (pu_move rfl rfl) ?_
          refine g_pu rfl rfl rfl (pu_subI rfl rfl rfl (by omega)) ?_
          refine g_pu rfl rfl rfl (pu_assign rfl rfl) ?_
          refine g_nil ?_
          exact g_meet _ (by rw [if_pos ho]; omega) ⟨rfl, rfl, rfl, rfl, rfl, rfl, trivial⟩ ⟨rfl, trivial⟩
        · (repeat refine g_seq ?_)
          refine g_region ?_
          refine g_pu rfl rfl rfl (pu_move rfl rfl) ?_
          first | refine g_pu rfl rfl rfl (pu_eql_t rfl rfl rfl (by omega)) ?_ | refine g_pu rfl rfl rfl (pu_eql_f rfl rfl rfl (by omega)) ?_ | refine g_pu rfl rfl rfl (pu_eql rfl rfl rfl) ?_
          refine g_nil ?_
          (repeat refine g_seq ?_)
          refine g_cond_f rfl (g_skip ?_)
          exact g_meet _ (by rw [if_neg ho]) ⟨rfl, rfl, rfl, rfl, rfl, rfl, trivial⟩ ⟨rfl, trivial⟩
      · have hset := rowR_set (o := o) (n := n) hlt
        have hat : (if o = 2 then z - 1 - i else i) < z := by split <;> omega
        generalize (if o = 2 then z - 1 - i else i) = j at hk hset hat
        (repeat refine g_seq ?_)
        refine g_region ?_
        refine g_pu rfl rfl rfl (pu_move rfl rfl) ?_
        refine g_pu rfl rfl rfl (pu_move rfl rfl) ?_
        refine g_pu rfl rfl rfl (pu_move rfl rfl) ?_
        refine g_pu rfl rfl rfl (pu_rem64 (b := 256#64) rfl rfl rfl (by first | decide | assumption)) ?_
        refine g_pu rfl rfl rfl (pu_conv64_8 rfl rfl) ?_
        refine g_pu rfl rfl rfl (pu_at1 j rfl rfl rfl hk hat) ?_
        refine g_store 16 (v := b8 ((n >>> (8 * i) % 256#64).setWidth 8)) rfl rfl rfl rfl rfl rfl rfl (by rw [bs_length, rowR_length hi]; omega) ?_
        rw [rem_low, show (bs (rowR o n z i)).set (0 + j) (b8 ((n >>> (8 * i)).setWidth 8)) = bs (rowR o n z (i + 1)) by rw [← hset, Nat.zero_add]; simp [bs, List.map_set]]
        refine g_nil ?_
        (repeat refine g_seq ?_)
        refine g_region ?_
        refine g_pu rfl rfl rfl (pu_move rfl rfl) ?_
        refine g_pu rfl rfl rfl (pu_quo64 (b := 256#64) rfl rfl rfl (by first | decide | assumption)) ?_
        refine g_pu rfl rfl rfl (pu_assign rfl rfl) ?_
        refine g_nil ?_
        refine g_blk ?_
        (repeat refine g_seq ?_)
        refine g_region ?_
        refine g_pu rfl rfl rfl (pu_move rfl rfl) ?_
        refine g_pu rfl rfl rfl (pu_addI rfl rfl rfl (by omega)) ?_
        refine g_pu rfl rfl rfl (pu_assign rfl rfl) ?_
        refine g_nil ?_
        exact g_round (i + 1) (by omega) (by omega) ⟨rfl, rfl, by rw [← shr_add]; rfl, rfl, rfl, trivial⟩ ⟨rfl, trivial⟩
    · (repeat refine g_seq ?_)
      refine g_region ?_
      refine g_pu rfl rfl rfl (pu_move rfl rfl) ?_
      refine g_pu rfl rfl rfl (pu_move rfl rfl) ?_
      first | refine g_pu rfl rfl rfl (pu_lss_t rfl rfl rfl (by omega)) ?_ | refine g_pu rfl rfl rfl (pu_lss_f rfl rfl rfl (by omega)) ?_ | refine g_pu rfl rfl rfl (pu_lss rfl rfl rfl) ?_
      refine g_nil ?_
      (repeat refine g_seq ?_)
      refine g_cond_f rfl (g_exit rfl ?_)
      have e : i = z := by omega
      subst e
      by_cases hq : n >>> (8 * i) = 0#64
      · have hE : putE o i n = 0 := by unfold putE; rw [if_neg (fun h => h hs), if_neg (fun h => h (show n >>> (8 * ((i : Int)).toNat) = 0#64 from hq))]
        have hL : putL o i n = rowR o n i i := by unfold putL rowR; rw [if_pos hE, putAt_end]; rfl
        have hlen : (putL o i n).length = i := by rw [hL, rowR_length (Nat.le_refl _)]
        rw [hE, hlen]
        (repeat refine g_seq ?_)
        refine g_region ?_
        refine g_pu rfl rfl rfl (pu_move rfl rfl) ?_
        first | refine g_pu rfl rfl rfl (pu_neq64_t (b := 0#64) rfl rfl rfl (by first | assumption | decide)) ?_ | refine g_pu rfl rfl rfl (pu_neq64_f (b := 0#64) rfl rfl rfl (by first | rfl | assumption | decide)) ?_ | refine g_pu rfl rfl rfl (pu_neq64 (b := 0#64) rfl rfl rfl) ?_
        refine g_nil ?_
        (repeat refine g_seq ?_)
        refine g_cond_f rfl (g_skip ?_)
        (repeat refine g_seq ?_)
        refine g_region ?_
        refine g_pu rfl rfl rfl (pu_move rfl rfl) ?_
        refine g_pu rfl rfl rfl (pu_assign rfl rfl) ?_
        refine g_pu rfl rfl rfl (pu_assign rfl rfl) ?_
        refine g_nil ?_
        refine g_own 16 (L := bs (putL o i n)) (J := []) (c := i) (s := 1) (by rw [List.append_nil, hL]; rfl) (by simp [bs_length, hlen]) (by omega) ?_
        exact g_ret2 rfl rfl rfl (fun w' hm => ⟨⟨some ⟨b16, 0, none⟩, i⟩, trivial, rfl, hm.grows [16] ⟨rfl, trivial⟩ rfl⟩)
      · have hE : putE o i n = 2 := by unfold putE; rw [if_neg (fun h => h hs), if_pos (show n >>> (8 * ((i : Int)).toNat) ≠ 0#64 from hq)]
        rw [hnil 2 hE (by omega), hE]
        (repeat refine g_seq ?_)
        refine g_region ?_
        refine g_pu rfl rfl rfl (pu_move rfl rfl) ?_
        first | refine g_pu rfl rfl rfl (pu_neq64_t (b := 0#64) rfl rfl rfl (by first | assumption | decide)) ?_ | refine g_pu rfl rfl rfl (pu_neq64_f (b := 0#64) rfl rfl rfl (by first | rfl | assumption | decide)) ?_ | refine g_pu rfl rfl rfl (pu_neq64 (b := 0#64) rfl rfl rfl) ?_
        refine g_nil ?_
        (repeat refine g_seq ?_)
        refine g_cond_t rfl ?_
        (repeat refine g_seq ?_)
        refine g_region ?_
        refine g_pu rfl rfl rfl (pu_assign rfl rfl) ?_
        refine g_pu rfl rfl rfl (pu_assign rfl rfl) ?_
        refine g_nil ?_
        exact g_nilOwn 90 5 1 rfl (g_ret2 rfl rfl rfl (fun w' hm => ⟨⟨none, 0⟩, trivial, rfl, hm.grows [90] ⟨rfl, trivial⟩ rfl⟩))
  · have hE : putE o z n = 1 := by unfold putE; rw [if_pos hs]
    rw [hnil 1 hE (by omega), hE]
    (repeat refine g_seq ?_)
    refine g_region ?_
    refine g_pu rfl rfl rfl (pu_move rfl rfl) ?_
    refine g_pu rfl rfl rfl (pu_move rfl rfl) ?_
    refine g_call [] rfl rfl rfl rfl rfl rfl (fun w' hm => rshape_b w' o z) (fun _ _ => ?_)
    refine g_as (t := 13) (u := .bool false) rfl (by rw [decide_eq_false hs]) rfl ?_
    refine g_pu rfl rfl rfl (pu_not rfl rfl) ?_
    refine g_nil ?_
    (repeat refine g_seq ?_)
    refine g_cond_t rfl ?_
    (repeat refine g_seq ?_)
    refine g_region ?_
    refine g_pu rfl rfl rfl (pu_assign rfl rfl) ?_
    refine g_pu rfl rfl rfl (pu_assign rfl rfl) ?_
    refine g_nil ?_
    exact g_nilOwn 90 5 1 rfl (g_ret2 rfl rfl rfl (fun w' hm => ⟨⟨none, 0⟩, trivial, rfl, hm.grows [90] ⟨rfl, trivial⟩ rfl⟩))

end Go.Sx

/-
  Lists of bytes joined: bytes.Join without a separator, the codec's Join and its reference's. The whole takes at most 2^47 bytes.
-/
namespace Go.Sx
open Go Go.Proofs

theorem flat_take {ls : List (List (BitVec 8))} {j : Nat} {l : List (BitVec 8)} (h : ls[j]? = some l) : (ls.take (j + 1)).flatten = (ls.take j).flatten ++ l := by
  rw [List.take_add_one, h]; simp
theorem flat_le (ls : List (List (BitVec 8))) (j : Nat) : (ls.take j).flatten.length ≤ ls.flatten.length := by
  have h := congrArg (fun l => l.flatten.length) (List.take_append_drop j ls)
  simp only [List.flatten_append, List.length_append] at h
  omega

theorem BJoin_b (w : World) {p : Option Addr} {n : Nat} (c : Nat) {L : List Value} {ls : List (List (BitVec 8))} (ha : ByL w p n L ls) (hc : n ≤ c) (hlen : ls.flatten.length ≤ 281474976710656) :
    Spec Try.prog 71 #[.slice p n c, .slice none 0 0] w (σ := Ow) (fun _ => True) (fun x => x.sl ls.flatten.length) Nob (fun x => [x.ck 5 1 (bs ls.flatten)]) := by
  refine enter Try.func71 rfl rfl (Mem.start w) ?_
  have hn := ha.len
  have hbig := ha.big
  have hln := ha.lenL
  (repeat refine g_seq ?_)
  refine g_region ?_
  refine g_pu rfl rfl rfl (pu_assign rfl rfl) ?_
  refine g_nil ?_
  by_cases h0 : n = 0
  · have hl0 : ls = [] := List.eq_nil_of_length_eq_zero (by omega)
    subst hl0
    (repeat refine g_seq ?_)
    refine g_region ?_
    refine g_pu rfl rfl rfl (pu_move rfl rfl) ?_
    first | refine g_pu rfl rfl rfl (pu_len rfl rfl) ?_ | refine g_pu rfl rfl rfl (pu_lenS rfl rfl) ?_
    first | refine g_pu rfl rfl rfl (pu_eql_t rfl rfl rfl (by omega)) ?_ | refine g_pu rfl rfl rfl (pu_eql_f rfl rfl rfl (by omega)) ?_ | refine g_pu rfl rfl rfl (pu_eql rfl rfl rfl) ?_
    refine g_nil ?_
    (repeat refine g_seq ?_)
    refine g_cond_t rfl ?_
    (repeat refine g_seq ?_)
    refine g_region ?_
    refine g_lo [15] rfl rfl rfl rfl (lo_buildSlice0 rfl) (fun b15 hb15 => ?_)
    refine g_pu rfl rfl rfl (pu_assign rfl rfl) ?_
    refine g_nil ?_
    refine g_own 15 (L := []) (J := []) (c := 0) (s := 1) rfl (by simp) (by omega) ?_
    exact g_ret1 rfl rfl (fun w' hm => ⟨⟨some ⟨b15, 0, none⟩, 0⟩, trivial, rfl, hm.grows [15] ⟨rfl, trivial⟩ rfl⟩)
  · (repeat refine g_seq ?_)
    refine g_region ?_
    refine g_pu rfl rfl rfl (pu_move rfl rfl) ?_
    first | refine g_pu rfl rfl rfl (pu_len rfl rfl) ?_ | refine g_pu rfl rfl rfl (pu_lenS rfl rfl) ?_
    first | refine g_pu rfl rfl rfl (pu_eql_t rfl rfl rfl (by omega)) ?_ | refine g_pu rfl rfl rfl (pu_eql_f rfl rfl rfl (by omega)) ?_ | refine g_pu rfl rfl rfl (pu_eql rfl rfl rfl) ?_
    refine g_nil ?_
    (repeat refine g_seq ?_)
    refine g_cond_f rfl (g_skip ?_)
    obtain ⟨l0, r, rfl⟩ : ∃ l0 r, ls = l0 :: r := by
      cases ls with
      | nil => simp at hln; omega
      | cons a r => exact ⟨a, r, rfl⟩
    obtain ⟨q, m, cc, hL, hq⟩ := ha.at (i := 0) (l := l0) rfl
    have hq1 := hq.len
    have hq2 := hq.big
    by_cases h1 : n = 1
    · (repeat refine g_seq ?_)
      refine g_region ?_
      refine g_pu rfl rfl rfl (pu_move rfl rfl) ?_
      first | refine g_pu rfl rfl rfl (pu_len rfl rfl) ?_ | refine g_pu rfl rfl rfl (pu_lenS rfl rfl) ?_
      first | refine g_pu rfl rfl rfl (pu_eql_t rfl rfl rfl (by omega)) ?_ | refine g_pu rfl rfl rfl (pu_eql_f rfl rfl rfl (by omega)) ?_ | refine g_pu rfl rfl rfl (pu_eql rfl rfl rfl) ?_
      refine g_nil ?_
      (repeat refine g_seq ?_)
      refine g_cond_t rfl ?_
      have hr : r = [] := List.eq_nil_of_length_eq_zero (by simp at hln; omega)
      subst hr
      refine g_nilOwn 22 5 1 rfl ?_
      (repeat refine g_seq ?_)
      refine g_region ?_
      refine g_pu rfl rfl rfl (pu_move rfl rfl) ?_
      refine g_pu rfl rfl rfl (pu_atM1 0 (fun w' hm => (ha.m hm).rd) rfl rfl rfl rfl (by omega) (by omega)) ?_
      refine g_pu rfl rfl rfl (pu_rdM (fun w' hm => (ha.m hm).rd) rfl rfl hL) ?_
      refine g_append1 22 (bs l0) rfl rfl rfl rfl rfl rfl rfl rfl rfl (fun w' hm => (hq.m hm).rd) (by rw [bs_length, hq1]) (oneCell_bs l0) (by omega) (by omega) (fun p' c' => ?_)
      refine g_pu rfl rfl rfl (pu_assign rfl rfl) ?_
      refine g_nil ?_
      exact g_ret1 rfl rfl (fun w' hm => ⟨⟨p', c'⟩, trivial, by simp [Ow.sl, hq1], by simpa [Ow.ck] using hm.grows [22] (cs := [.fact (At p') (Own 5 1 p' c' ([] ++ bs l0))]) ⟨rfl, trivial⟩ rfl⟩)
    · (repeat refine g_seq ?_)
      refine g_region ?_
      refine g_pu rfl rfl rfl (pu_move rfl rfl) ?_
      first | refine g_pu rfl rfl rfl (pu_len rfl rfl) ?_ | refine g_pu rfl rfl rfl (pu_lenS rfl rfl) ?_
      first | refine g_pu rfl rfl rfl (pu_eql_t rfl rfl rfl (by omega)) ?_ | refine g_pu rfl rfl rfl (pu_eql_f rfl rfl rfl (by omega)) ?_ | refine g_pu rfl rfl rfl (pu_eql rfl rfl rfl) ?_
      refine g_nil ?_
      (repeat refine g_seq ?_)
      refine g_cond_f rfl (g_skip ?_)
      generalize hT : (l0 :: r).flatten.length = T at hlen
      (repeat refine g_seq ?_)
      refine g_region ?_
      refine g_pu rfl rfl rfl (pu_assign rfl rfl) ?_
      refine g_nil ?_
      refine g_seq ?_
      refine g_join (σ := Unit) (fun _ => [(0, .slice p n c), (1, .slice none 0 0), (5, .int .i64 0)]) (fun _ => []) (fun _ => True) ?_ (fun _ _ => ?_)
      · (repeat refine g_seq ?_)
        refine g_region ?_
        refine g_pu rfl rfl rfl (pu_move rfl rfl) ?_
        first | refine g_pu rfl rfl rfl (pu_len rfl rfl) ?_ | refine g_pu rfl rfl rfl (pu_lenS rfl rfl) ?_
        first | refine g_pu rfl rfl rfl (pu_gtr_t rfl rfl rfl (by omega)) ?_ | refine g_pu rfl rfl rfl (pu_gtr_f rfl rfl rfl (by omega)) ?_ | refine g_pu rfl rfl rfl (pu_gtr rfl rfl rfl) ?_
        refine g_nil ?_
        (repeat refine g_seq ?_)
        refine g_cond_f rfl (g_skip ?_)
        exact g_meet () trivial ⟨rfl, rfl, rfl, trivial⟩ trivial
      · (repeat refine g_seq ?_)
        (repeat refine g_seq ?_)
        refine g_region ?_
        refine g_pu rfl rfl rfl (pu_move rfl rfl) ?_
        first | refine g_pu rfl rfl rfl (pu_len rfl rfl) ?_ | refine g_pu rfl rfl rfl (pu_lenS rfl rfl) ?_
        refine g_pu rfl rfl rfl (pu_move rfl rfl) ?_
        refine g_nil ?_
        refine g_block (g_loop (σ := Nat) (fun j => [(0, .slice p n c), (1, .slice none 0 0), (5, .int .i64 ((((l0 :: r).take j).flatten.length : Nat) : Int)), (42, .slice p n c), (43, .int .i64 (n : Int)), (44, .int .i64 (j : Int))]) (fun _ => []) (fun j => j ≤ n) (fun j => n - j) 0 ⟨rfl, rfl, rfl, rfl, rfl, rfl, trivial⟩ trivial (by omega) ?_)
        intro j hj
        by_cases hlt : j < n
        · (repeat refine g_seq ?_)
          refine g_region ?_
          first | refine g_pu rfl rfl rfl (pu_lss_t rfl rfl rfl (by omega)) ?_ | refine g_pu rfl rfl rfl (pu_lss_f rfl rfl rfl (by omega)) ?_ | refine g_pu rfl rfl rfl (pu_lss rfl rfl rfl) ?_
          refine g_nil ?_
          (repeat refine g_seq ?_)
          refine g_cond_t rfl (g_skip ?_)
          have hl : (l0 :: r)[j]? = some (l0 :: r)[j] := List.getElem?_eq_getElem (by omega)
          generalize (l0 :: r)[j] = b at hl
          obtain ⟨q2, m2, c2, hL2, hq'⟩ := ha.at hl
          have hq3 := hq'.len
          have hft := congrArg List.length (flat_take hl)
          rw [List.length_append] at hft
          have hle := flat_le (l0 :: r) (j + 1)
          rw [hT] at hle
          (repeat refine g_seq ?_); refine g_block ?_
          (repeat refine g_seq ?_)
          refine g_region ?_
          refine g_pu rfl rfl rfl (pu_atM1 j (fun w' hm => (ha.m hm).rd) rfl rfl rfl rfl hlt (by omega)) ?_
          refine g_pu rfl rfl rfl (pu_rdM (fun w' hm => (ha.m hm).rd) rfl rfl hL2) ?_
          refine g_pu rfl rfl rfl (pu_assign rfl rfl) ?_
          refine g_nil ?_
          (repeat refine g_seq ?_)
          refine g_region ?_
          refine g_pu rfl rfl rfl (pu_move rfl rfl) ?_
          first | refine g_pu rfl rfl rfl (pu_len rfl rfl) ?_ | refine g_pu rfl rfl rfl (pu_lenS rfl rfl) ?_
          refine g_pu rfl rfl rfl (pu_move rfl rfl) ?_
          refine g_pu rfl rfl rfl (pu_subI rfl rfl rfl (by omega)) ?_
          first | refine g_pu rfl rfl rfl (pu_gtr_t rfl rfl rfl (by omega)) ?_ | refine g_pu rfl rfl rfl (pu_gtr_f rfl rfl rfl (by omega)) ?_ | refine g_pu rfl rfl rfl (pu_gtr rfl rfl rfl) ?_
          refine g_nil ?_
          (repeat refine g_seq ?_)
          refine g_cond_f rfl (g_skip ?_)
          (repeat refine g_seq ?_)
          refine g_region ?_
          refine g_pu rfl rfl rfl (pu_move rfl rfl) ?_
          refine g_pu rfl rfl rfl (pu_move rfl rfl) ?_
          first | refine g_pu rfl rfl rfl (pu_len rfl rfl) ?_ | refine g_pu rfl rfl rfl (pu_lenS rfl rfl) ?_
          refine g_pu rfl rfl rfl (pu_addI rfl rfl rfl (by omega)) ?_
          refine g_pu rfl rfl rfl (pu_assign rfl rfl) ?_
          refine g_nil ?_
          refine g_blk ?_
          (repeat refine g_seq ?_)
          refine g_region ?_
          refine g_pu rfl rfl rfl (pu_addI rfl rfl rfl (by omega)) ?_
          refine g_pu rfl rfl rfl (pu_move rfl rfl) ?_
          refine g_nil ?_
          exact g_round (j + 1) (by omega) (by omega) ⟨rfl, rfl, congrArg (fun z => some (Value.int .i64 z)) (by omega), rfl, rfl, rfl, trivial⟩ trivial
        · (repeat refine g_seq ?_)
          refine g_region ?_
          first | refine g_pu rfl rfl rfl (pu_lss_t rfl rfl rfl (by omega)) ?_ | refine g_pu rfl rfl rfl (pu_lss_f rfl rfl rfl (by omega)) ?_ | refine g_pu rfl rfl rfl (pu_lss rfl rfl rfl) ?_
          refine g_nil ?_
          (repeat refine g_seq ?_)
          refine g_cond_f rfl (g_exit rfl ?_)
          have e1 : n = j := by omega
          subst e1
          rw [List.take_of_length_le (by omega), hT]
          have hm0 : m ≤ T := by rw [← hT]; simp; omega
          (repeat refine g_seq ?_)
          refine g_region ?_
          refine g_pu rfl rfl rfl (pu_move rfl rfl) ?_
          refine g_lo [60] rfl rfl rfl rfl (lo_mnz (n := T) rfl rfl rfl (by omega)) (fun r60 h60 => ?_)
          refine g_pu rfl rfl rfl (pu_move rfl rfl) ?_
          refine g_pu rfl rfl rfl (pu_move rfl rfl) ?_
          refine g_pu rfl rfl rfl (pu_slice_hm T T rfl rfl rfl rfl rfl rfl (by omega) h60.2.1) ?_
          refine g_pu rfl rfl rfl (pu_assign rfl rfl) ?_
          refine g_nil ?_
          obtain ⟨b60, cs⟩ := r60
          obtain ⟨_, hcs, hcs2⟩ := h60
          dsimp only at hcs hcs2 ⊢
          (repeat refine g_seq ?_)
          refine g_region ?_
          refine g_pu rfl rfl rfl (pu_move rfl rfl) ?_
          refine g_pu rfl rfl rfl (pu_move rfl rfl) ?_
          refine g_pu rfl rfl rfl (pu_atM1 0 (fun w' hm => (ha.m hm).rd) rfl rfl rfl rfl (by omega) (by omega)) ?_
          refine g_pu rfl rfl rfl (pu_rdM (fun w' hm => (ha.m hm).rd) rfl rfl hL) ?_
          refine g_copy 60 (bs l0) rfl rfl rfl rfl rfl rfl rfl (fun w' hm => (hq.m hm).rd) (by rw [bs_length, hq1]) (by omega) (oneCell_bs l0) ?_
          have hmin : Nat.min m T = m := Nat.min_eq_left hm0
          rw [hmin, show cs.take 0 ++ (bs l0).take m ++ cs.drop (0 + m) = bs ((l0 :: r).take 1).flatten ++ cs.drop m by simp [bs_take, ← hq1]]
          refine g_pu rfl rfl rfl (pu_assign rfl rfl) ?_
          refine g_nil ?_
          have hcut := ha.cut hc 1
          simp only [List.drop_succ_cons, List.drop_zero] at hcut
          have hrl : r.length = n - 1 := by simp at hln; omega
          (repeat refine g_seq ?_)
          refine g_region ?_
          refine g_pu rfl rfl rfl (pu_move rfl rfl) ?_
          refine g_pu rfl rfl rfl (pu_slice_l 1 rfl rfl rfl rfl (by omega)) ?_
          first | refine g_pu rfl rfl rfl (pu_len rfl rfl) ?_ | refine g_pu rfl rfl rfl (pu_lenS rfl rfl) ?_
          refine g_pu rfl rfl rfl (pu_move rfl rfl) ?_
          refine g_nil ?_
          refine g_block (g_loop2 (fun (j : Nat) (_ : List Value) => [(1, .slice none 0 0), (8, .slice (some ⟨b60, 0, none⟩) T T), (9, .int .i64 ((((l0 :: r).take (j + 1)).flatten.length : Nat) : Int)), (70, .slice (cutp p c 1 1) (n - 1) (c - 1)), (71, .int .i64 ((n - 1 : Nat) : Int)), (72, .int .i64 (j : Int))]) (fun j J => [(60, .pt b60 (.cells (bs ((l0 :: r).take (j + 1)).flatten ++ J).toArray 5 (0, 0)))]) (fun j J => j ≤ n - 1 ∧ T ≤ ((l0 :: r).take (j + 1)).flatten.length + J.length) (fun j _ => n - j) 0 (cs.drop m) ⟨rfl, rfl, by simp [hq1]; rfl, rfl, rfl, rfl, trivial⟩ ⟨rfl, trivial⟩ ⟨by omega, by simp; omega⟩ ?_)
          intro j J ⟨hj2, hJ⟩
          by_cases hlt2 : j < n - 1
          · (repeat refine g_seq ?_)
            refine g_region ?_
            first | refine g_pu rfl rfl rfl (pu_lss_t rfl rfl rfl (by omega)) ?_ | refine g_pu rfl rfl rfl (pu_lss_f rfl rfl rfl (by omega)) ?_ | refine g_pu rfl rfl rfl (pu_lss rfl rfl rfl) ?_
            refine g_nil ?_
            (repeat refine g_seq ?_)
            refine g_cond_t rfl (g_skip ?_)
            have hl : r[j]? = some r[j] := List.getElem?_eq_getElem (by simp at hln; omega)
            generalize r[j] = b at hl
            obtain ⟨q2, m2, c2, hL2, hq'⟩ := hcut.at hl
            have hq3 := hq'.len
            have hft0 := flat_take (ls := l0 :: r) (j := j + 1) (l := b) (by simpa using hl)
            have hft := congrArg List.length hft0
            rw [List.length_append] at hft
            have hle := flat_le (l0 :: r) (j + 1 + 1)
            rw [hT] at hle
            generalize hpre : ((l0 :: r).take (j + 1)).flatten = pre at hft hft0 hJ
            obtain ⟨off, hoff, hoffT⟩ : ∃ off, cutp (some ⟨b60, 0, none⟩) T pre.length 1 = some ⟨b60, off, none⟩ ∧ ((pre.length < T ∧ off = pre.length) ∨ (pre.length = T ∧ off = 0)) := by
              unfold cutp
              by_cases h : T = pre.length
              · rw [if_pos h]; exact ⟨0, rfl, .inr ⟨h.symm, rfl⟩⟩
              · rw [if_neg h]; exact ⟨pre.length, by simp [Addr.add_lit], .inl ⟨by omega, rfl⟩⟩
            (repeat refine g_seq ?_); refine g_block ?_
            (repeat refine g_seq ?_)
            refine g_region ?_
            refine g_pu rfl rfl rfl (pu_atM1 j (fun w' hm => (hcut.m hm).rd) rfl rfl rfl rfl (by omega) (by rw [hcut.len]; omega)) ?_
            refine g_pu rfl rfl rfl (pu_rdM (fun w' hm => (hcut.m hm).rd) rfl rfl hL2) ?_
            refine g_pu rfl rfl rfl (pu_assign rfl rfl) ?_
            refine g_nil ?_
            (repeat refine g_seq ?_)
            refine g_region ?_
            refine g_pu rfl rfl rfl (pu_move rfl rfl) ?_
            refine g_pu rfl rfl rfl (pu_move rfl rfl) ?_
            refine g_pu rfl rfl rfl (pu_move rfl rfl) ?_
            refine g_pu rfl rfl rfl (pu_slice_l pre.length rfl rfl rfl rfl (by omega)) ?_
            rw [hoff]
            refine g_pu rfl rfl rfl (pu_move rfl rfl) ?_
            refine g_copy 60 (L := bs pre ++ J) [] rfl rfl rfl rfl rfl rfl rfl (fun w' hm => RdV.nil _ _) rfl (by rw [List.length_append, bs_length]; omega) (fun u hu => by simp at hu) ?_
            rw [show Nat.min 0 (T - pre.length) = 0 from Nat.min_eq_left (by omega), show (bs pre ++ J).take off ++ [].take 0 ++ (bs pre ++ J).drop (off + 0) = bs pre ++ J by simp]
            refine g_pu rfl rfl rfl (pu_addI rfl rfl rfl (by omega)) ?_
            refine g_pu rfl rfl rfl (pu_assign rfl rfl) ?_
            refine g_nil ?_
            have hmin : Nat.min m2 (T - pre.length) = m2 := Nat.min_eq_left (by omega)
            have hrow : (bs pre ++ J).take off ++ (bs b).take (Nat.min m2 (T - pre.length)) ++ (bs pre ++ J).drop (off + Nat.min m2 (T - pre.length)) = bs (pre ++ b) ++ J.drop m2 := by
              rw [hmin, List.take_of_length_le (l := bs b) (by rw [bs_length]; omega)]
              rcases hoffT with ⟨h, rfl⟩ | ⟨h, rfl⟩
              · rw [show pre.length = (bs pre).length by rw [bs_length], List.take_left, List.drop_length_add_append, bs_append]
              · have hb0 : b = [] := List.eq_nil_of_length_eq_zero (by omega)
                subst hb0
                have hm2 : m2 = 0 := by simp at hq3; omega
                subst hm2
                simp [bs]
            (repeat refine g_seq ?_)
            refine g_region ?_
            refine g_pu rfl rfl rfl (pu_move rfl rfl) ?_
            refine g_pu rfl rfl rfl (pu_move rfl rfl) ?_
            refine g_pu rfl rfl rfl (pu_move rfl rfl) ?_
            refine g_pu rfl rfl rfl (pu_slice_l pre.length rfl rfl rfl (by simp) (by omega)) ?_
            rw [hoff]
            refine g_pu rfl rfl rfl (pu_move rfl rfl) ?_
            refine g_copy 60 (L := bs pre ++ J) (bs b) rfl rfl rfl rfl rfl rfl rfl (fun w' hm => (hq'.m hm).rd) (by rw [bs_length, hq3]) (by rw [List.length_append, bs_length]; omega) (oneCell_bs b) ?_
            rw [hrow, hmin]
            refine g_pu rfl rfl rfl (pu_addI rfl rfl rfl (by omega)) ?_
            refine g_pu rfl rfl rfl (pu_assign rfl rfl) ?_
            refine g_nil ?_
            refine g_blk ?_
            (repeat refine g_seq ?_)
            refine g_region ?_
            refine g_pu rfl rfl rfl (pu_addI rfl rfl rfl (by omega)) ?_
            refine g_pu rfl rfl rfl (pu_move rfl rfl) ?_
            refine g_nil ?_
            refine g_round2 (j + 1) (J.drop m2) ⟨by omega, by rw [hft0, List.length_append, List.length_drop]; omega⟩ (by omega) ⟨rfl, rfl, ?_, rfl, rfl, rfl, trivial⟩ ⟨by rw [hft0]; rfl, trivial⟩
            rw [hft0, List.length_append, hq3]
            exact congrArg (fun z => some (Value.int .i64 z)) (by simp)
          · (repeat refine g_seq ?_)
            refine g_region ?_
            first | refine g_pu rfl rfl rfl (pu_lss_t rfl rfl rfl (by omega)) ?_ | refine g_pu rfl rfl rfl (pu_lss_f rfl rfl rfl (by omega)) ?_ | refine g_pu rfl rfl rfl (pu_lss rfl rfl rfl) ?_
            refine g_nil ?_
            (repeat refine g_seq ?_)
            refine g_cond_f rfl (g_exit rfl ?_)
            (repeat refine g_seq ?_)
            refine g_region ?_
            refine g_pu rfl rfl rfl (pu_move rfl rfl) ?_
            refine g_pu rfl rfl rfl (pu_assign rfl rfl) ?_
            refine g_nil ?_
            have e2 : j + 1 = (l0 :: r).length := by omega
            rw [e2, List.take_of_length_le (Nat.le_refl _)] at hJ ⊢
            rw [hT] at hJ
            refine g_own 60 (L := bs (l0 :: r).flatten) (J := J) (c := T) (s := 1) rfl ⟨by rw [bs_length]; omega, by rw [List.length_append, bs_length]; omega⟩ (by omega) ?_
            exact g_ret1 rfl rfl (fun w' hm => ⟨⟨some ⟨b60, 0, none⟩, T⟩, trivial, rfl, hm.grows [60] ⟨rfl, trivial⟩ rfl⟩)

theorem Join_b (w : World) {p : Option Addr} {n : Nat} (c : Nat) {L : List Value} {ls : List (List (BitVec 8))} (ha : ByL w p n L ls) (hc : n ≤ c) (hlen : ls.flatten.length ≤ 281474976710656) :
    Spec Try.prog 51 #[.slice p n c] w (σ := Ow) (fun _ => True) (fun x => x.sl ls.flatten.length) Nob (fun x => [x.ck 5 1 (bs ls.flatten)]) := by
  refine enter Try.func51 rfl rfl (Mem.start w) ?_
  (repeat refine g_seq ?_)
  refine g_region ?_
  refine g_pu rfl rfl rfl (pu_assign rfl rfl) ?_
  refine g_nil ?_
  (repeat refine g_seq ?_)
  refine g_region ?_
  refine g_pu rfl rfl rfl (pu_move rfl rfl) ?_
  refine g_call [4] rfl rfl rfl rfl rfl rfl (fun w' hm => BJoin_b w' c (ha.m hm) hc hlen) (fun x4 _ => ?_)
  refine g_pu rfl rfl rfl (pu_assign rfl rfl) ?_
  refine g_nil ?_
  exact g_ret1 rfl rfl (fun w' hm => ⟨x4, trivial, rfl, hm.grows [4] ⟨rfl, trivial⟩ rfl⟩)

end Go.Sx

/-
  Cutting bytes into pieces, of the codec and of its reference; are two lists of lists equal. At most 2^47 / 24 sizes.
-/
namespace Go.Sx
open Go Go.Proofs

end Go.Sx

/-
  Cutting bytes into pieces, of the codec and of its reference. At most 2^47 / 24 sizes.
-/
namespace Go.Sx
open Go Go.Proofs

end Go.Sx

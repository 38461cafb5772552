/-
  Writing a number as bytes: the codec's way, its reference's way, and that it is read back. The order is 1 or 2, the width 1 to 8.
-/
import Derived.Test.YteblmnpklcdnpaaC7
set_option linter.unusedVariables false
set_option linter.unusedSimpArgs false
namespace Go.Sx
open Go Go.Proofs

def putW (n : BitVec 64) (z : Nat) : List (BitVec 8) := (List.range z).map fun i => (n >>> (8 * i)).setWidth 8
def putE (o z : Int) (n : BitVec 64) : Int := if ¬ ShapeOk o z then 1 else if n >>> (8 * z.toNat) ≠ 0#64 then 2 else 0
def putL (o z : Int) (n : BitVec 64) : List (BitVec 8) := if putE o z n = 0 then (if o = 2 then (putW n z.toNat).reverse else putW n z.toNat) else []
def putAt (n : BitVec 64) (z i : Nat) : List (BitVec 8) := (putW n z).take i ++ List.replicate (z - i) 0#8

theorem putW_length (n : BitVec 64) (z : Nat) : (putW n z).length = z := by simp [putW]
theorem putW_get {n : BitVec 64} {z i : Nat} (h : i < z) : (putW n z)[i]? = some ((n >>> (8 * i)).setWidth 8) := by simp [putW, h]
theorem putAt_length {n : BitVec 64} {z i : Nat} (h : i ≤ z) : (putAt n z i).length = z := by simp [putAt, putW_length]; omega
theorem putAt_end (n : BitVec 64) (z : Nat) : putAt n z z = putW n z := by
  unfold putAt
  rw [List.take_of_length_le (by rw [putW_length]; exact Nat.le_refl _)]; simp
theorem putAt_set {n : BitVec 64} {z i : Nat} (h : i < z) : (putAt n z i).set i ((n >>> (8 * i)).setWidth 8) = putAt n z (i + 1) := by
  apply List.ext_getElem?
  intro j
  have hl := putW_length n z
  rw [get_set _ _ _ _ (by rw [putAt_length (by omega)]; exact h)]
  unfold putAt
  by_cases hj : i = j
  · subst hj
    rw [if_pos rfl, List.getElem?_append_left (by simp [hl]; omega), List.getElem?_take, if_pos (by omega), putW_get h]
  · rw [if_neg hj]
    by_cases hlt : j < i
    · rw [List.getElem?_append_left (by simp [hl]; omega), List.getElem?_append_left (by simp [hl]; omega), List.getElem?_take, List.getElem?_take, if_pos hlt, if_pos (by omega)]
    · rw [List.getElem?_append_right (by simp [hl]; omega), List.getElem?_append_right (by simp [hl]; omega), List.length_take, List.length_take, hl, List.getElem?_replicate, List.getElem?_replicate]
      by_cases hz : j < z
      · rw [if_pos (by omega), if_pos (by omega)]
      · rw [if_neg (by omega), if_neg (by omega)]

theorem rev_set (m : List (BitVec 8)) (i : Nat) (x : BitVec 8) (h : i < m.length) : m.reverse.set (m.length - 1 - i) x = (m.set i x).reverse := by
  apply List.ext_getElem?
  intro j
  rw [get_set _ _ _ _ (by simp; omega)]
  by_cases hj : j < m.length
  · rw [List.getElem?_reverse hj, List.getElem?_reverse (by simpa using hj), List.length_set, get_set _ _ _ _ h]
    by_cases e : m.length - 1 - i = j
    · rw [if_pos e, if_pos (by omega)]
    · rw [if_neg e, if_neg (by omega)]
  · rw [if_neg (by omega), List.getElem?_eq_none (by simp; omega), List.getElem?_eq_none (by simp; omega)]

theorem shr_add (n : BitVec 64) (i : Nat) : (n >>> (8 * i)) / 256#64 = n >>> (8 * (i + 1)) := by
  apply BitVec.eq_of_toNat_eq
  rw [BitVec.toNat_udiv, BitVec.toNat_ushiftRight, BitVec.toNat_ushiftRight, Nat.shiftRight_eq_div_pow, Nat.shiftRight_eq_div_pow, show (256#64).toNat = 2 ^ 8 from rfl, Nat.div_div_eq_div_mul, ← Nat.pow_add]
  congr 2
theorem rem_low (n : BitVec 64) : (n % 256#64).setWidth 8 = n.setWidth 8 := by
  apply BitVec.eq_of_toNat_eq
  rw [BitVec.toNat_setWidth, BitVec.toNat_setWidth, BitVec.toNat_umod, show (256#64).toNat = 2 ^ 8 from rfl, Nat.mod_mod]

theorem low_high (n : BitVec 64) : (n.setWidth 8).setWidth 64 + 256#64 * (n >>> 8) = n := by
  rw [← or_add]
  apply BitVec.eq_of_getLsbD_eq
  intro i hi
  simp only [BitVec.getLsbD_or, BitVec.getLsbD_shiftLeft, BitVec.getLsbD_ushiftRight, BitVec.getLsbD_setWidth]
  by_cases h : i < 8
  · simp [h]; omega
  · simp [h, hi, show 8 + (i - 8) = i by omega]
theorem leV_putW : ∀ (z : Nat) (n : BitVec 64), n >>> (8 * z) = 0#64 → leV (putW n z) = n
  | 0, n, h => by
    have : n = 0#64 := by simpa using h
    rw [this]; rfl
  | z + 1, n, h => by
    have e : putW n (z + 1) = n.setWidth 8 :: putW (n >>> 8) z := by
      unfold putW
      rw [List.range_succ_eq_map, List.map_cons, List.map_map]
      simp only [Nat.mul_zero, BitVec.ushiftRight_zero, List.cons.injEq, true_and]
      apply List.map_congr_left
      intro i _
      show (n >>> (8 * (i + 1))).setWidth 8 = ((n >>> 8) >>> (8 * i)).setWidth 8
      rw [← BitVec.shiftRight_add, show 8 + 8 * i = 8 * (i + 1) by omega]
    rw [e]
    simp only [leV]
    rw [leV_putW z (n >>> 8) (by rw [← BitVec.shiftRight_add, show 8 + 8 * z = 8 * (z + 1) by omega]; exact h), low_high]

theorem Put_b (w : World) (o z : Int) (n : BitVec 64) :
    Spec Try.prog 75 #[.int .i64 o, .int .i64 z, b64 n] w (σ := Ow) (fun _ => True) (fun x => .tuple #[x.sl (putL o z n).length, .int .i64 (putE o z n)]) Nob (fun x => [x.ck 5 1 (bs (putL o z n))]) := by
  refine enter Try.func75 rfl rfl (Mem.start w) ?_
  (repeat refine g_seq ?_)
  refine g_region ?_
  refine g_pu rfl rfl rfl (pu_assign rfl rfl) ?_
  refine g_pu rfl rfl rfl (pu_assign rfl rfl) ?_
  refine g_nil ?_
  (repeat refine g_seq ?_)
  refine g_region ?_
  refine g_pu rfl rfl rfl (pu_move rfl rfl) ?_
  refine g_pu rfl rfl rfl (pu_move rfl rfl) ?_
  refine g_call [] rfl rfl rfl rfl rfl rfl (fun w' hm => shape_b w' o z) (fun _ _ => ?_)
  refine g_pu rfl rfl rfl (pu_assign rfl rfl) ?_
  refine g_nil ?_
  have hnil : ∀ q, putE o z n = q → q ≠ 0 → putL o z n = [] := fun q hq h0 => by unfold putL; rw [if_neg (by omega)]
  by_cases hs : ShapeOk o z
  · rw [if_pos hs]
    have hz := hs.2
    obtain ⟨z, rfl⟩ := Int.eq_ofNat_of_zero_le (show 0 ≤ z by omega)
    (repeat refine g_seq ?_)
    refine g_region ?_
    refine g_pu rfl rfl rfl (pu_move rfl rfl) ?_
    first | refine g_pu rfl rfl rfl (pu_neq_t rfl rfl rfl (by omega)) ?_ | refine g_pu rfl rfl rfl (pu_neq_f rfl rfl rfl (by omega)) ?_ | refine g_pu rfl rfl rfl (pu_neq rfl rfl rfl) ?_
    refine g_nil ?_
    (repeat refine g_seq ?_)
    refine g_cond_f rfl (g_skip ?_)
    by_cases hq : n >>> ((8 : Int) * (z : Int)).toNat = 0#64
    · have hq2 : n >>> (8 * z) = 0#64 := by rw [show ((8 : Int) * (z : Int)).toNat = 8 * z by omega] at hq; exact hq
      have hE : putE o z n = 0 := by unfold putE; rw [if_neg (fun h => h hs), if_neg (fun h => h hq2)]
      have hL : putL o z n = if o = 2 then (putW n z).reverse else putW n z := by unfold putL; rw [if_pos hE]; rfl
      have hlen : (putL o z n).length = z := by rw [hL]; split <;> simp [putW_length]
      rw [hE, hlen]
      refine g_seq ?_
      refine g_join (σ := Unit) (fun _ => [(0, .int .i64 o), (1, .int .i64 (z : Int)), (2, b64 n)]) (fun _ => []) (fun _ => True) ?_ (fun _ _ => ?_)
      · by_cases h8 : z < 8
        · (repeat refine g_seq ?_)
          refine g_region ?_
          refine g_pu rfl rfl rfl (pu_move rfl rfl) ?_
          first | refine g_pu rfl rfl rfl (pu_lss_t rfl rfl rfl (by omega)) ?_ | refine g_pu rfl rfl rfl (pu_lss_f rfl rfl rfl (by omega)) ?_ | refine g_pu rfl rfl rfl (pu_lss rfl rfl rfl) ?_
          refine g_pu rfl rfl rfl (pu_move rfl rfl) ?_
          first | refine g_pass rfl rfl rfl ?_ | refine g_pu rfl rfl rfl (pu_move rfl rfl) ?_
          first | refine g_pass rfl rfl rfl ?_ | refine g_pu rfl rfl rfl (pu_move rfl rfl) ?_
          first | refine g_pass rfl rfl rfl ?_ | refine g_pu rfl rfl rfl (pu_mulI rfl rfl rfl (by omega)) ?_
          first | refine g_pass rfl rfl rfl ?_ | refine g_pu rfl rfl rfl (pu_shr64 rfl rfl rfl (by omega)) ?_
          first | refine g_pass rfl rfl rfl ?_ | refine g_pu rfl rfl rfl (pu_neq64_t (b := 0#64) rfl rfl rfl (by first | assumption | decide)) ?_ | refine g_pu rfl rfl rfl (pu_neq64_f (b := 0#64) rfl rfl rfl (by first | rfl | assumption | decide)) ?_ | refine g_pu rfl rfl rfl (pu_neq64 (b := 0#64) rfl rfl rfl) ?_
          first | refine g_pu rfl rfl rfl (pu_pick_t rfl rfl rfl) ?_ | refine g_pu rfl rfl rfl (pu_pick_f rfl rfl rfl) ?_
          refine g_nil ?_
          (repeat refine g_seq ?_)
          refine g_cond_f rfl (g_skip ?_)
          exact g_meet () trivial ⟨rfl, rfl, rfl, trivial⟩ trivial
        · (repeat refine g_seq ?_)
          refine g_region ?_
          refine g_pu rfl rfl rfl (pu_move rfl rfl) ?_
          first | refine g_pu rfl rfl rfl (pu_lss_t rfl rfl rfl (by omega)) ?_ | refine g_pu rfl rfl rfl (pu_lss_f rfl rfl rfl (by omega)) ?_ | refine g_pu rfl rfl rfl (pu_lss rfl rfl rfl) ?_
          refine g_pu rfl rfl rfl (pu_move rfl rfl) ?_
          first | refine g_pass rfl rfl rfl ?_ | refine g_pu rfl rfl rfl (pu_move rfl rfl) ?_
          first | refine g_pass rfl rfl rfl ?_ | refine g_pu rfl rfl rfl (pu_move rfl rfl) ?_
          first | refine g_pass rfl rfl rfl ?_ | refine g_pu rfl rfl rfl (pu_mulI rfl rfl rfl (by omega)) ?_
          first | refine g_pass rfl rfl rfl ?_ | refine g_pu rfl rfl rfl (pu_shr64 rfl rfl rfl (by omega)) ?_
          first | refine g_pass rfl rfl rfl ?_ | refine g_pu rfl rfl rfl (pu_neq64_t (b := 0#64) rfl rfl rfl (by first | assumption | decide)) ?_ | refine g_pu rfl rfl rfl (pu_neq64_f (b := 0#64) rfl rfl rfl (by first | rfl | assumption | decide)) ?_ | refine g_pu rfl rfl rfl (pu_neq64 (b := 0#64) rfl rfl rfl) ?_
          first | refine g_pu rfl rfl rfl (pu_pick_t rfl rfl rfl) ?_ | refine g_pu rfl rfl rfl (pu_pick_f rfl rfl rfl) ?_
          refine g_nil ?_
          (repeat refine g_seq ?_)
          refine g_cond_f rfl (g_skip ?_)
          exact g_meet () trivial ⟨rfl, rfl, rfl, trivial⟩ trivial
      · (repeat refine g_seq ?_)
        refine g_region ?_
        refine g_pu rfl rfl rfl (pu_move rfl rfl) ?_
        refine g_lo [27] rfl rfl rfl rfl (lo_make (n := z) (c := z) rfl rfl rfl (by omega) (by omega) (by omega) rfl) (fun b27 hb27 => ?_)
        refine g_pu rfl rfl rfl (pu_assign rfl rfl) ?_
        refine g_nil ?_
        (repeat refine g_seq ?_)
        refine g_region ?_
        refine g_pu rfl rfl rfl (pu_move rfl rfl) ?_
        first | refine g_pu rfl rfl rfl (pu_len rfl rfl) ?_ | refine g_pu rfl rfl rfl (pu_lenS rfl rfl) ?_
        refine g_pu rfl rfl rfl (pu_move rfl rfl) ?_
        refine g_nil ?_
        refine g_block (g_loop (σ := Nat) (fun i => [(0, .int .i64 o), (2, b64 n), (9, .slice (some ⟨b27, 0, none⟩) z z), (29, .int .i64 (z : Int)), (30, .int .i64 (i : Int))]) (fun i => [(27, .pt b27 (.cells (bs (putAt n z i)).toArray 5 (0, 0)))]) (fun i => i ≤ z) (fun i => z - i) 0 ⟨rfl, rfl, rfl, rfl, rfl, trivial⟩ ⟨by rw [show bs (putAt n z 0) = List.replicate z (b8 0#8) by simp [bs, putAt]]; rfl, trivial⟩ (by omega) ?_)
        intro i hi
        by_cases hlt : i < z
        · (repeat refine g_seq ?_)
          refine g_region ?_
          first | refine g_pu rfl rfl rfl (pu_lss_t rfl rfl rfl (by omega)) ?_ | refine g_pu rfl rfl rfl (pu_lss_f rfl rfl rfl (by omega)) ?_ | refine g_pu rfl rfl rfl (pu_lss rfl rfl rfl) ?_
          refine g_nil ?_
          (repeat refine g_seq ?_)
          refine g_cond_t rfl (g_skip ?_)
          (repeat refine g_seq ?_); refine g_block ?_
          (repeat refine g_seq ?_)
          refine g_region ?_
          refine g_pu rfl rfl rfl (pu_move rfl rfl) ?_
          refine g_pu rfl rfl rfl (pu_assign rfl rfl) ?_
          refine g_nil ?_
          (repeat refine g_seq ?_)
          refine g_region ?_
          refine g_pu rfl rfl rfl (pu_move rfl rfl) ?_
          refine g_pu rfl rfl rfl (pu_move rfl rfl) ?_
          refine g_pu rfl rfl rfl (pu_move rfl rfl) ?_
          refine g_pu rfl rfl rfl (pu_move rfl rfl) ?_
          refine g_pu rfl rfl rfl (pu_mulI rfl rfl rfl (by omega)) ?_
          refine g_pu rfl rfl rfl (pu_shr64 rfl rfl rfl (by omega)) ?_
          refine g_pu rfl rfl rfl (pu_conv64_8 rfl rfl) ?_
          refine g_pu rfl rfl rfl (pu_at1 i rfl rfl rfl rfl hlt) ?_
          refine g_store 27 (v := b8 ((n >>> ((8 : Int) * (i : Int)).toNat).setWidth 8)) rfl rfl rfl rfl rfl rfl rfl (by rw [bs_length, putAt_length hi]; omega) ?_
          refine g_nil ?_
          refine g_blk ?_
          (repeat refine g_seq ?_)
          refine g_region ?_
          refine g_pu rfl rfl rfl (pu_addI rfl rfl rfl (by omega)) ?_
          refine g_pu rfl rfl rfl (pu_move rfl rfl) ?_
          refine g_nil ?_
          have hset : (bs (putAt n z i)).set (0 + i) (b8 ((n >>> ((8 : Int) * (i : Int)).toNat).setWidth 8)) = bs (putAt n z (i + 1)) := by
            rw [← putAt_set hlt, show ((8 : Int) * (i : Int)).toNat = 8 * i by omega, Nat.zero_add]
            simp [bs, List.map_set]
          exact g_round (i + 1) (by omega) (by omega) ⟨rfl, rfl, rfl, rfl, rfl, trivial⟩ ⟨by rw [← hset]; rfl, trivial⟩
        · (repeat refine g_seq ?_)
          refine g_region ?_
          first | refine g_pu rfl rfl rfl (pu_lss_t rfl rfl rfl (by omega)) ?_ | refine g_pu rfl rfl rfl (pu_lss_f rfl rfl rfl (by omega)) ?_ | refine g_pu rfl rfl rfl (pu_lss rfl rfl rfl) ?_
          refine g_nil ?_
          (repeat refine g_seq ?_)
          refine g_cond_f rfl (g_exit rfl ?_)
          have e : i = z := by omega
          subst e
          rw [putAt_end]
          refine g_own 27 (L := bs (putW n i)) (J := []) (c := i) (s := 1) (by rw [List.append_nil]; rfl) (by simp [bs_length, putW_length]) (by omega) ?_
          refine g_seq ?_
          refine g_join (σ := Unit) (fun _ => [(9, .slice (some ⟨b27, 0, none⟩) i i)]) (fun _ => [(27, .fact (At (some ⟨b27, 0, none⟩)) (Own 5 1 (some ⟨b27, 0, none⟩) i (bs (putL o i n))))]) (fun _ => True) ?_ (fun _ _ => ?_)
          · by_cases ho : o = 2
            · (repeat refine g_seq ?_)
              refine g_region ?_
              refine g_pu rfl rfl rfl (pu_move rfl rfl) ?_
              first | refine g_pu rfl rfl rfl (pu_eql_t rfl rfl rfl (by omega)) ?_ | refine g_pu rfl rfl rfl (pu_eql_f rfl rfl rfl (by omega)) ?_ | refine g_pu rfl rfl rfl (pu_eql rfl rfl rfl) ?_
              refine g_nil ?_
              (repeat refine g_seq ?_)
              refine g_cond_t rfl ?_
              (repeat refine g_seq ?_)
              refine g_region ?_
              refine g_pu rfl rfl rfl (pu_move rfl rfl) ?_
              refine g_callW [27] [27] rfl rfl rfl rfl rfl rfl (fun j hj => ⟨27, by simp, _, rfl, hj⟩) (fun w' hm => Reverse_b w' ⟨some ⟨b27, 0, none⟩, i⟩ (hm.holds 27 _ rfl) (hm.below 27 _ rfl) (putW_length n i) (by omega)) (fun _ _ => ?_)
              refine g_nil ?_
              exact g_meet () trivial ⟨rfl, trivial⟩ ⟨by rw [hL, if_pos ho]; rfl, trivial⟩
            · (repeat refine g_seq ?_)
              refine g_region ?_
              refine g_pu rfl rfl rfl (pu_move rfl rfl) ?_
              first | refine g_pu rfl rfl rfl (pu_eql_t rfl rfl rfl (by omega)) ?_ | refine g_pu rfl rfl rfl (pu_eql_f rfl rfl rfl (by omega)) ?_ | refine g_pu rfl rfl rfl (pu_eql rfl rfl rfl) ?_
              refine g_nil ?_
              (repeat refine g_seq ?_)
              refine g_cond_f rfl (g_skip ?_)
              exact g_meet () trivial ⟨rfl, trivial⟩ ⟨by rw [hL, if_neg ho]; rfl, trivial⟩
          · (repeat refine g_seq ?_)
            refine g_region ?_
            refine g_pu rfl rfl rfl (pu_move rfl rfl) ?_
            refine g_pu rfl rfl rfl (pu_assign rfl rfl) ?_
            refine g_pu rfl rfl rfl (pu_assign rfl rfl) ?_
            refine g_nil ?_
            exact g_ret2 rfl rfl rfl (fun w' hm => ⟨⟨some ⟨b27, 0, none⟩, i⟩, trivial, rfl, hm.grows [27] ⟨rfl, trivial⟩ rfl⟩)
    · have hq2 : ¬ n >>> (8 * z) = 0#64 := by rw [show ((8 : Int) * (z : Int)).toNat = 8 * z by omega] at hq; exact hq
      have h8 : z < 8 := by
        rcases Nat.lt_or_ge z 8 with h | h
        · exact h
        · exfalso
          apply hq2
          apply BitVec.eq_of_getLsbD_eq
          intro i hi
          simp [BitVec.getLsbD_of_ge n (8 * z + i) (by omega)]
      have hE : putE o z n = 2 := by unfold putE; rw [if_neg (fun h => h hs), if_pos (show n >>> (8 * ((z : Int)).toNat) ≠ 0#64 from hq2)]
      rw [hnil 2 hE (by omega), hE]
      (repeat refine g_seq ?_)
      refine g_region ?_
      refine g_pu rfl rfl rfl (pu_move rfl rfl) ?_
      first | refine g_pu rfl rfl rfl (pu_lss_t rfl rfl rfl (by omega)) ?_ | refine g_pu rfl rfl rfl (pu_lss_f rfl rfl rfl (by omega)) ?_ | refine g_pu rfl rfl rfl (pu_lss rfl rfl rfl) ?_
      refine g_pu rfl rfl rfl (pu_move rfl rfl) ?_
      first | refine g_pass rfl rfl rfl ?_ | refine g_pu rfl rfl rfl (pu_move rfl rfl) ?_
      first | refine g_pass rfl rfl rfl ?_ | refine g_pu rfl rfl rfl (pu_move rfl rfl) ?_
      first | refine g_pass rfl rfl rfl ?_ | refine g_pu rfl rfl rfl (pu_mulI rfl rfl rfl (by omega)) ?_
      first | refine g_pass rfl rfl rfl ?_ | refine g_pu rfl rfl rfl (pu_shr64 rfl rfl rfl (by omega)) ?_
      first | refine g_pass rfl rfl rfl ?_ | refine g_pu rfl rfl rfl (pu_neq64_t (b := 0#64) rfl rfl rfl (by first | assumption | decide)) ?_ | refine g_pu rfl rfl rfl (pu_neq64_f (b := 0#64) rfl rfl rfl (by first | rfl | assumption | decide)) ?_ | refine g_pu rfl rfl rfl (pu_neq64 (b := 0#64) rfl rfl rfl) ?_
      first | refine g_pu rfl rfl rfl (pu_pick_t rfl rfl rfl) ?_ | refine g_pu rfl rfl rfl (pu_pick_f rfl rfl rfl) ?_
      refine g_nil ?_
      (repeat refine g_seq ?_)
      refine g_cond_t rfl ?_
      (repeat refine g_seq ?_)
      refine g_region ?_
      refine g_pu rfl rfl rfl (pu_assign rfl rfl) ?_
      refine g_pu rfl rfl rfl (pu_assign rfl rfl) ?_
      refine g_nil ?_
      exact g_nilOwn 90 5 1 rfl (g_ret2 rfl rfl rfl (fun w' hm => ⟨⟨none, 0⟩, trivial, rfl, hm.grows [90] ⟨rfl, trivial⟩ rfl⟩))
  · rw [if_neg hs]
    have hE : putE o z n = 1 := by unfold putE; rw [if_pos hs]
    rw [hnil 1 hE (by omega), hE]
    (repeat refine g_seq ?_)
    refine g_region ?_
    refine g_pu rfl rfl rfl (pu_move rfl rfl) ?_
    first | refine g_pu rfl rfl rfl (pu_neq_t rfl rfl rfl (by omega)) ?_ | refine g_pu rfl rfl rfl (pu_neq_f rfl rfl rfl (by omega)) ?_ | refine g_pu rfl rfl rfl (pu_neq rfl rfl rfl) ?_
    refine g_nil ?_
    (repeat refine g_seq ?_)
    refine g_cond_t rfl ?_
    (repeat refine g_seq ?_)
    refine g_region ?_
    refine g_pu rfl rfl rfl (pu_move rfl rfl) ?_
    refine g_pu rfl rfl rfl (pu_assign rfl rfl) ?_
    refine g_pu rfl rfl rfl (pu_assign rfl rfl) ?_
    refine g_nil ?_
    exact g_nilOwn 90 5 1 rfl (g_ret2 rfl rfl rfl (fun w' hm => ⟨⟨none, 0⟩, trivial, rfl, hm.grows [90] ⟨rfl, trivial⟩ rfl⟩))
end Go.Sx

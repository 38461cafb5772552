/-
  The reference's way to write a number as bytes; what is written is read back. The order is 1 or 2, the width 1 to 8.
-/
import Derived.Test.YteblmnpklcdnpaaC8
set_option linter.unusedVariables false
set_option linter.unusedSimpArgs false
namespace Go.Sx
open Go Go.Proofs

def rowR (o : Int) (n : BitVec 64) (z i : Nat) : List (BitVec 8) := if o = 2 then (putAt n z i).reverse else putAt n z i
theorem rowR_length {o : Int} {n : BitVec 64} {z i : Nat} (h : i ≤ z) : (rowR o n z i).length = z := by unfold rowR; split <;> simp [putAt_length h]
theorem rowR_set {o : Int} {n : BitVec 64} {z i : Nat} (h : i < z) : (rowR o n z i).set (if o = 2 then z - 1 - i else i) ((n >>> (8 * i)).setWidth 8) = rowR o n z (i + 1) := by
  unfold rowR
  by_cases ho : o = 2
  · rw [if_pos ho, if_pos ho, if_pos ho]
    have := rev_set (putAt n z i) i ((n >>> (8 * i)).setWidth 8) (by rw [putAt_length (by omega)]; exact h)
    rw [putAt_length (by omega)] at this
    rw [this, putAt_set h]
  · rw [if_neg ho, if_neg ho, if_neg ho, putAt_set h]

theorem RPut_b (w : World) (o z : Int) (n : BitVec 64) :
    Spec Try.prog 55 #[.int .i64 o, .int .i64 z, b64 n] w (σ := Ow) (fun _ => True) (fun x => .tuple #[x.sl (putL o z n).length, .int .i64 (putE o z n)]) Nob (fun x => [x.ck 5 1 (bs (putL o z n))]) := by
  refine enter Try.func55 rfl rfl (Mem.start w) ?_
  (repeat refine g_seq ?_)
  refine g_region ?_
  refine g_pu rfl rfl rfl (pu_assign rfl rfl) ?_
  refine g_pu rfl rfl rfl (pu_assign rfl rfl) ?_
  refine g_nil ?_
  have hnil : ∀ q, putE o z n = q → q ≠ 0 → putL o z n = [] := fun q hq h0 => by unfold putL; rw [if_neg (by omega)]
  by_cases hs : ShapeOk o z
  · have hz := hs.2
    obtain ⟨z, rfl⟩ := Int.eq_ofNat_of_zero_le (show 0 ≤ z by omega)
    (repeat refine g_seq ?_)
    refine g_region ?_
    refine g_pu rfl rfl rfl (pu_move rfl rfl) ?_
    refine g_pu rfl rfl rfl (pu_move rfl rfl) ?_
    refine g_call [] rfl rfl rfl rfl rfl rfl (fun w' hm => rshape_b w' o z) (fun _ _ => ?_)
    refine g_as (t := 13) (u := .bool true) rfl (by rw [decide_eq_true hs]) rfl ?_
    refine g_pu rfl rfl rfl (pu_not rfl rfl) ?_
    refine g_nil ?_
    (repeat refine g_seq ?_)
    refine g_cond_f rfl (g_skip ?_)
    (repeat refine g_seq ?_)
    refine g_region ?_
    refine g_pu rfl rfl rfl (pu_move rfl rfl) ?_
    refine g_lo [16] rfl rfl rfl rfl (lo_make (n := z) (c := z) rfl rfl rfl (by omega) (by omega) (by omega) rfl) (fun b16 hb16 => ?_)
    refine g_pu rfl rfl rfl (pu_assign rfl rfl) ?_
    refine g_nil ?_
    (repeat refine g_seq ?_)
    refine g_region ?_
    refine g_pu rfl rfl rfl (pu_assign rfl rfl) ?_
    refine g_nil ?_
    refine g_block (g_loop (σ := Nat) (fun i => [(0, .int .i64 o), (1, .int .i64 (z : Int)), (2, b64 (n >>> (8 * i))), (8, .slice (some ⟨b16, 0, none⟩) z z), (9, .int .i64 (i : Int))]) (fun i => [(16, .pt b16 (.cells (bs (rowR o n z i)).toArray 5 (0, 0)))]) (fun i => i ≤ z) (fun i => z - i) 0 ⟨rfl, rfl, by simp; rfl, rfl, rfl, trivial⟩ ⟨by rw [show bs (rowR o n z 0) = List.replicate z (b8 0#8) by unfold rowR; split <;> simp [bs, putAt]]; rfl, trivial⟩ (by omega) ?_)
    intro i hi
    by_cases hlt : i < z
    · (repeat refine g_seq ?_)
      refine g_region ?_
      refine g_pu rfl rfl rfl (pu_move rfl rfl) ?_
      refine g_pu rfl rfl rfl (pu_move rfl rfl) ?_
      first | refine g_pu rfl rfl rfl (pu_lss_t rfl rfl rfl (by omega)) ?_ | refine g_pu rfl rfl rfl (pu_lss_f rfl rfl rfl (by omega)) ?_ | refine g_pu rfl rfl rfl (pu_lss rfl rfl rfl) ?_
      refine g_nil ?_
      (repeat refine g_seq ?_)
      refine g_cond_t rfl (g_skip ?_)
      (repeat refine g_seq ?_); refine g_block ?_
      (repeat refine g_seq ?_)
      refine g_region ?_
      refine g_pu rfl rfl rfl (pu_move rfl rfl) ?_
      refine g_pu rfl rfl rfl (pu_assign rfl rfl) ?_
      refine g_nil ?_
      refine g_seq ?_
      refine g_join (σ := Int) (fun k => [(0, .int .i64 o), (1, .int .i64 (z : Int)), (2, b64 (n >>> (8 * i))), (8, .slice (some ⟨b16, 0, none⟩) z z), (9, .int .i64 (i : Int)), (10, .int .i64 k)]) (fun _ => [(16, .pt b16 (.cells (bs (rowR o n z i)).toArray 5 (0, 0)))]) (fun k => k = ((if o = 2 then z - 1 - i else i : Nat) : Int)) ?_ (fun k hk => ?_)
      · by_cases ho : o = 2
        · (repeat refine g_seq ?_)
          refine g_region ?_
          refine g_pu rfl rfl rfl (pu_move rfl rfl) ?_
          first | refine g_pu rfl rfl rfl (pu_eql_t rfl rfl rfl (by omega)) ?_ | refine g_pu rfl rfl rfl (pu_eql_f rfl rfl rfl (by omega)) ?_ | refine g_pu rfl rfl rfl (pu_eql rfl rfl rfl) ?_
          refine g_nil ?_
          (repeat refine g_seq ?_)
          refine g_cond_t rfl ?_
          (repeat refine g_seq ?_)
          refine g_region ?_
          refine g_pu rfl rfl rfl (pu_move rfl rfl) ?_
          refine g_pu rfl rfl rfl (pu_subI rfl rfl rfl (by omega)) ?_
          refine g_pu rfl rfl rfl (pu_move rfl rfl) ?_
          refine g_pu rfl rfl rfl (pu_subI rfl rfl rfl (by omega)) ?_
          refine g_pu rfl rfl rfl (pu_assign rfl rfl) ?_
          refine g_nil ?_
          exact g_meet _ (by rw [if_pos ho]; omega) ⟨rfl, rfl, rfl, rfl, rfl, rfl, trivial⟩ ⟨rfl, trivial⟩
        · (repeat refine g_seq ?_)
          refine g_region ?_
          refine g_pu rfl rfl rfl (pu_move rfl rfl) ?_
          first | refine g_pu rfl rfl rfl (pu_eql_t rfl rfl rfl (by omega)) ?_ | refine g_pu rfl rfl rfl (pu_eql_f rfl rfl rfl (by omega)) ?_ | refine g_pu rfl rfl rfl (pu_eql rfl rfl rfl) ?_
          refine g_nil ?_
          (repeat refine g_seq ?_)
          refine g_cond_f rfl (g_skip ?_)
          exact g_meet _ (by rw [if_neg ho]) ⟨rfl, rfl, rfl, rfl, rfl, rfl, trivial⟩ ⟨rfl, trivial⟩
      · have hset := rowR_set (o := o) (n := n) hlt
        have hat : (if o = 2 then z - 1 - i else i) < z := by split <;> omega
        generalize (if o = 2 then z - 1 - i else i) = j at hk hset hat
        (repeat refine g_seq ?_)
        refine g_region ?_
        refine g_pu rfl rfl rfl (pu_move rfl rfl) ?_
        refine g_pu rfl rfl rfl (pu_move rfl rfl) ?_
        refine g_pu rfl rfl rfl (pu_move rfl rfl) ?_
        refine g_pu rfl rfl rfl (pu_rem64 (b := 256#64) rfl rfl rfl (by first | decide | assumption)) ?_
        refine g_pu rfl rfl rfl (pu_conv64_8 rfl rfl) ?_
        refine g_pu rfl rfl rfl (pu_at1 j rfl rfl rfl hk hat) ?_
        refine g_store 16 (v := b8 ((n >>> (8 * i) % 256#64).setWidth 8)) rfl rfl rfl rfl rfl rfl rfl (by rw [bs_length, rowR_length hi]; omega) ?_
        rw [rem_low, show (bs (rowR o n z i)).set (0 + j) (b8 ((n >>> (8 * i)).setWidth 8)) = bs (rowR o n z (i + 1)) by rw [← hset, Nat.zero_add]; simp [bs, List.map_set]]
        refine g_nil ?_
        (repeat refine g_seq ?_)
        refine g_region ?_
        refine g_pu rfl rfl rfl (pu_move rfl rfl) ?_
        refine g_pu rfl rfl rfl (pu_quo64 (b := 256#64) rfl rfl rfl (by first | decide | assumption)) ?_
        refine g_pu rfl rfl rfl (pu_assign rfl rfl) ?_
        refine g_nil ?_
        refine g_blk ?_
        (repeat refine g_seq ?_)
        refine g_region ?_
        refine g_pu rfl rfl rfl (pu_move rfl rfl) ?_
        refine g_pu rfl rfl rfl (pu_addI rfl rfl rfl (by omega)) ?_
        refine g_pu rfl rfl rfl (pu_assign rfl rfl) ?_
        refine g_nil ?_
        exact g_round (i + 1) (by omega) (by omega) ⟨rfl, rfl, by rw [← shr_add]; rfl, rfl, rfl, trivial⟩ ⟨rfl, trivial⟩
    · (repeat refine g_seq ?_)
      refine g_region ?_
      refine g_pu rfl rfl rfl (pu_move rfl rfl) ?_
      refine g_pu rfl rfl rfl (pu_move rfl rfl) ?_
      first | refine g_pu rfl rfl rfl (pu_lss_t rfl rfl rfl (by omega)) ?_ | refine g_pu rfl rfl rfl (pu_lss_f rfl rfl rfl (by omega)) ?_ | refine g_pu rfl rfl rfl (pu_lss rfl rfl rfl) ?_
      refine g_nil ?_
      (repeat refine g_seq ?_)
      refine g_cond_f rfl (g_exit rfl ?_)
      have e : i = z := by omega
      subst e
      by_cases hq : n >>> (8 * i) = 0#64
      · have hE : putE o i n = 0 := by unfold putE; rw [if_neg (fun h => h hs), if_neg (fun h => h (show n >>> (8 * ((i : Int)).toNat) = 0#64 from hq))]
        have hL : putL o i n = rowR o n i i := by unfold putL rowR; rw [if_pos hE, putAt_end]; rfl
        have hlen : (putL o i n).length = i := by rw [hL, rowR_length (Nat.le_refl _)]
        rw [hE, hlen]
        (repeat refine g_seq ?_)
        refine g_region ?_
        refine g_pu rfl rfl rfl (pu_move rfl rfl) ?_
        first | refine g_pu rfl rfl rfl (pu_neq64_t (b := 0#64) rfl rfl rfl (by first | assumption | decide)) ?_ | refine g_pu rfl rfl rfl (pu_neq64_f (b := 0#64) rfl rfl rfl (by first | rfl | assumption | decide)) ?_ | refine g_pu rfl rfl rfl (pu_neq64 (b := 0#64) rfl rfl rfl) ?_
        refine g_nil ?_
        (repeat refine g_seq ?_)
        refine g_cond_f rfl (g_skip ?_)
        (repeat refine g_seq ?_)
        refine g_region ?_
        refine g_pu rfl rfl rfl (pu_move rfl rfl) ?_
        refine g_pu rfl rfl rfl (pu_assign rfl rfl) ?_
        refine g_pu rfl rfl rfl (pu_assign rfl rfl) ?_
        refine g_nil ?_
        refine g_own 16 (L := bs (putL o i n)) (J := []) (c := i) (s := 1) (by rw [List.append_nil, hL]; rfl) (by simp [bs_length, hlen]) (by omega) ?_
        exact g_ret2 rfl rfl rfl (fun w' hm => ⟨⟨some ⟨b16, 0, none⟩, i⟩, trivial, rfl, hm.grows [16] ⟨rfl, trivial⟩ rfl⟩)
      · have hE : putE o i n = 2 := by unfold putE; rw [if_neg (fun h => h hs), if_pos (show n >>> (8 * ((i : Int)).toNat) ≠ 0#64 from hq)]
        rw [hnil 2 hE (by omega), hE]
        (repeat refine g_seq ?_)
        refine g_region ?_
        refine g_pu rfl rfl rfl (pu_move rfl rfl) ?_
        first | refine g_pu rfl rfl rfl (pu_neq64_t (b := 0#64) rfl rfl rfl (by first | assumption | decide)) ?_ | refine g_pu rfl rfl rfl (pu_neq64_f (b := 0#64) rfl rfl rfl (by first | rfl | assumption | decide)) ?_ | refine g_pu rfl rfl rfl (pu_neq64 (b := 0#64) rfl rfl rfl) ?_
        refine g_nil ?_
        (repeat refine g_seq ?_)
        refine g_cond_t rfl ?_
        (repeat refine g_seq ?_)
        refine g_region ?_
        refine g_pu rfl rfl rfl (pu_assign rfl rfl) ?_
        refine g_pu rfl rfl rfl (pu_assign rfl rfl) ?_
        refine g_nil ?_
        exact g_nilOwn 90 5 1 rfl (g_ret2 rfl rfl rfl (fun w' hm => ⟨⟨none, 0⟩, trivial, rfl, hm.grows [90] ⟨rfl, trivial⟩ rfl⟩))
  · have hE : putE o z n = 1 := by unfold putE; rw [if_pos hs]
    rw [hnil 1 hE (by omega), hE]
    (repeat refine g_seq ?_)
    refine g_region ?_
    refine g_pu rfl rfl rfl (pu_move rfl rfl) ?_
    refine g_pu rfl rfl rfl (pu_move rfl rfl) ?_
    refine g_call [] rfl rfl rfl rfl rfl rfl (fun w' hm => rshape_b w' o z) (fun _ _ => ?_)
    refine g_as (t := 13) (u := .bool false) rfl (by rw [decide_eq_false hs]) rfl ?_
    refine g_pu rfl rfl rfl (pu_not rfl rfl) ?_
    refine g_nil ?_
    (repeat refine g_seq ?_)
    refine g_cond_t rfl ?_
    (repeat refine g_seq ?_)
    refine g_region ?_
    refine g_pu rfl rfl rfl (pu_assign rfl rfl) ?_
    refine g_pu rfl rfl rfl (pu_assign rfl rfl) ?_
    refine g_nil ?_
    exact g_nilOwn 90 5 1 rfl (g_ret2 rfl rfl rfl (fun w' hm => ⟨⟨none, 0⟩, trivial, rfl, hm.grows [90] ⟨rfl, trivial⟩ rfl⟩))

/-- What is written is read back. -/
theorem put_get {o z : Int} {n : BitVec 64} (h : putE o z n = 0) : getE o (putL o z n).length 0 z = 0 ∧ getV o (putL o z n) 0 z = n := by
  have hs : ShapeOk o z := by
    by_cases hs : ShapeOk o z
    · exact hs
    · unfold putE at h; rw [if_pos hs] at h; omega
  have hz := hs.2
  obtain ⟨z, rfl⟩ := Int.eq_ofNat_of_zero_le (show 0 ≤ z by omega)
  have hq : n >>> (8 * z) = 0#64 := by
    by_cases hq : n >>> (8 * z) = 0#64
    · exact hq
    · unfold putE at h
      rw [if_neg (fun h => h hs), if_pos (show n >>> (8 * ((z : Int)).toNat) ≠ 0#64 from hq)] at h
      omega
  have hL : putL o z n = if o = 2 then (putW n z).reverse else putW n z := by unfold putL; rw [if_pos h]; rfl
  have hlen : (putL o z n).length = z := by rw [hL]; split <;> simp [putW_length]
  have hE : getE o (putL o z n).length 0 z = 0 := by rw [hlen]; unfold getE; rw [if_neg (by omega), if_neg (by omega)]
  refine ⟨hE, ?_⟩
  unfold getV
  rw [if_pos hE]
  have hw : win (putL o z n) (0 : Int).toNat (z : Int).toNat = putL o z n := by
    unfold win
    rw [show (0 : Int).toNat = 0 from rfl, List.drop_zero]
    exact List.take_of_length_le (by rw [hlen]; exact Nat.le_refl _)
  rw [hw, beV_rev]
  have hb : (rdS o (putL o z n)).reverse = putW n z := by
    unfold rdS
    rw [hL]
    split <;> simp
  rw [hb, leV_putW z n hq]
end Go.Sx

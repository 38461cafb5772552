import Derived.Test.YtfbcmndhjoebbaaZdGK
import Derived.Test.YtfbcmndhjoebbaaZdYA
set_option linter.unusedVariables false
set_option linter.unusedSimpArgs false
/-
  The fixed fact about X25519, computed. No condition.
-/
namespace Go.Sx
open Go Go.Proofs

end Go.Sx

/-
  Public, pairs, exchanges, low points, and the fixed fact. The bytes fit memory.
-/
namespace Go.Sx
open Go Go.Proofs

def nine : List (BitVec 8) := leB 32 9
theorem nine_length : nine.length = 32 := leB_length 32 9
theorem fill_two {A : Array Value} {a b : List Value} {s : Nat} (ha : a.length = s) (hb : b.length = s) (hA : A.size = s + s) : Instr.fill (fun i => [(0, s), (s, s)][i]?) A [(0, .agg a.toArray), (1, .agg b.toArray)] = some (a ++ b).toArray := by
  rw [fill_stp (C := a) (off := 0) (s := s) rfl rfl ha (by omega), List.take_zero, List.nil_append]
  have hd : (A.toList.drop (0 + s)).length = s := by rw [List.length_drop, Array.length_toList]; omega
  generalize A.toList.drop (0 + s) = D at hd
  rw [fill_stp (C := b) (off := s) (s := s) rfl rfl hb (by rw [List.size_toArray, List.length_append, hd, ha]; omega)]
  rw [show (a ++ D).toArray.toList.take s = a from List.take_left' ha, show (a ++ D).toArray.toList.drop (s + s) = [] from by
    show (a ++ D).drop (s + s) = []
    exact List.drop_of_length_le (by rw [List.length_append, hd, ha]; omega)]
  simp [Instr.fill]
/-- A pair's cells. -/
def prC (a b : List (BitVec 8)) : List Value := bs a ++ bs b
theorem prC_length {a b : List (BitVec 8)} (ha : a.length = 32) (hb : b.length = 32) : (prC a b).length = 64 := by rw [prC, List.length_append, bs_length, bs_length, ha, hb]
theorem oneCell_prC (a b : List (BitVec 8)) : ∀ u ∈ prC a b, u.oneCell' = true := fun u hu => (List.mem_append.1 hu).elim (oneCell_bs a u) (oneCell_bs b u)
theorem prC_fst {a b : List (BitVec 8)} (ha : a.length = 32) : (prC a b).toArray.extract (0 + 0) (0 + 0 + 32) = (bs a).toArray := by
  apply Array.ext'
  simp only [Array.toList_extract, List.extract_eq_take_drop]
  rw [prC, Nat.add_zero, List.drop_zero, Nat.zero_add, Nat.sub_zero, List.take_left' (by rw [bs_length, ha])]
theorem prC_snd {a b : List (BitVec 8)} (ha : a.length = 32) (hb : b.length = 32) : (prC a b).toArray.extract (0 + 32) (0 + 32 + 32) = (bs b).toArray := by
  apply Array.ext'
  simp only [Array.toList_extract, List.extract_eq_take_drop]
  rw [prC, Nat.zero_add, Nat.add_sub_cancel, List.drop_left' (by rw [bs_length, ha]), List.take_of_length_le (by rw [bs_length, hb]; exact Nat.le_refl _)]

theorem Public_b (w : World) {p : Option Addr} {n : Nat} (c : Nat) {k : List (BitVec 8)} (hk : By w p n k) : Spec Try.prog 33 #[.slice p n c] w (σ := Unit) (fun _ => True) (fun _ => .tuple #[.agg (bs (xmV k nine)).toArray, .int .i64 (xmE k nine)]) Nob (fun _ => []) := by
  refine enter Try.func33 rfl rfl (Mem.start w) ?_
  have h9 := nine_length
  have hbl : (bs (xmV k nine)).length = 32 := by rw [bs_length, xmV_length]
  (repeat refine g_seq ?_)
  refine g_region ?_
  refine g_lo [2] rfl rfl rfl rfl (lo_alloc rfl) (fun b2 hb2 => ?_)
  refine g_pu rfl rfl rfl (pu_assign rfl rfl) ?_
  refine g_nil ?_
  (repeat refine g_seq ?_)
  refine g_region ?_
  refine g_call [] rfl rfl rfl rfl rfl rfl (fun w' hm => Of_b w' 9#64) (fun _ _ => ?_)
  refine g_call [] rfl rfl rfl rfl rfl rfl (fun w' hm => Bytes_n w' 9 (by decide)) (fun _ _ => ?_)
  refine g_lo [4] rfl rfl rfl rfl (lo_alloc rfl) (fun b4 hb4 => ?_)
  refine g_storeL 4 (s := 32) (C := bs nine) rfl rfl rfl rfl rfl rfl (by rw [bs_length, h9]) rfl (oneCell_bs _) ?_
  refine g_nil ?_
  (repeat refine g_seq ?_)
  refine g_region ?_
  refine g_pu rfl rfl rfl (pu_move rfl rfl) ?_
  refine g_pu rfl rfl rfl (pu_sliceA rfl rfl) ?_
  refine g_call [] rfl rfl rfl rfl rfl rfl (fun w' hm => Mult_b w' c 32 (u := nine) (hk.m hm) (By.full 4 rfl hm h9 (by omega))) (fun _ _ => ?_)
  refine g_pu rfl rfl rfl (pu_extract rfl rfl rfl) ?_
  refine g_pu rfl rfl rfl (pu_extract rfl rfl rfl) ?_
  refine g_storeL 2 (s := 32) (C := bs (xmV k nine)) rfl rfl rfl rfl rfl rfl hbl rfl (oneCell_bs _) ?_
  refine g_pu rfl rfl rfl (pu_assign rfl rfl) ?_
  refine g_nil ?_
  exact g_retLT 2 (L := bs (xmV k nine)) rfl hbl rfl rfl rfl (fun w' hm => ⟨(), trivial, rfl, hm.grows [] trivial rfl⟩)

theorem RPublic_b (w : World) {p : Option Addr} {n : Nat} (c : Nat) {k : List (BitVec 8)} (hk : By w p n k) : Spec Try.prog 34 #[.slice p n c] w (σ := Unit) (fun _ => True) (fun _ => .tuple #[.agg (bs (xmV k nine)).toArray, .int .i64 (xmE k nine)]) Nob (fun _ => []) := by
  refine enter Try.func34 rfl rfl (Mem.start w) ?_
  have h9 := nine_length
  have hbl : (bs (xmV k nine)).length = 32 := by rw [bs_length, xmV_length]
  have hd9 : dg 9 = ws [9#32, 0#32, 0#32, 0#32, 0#32, 0#32, 0#32, 0#32] := dg_small (by decide)
  (repeat refine g_seq ?_)
  refine g_region ?_
  refine g_lo [2] rfl rfl rfl rfl (lo_alloc rfl) (fun b2 hb2 => ?_)
  refine g_pu rfl rfl rfl (pu_assign rfl rfl) ?_
  refine g_nil ?_
  (repeat refine g_seq ?_)
  refine g_region ?_
  refine g_pu rfl rfl rfl (pu_buildA' (cs := dg 9) rfl rfl (by rw [hd9]; rfl)) ?_
  refine g_call [] rfl rfl rfl rfl rfl rfl (fun w' hm => RBytes_n w' 9 (by decide)) (fun _ _ => ?_)
  refine g_lo [4] rfl rfl rfl rfl (lo_alloc rfl) (fun b4 hb4 => ?_)
  refine g_storeL 4 (s := 32) (C := bs nine) rfl rfl rfl rfl rfl rfl (by rw [bs_length, h9]) rfl (oneCell_bs _) ?_
  refine g_nil ?_
  (repeat refine g_seq ?_)
  refine g_region ?_
  refine g_pu rfl rfl rfl (pu_move rfl rfl) ?_
  refine g_pu rfl rfl rfl (pu_sliceA rfl rfl) ?_
  refine g_call [] rfl rfl rfl rfl rfl rfl (fun w' hm => RMult_b w' c 32 (u := nine) (hk.m hm) (By.full 4 rfl hm h9 (by omega))) (fun _ _ => ?_)
  refine g_pu rfl rfl rfl (pu_extract rfl rfl rfl) ?_
  refine g_pu rfl rfl rfl (pu_extract rfl rfl rfl) ?_
  refine g_storeL 2 (s := 32) (C := bs (xmV k nine)) rfl rfl rfl rfl rfl rfl hbl rfl (oneCell_bs _) ?_
  refine g_pu rfl rfl rfl (pu_assign rfl rfl) ?_
  refine g_nil ?_
  exact g_retLT 2 (L := bs (xmV k nine)) rfl hbl rfl rfl rfl (fun w' hm => ⟨(), trivial, rfl, hm.grows [] trivial rfl⟩)

/-- A pair of a private key. -/
def npC (k : List (BitVec 8)) : List Value := if xmE k nine = 0 then prC k (xmV k nine) else prC zero32 zero32
theorem xmE_32 {k u : List (BitVec 8)} (h : xmE k u = 0) : k.length = 32 := by
  unfold xmE at h
  split at h
  · rename_i h2; exact h2.1
  · cases h
theorem NewPair_b (w : World) {p : Option Addr} {n : Nat} (c : Nat) {k : List (BitVec 8)} (hk : By w p n k) : Spec Try.prog 37 #[.slice p n c] w (σ := Unit) (fun _ => True) (fun _ => .tuple #[.agg (npC k).toArray, .int .i64 (xmE k nine)]) Nob (fun _ => []) := by
  refine enter Try.func37 rfl rfl (Mem.start w) ?_
  have hkl := hk.len
  have hvl := xmV_length k nine
  have hbl : (bs (xmV k nine)).length = 32 := by rw [bs_length, hvl]
  (repeat refine g_seq ?_)
  refine g_region ?_
  refine g_lo [2] rfl rfl rfl rfl (lo_alloc rfl) (fun b2 hb2 => ?_)
  refine g_pu rfl rfl rfl (pu_assign rfl rfl) ?_
  refine g_nil ?_
  (repeat refine g_seq ?_)
  refine g_region ?_
  refine g_pu rfl rfl rfl (pu_move rfl rfl) ?_
  refine g_call [] rfl rfl rfl rfl rfl rfl (fun w' hm => Public_b w' c (hk.m hm)) (fun _ _ => ?_)
  refine g_pu rfl rfl rfl (pu_move rfl rfl) ?_
  refine g_pu rfl rfl rfl (pu_extract rfl rfl rfl) ?_
  refine g_pu rfl rfl rfl (pu_extract rfl rfl rfl) ?_
  refine g_lo [4] rfl rfl rfl rfl (lo_alloc rfl) (fun b4 hb4 => ?_)
  refine g_storeL 4 (s := 32) (C := bs (xmV k nine)) rfl rfl rfl rfl rfl rfl hbl rfl (oneCell_bs _) ?_
  refine g_pu rfl rfl rfl (pu_assign rfl rfl) ?_
  refine g_nil ?_
  by_cases hE : xmE k nine = 0
  · have hN : npC k = prC k (xmV k nine) := if_pos hE
    have h32 := xmE_32 hE
    have hn32 : n = 32 := by omega
    have hpl := prC_length h32 hvl
    subst hn32
    rw [hN, hE]
    (repeat refine g_seq ?_)
    refine g_region ?_
    refine g_pu rfl rfl rfl (pu_move rfl rfl) ?_
    first | refine g_pu rfl rfl rfl (pu_neq_t rfl rfl rfl (by omega)) ?_ | refine g_pu rfl rfl rfl (pu_neq_f rfl rfl rfl (by omega)) ?_ | refine g_pu rfl rfl rfl (pu_neq rfl rfl rfl) ?_
    refine g_nil ?_
    (repeat refine g_seq ?_)
    refine g_cond_f rfl (g_skip ?_)
    (repeat refine g_seq ?_)
    refine g_any (5, []) ?_
    refine a_pu 0 rfl rfl rfl rfl (pu_move rfl rfl) rfl rfl (by kernel_rfl) ?_
    refine a_pu 1 rfl rfl rfl rfl (pu_s2a (fun w' hm => hk.m hm) rfl rfl (by omega) (by omega)) rfl rfl (by kernel_rfl) ?_
    refine a_pu 2 rfl rfl rfl rfl (pu_rdMA (fun w' hm => (hk.m hm).rd) rfl rfl (by omega) (by rw [bs_length, h32]; omega)) rfl rfl (by kernel_rfl) ?_
    rw [bs_full h32]
    refine a_pu 3 rfl rfl rfl rfl (pu_loadW 4 (L := bs (xmV k nine)) rfl rfl rfl hbl) rfl rfl (by kernel_rfl) ?_
    refine a_pu 4 rfl rfl rfl rfl (pu_buildS (cs := prC k (xmV k nine)) rfl rfl (fill_two (by rw [bs_length, h32]) hbl rfl)) rfl rfl (by kernel_rfl) ?_
    refine a_tail [5, 6] (by kernel_rfl) rfl rfl (by kernel_rfl) ?_
    refine g_storeL 2 (s := 64) (C := prC k (xmV k nine)) rfl rfl rfl rfl rfl rfl hpl rfl (oneCell_prC _ _) ?_
    refine g_pu rfl rfl rfl (pu_assign rfl rfl) ?_
    refine g_nil ?_
    exact g_retLT 2 (L := prC k (xmV k nine)) rfl hpl rfl rfl rfl (fun w' hm => ⟨(), trivial, rfl, hm.grows [] trivial rfl⟩)
  · have hN : npC k = prC zero32 zero32 := if_neg hE
    rw [hN]
    (repeat refine g_seq ?_)
    refine g_region ?_
    refine g_pu rfl rfl rfl (pu_move rfl rfl) ?_
    refine g_pu rfl rfl rfl (pu_neq_t rfl rfl rfl hE) ?_
    refine g_nil ?_
    (repeat refine g_seq ?_)
    refine g_cond_t rfl ?_
    (repeat refine g_seq ?_)
    refine g_region ?_
    refine g_pu rfl rfl rfl (pu_buildS (cs := prC zero32 zero32) rfl rfl rfl) ?_
    refine g_pu rfl rfl rfl (pu_move rfl rfl) ?_
    refine g_storeL 2 (s := 64) (C := prC zero32 zero32) rfl rfl rfl rfl rfl rfl rfl rfl (oneCell_prC _ _) ?_
    refine g_pu rfl rfl rfl (pu_assign rfl rfl) ?_
    refine g_nil ?_
    exact g_retLT 2 (L := prC zero32 zero32) rfl rfl rfl rfl rfl (fun w' hm => ⟨(), trivial, rfl, hm.grows [] trivial rfl⟩)

end Go.Sx

/-
  Chains of multiplications, of the program and of the document. The bytes fit memory.
-/
namespace Go.Sx
open Go Go.Proofs

end Go.Sx

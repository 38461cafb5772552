import Derived.Test.YtigcogjilfnpcaaZeGK
import Derived.Test.YtigcogjilfnpcaaZeYA
set_option linter.unusedVariables false
set_option linter.unusedSimpArgs false
/-
  The fixed fact about X25519, computed. No condition.
-/
namespace Go.Sx
open Go Go.Proofs

end Go.Sx

/-
  Public, pairs, exchanges, low points, and the fixed fact. The bytes fit memory.
-/
namespace Go.Sx
open Go Go.Proofs

def nine : List (BitVec 8) := leB 32 9
theorem nine_length : nine.length = 32 := leB_length 32 9
theorem Low_b (w : World) {q : Option Addr} {m : Nat} (d : Nat) {u : List (BitVec 8)} (hu : By w q m u) : Spec Try.prog 65 #[.slice q m d] w (σ := Unit) (fun _ => True) (fun _ => .tuple #[.bool (decide (xmE zero32 u = 5)), .int .i64 (if xmE zero32 u = 2 then 2 else 0)]) Nob (fun _ => []) := by
  refine enter Try.func65 rfl rfl (Mem.start w) ?_
  have hbl : (bs (xmV zero32 u)).length = 32 := by rw [bs_length, xmV_length]
  (repeat refine g_seq ?_)
  refine g_region ?_
  refine g_pu rfl rfl rfl (pu_assign rfl rfl) ?_
  refine g_pu rfl rfl rfl (pu_assign rfl rfl) ?_
  refine g_nil ?_
  (repeat refine g_seq ?_)
  refine g_region ?_
  refine g_lo [7] rfl rfl rfl rfl (lo_make (n := 32) (c := 32) rfl rfl rfl (by omega) (by omega) (by omega) rfl) (fun b7 hb7 => ?_)
  refine g_pu rfl rfl rfl (pu_move rfl rfl) ?_
  refine g_call [] rfl rfl rfl rfl rfl rfl (fun w' hm => Mult_b w' 32 d (k := zero32) (By.full 7 rfl hm rfl (by omega)) (hu.m hm)) (fun _ _ => ?_)
  refine g_pu rfl rfl rfl (pu_move rfl rfl) ?_
  refine g_pu rfl rfl rfl (pu_extract rfl rfl rfl) ?_
  refine g_pu rfl rfl rfl (pu_extract rfl rfl rfl) ?_
  refine g_lo [4] rfl rfl rfl rfl (lo_alloc rfl) (fun b4 hb4 => ?_)
  refine g_storeL 4 (s := 32) (C := bs (xmV zero32 u)) rfl rfl rfl rfl rfl rfl hbl rfl (oneCell_bs _) ?_
  refine g_pu rfl rfl rfl (pu_assign rfl rfl) ?_
  refine g_nil ?_
  by_cases h2 : xmE zero32 u = 2
  · rw [h2]
    (repeat refine g_seq ?_)
    refine g_region ?_
    refine g_pu rfl rfl rfl (pu_move rfl rfl) ?_
    first | refine g_pu rfl rfl rfl (pu_eql_t rfl rfl rfl (by omega)) ?_ | refine g_pu rfl rfl rfl (pu_eql_f rfl rfl rfl (by omega)) ?_ | refine g_pu rfl rfl rfl (pu_eql rfl rfl rfl) ?_
    refine g_nil ?_
    (repeat refine g_seq ?_)
    refine g_cond_t rfl ?_
    (repeat refine g_seq ?_)
    refine g_region ?_
    refine g_pu rfl rfl rfl (pu_move rfl rfl) ?_
    refine g_pu rfl rfl rfl (pu_assign rfl rfl) ?_
    refine g_pu rfl rfl rfl (pu_assign rfl rfl) ?_
    refine g_nil ?_
    exact g_ret2 rfl rfl rfl (fun w' hm => ⟨(), trivial, rfl, hm.grows [] trivial rfl⟩)
  · rw [if_neg h2]
    (repeat refine g_seq ?_)
    refine g_region ?_
    refine g_pu rfl rfl rfl (pu_move rfl rfl) ?_
    refine g_pu rfl rfl rfl (pu_eql_f rfl rfl rfl h2) ?_
    refine g_nil ?_
    (repeat refine g_seq ?_)
    refine g_cond_f rfl (g_skip ?_)
    (repeat refine g_seq ?_)
    refine g_region ?_
    refine g_pu rfl rfl rfl (pu_move rfl rfl) ?_
    refine g_pu rfl rfl rfl (pu_eql rfl rfl rfl) ?_
    refine g_pu rfl rfl rfl (pu_assign rfl rfl) ?_
    refine g_pu rfl rfl rfl (pu_assign rfl rfl) ?_
    refine g_nil ?_
    exact g_ret2 rfl rfl rfl (fun w' hm => ⟨(), trivial, rfl, hm.grows [] trivial rfl⟩)
end Go.Sx

/-
  Chains of multiplications, of the program and of the document. The bytes fit memory.
-/
namespace Go.Sx
open Go Go.Proofs

def chR : List (List (BitVec 8)) → List (BitVec 8) → List (BitVec 8) × Int
  | [], at' => (at', 0)
  | k :: r, at' => if xmE k at' = 0 then chR r (xmV k at') else (zero32, xmE k at')
def all32 (ks : List (List (BitVec 8))) : Bool := ks.all fun k => k.length == 32
def chP (u : List (BitVec 8)) (ks : List (List (BitVec 8))) : List (BitVec 8) × Int := if u.length = 32 ∧ all32 ks = true then chR ks (leB 32 (readN u)) else (zero32, 2)
theorem chR_length : ∀ (ks : List (List (BitVec 8))) (a : List (BitVec 8)), a.length = 32 → (chR ks a).1.length = 32
  | [], a, h => h
  | k :: r, a, h => by
    unfold chR
    split
    · exact chR_length r _ (xmV_length _ _)
    · rfl
theorem chP_length (u : List (BitVec 8)) (ks : List (List (BitVec 8))) : (chP u ks).1.length = 32 := by
  unfold chP
  split
  · exact chR_length _ _ (leB_length 32 _)
  · rfl
theorem all32_take {ks : List (List (BitVec 8))} {i : Nat} {k : List (BitVec 8)} (h : ks[i]? = some k) : all32 (ks.take (i + 1)) = (all32 (ks.take i) && (k.length == 32)) := by
  unfold all32
  rw [List.take_add_one, h, List.all_append]
  simp
theorem chR_drop {ks : List (List (BitVec 8))} {i : Nat} {k : List (BitVec 8)} (h : ks[i]? = some k) (a : List (BitVec 8)) : chR (ks.drop i) a = if xmE k a = 0 then chR (ks.drop (i + 1)) (xmV k a) else (zero32, xmE k a) := by
  have hi := (List.getElem?_eq_some_iff.1 h)
  rw [List.drop_eq_getElem_cons hi.1, hi.2]
  rfl
theorem readN_ltK {u : List (BitVec 8)} (h : u.length = 32) : readN u < 57896044618658097711785492504343953926634992332820282019728792003956564819949 := by
  unfold readN
  rw [if_pos h]
  exact Nat.mod_lt _ (by decide)
def badE (u : List (BitVec 8)) (b : Bool) : Int := if b then readE u else 2

theorem Chain_b (w : World) {p q : Option Addr} {n m : Nat} (c d : Nat) {u : List (BitVec 8)} {L : List Value} {ks : List (List (BitVec 8))} (hu : By w p n u) (ha : ByL w q m L ks) : Spec Try.prog 59 #[.slice p n c, .slice q m d] w (σ := Unit) (fun _ => True) (fun _ => .tuple #[.agg (bs (chP u ks).1).toArray, .int .i64 (chP u ks).2]) Nob (fun _ => []) := by
  refine enter Try.func59 rfl rfl (Mem.start w) ?_
  have hul := hu.len
  have hLn := ha.len
  have hbig := ha.big
  have hln := ha.lenL
  (repeat refine g_seq ?_)
  refine g_region ?_
  refine g_lo [4] rfl rfl rfl rfl (lo_alloc rfl) (fun b4 hb4 => ?_)
  refine g_pu rfl rfl rfl (pu_assign rfl rfl) ?_
  refine g_nil ?_
  (repeat refine g_seq ?_)
  refine g_region ?_
  refine g_pu rfl rfl rfl (pu_move rfl rfl) ?_
  refine g_call [] rfl rfl rfl rfl rfl rfl (fun w' hm => Read_b w' c (hu.m hm)) (fun _ _ => ?_)
  refine g_pu rfl rfl rfl (pu_move rfl rfl) ?_
  refine g_pu rfl rfl rfl (pu_extract rfl rfl rfl) ?_
  refine g_pu rfl rfl rfl (pu_extract rfl rfl rfl) ?_
  refine g_lo [6] rfl rfl rfl rfl (lo_alloc rfl) (fun b6 hb6 => ?_)
  refine g_storeL 6 (s := 4) (C := el (readN u)) rfl rfl rfl rfl rfl rfl rfl rfl (oneCell_el _) ?_
  refine g_pu rfl rfl rfl (pu_assign rfl rfl) ?_
  refine g_nil ?_
  (repeat refine g_seq ?_)
  refine g_region ?_
  refine g_pu rfl rfl rfl (pu_move rfl rfl) ?_
  first | refine g_pu rfl rfl rfl (pu_len rfl rfl) ?_ | refine g_pu rfl rfl rfl (pu_lenS rfl rfl) ?_
  refine g_pu rfl rfl rfl (pu_move rfl rfl) ?_
  refine g_nil ?_
  (repeat refine g_seq ?_)
  refine g_block (g_loop (σ := Nat) (fun i => [(1, .slice q m d), (4, .pointer (some ⟨b4, 0, none⟩)), (6, .pointer (some ⟨b6, 0, none⟩)), (7, .int .i64 (badE u (all32 (ks.take i)))), (18, .slice q m d), (19, .int .i64 (m : Int)), (20, .int .i64 (i : Int))]) (fun _ => [(4, .pt b4 (.cells (bs zero32).toArray 24 (0, 0))), (6, .pt b6 (.cells (el (readN u)).toArray 132 (0, 0)))]) (fun i => i ≤ m) (fun i => m - i) 0 ⟨rfl, rfl, rfl, rfl, rfl, rfl, rfl, trivial⟩ ⟨rfl, rfl, trivial⟩ (by omega) ?_)
  intro i hi
  by_cases hlt : i < m
  · (repeat refine g_seq ?_)
    refine g_region ?_
    first | refine g_pu rfl rfl rfl (pu_lss_t rfl rfl rfl (by omega)) ?_ | refine g_pu rfl rfl rfl (pu_lss_f rfl rfl rfl (by omega)) ?_ | refine g_pu rfl rfl rfl (pu_lss rfl rfl rfl) ?_
    refine g_nil ?_
    (repeat refine g_seq ?_)
    refine g_cond_t rfl (g_skip ?_)
    have hl : ks[i]? = some ks[i] := List.getElem?_eq_getElem (by omega)
    have ht := all32_take hl
    generalize ks[i] = k at hl ht
    obtain ⟨kq, km, kc, hL, hkq⟩ := ha.at hl
    have hkl := hkq.len
    (repeat refine g_seq ?_); refine g_block ?_
    (repeat refine g_seq ?_)
    refine g_region ?_
    refine g_pu rfl rfl rfl (pu_atM1 i (fun w' hm => (ha.m hm).rd) rfl rfl rfl rfl hlt (by omega)) ?_
    refine g_pu rfl rfl rfl (pu_rdM (fun w' hm => (ha.m hm).rd) rfl rfl hL) ?_
    refine g_pu rfl rfl rfl (pu_assign rfl rfl) ?_
    refine g_nil ?_
    by_cases h32 : km = 32
    · (repeat refine g_seq ?_)
      refine g_region ?_
      refine g_pu rfl rfl rfl (pu_move rfl rfl) ?_
      first | refine g_pu rfl rfl rfl (pu_len rfl rfl) ?_ | refine g_pu rfl rfl rfl (pu_lenS rfl rfl) ?_
      first | refine g_pu rfl rfl rfl (pu_neq_t rfl rfl rfl (by omega)) ?_ | refine g_pu rfl rfl rfl (pu_neq_f rfl rfl rfl (by omega)) ?_ | refine g_pu rfl rfl rfl (pu_neq rfl rfl rfl) ?_
      refine g_nil ?_
      (repeat refine g_seq ?_)
      refine g_cond_f rfl (g_skip ?_)
      refine g_blk ?_
      (repeat refine g_seq ?_)
      refine g_region ?_
      refine g_pu rfl rfl rfl (pu_addI rfl rfl rfl (by omega)) ?_
      refine g_pu rfl rfl rfl (pu_move rfl rfl) ?_
      refine g_nil ?_
      exact g_round (i + 1) (by omega) (by omega) ⟨rfl, rfl, rfl, by rw [ht, show (k.length == 32) = true by rw [hkl, h32]; rfl, Bool.and_true]; rfl, rfl, rfl, rfl, trivial⟩ ⟨rfl, rfl, trivial⟩
    · (repeat refine g_seq ?_)
      refine g_region ?_
      refine g_pu rfl rfl rfl (pu_move rfl rfl) ?_
      first | refine g_pu rfl rfl rfl (pu_len rfl rfl) ?_ | refine g_pu rfl rfl rfl (pu_lenS rfl rfl) ?_
      first | refine g_pu rfl rfl rfl (pu_neq_t rfl rfl rfl (by omega)) ?_ | refine g_pu rfl rfl rfl (pu_neq_f rfl rfl rfl (by omega)) ?_ | refine g_pu rfl rfl rfl (pu_neq rfl rfl rfl) ?_
      refine g_nil ?_
      (repeat refine g_seq ?_)
      refine g_cond_t rfl ?_
      (repeat refine g_seq ?_)
      refine g_region ?_
      refine g_pu rfl rfl rfl (pu_assign rfl rfl) ?_
      refine g_nil ?_
      refine g_blk ?_
      (repeat refine g_seq ?_)
      refine g_region ?_
      refine g_pu rfl rfl rfl (pu_addI rfl rfl rfl (by omega)) ?_
      refine g_pu rfl rfl rfl (pu_move rfl rfl) ?_
      refine g_nil ?_
      exact g_round (i + 1) (by omega) (by omega) ⟨rfl, rfl, rfl, by rw [ht, show (k.length == 32) = false by rw [hkl]; exact beq_false_of_ne h32, Bool.and_false]; rfl, rfl, rfl, rfl, trivial⟩ ⟨rfl, rfl, trivial⟩
  · (repeat refine g_seq ?_)
    refine g_region ?_
    first | refine g_pu rfl rfl rfl (pu_lss_t rfl rfl rfl (by omega)) ?_ | refine g_pu rfl rfl rfl (pu_lss_f rfl rfl rfl (by omega)) ?_ | refine g_pu rfl rfl rfl (pu_lss rfl rfl rfl) ?_
    refine g_nil ?_
    (repeat refine g_seq ?_)
    refine g_cond_f rfl (g_exit rfl ?_)
    rw [List.take_of_length_le (by omega)]
    by_cases hok : u.length = 32 ∧ all32 ks = true
    · obtain ⟨hu32, h32⟩ := hok
      have hP : chP u ks = chR ks (leB 32 (readN u)) := if_pos ⟨hu32, h32⟩
      have hB : badE u (all32 ks) = 0 := by rw [h32]; exact if_pos hu32
      have hrl := readN_ltK hu32
      have hbl : (bs (leB 32 (readN u))).length = 32 := by rw [bs_length, leB_length]
      rw [hP, hB]
      (repeat refine g_seq ?_)
      refine g_region ?_
      refine g_pu rfl rfl rfl (pu_move rfl rfl) ?_
      first | refine g_pu rfl rfl rfl (pu_neq_t rfl rfl rfl (by omega)) ?_ | refine g_pu rfl rfl rfl (pu_neq_f rfl rfl rfl (by omega)) ?_ | refine g_pu rfl rfl rfl (pu_neq rfl rfl rfl) ?_
      refine g_nil ?_
      (repeat refine g_seq ?_)
      refine g_cond_f rfl (g_skip ?_)
      (repeat refine g_seq ?_)
      refine g_region ?_
      refine g_pu rfl rfl rfl (pu_loadW 6 (L := el (readN u)) rfl rfl rfl rfl) ?_
      refine g_call [] rfl rfl rfl rfl rfl rfl (fun w' hm => Bytes_n w' (readN u) hrl) (fun _ _ => ?_)
      refine g_lo [10] rfl rfl rfl rfl (lo_alloc rfl) (fun b10 hb10 => ?_)
      refine g_storeL 10 (s := 32) (C := bs (leB 32 (readN u))) rfl rfl rfl rfl rfl rfl hbl rfl (oneCell_bs _) ?_
      refine g_nil ?_
      (repeat refine g_seq ?_)
      refine g_region ?_
      refine g_pu rfl rfl rfl (pu_move rfl rfl) ?_
      first | refine g_pu rfl rfl rfl (pu_len rfl rfl) ?_ | refine g_pu rfl rfl rfl (pu_lenS rfl rfl) ?_
      refine g_pu rfl rfl rfl (pu_move rfl rfl) ?_
      refine g_nil ?_
      (repeat refine g_seq ?_)
      refine g_block (g_loop2 (fun (i : Nat) (a : List (BitVec 8)) => [(4, .pointer (some ⟨b4, 0, none⟩)), (7, .int .i64 0), (10, .pointer (some ⟨b10, 0, none⟩)), (34, .slice q m d), (35, .int .i64 (m : Int)), (36, .int .i64 (i : Int))]) (fun _ a => [(4, .pt b4 (.cells (bs zero32).toArray 24 (0, 0))), (10, .pt b10 (.cells (bs a).toArray 24 (0, 0)))]) (fun i a => i ≤ m ∧ a.length = 32 ∧ chR (ks.drop i) a = chR ks (leB 32 (readN u))) (fun i _ => m - i) 0 (leB 32 (readN u)) ⟨rfl, rfl, rfl, rfl, rfl, rfl, trivial⟩ ⟨rfl, rfl, trivial⟩ ⟨by omega, leB_length 32 _, rfl⟩ ?_)
      intro i a ⟨hi, hal, hch⟩
      by_cases hlt : i < m
      · (repeat refine g_seq ?_)
        refine g_region ?_
        first | refine g_pu rfl rfl rfl (pu_lss_t rfl rfl rfl (by omega)) ?_ | refine g_pu rfl rfl rfl (pu_lss_f rfl rfl rfl (by omega)) ?_ | refine g_pu rfl rfl rfl (pu_lss rfl rfl rfl) ?_
        refine g_nil ?_
        (repeat refine g_seq ?_)
        refine g_cond_t rfl (g_skip ?_)
        have hl : ks[i]? = some ks[i] := List.getElem?_eq_getElem (by omega)
        have ht := chR_drop hl a
        generalize ks[i] = k at hl ht
        obtain ⟨kq, km, kc, hL, hkq⟩ := ha.at hl
        rw [hch] at ht
        have hvl := xmV_length k a
        have hvb : (bs (xmV k a)).length = 32 := by rw [bs_length, hvl]
        (repeat refine g_seq ?_); refine g_block ?_
        (repeat refine g_seq ?_)
        refine g_region ?_
        refine g_pu rfl rfl rfl (pu_atM1 i (fun w' hm => (ha.m hm).rd) rfl rfl rfl rfl hlt (by omega)) ?_
        refine g_pu rfl rfl rfl (pu_rdM (fun w' hm => (ha.m hm).rd) rfl rfl hL) ?_
        refine g_pu rfl rfl rfl (pu_assign rfl rfl) ?_
        refine g_nil ?_
        (repeat refine g_seq ?_)
        refine g_region ?_
        refine g_pu rfl rfl rfl (pu_move rfl rfl) ?_
        refine g_pu rfl rfl rfl (pu_sliceA rfl rfl) ?_
        refine g_call [] rfl rfl rfl rfl rfl rfl (fun w' hm => Mult_b w' kc 32 (hkq.m hm) (By.full 10 rfl hm hal (by omega))) (fun _ _ => ?_)
        refine g_pu rfl rfl rfl (pu_move rfl rfl) ?_
        refine g_pu rfl rfl rfl (pu_extract rfl rfl rfl) ?_
        refine g_pu rfl rfl rfl (pu_extract rfl rfl rfl) ?_
        refine g_storeL 10 (s := 32) (C := bs (xmV k a)) rfl rfl rfl rfl rfl rfl hvb (by rw [bs_length, hal]) (oneCell_bs _) ?_
        refine g_pu rfl rfl rfl (pu_assign rfl rfl) ?_
        refine g_nil ?_
        by_cases hE : xmE k a = 0
        · rw [if_pos hE] at ht
          rw [hE]
          (repeat refine g_seq ?_)
          refine g_region ?_
          refine g_pu rfl rfl rfl (pu_move rfl rfl) ?_
          first | refine g_pu rfl rfl rfl (pu_neq_t rfl rfl rfl (by omega)) ?_ | refine g_pu rfl rfl rfl (pu_neq_f rfl rfl rfl (by omega)) ?_ | refine g_pu rfl rfl rfl (pu_neq rfl rfl rfl) ?_
          refine g_nil ?_
          (repeat refine g_seq ?_)
          refine g_cond_f rfl (g_skip ?_)
          refine g_blk ?_
          (repeat refine g_seq ?_)
          refine g_region ?_
          refine g_pu rfl rfl rfl (pu_addI rfl rfl rfl (by omega)) ?_
          refine g_pu rfl rfl rfl (pu_move rfl rfl) ?_
          refine g_nil ?_
          exact g_round2 (i + 1) (xmV k a) ⟨by omega, hvl, ht.symm⟩ (by omega) ⟨rfl, rfl, rfl, rfl, rfl, rfl, trivial⟩ ⟨rfl, rfl, trivial⟩
        · rw [if_neg hE] at ht
          rw [ht]
          (repeat refine g_seq ?_)
          refine g_region ?_
          refine g_pu rfl rfl rfl (pu_move rfl rfl) ?_
          refine g_pu rfl rfl rfl (pu_neq_t rfl rfl rfl hE) ?_
          refine g_nil ?_
          (repeat refine g_seq ?_)
          refine g_cond_t rfl ?_
          (repeat refine g_seq ?_)
          refine g_region ?_
          refine g_pu rfl rfl rfl (pu_buildA' (cs := bs zero32) rfl rfl rfl) ?_
          refine g_pu rfl rfl rfl (pu_move rfl rfl) ?_
          refine g_storeL 4 (s := 32) (C := bs zero32) rfl rfl rfl rfl rfl rfl rfl rfl (oneCell_bs _) ?_
          refine g_pu rfl rfl rfl (pu_assign rfl rfl) ?_
          refine g_nil ?_
          exact g_retLT 4 (L := bs zero32) rfl rfl rfl rfl rfl (fun w' hm => ⟨(), trivial, rfl, hm.grows [] trivial rfl⟩)
      · (repeat refine g_seq ?_)
        refine g_region ?_
        first | refine g_pu rfl rfl rfl (pu_lss_t rfl rfl rfl (by omega)) ?_ | refine g_pu rfl rfl rfl (pu_lss_f rfl rfl rfl (by omega)) ?_ | refine g_pu rfl rfl rfl (pu_lss rfl rfl rfl) ?_
        refine g_nil ?_
        (repeat refine g_seq ?_)
        refine g_cond_f rfl (g_exit rfl ?_)
        have hab : (bs a).length = 32 := by rw [bs_length, hal]
        rw [List.drop_of_length_le (by omega)] at hch
        rw [← hch]
        (repeat refine g_seq ?_)
        refine g_region ?_
        refine g_pu rfl rfl rfl (pu_loadW 10 (L := bs a) rfl rfl rfl hab) ?_
        refine g_storeL 4 (s := 32) (C := bs a) rfl rfl rfl rfl rfl rfl hab rfl (oneCell_bs _) ?_
        refine g_pu rfl rfl rfl (pu_assign rfl rfl) ?_
        refine g_nil ?_
        exact g_retLT 4 (L := bs a) rfl hab rfl rfl rfl (fun w' hm => ⟨(), trivial, rfl, hm.grows [] trivial rfl⟩)
    · have hP : chP u ks = (zero32, 2) := if_neg hok
      have hB : badE u (all32 ks) = 2 := by
        unfold badE
        split
        · rename_i h; exact if_neg (fun h' => hok ⟨h', h⟩)
        · rfl
      rw [hP, hB]
      (repeat refine g_seq ?_)
      refine g_region ?_
      refine g_pu rfl rfl rfl (pu_move rfl rfl) ?_
      first | refine g_pu rfl rfl rfl (pu_neq_t rfl rfl rfl (by omega)) ?_ | refine g_pu rfl rfl rfl (pu_neq_f rfl rfl rfl (by omega)) ?_ | refine g_pu rfl rfl rfl (pu_neq rfl rfl rfl) ?_
      refine g_nil ?_
      (repeat refine g_seq ?_)
      refine g_cond_t rfl ?_
      (repeat refine g_seq ?_)
      refine g_region ?_
      refine g_pu rfl rfl rfl (pu_buildA' (cs := bs zero32) rfl rfl rfl) ?_
      refine g_pu rfl rfl rfl (pu_move rfl rfl) ?_
      refine g_storeL 4 (s := 32) (C := bs zero32) rfl rfl rfl rfl rfl rfl rfl rfl (oneCell_bs _) ?_
      refine g_pu rfl rfl rfl (pu_assign rfl rfl) ?_
      refine g_nil ?_
      exact g_retLT 4 (L := bs zero32) rfl rfl rfl rfl rfl (fun w' hm => ⟨(), trivial, rfl, hm.grows [] trivial rfl⟩)

end Go.Sx

/-
  Streams: of the program and of its reference. At most 65536 bytes.
-/
import Derived.Test.YtnphghomcnpllaaH5
set_option linter.unusedVariables false
set_option linter.unusedSimpArgs false
namespace Go.Sx
open Go Go.Proofs

def nonce0 : List (BitVec 8) := List.replicate 12 0#8
def ctrN (t : Nat) : BitVec 32 := BitVec.ofInt 32 ((t / 64 : Nat) : Int)
def strB (key : List (BitVec 8)) (i : Nat) : BitVec 8 := (blockB key nonce0 (ctrN i)).getD (i % 64) 0#8
def streamL (key : List (BitVec 8)) (at_ n : Nat) : List (BitVec 8) := (List.range n).map fun k => strB key (at_ + k)
theorem streamL_length (key : List (BitVec 8)) (t n : Nat) : (streamL key t n).length = n := by simp [streamL]
/-- A piece out of the block at t is the stream's next piece. -/
theorem streamL_add {key : List (BitVec 8)} {t k m : Nat} (h : (t + k) % 64 + m ≤ 64) : streamL key t (k + m) = streamL key t k ++ ((blockB key nonce0 (ctrN (t + k))).drop ((t + k) % 64)).take m := by
  have hbl := blockB_length key nonce0 (ctrN (t + k))
  apply List.ext_getElem?
  intro j
  by_cases h1 : j < k
  · rw [List.getElem?_append_left (by rw [streamL_length]; exact h1)]
    simp [streamL, h1, show j < k + m by omega]
  · rw [List.getElem?_append_right (by rw [streamL_length]; omega), streamL_length]
    by_cases h2 : j < k + m
    · rw [List.getElem?_take, if_pos (by omega), List.getElem?_drop]
      have e1 : (streamL key t (k + m))[j]? = some (strB key (t + j)) := by simp [streamL, h2]
      rw [e1]
      have e3 : ctrN (t + j) = ctrN (t + k) := by unfold ctrN; rw [show (t + j) / 64 = (t + k) / 64 by omega]
      unfold strB
      rw [e3, show (t + j) % 64 = (t + k) % 64 + (j - k) by omega]
      have e2 : (t + k) % 64 + (j - k) < (blockB key nonce0 (ctrN (t + k))).length := by rw [hbl]; omega
      show some ((blockB key nonce0 (ctrN (t + k))).getD _ _) = _
      simp [List.getD, List.getElem?_eq_getElem e2]
    · rw [List.getElem?_eq_none (by rw [streamL_length]; omega), List.getElem?_eq_none (by simp [hbl]; omega)]

/-- A flow, as cells. -/
def flowC (key : List (BitVec 8)) (t : Nat) : List Value := bs key ++ [.int .i64 (t : Int)]

theorem New_b (w : World) {p : Option Addr} (c : Nat) {key : List (BitVec 8)} (ha : By w p 32 key) :
    Spec Try.prog 29 #[.slice p 32 c] w (σ := Nat) (fun _ => True) (fun b => .tuple #[.pointer (some ⟨b, 0, none⟩), .int .i64 0]) Nob (fun b => [.pt b (.cells (flowC key 0).toArray 72 (0, 0))]) := by
  refine enter Try.func29 rfl rfl (Mem.start w) ?_
  have hk := ha.len
  (repeat refine g_seq ?_)
  refine g_region ?_
  refine g_pu rfl rfl rfl (pu_assign rfl rfl) ?_
  refine g_pu rfl rfl rfl (pu_assign rfl rfl) ?_
  refine g_nil ?_
  (repeat refine g_seq ?_)
  refine g_region ?_
  refine g_pu rfl rfl rfl (pu_move rfl rfl) ?_
  first | refine g_pu rfl rfl rfl (pu_len rfl rfl) ?_ | refine g_pu rfl rfl rfl (pu_lenS rfl rfl) ?_
  first | refine g_pu rfl rfl rfl (pu_neq_t rfl rfl rfl (by omega)) ?_ | refine g_pu rfl rfl rfl (pu_neq_f rfl rfl rfl (by omega)) ?_ | refine g_pu rfl rfl rfl (pu_neq rfl rfl rfl) ?_
  refine g_nil ?_
  (repeat refine g_seq ?_)
  refine g_cond_f rfl (g_skip ?_)
  (repeat refine g_seq ?_)
  refine g_region ?_
  refine g_pu rfl rfl rfl (pu_move rfl rfl) ?_
  refine g_pu rfl rfl rfl (pu_s2a (fun w' hm => ha.m hm) rfl rfl (by omega) (by omega)) ?_
  refine g_pu rfl rfl rfl (pu_rdMA (fun w' hm => (ha.m hm).rd) rfl rfl (by omega) (by rw [bs_length, hk]; omega)) ?_
  rw [show ((bs key).drop 0).take 32 = bs key by rw [List.drop_zero, List.take_of_length_le (by rw [bs_length, hk]; exact Nat.le_refl _)]]
  refine g_pu rfl rfl rfl (pu_buildS (cs := flowC key 0) rfl rfl ((fill_one (C := bs key) rfl (by rw [bs_length, hk]) (by decide)).trans rfl)) ?_
  refine g_lo [11] rfl rfl rfl rfl (lo_box rfl rfl) (fun b11 hb11 => ?_)
  refine g_pu rfl rfl rfl (pu_assign rfl rfl) ?_
  refine g_pu rfl rfl rfl (pu_assign rfl rfl) ?_
  refine g_nil ?_
  exact g_ret2 rfl rfl rfl (fun w' hm => ⟨b11, trivial, rfl, hm.grows [11] ⟨rfl, trivial⟩ rfl⟩)
theorem New_e (w : World) {p : Option Addr} {n : Nat} (c : Nat) (hn : n ≠ 32) :
    Spec Try.prog 29 #[.slice p n c] w (σ := Unit) (fun _ => True) (fun _ => .tuple #[.pointer none, .int .i64 2]) Nob (fun _ => []) := by
  refine enter Try.func29 rfl rfl (Mem.start w) ?_
  (repeat refine g_seq ?_)
  refine g_region ?_
  refine g_pu rfl rfl rfl (pu_assign rfl rfl) ?_
  refine g_pu rfl rfl rfl (pu_assign rfl rfl) ?_
  refine g_nil ?_
  (repeat refine g_seq ?_)
  refine g_region ?_
  refine g_pu rfl rfl rfl (pu_move rfl rfl) ?_
  first | refine g_pu rfl rfl rfl (pu_len rfl rfl) ?_ | refine g_pu rfl rfl rfl (pu_lenS rfl rfl) ?_
  first | refine g_pu rfl rfl rfl (pu_neq_t rfl rfl rfl (by omega)) ?_ | refine g_pu rfl rfl rfl (pu_neq_f rfl rfl rfl (by omega)) ?_ | refine g_pu rfl rfl rfl (pu_neq rfl rfl rfl) ?_
  refine g_nil ?_
  (repeat refine g_seq ?_)
  refine g_cond_t rfl ?_
  (repeat refine g_seq ?_)
  refine g_region ?_
  refine g_pu rfl rfl rfl (pu_assign rfl rfl) ?_
  refine g_pu rfl rfl rfl (pu_assign rfl rfl) ?_
  refine g_nil ?_
  exact g_ret2 rfl rfl rfl (fun w' hm => ⟨(), trivial, rfl, hm.grows [] trivial rfl⟩)

theorem Next_b (w : World) (bb : Nat) {key : List (BitVec 8)} (t n : Nat) (h : w.heap[bb]? = some (.cells (flowC key t).toArray 72 (0, 0))) (hk : key.length = 32) (hn : t + n ≤ 65536) :
    Spec Try.prog 30 #[.pointer (some ⟨bb, 0, none⟩), .int .i64 (n : Int)] w (σ := Ow) (fun _ => True) (fun x => .tuple #[x.sl n, .int .i64 0]) (fun j => j = bb) (fun x => [x.ck 5 1 (bs (streamL key t n)), .pt bb (.cells (flowC key (t + n)).toArray 72 (0, 0))]) := by
  refine enter Try.func30 rfl rfl (Mem.start1 (.pt bb (.cells (flowC key t).toArray 72 (0, 0))) h trivial (fun j hj => by rw [show j = bb from hj]; exact lt_of_some h)) ?_
  have hload : ∀ u, (flowC key u).toArray[0 + 32]? = some (.int .i64 (u : Int)) := fun u => by simp [flowC, bs_length, hk]
  have hset : ∀ u u' : Nat, (flowC key u).set (0 + 32) (.int .i64 (u' : Int)) = flowC key u' := fun u u' => by
    unfold flowC
    rw [List.set_append_right _ _ (by rw [bs_length, hk]; omega), bs_length, hk]
    rfl
  (repeat refine g_seq ?_)
  refine g_region ?_
  refine g_pu rfl rfl rfl (pu_assign rfl rfl) ?_
  refine g_pu rfl rfl rfl (pu_assign rfl rfl) ?_
  refine g_nil ?_
  (repeat refine g_seq ?_)
  refine g_region ?_
  refine g_pu rfl rfl rfl (pu_move rfl rfl) ?_
  first | refine g_pu rfl rfl rfl (pu_lss_t rfl rfl rfl (by omega)) ?_ | refine g_pu rfl rfl rfl (pu_lss_f rfl rfl rfl (by omega)) ?_ | refine g_pu rfl rfl rfl (pu_lss rfl rfl rfl) ?_
  refine g_pu rfl rfl rfl (pu_move rfl rfl) ?_
  first | refine g_pass rfl rfl rfl ?_ | refine g_pu rfl rfl rfl (pu_move rfl rfl) ?_
  first | refine g_pass rfl rfl rfl ?_ | refine g_pu rfl rfl rfl (pu_gtr_t rfl rfl rfl (by omega)) ?_ | refine g_pu rfl rfl rfl (pu_gtr_f rfl rfl rfl (by omega)) ?_ | refine g_pu rfl rfl rfl (pu_gtr rfl rfl rfl) ?_
  first | refine g_pu rfl rfl rfl (pu_pick_t rfl rfl rfl) ?_ | refine g_pu rfl rfl rfl (pu_pick_f rfl rfl rfl) ?_
  refine g_nil ?_
  (repeat refine g_seq ?_)
  refine g_cond_f rfl (g_skip ?_)
  (repeat refine g_seq ?_)
  refine g_region ?_
  refine g_pu rfl rfl rfl (pu_move rfl rfl) ?_
  refine g_pu rfl rfl rfl (pu_move rfl rfl) ?_
  refine g_pu rfl rfl rfl (pu_nil rfl rfl) ?_
  refine g_pu rfl rfl rfl (pu_fieldAddr (by decide) rfl rfl) ?_
  refine g_pu rfl rfl rfl (pu_load 0 rfl rfl rfl (hload t)) ?_
  refine g_pu rfl rfl rfl (pu_subI rfl rfl rfl (by omega)) ?_
  first | refine g_pu rfl rfl rfl (pu_gtr_t rfl rfl rfl (by omega)) ?_ | refine g_pu rfl rfl rfl (pu_gtr_f rfl rfl rfl (by omega)) ?_ | refine g_pu rfl rfl rfl (pu_gtr rfl rfl rfl) ?_
  refine g_nil ?_
  (repeat refine g_seq ?_)
  refine g_cond_f rfl (g_skip ?_)
  (repeat refine g_seq ?_)
  refine g_region ?_
  refine g_lo [6] rfl rfl rfl rfl (lo_alloc rfl) (fun b6 hb6 => ?_)
  refine g_nil ?_
  (repeat refine g_seq ?_)
  refine g_region ?_
  refine g_pu rfl rfl rfl (pu_move rfl rfl) ?_
  refine g_lo [24] rfl rfl rfl rfl (lo_make (n := 0) (c := n) rfl rfl rfl (by omega) (by omega) (by omega) rfl) (fun b24 hb24 => ?_)
  refine g_own 24 (L := []) (J := List.replicate n (b8 0#8)) (c := n) (s := 1) rfl (by simp) (by omega) ?_
  refine g_pu rfl rfl rfl (pu_assign rfl rfl) ?_
  refine g_nil ?_
  (repeat refine g_seq ?_)
  refine g_block (g_loop2 (fun (k : Nat) (x : Ow) => [(0, .pointer (some ⟨bb, 0, none⟩)), (1, .int .i64 (n : Int)), (6, .pointer (some ⟨b6, 0, none⟩)), (7, x.sl k)]) (fun k x => [(0, .pt bb (.cells (flowC key (t + k)).toArray 72 (0, 0))), (6, .pt b6 (.cells (bs nonce0).toArray 73 (0, 0))), (24, x.ck 5 1 (bs (streamL key t k)))]) (fun k _ => k ≤ n) (fun k _ => n - k) 0 ⟨some ⟨b24, 0, none⟩, n⟩ ⟨rfl, rfl, rfl, rfl, trivial⟩ ⟨rfl, rfl, rfl, trivial⟩ (by omega) ?_)
  intro k x hkn
  by_cases hlt : k < n
  · (repeat refine g_seq ?_)
    refine g_region ?_
    refine g_pu rfl rfl rfl (pu_move rfl rfl) ?_
    first | refine g_pu rfl rfl rfl (pu_len rfl rfl) ?_ | refine g_pu rfl rfl rfl (pu_lenS rfl rfl) ?_
    refine g_pu rfl rfl rfl (pu_move rfl rfl) ?_
    first | refine g_pu rfl rfl rfl (pu_lss_t rfl rfl rfl (by omega)) ?_ | refine g_pu rfl rfl rfl (pu_lss_f rfl rfl rfl (by omega)) ?_ | refine g_pu rfl rfl rfl (pu_lss rfl rfl rfl) ?_
    refine g_nil ?_
    (repeat refine g_seq ?_)
    refine g_cond_t rfl (g_skip ?_)
    have hbl := blockB_length key nonce0 (ctrN (t + k))
    have hadd := fun m hm => streamL_add (key := key) (t := t) (k := k) (m := m) hm
    have hctr : BitVec.ofInt 32 (((t + k : Nat) : Int) / 64) = ctrN (t + k) := by unfold ctrN; rw [Int.natCast_ediv]; rfl
    (repeat refine g_seq ?_); refine g_block ?_
    (repeat refine g_seq ?_)
    refine g_any (13, []) ?_
    refine a_pu 0 rfl rfl rfl rfl (pu_move rfl rfl) rfl rfl (by kernel_rfl) ?_
    refine a_pu 1 rfl rfl rfl rfl (pu_nil rfl rfl) rfl rfl (by kernel_rfl) ?_
    refine a_pu 2 rfl rfl rfl rfl (pu_fieldAddr (by decide) rfl rfl) rfl rfl (by kernel_rfl) ?_
    refine a_pu 3 rfl rfl rfl rfl (pu_sliceA rfl rfl) rfl rfl (by kernel_rfl) ?_
    refine a_pu 4 rfl rfl rfl rfl (pu_sliceA rfl rfl) rfl rfl (by kernel_rfl) ?_
    refine a_pu 5 rfl rfl rfl rfl (pu_move rfl rfl) rfl rfl (by kernel_rfl) ?_
    refine a_pu 6 rfl rfl rfl rfl (pu_nil rfl rfl) rfl rfl (by kernel_rfl) ?_
    refine a_pu 7 rfl rfl rfl rfl (pu_fieldAddr (by decide) rfl rfl) rfl rfl (by kernel_rfl) ?_
    refine a_pu 8 rfl rfl rfl rfl (pu_load 0 rfl rfl rfl (hload (t + k))) rfl rfl (by kernel_rfl) ?_
    refine a_pu 9 rfl rfl rfl rfl (pu_quoI rfl rfl rfl (by omega)) rfl rfl (by kernel_rfl) ?_
    refine a_pu 10 rfl rfl rfl rfl (pu_convI_32 rfl rfl) rfl rfl (by kernel_rfl) ?_
    refine a_pendA 12 8 8 60 ?_
    refine a_do 11 40 [] (does_call rfl rfl rfl rfl rfl (fun w' hm => block_b w' 32 12 (key := key) (nonce := nonce0) (ctrN (t + k)) ⟨hm.row (L := bs key) (J := [.int .i64 ((t + k : Nat) : Int)]) 0 rfl, hk, by omega⟩ (By.full 6 rfl hm rfl (by omega)) (by omega) (by omega))) rfl rfl (by kernel_rfl) rfl rfl (by kernel_rfl) (by kernel_rfl) (by kernel_rfl) rfl (fun p hp => by simp only [List.mem_cons, List.not_mem_nil, or_false] at hp; subst hp; exact does_PA rfl rfl rfl rfl) ?_; rintro v_ cs_ ⟨_, _, rfl, rfl⟩
    refine a_force _ (by kernel_rfl) rfl rfl rfl (by kernel_rfl) (by kernel_rfl) (by kernel_rfl) rfl (fun p hp => by simp only [List.mem_cons, List.not_mem_nil, or_false] at hp; subst hp; exact does_PA rfl rfl rfl rfl) ?_; rintro v_ cs_ ⟨q8, hb8, rfl, rfl⟩
    refine a_tail [13] (by kernel_rfl) rfl rfl (by kernel_rfl) ?_
    refine g_storeL 8 (C := bs (blockB key nonce0 (ctrN (t + k)))) rfl rfl rfl rfl rfl rfl (by rw [bs_length, hbl]) (by simp) (oneCell_bs _) ?_
    refine g_nil ?_
    generalize blockB key nonce0 (ctrN (t + k)) = B at hbl hadd
    obtain ⟨r, hr⟩ : ∃ r, r = (t + k) % 64 := ⟨_, rfl⟩
    rw [← hr] at hadd
    (repeat refine g_seq ?_)
    refine g_region ?_
    refine g_pu rfl rfl rfl (pu_move rfl rfl) ?_
    refine g_pu rfl rfl rfl (pu_nil rfl rfl) ?_
    refine g_pu rfl rfl rfl (pu_fieldAddr (by decide) rfl rfl) ?_
    refine g_pu rfl rfl rfl (pu_load 0 rfl rfl rfl (hload (t + k))) ?_
    refine g_pu rfl rfl rfl (pu_remI rfl rfl rfl (by omega)) ?_
    refine g_pu rfl rfl rfl (pu_sliceA_l r rfl rfl rfl (by omega) (by omega)) ?_
    refine g_pu rfl rfl rfl (pu_assign rfl rfl) ?_
    refine g_nil ?_
    obtain ⟨m, hm2⟩ : ∃ m, m = min (64 - r) (n - k) := ⟨_, rfl⟩
    have hmin : (if (n : Int) - (k : Int) < ((64 - r : Nat) : Int) then (n : Int) - (k : Int) else ((64 - r : Nat) : Int)) = (m : Int) := by split <;> omega
    have hcut : By w none 0 [] := By.nil w none
    (repeat refine g_seq ?_)
    refine g_region ?_
    refine g_pu rfl rfl rfl (pu_move rfl rfl) ?_
    refine g_pu rfl rfl rfl (pu_move rfl rfl) ?_
    first | refine g_pu rfl rfl rfl (pu_len rfl rfl) ?_ | refine g_pu rfl rfl rfl (pu_lenS rfl rfl) ?_
    refine g_pu rfl rfl rfl (pu_move rfl rfl) ?_
    refine g_pu rfl rfl rfl (pu_move rfl rfl) ?_
    first | refine g_pu rfl rfl rfl (pu_len rfl rfl) ?_ | refine g_pu rfl rfl rfl (pu_lenS rfl rfl) ?_
    refine g_pu rfl rfl rfl (pu_subI rfl rfl rfl (by omega)) ?_
    refine g_pu rfl rfl rfl (pu_min rfl rfl rfl) ?_
    rw [hmin]
    refine g_pu rfl rfl rfl (pu_slice_h m rfl rfl rfl rfl (by omega)) ?_
    refine g_pu rfl rfl rfl (pu_assign rfl rfl) ?_
    refine g_nil ?_
    have hpl : ((B.drop r).take m).length = m := by simp [hbl]; omega
    (repeat refine g_seq ?_)
    refine g_region ?_
    refine g_pu rfl rfl rfl (pu_move rfl rfl) ?_
    refine g_pu rfl rfl rfl (pu_move rfl rfl) ?_
    refine g_append1 24 (m := m) (bs ((B.drop r).take m)) rfl rfl rfl rfl rfl rfl rfl rfl (by rw [bs_length, streamL_length]) (fun w' hm => by have h1 : RdV w' (some ⟨q8, 0, none⟩) (bs B) := hm.rowA 8 rfl; have h2 := (h1.cut (l := r) (c := 64) (by rw [bs_length, hbl]; omega)).fst (n := m); rwa [bs_drop, bs_take] at h2) (by rw [bs_length, hpl]) (oneCell_bs _) (by omega) (by omega) (fun p' c' => ?_)
    rw [← bs_append, ← hadd m (by omega)]
    refine g_pu rfl rfl rfl (pu_assign rfl rfl) ?_
    refine g_nil ?_
    (repeat refine g_seq ?_)
    refine g_region ?_
    refine g_pu rfl rfl rfl (pu_move rfl rfl) ?_
    refine g_pu rfl rfl rfl (pu_nil rfl rfl) ?_
    refine g_pu rfl rfl rfl (pu_fieldAddr (by decide) rfl rfl) ?_
    refine g_pu rfl rfl rfl (pu_load 0 rfl rfl rfl (hload (t + k))) ?_
    refine g_pu rfl rfl rfl (pu_move rfl rfl) ?_
    first | refine g_pu rfl rfl rfl (pu_len rfl rfl) ?_ | refine g_pu rfl rfl rfl (pu_lenS rfl rfl) ?_
    refine g_pu rfl rfl rfl (pu_addI rfl rfl rfl (by omega)) ?_
    refine g_pu rfl rfl rfl (pu_nil rfl rfl) ?_
    refine g_pu rfl rfl rfl (pu_fieldAddr (by decide) rfl rfl) ?_
    refine g_store 0 (v := .int .i64 ((t + (k + m) : Nat) : Int)) rfl rfl rfl rfl (congrArg (fun z => some (Value.int .i64 z)) (by omega)) rfl rfl (by simp [flowC, bs_length, hk]) ?_
    rw [hset]
    refine g_nil ?_
    refine g_blk ?_
    refine g_round2 (k + m) (⟨p', c'⟩ : Ow) (by omega) (by omega) ⟨rfl, rfl, rfl, rfl, trivial⟩ ⟨rfl, rfl, rfl, trivial⟩
  · (repeat refine g_seq ?_)
    refine g_region ?_
    refine g_pu rfl rfl rfl (pu_move rfl rfl) ?_
    first | refine g_pu rfl rfl rfl (pu_len rfl rfl) ?_ | refine g_pu rfl rfl rfl (pu_lenS rfl rfl) ?_
    refine g_pu rfl rfl rfl (pu_move rfl rfl) ?_
    first | refine g_pu rfl rfl rfl (pu_lss_t rfl rfl rfl (by omega)) ?_ | refine g_pu rfl rfl rfl (pu_lss_f rfl rfl rfl (by omega)) ?_ | refine g_pu rfl rfl rfl (pu_lss rfl rfl rfl) ?_
    refine g_nil ?_
    (repeat refine g_seq ?_)
    refine g_cond_f rfl (g_exit rfl ?_)
    have e : k = n := by omega
    subst e
    (repeat refine g_seq ?_)
    refine g_region ?_
    refine g_pu rfl rfl rfl (pu_move rfl rfl) ?_
    refine g_pu rfl rfl rfl (pu_assign rfl rfl) ?_
    refine g_pu rfl rfl rfl (pu_assign rfl rfl) ?_
    refine g_nil ?_
    exact g_ret2 rfl rfl rfl (fun w' hm => ⟨x, trivial, rfl, hm.grows [24, 0] ⟨rfl, rfl, trivial⟩ rfl⟩)
end Go.Sx

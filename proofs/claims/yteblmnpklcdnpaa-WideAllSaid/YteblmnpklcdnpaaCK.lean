/-
  The reference's spare room, its looking after it, and its looking whether lists share memory. Conditions: the lists are writable, in blocks of their own.
-/
import Derived.Test.YteblmnpklcdnpaaSxBag
import Derived.Test.YteblmnpklcdnpaaCOver
import Derived.Test.YteblmnpklcdnpaaWords
set_option linter.unusedVariables false
set_option linter.unusedSimpArgs false
namespace Go.Sx
open Go Go.Proofs

theorem mark_b (w : World) (i j : Nat) (hi : i ≤ 100000000000000000) (hj : j ≤ 1000000000000000000) : Spec Try.prog 37 #[.int .i64 (i : Int), .int .i64 (j : Int)] w (σ := Unit) (fun _ => True) (fun _ => b8 (mk i j)) Nob (fun _ => []) := by
  refine enter Try.func37 rfl rfl (Mem.start w) ?_
  (repeat refine g_seq ?_)
  refine g_region ?_
  refine g_pu rfl rfl rfl (pu_assign (v := b8 0#8) rfl rfl) ?_
  refine g_nil ?_
  (repeat refine g_seq ?_)
  refine g_region ?_
  refine g_pu rfl rfl rfl (pu_move rfl rfl) ?_
  refine g_pu rfl rfl rfl (pu_mulI rfl rfl rfl (by omega)) ?_
  refine g_pu rfl rfl rfl (pu_move rfl rfl) ?_
  refine g_pu rfl rfl rfl (pu_mulI rfl rfl rfl (by omega)) ?_
  refine g_pu rfl rfl rfl (pu_addI rfl rfl rfl (by omega)) ?_
  refine g_pu rfl rfl rfl (pu_addI rfl rfl rfl (by omega)) ?_
  refine g_pu rfl rfl rfl (pu_convI_8 rfl rfl) ?_
  refine g_pu rfl rfl rfl (pu_assign rfl rfl) ?_
  refine g_nil ?_
  exact g_ret1 rfl rfl (fun w' hm => ⟨(), trivial, rfl, hm.grows [] trivial rfl⟩)

def spareB (j : Nat) : BitVec 8 := BitVec.ofInt 8 (160 + (j : Int) % 31)
/-- A list with marked room behind it, up to place j. -/
def spareL (l : List (BitVec 8)) (j : Nat) : List (BitVec 8) := l ++ (List.range j).map fun t => spareB (l.length + t)
theorem spareL_length (l : List (BitVec 8)) (j : Nat) : (spareL l j).length = l.length + j := by simp [spareL]
theorem spareL_succ (l : List (BitVec 8)) (j : Nat) : spareL l (j + 1) = spareL l j ++ [spareB (l.length + j)] := by
  simp [spareL, List.range_succ]

theorem Spare_b (w : World) {p : Option Addr} {n : Nat} (c : Nat) {l : List (BitVec 8)} (ha : By w p n l) :
    Spec Try.prog 21 #[.slice p n c] w (σ := Nat) (fun _ => True) (fun b => .tuple #[.slice (some ⟨b, 0, none⟩) n (n + 40), .slice (some ⟨b, 0, none⟩) (n + 40) (n + 40)]) Nob (fun b => [.pt b (.cells (bs (spareL l 40)).toArray 5 (0, 0))]) := by
  refine enter Try.func21 rfl rfl (Mem.start w) ?_
  have hn := ha.len
  have hbig := ha.big
  (repeat refine g_seq ?_)
  refine g_region ?_
  refine g_pu rfl rfl rfl (pu_assign rfl rfl) ?_
  refine g_pu rfl rfl rfl (pu_assign rfl rfl) ?_
  refine g_nil ?_
  (repeat refine g_seq ?_)
  refine g_region ?_
  refine g_pu rfl rfl rfl (pu_move rfl rfl) ?_
  first | refine g_pu rfl rfl rfl (pu_len rfl rfl) ?_ | refine g_pu rfl rfl rfl (pu_lenS rfl rfl) ?_
  refine g_pu rfl rfl rfl (pu_addI rfl rfl rfl (by omega)) ?_
  refine g_lo [9] rfl rfl rfl rfl (lo_make (n := n + 40) (c := n + 40) rfl rfl rfl (by omega) (by omega) (by omega) rfl) (fun b9 hb9 => ?_)
  refine g_pu rfl rfl rfl (pu_assign rfl rfl) ?_
  refine g_nil ?_
  (repeat refine g_seq ?_)
  refine g_region ?_
  refine g_pu rfl rfl rfl (pu_move rfl rfl) ?_
  refine g_pu rfl rfl rfl (pu_move rfl rfl) ?_
  refine g_copy 9 (bs l) rfl rfl rfl rfl rfl rfl rfl (fun w' hm => (ha.m hm).rd) (by rw [bs_length, hn]) (by simp) (oneCell_bs l) ?_
  refine g_nil ?_
  (repeat refine g_seq ?_)
  refine g_region ?_
  refine g_pu rfl rfl rfl (pu_move rfl rfl) ?_
  first | refine g_pu rfl rfl rfl (pu_len rfl rfl) ?_ | refine g_pu rfl rfl rfl (pu_lenS rfl rfl) ?_
  refine g_pu rfl rfl rfl (pu_assign rfl rfl) ?_
  refine g_nil ?_
  have hrow : (List.replicate (n + 40) (b8 0#8)).take 0 ++ (bs l).take (Nat.min n (n + 40)) ++ (List.replicate (n + 40) (b8 0#8)).drop (0 + Nat.min n (n + 40)) = bs (spareL l 0 ++ List.replicate (40 - 0) 0#8) := by
    rw [show Nat.min n (n + 40) = n from Nat.min_eq_left (by omega), List.take_of_length_le (l := bs l) (by rw [bs_length]; omega)]
    simp [spareL, bs]
  refine g_to [(0, .slice p n c), (4, .slice (some ⟨b9, 0, none⟩) (n + 40) (n + 40)), (5, .int .i64 ((n + 0 : Nat) : Int))] [(9, .pt b9 (.cells (bs (spareL l 0 ++ List.replicate (40 - 0) 0#8)).toArray 5 (0, 0)))] ⟨rfl, rfl, rfl, trivial⟩ ⟨congrArg (fun L => some (Ck.pt b9 (.cells (List.toArray L) 5 (0, 0)))) hrow, trivial⟩ ?_
  (repeat refine g_seq ?_)
  refine g_block (g_loop (σ := Nat) (fun j => [(0, .slice p n c), (4, .slice (some ⟨b9, 0, none⟩) (n + 40) (n + 40)), (5, .int .i64 ((n + j : Nat) : Int))]) (fun j => [(9, .pt b9 (.cells (bs (spareL l j ++ List.replicate (40 - j) 0#8)).toArray 5 (0, 0)))]) (fun j => j ≤ 40) (fun j => 40 - j) 0 ⟨rfl, rfl, rfl, trivial⟩ ⟨rfl, trivial⟩ (by omega) ?_)
  intro j hj
  by_cases hlt : j < 40
  · (repeat refine g_seq ?_)
    refine g_region ?_
    refine g_pu rfl rfl rfl (pu_move rfl rfl) ?_
    refine g_pu rfl rfl rfl (pu_move rfl rfl) ?_
    first | refine g_pu rfl rfl rfl (pu_len rfl rfl) ?_ | refine g_pu rfl rfl rfl (pu_lenS rfl rfl) ?_
    first | refine g_pu rfl rfl rfl (pu_lss_t rfl rfl rfl (by omega)) ?_ | refine g_pu rfl rfl rfl (pu_lss_f rfl rfl rfl (by omega)) ?_ | refine g_pu rfl rfl rfl (pu_lss rfl rfl rfl) ?_
    refine g_nil ?_
    (repeat refine g_seq ?_)
    refine g_cond_t rfl (g_skip ?_)
    have hsl := spareL_length l j
    have hset : (spareL l j ++ List.replicate (40 - j) 0#8).set (n + j) (spareB (n + j)) = spareL l (j + 1) ++ List.replicate (40 - (j + 1)) 0#8 := by
      rw [List.set_append_right _ _ (by omega), hsl, show n + j - (l.length + j) = 0 by omega, show 40 - j = (40 - (j + 1)) + 1 by omega, List.replicate_succ, List.set_cons_zero, spareL_succ, hn, List.append_assoc]
      rfl
    (repeat refine g_seq ?_); refine g_block ?_
    (repeat refine g_seq ?_)
    refine g_region ?_
    refine g_pu rfl rfl rfl (pu_move rfl rfl) ?_
    refine g_pu rfl rfl rfl (pu_move rfl rfl) ?_
    refine g_pu rfl rfl rfl (pu_move rfl rfl) ?_
    refine g_pu rfl rfl rfl (pu_remI rfl rfl rfl (by omega)) ?_
    refine g_pu rfl rfl rfl (pu_addI rfl rfl rfl (by omega)) ?_
    refine g_pu rfl rfl rfl (pu_convI_8 rfl rfl) ?_
    refine g_pu rfl rfl rfl (pu_at1 (n + j) rfl rfl rfl rfl (by omega)) ?_
    refine g_store 9 (v := b8 (spareB (n + j))) rfl rfl rfl rfl rfl rfl rfl (by simp [bs_length, hsl]; omega) ?_
    rw [bs_setW, hset]
    refine g_nil ?_
    refine g_blk ?_
    (repeat refine g_seq ?_)
    refine g_region ?_
    refine g_pu rfl rfl rfl (pu_move rfl rfl) ?_
    refine g_pu rfl rfl rfl (pu_addI rfl rfl rfl (by omega)) ?_
    refine g_pu rfl rfl rfl (pu_assign rfl rfl) ?_
    refine g_nil ?_
    exact g_round (j + 1) (by omega) (by omega) ⟨rfl, rfl, congrArg (fun z => some (Value.int .i64 z)) (by omega), trivial⟩ ⟨rfl, trivial⟩
  · (repeat refine g_seq ?_)
    refine g_region ?_
    refine g_pu rfl rfl rfl (pu_move rfl rfl) ?_
    refine g_pu rfl rfl rfl (pu_move rfl rfl) ?_
    first | refine g_pu rfl rfl rfl (pu_len rfl rfl) ?_ | refine g_pu rfl rfl rfl (pu_lenS rfl rfl) ?_
    first | refine g_pu rfl rfl rfl (pu_lss_t rfl rfl rfl (by omega)) ?_ | refine g_pu rfl rfl rfl (pu_lss_f rfl rfl rfl (by omega)) ?_ | refine g_pu rfl rfl rfl (pu_lss rfl rfl rfl) ?_
    refine g_nil ?_
    (repeat refine g_seq ?_)
    refine g_cond_f rfl (g_exit rfl ?_)
    have e : j = 40 := by omega
    subst e
    (repeat refine g_seq ?_)
    refine g_region ?_
    refine g_pu rfl rfl rfl (pu_move rfl rfl) ?_
    refine g_pu rfl rfl rfl (pu_move rfl rfl) ?_
    first | refine g_pu rfl rfl rfl (pu_len rfl rfl) ?_ | refine g_pu rfl rfl rfl (pu_lenS rfl rfl) ?_
    refine g_pu rfl rfl rfl (pu_slice_h n rfl rfl rfl rfl (by omega)) ?_
    refine g_pu rfl rfl rfl (pu_move rfl rfl) ?_
    refine g_pu rfl rfl rfl (pu_assign rfl rfl) ?_
    refine g_pu rfl rfl rfl (pu_assign rfl rfl) ?_
    refine g_nil ?_
    exact g_ret2 rfl rfl rfl (fun w' hm => ⟨b9, trivial, rfl, hm.grows [9] ⟨by rw [show spareL l 40 ++ List.replicate (40 - 40) 0#8 = spareL l 40 by simp]; rfl, trivial⟩ rfl⟩)

theorem Kept_b (w : World) {p q : Option Addr} {n : Nat} (c d : Nat) {l : List (BitVec 8)} (ha : By w p (n + 40) (spareL l 40)) (hb : By w q n l) :
    Spec Try.prog 24 #[.slice p (n + 40) c, .slice q n d] w (σ := Unit) (fun _ => True) (fun _ => .bool true) Nob (fun _ => []) := by
  refine enter Try.func24 rfl rfl (Mem.start w) ?_
  have hl := hb.len
  have hbig := hb.big
  have hfl := ha.len
  obtain ⟨pb, po, hpe, _⟩ := ha.rd.place (by rw [bs_length, hfl]; omega)
  subst hpe
  (repeat refine g_seq ?_)
  refine g_region ?_
  refine g_pu rfl rfl rfl (pu_assign rfl rfl) ?_
  refine g_nil ?_
  (repeat refine g_seq ?_)
  refine g_region ?_
  refine g_pu rfl rfl rfl (pu_move rfl rfl) ?_
  first | refine g_pu rfl rfl rfl (pu_len rfl rfl) ?_ | refine g_pu rfl rfl rfl (pu_lenS rfl rfl) ?_
  refine g_pu rfl rfl rfl (pu_move rfl rfl) ?_
  first | refine g_pu rfl rfl rfl (pu_len rfl rfl) ?_ | refine g_pu rfl rfl rfl (pu_lenS rfl rfl) ?_
  refine g_pu rfl rfl rfl (pu_addI rfl rfl rfl (by omega)) ?_
  first | refine g_pu rfl rfl rfl (pu_neq_t rfl rfl rfl (by omega)) ?_ | refine g_pu rfl rfl rfl (pu_neq_f rfl rfl rfl (by omega)) ?_ | refine g_pu rfl rfl rfl (pu_neq rfl rfl rfl) ?_
  refine g_nil ?_
  (repeat refine g_seq ?_)
  refine g_cond_f rfl (g_skip ?_)
  (repeat refine g_seq ?_)
  refine g_region ?_
  refine g_pu rfl rfl rfl (pu_assign rfl rfl) ?_
  refine g_nil ?_
  (repeat refine g_seq ?_)
  refine g_block (g_loop (σ := Nat) (fun i => [(0, .slice (some ⟨pb, po, none⟩) (n + 40) c), (1, .slice q n d), (5, .int .i64 (i : Int))]) (fun _ => []) (fun i => i ≤ n + 40) (fun i => n + 40 - i) 0 ⟨rfl, rfl, rfl, trivial⟩ trivial (by omega) ?_)
  intro i hi
  by_cases hlt : i < n + 40
  · (repeat refine g_seq ?_)
    refine g_region ?_
    refine g_pu rfl rfl rfl (pu_move rfl rfl) ?_
    refine g_pu rfl rfl rfl (pu_move rfl rfl) ?_
    first | refine g_pu rfl rfl rfl (pu_len rfl rfl) ?_ | refine g_pu rfl rfl rfl (pu_lenS rfl rfl) ?_
    first | refine g_pu rfl rfl rfl (pu_lss_t rfl rfl rfl (by omega)) ?_ | refine g_pu rfl rfl rfl (pu_lss_f rfl rfl rfl (by omega)) ?_ | refine g_pu rfl rfl rfl (pu_lss rfl rfl rfl) ?_
    refine g_nil ?_
    (repeat refine g_seq ?_)
    refine g_cond_t rfl (g_skip ?_)
    by_cases hin : i < n
    · have hg : l[i]? = some (l.getD i 0#8) := by rw [List.getElem?_eq_getElem (by omega)]; simp [List.getD, show i < l.length by omega]
      have hg2 : (spareL l 40)[i]? = some (l.getD i 0#8) := by rw [spareL, List.getElem?_append_left (by omega)]; exact hg
      obtain ⟨qb, qo, hqe, _⟩ := hb.rd.place (by rw [bs_length, hl]; omega)
      subst hqe
      (repeat refine g_seq ?_); refine g_block ?_
      (repeat refine g_seq ?_)
      refine g_any (32, []) ?_
      refine a_pu 0 rfl rfl rfl rfl (pu_move rfl rfl) rfl rfl (by kernel_rfl) ?_
      refine a_pu 1 rfl rfl rfl rfl (pu_move rfl rfl) rfl rfl (by kernel_rfl) ?_
      first | refine a_pu 2 rfl rfl rfl rfl (pu_len rfl rfl) rfl rfl (by kernel_rfl) ?_ | refine a_pu 2 rfl rfl rfl rfl (pu_lenS rfl rfl) rfl rfl (by kernel_rfl) ?_
      first | refine a_pu 3 rfl rfl rfl rfl (pu_lss_t rfl rfl rfl (by omega)) rfl rfl (by kernel_rfl) ?_ | refine a_pu 3 rfl rfl rfl rfl (pu_lss_f rfl rfl rfl (by omega)) rfl rfl (by kernel_rfl) ?_ | refine a_pu 3 rfl rfl rfl rfl (pu_lss rfl rfl rfl) rfl rfl (by kernel_rfl) ?_
      refine a_pu 4 rfl rfl rfl rfl (pu_move rfl rfl) rfl rfl (by kernel_rfl) ?_
      first | refine a_pass 5 rfl rfl rfl rfl rfl rfl (by kernel_rfl) ?_ | refine a_pu 5 rfl rfl rfl rfl (pu_move rfl rfl) rfl rfl (by kernel_rfl) ?_
      first | refine a_pass 6 rfl rfl rfl rfl rfl rfl (by kernel_rfl) ?_ | refine a_pu 6 rfl rfl rfl rfl (pu_move rfl rfl) rfl rfl (by kernel_rfl) ?_
      refine a_pu 7 rfl rfl rfl rfl (pu_at1 i rfl rfl rfl rfl (by omega)) rfl rfl (by kernel_rfl) ?_
      refine a_pu 8 rfl rfl rfl rfl (pu_rdB (j := i) (fun w' hm => ha.m hm) rfl rfl hg2) rfl rfl (by kernel_rfl) ?_
      first | refine a_pass 9 rfl rfl rfl rfl rfl rfl (by kernel_rfl) ?_ | refine a_pu 9 rfl rfl rfl rfl (pu_move rfl rfl) rfl rfl (by kernel_rfl) ?_
      first | refine a_pass 10 rfl rfl rfl rfl rfl rfl (by kernel_rfl) ?_ | refine a_pu 10 rfl rfl rfl rfl (pu_move rfl rfl) rfl rfl (by kernel_rfl) ?_
      refine a_pu 11 rfl rfl rfl rfl (pu_at1 i rfl rfl rfl rfl hin) rfl rfl (by kernel_rfl) ?_
      refine a_pu 12 rfl rfl rfl rfl (pu_rdB (j := i) (fun w' hm => hb.m hm) rfl rfl hg) rfl rfl (by kernel_rfl) ?_
      refine a_pu 13 rfl rfl rfl rfl (pu_neq8_f rfl rfl rfl rfl) rfl rfl (by kernel_rfl) ?_
      first | refine a_pu 14 rfl rfl rfl rfl (pu_pick_t rfl rfl rfl) rfl rfl (by kernel_rfl) ?_ | refine a_pu 14 rfl rfl rfl rfl (pu_pick_f rfl rfl rfl) rfl rfl (by kernel_rfl) ?_
      refine a_pu 15 rfl rfl rfl rfl (pu_move rfl rfl) rfl rfl (by kernel_rfl) ?_
      first | refine a_pass 16 rfl rfl rfl rfl rfl rfl (by kernel_rfl) ?_ | refine a_pu 16 rfl rfl rfl rfl (pu_move rfl rfl) rfl rfl (by kernel_rfl) ?_
      first | refine a_pass 17 rfl rfl rfl rfl rfl rfl (by kernel_rfl) ?_ | refine a_pu 17 rfl rfl rfl rfl (pu_move rfl rfl) rfl rfl (by kernel_rfl) ?_
      first | refine a_pass 18 rfl rfl rfl rfl rfl rfl (by kernel_rfl) ?_ | refine a_pu 18 rfl rfl rfl rfl (pu_len rfl rfl) rfl rfl (by kernel_rfl) ?_ | refine a_pu 18 rfl rfl rfl rfl (pu_lenS rfl rfl) rfl rfl (by kernel_rfl) ?_
      first | refine a_pass 19 rfl rfl rfl rfl rfl rfl (by kernel_rfl) ?_ | refine a_pu 19 rfl rfl rfl rfl (pu_geq_t rfl rfl rfl (by omega)) rfl rfl (by kernel_rfl) ?_ | refine a_pu 19 rfl rfl rfl rfl (pu_geq_f rfl rfl rfl (by omega)) rfl rfl (by kernel_rfl) ?_ | refine a_pu 19 rfl rfl rfl rfl (pu_geq rfl rfl rfl) rfl rfl (by kernel_rfl) ?_
      first | refine a_pass 20 rfl rfl rfl rfl rfl rfl (by kernel_rfl) ?_ | refine a_pu 20 rfl rfl rfl rfl (pu_move rfl rfl) rfl rfl (by kernel_rfl) ?_
      first | refine a_pass 21 rfl rfl rfl rfl rfl rfl (by kernel_rfl) ?_ | refine a_pu 21 rfl rfl rfl rfl (pu_move rfl rfl) rfl rfl (by kernel_rfl) ?_
      first | refine a_pass 22 rfl rfl rfl rfl rfl rfl (by kernel_rfl) ?_ | refine a_pu 22 rfl rfl rfl rfl (pu_move rfl rfl) rfl rfl (by kernel_rfl) ?_
      refine a_pass 23 rfl rfl rfl rfl rfl rfl (by kernel_rfl) ?_
      refine a_pass 24 rfl rfl rfl rfl rfl rfl (by kernel_rfl) ?_
      first | refine a_pass 25 rfl rfl rfl rfl rfl rfl (by kernel_rfl) ?_ | refine a_pu 25 rfl rfl rfl rfl (pu_move rfl rfl) rfl rfl (by kernel_rfl) ?_
      first | refine a_pass 26 rfl rfl rfl rfl rfl rfl (by kernel_rfl) ?_ | refine a_pu 26 rfl rfl rfl rfl (pu_remI rfl rfl rfl (by omega)) rfl rfl (by kernel_rfl) ?_
      first | refine a_pass 27 rfl rfl rfl rfl rfl rfl (by kernel_rfl) ?_ | refine a_pu 27 rfl rfl rfl rfl (pu_addI rfl rfl rfl (by omega)) rfl rfl (by kernel_rfl) ?_
      first | refine a_pass 28 rfl rfl rfl rfl rfl rfl (by kernel_rfl) ?_ | refine a_pu 28 rfl rfl rfl rfl (pu_convI_8 rfl rfl) rfl rfl (by kernel_rfl) ?_
      first | refine a_pass 29 rfl rfl rfl rfl rfl rfl (by kernel_rfl) ?_ | refine a_pu 29 rfl rfl rfl rfl (pu_neq8_t rfl rfl rfl (by first | assumption | decide)) rfl rfl (by kernel_rfl) ?_ | refine a_pu 29 rfl rfl rfl rfl (pu_neq8_f rfl rfl rfl (by first | rfl | assumption | decide)) rfl rfl (by kernel_rfl) ?_ | refine a_pu 29 rfl rfl rfl rfl (pu_neq8 rfl rfl rfl) rfl rfl (by kernel_rfl) ?_
      first | refine a_pass 30 rfl rfl rfl rfl rfl rfl (by kernel_rfl) ?_ | refine a_pu 30 rfl rfl rfl rfl (pu_pick_t rfl rfl rfl) rfl rfl (by kernel_rfl) ?_ | refine a_pu 30 rfl rfl rfl rfl (pu_pick_f rfl rfl rfl) rfl rfl (by kernel_rfl) ?_
      first | refine a_pu 31 rfl rfl rfl rfl (pu_pick_t rfl rfl rfl) rfl rfl (by kernel_rfl) ?_ | refine a_pu 31 rfl rfl rfl rfl (pu_pick_f rfl rfl rfl) rfl rfl (by kernel_rfl) ?_
      refine a_done (by kernel_rfl) ?_
      (repeat refine g_seq ?_)
      refine g_cond_f rfl (g_skip ?_)
      refine g_blk ?_
      (repeat refine g_seq ?_)
      refine g_region ?_
      refine g_pu rfl rfl rfl (pu_move rfl rfl) ?_
      refine g_pu rfl rfl rfl (pu_addI rfl rfl rfl (by omega)) ?_
      refine g_pu rfl rfl rfl (pu_assign rfl rfl) ?_
      refine g_nil ?_
      exact g_round (i + 1) (by omega) (by omega) ⟨rfl, rfl, rfl, trivial⟩ trivial
    · have hg2 : (spareL l 40)[i]? = some (spareB i) := by
        rw [spareL, List.getElem?_append_right (by omega), List.getElem?_map, List.getElem?_range (by omega)]
        simp only [Option.map_some]
        rw [show l.length + (i - l.length) = i by omega]
      (repeat refine g_seq ?_); refine g_block ?_
      (repeat refine g_seq ?_)
      refine g_any (32, []) ?_
      refine a_pu 0 rfl rfl rfl rfl (pu_move rfl rfl) rfl rfl (by kernel_rfl) ?_
      refine a_pu 1 rfl rfl rfl rfl (pu_move rfl rfl) rfl rfl (by kernel_rfl) ?_
      first | refine a_pu 2 rfl rfl rfl rfl (pu_len rfl rfl) rfl rfl (by kernel_rfl) ?_ | refine a_pu 2 rfl rfl rfl rfl (pu_lenS rfl rfl) rfl rfl (by kernel_rfl) ?_
      first | refine a_pu 3 rfl rfl rfl rfl (pu_lss_t rfl rfl rfl (by omega)) rfl rfl (by kernel_rfl) ?_ | refine a_pu 3 rfl rfl rfl rfl (pu_lss_f rfl rfl rfl (by omega)) rfl rfl (by kernel_rfl) ?_ | refine a_pu 3 rfl rfl rfl rfl (pu_lss rfl rfl rfl) rfl rfl (by kernel_rfl) ?_
      refine a_pu 4 rfl rfl rfl rfl (pu_move rfl rfl) rfl rfl (by kernel_rfl) ?_
      first | refine a_pass 5 rfl rfl rfl rfl rfl rfl (by kernel_rfl) ?_ | refine a_pu 5 rfl rfl rfl rfl (pu_move rfl rfl) rfl rfl (by kernel_rfl) ?_
      first | refine a_pass 6 rfl rfl rfl rfl rfl rfl (by kernel_rfl) ?_ | refine a_pu 6 rfl rfl rfl rfl (pu_move rfl rfl) rfl rfl (by kernel_rfl) ?_
      refine a_pass 7 rfl rfl rfl rfl rfl rfl (by kernel_rfl) ?_
      refine a_pass 8 rfl rfl rfl rfl rfl rfl (by kernel_rfl) ?_
      first | refine a_pass 9 rfl rfl rfl rfl rfl rfl (by kernel_rfl) ?_ | refine a_pu 9 rfl rfl rfl rfl (pu_move rfl rfl) rfl rfl (by kernel_rfl) ?_
      first | refine a_pass 10 rfl rfl rfl rfl rfl rfl (by kernel_rfl) ?_ | refine a_pu 10 rfl rfl rfl rfl (pu_move rfl rfl) rfl rfl (by kernel_rfl) ?_
      refine a_pass 11 rfl rfl rfl rfl rfl rfl (by kernel_rfl) ?_
      refine a_pass 12 rfl rfl rfl rfl rfl rfl (by kernel_rfl) ?_
      refine a_pass 13 rfl rfl rfl rfl rfl rfl (by kernel_rfl) ?_
      first | refine a_pu 14 rfl rfl rfl rfl (pu_pick_t rfl rfl rfl) rfl rfl (by kernel_rfl) ?_ | refine a_pu 14 rfl rfl rfl rfl (pu_pick_f rfl rfl rfl) rfl rfl (by kernel_rfl) ?_
      refine a_pu 15 rfl rfl rfl rfl (pu_move rfl rfl) rfl rfl (by kernel_rfl) ?_
      first | refine a_pass 16 rfl rfl rfl rfl rfl rfl (by kernel_rfl) ?_ | refine a_pu 16 rfl rfl rfl rfl (pu_move rfl rfl) rfl rfl (by kernel_rfl) ?_
      first | refine a_pass 17 rfl rfl rfl rfl rfl rfl (by kernel_rfl) ?_ | refine a_pu 17 rfl rfl rfl rfl (pu_move rfl rfl) rfl rfl (by kernel_rfl) ?_
      first | refine a_pass 18 rfl rfl rfl rfl rfl rfl (by kernel_rfl) ?_ | refine a_pu 18 rfl rfl rfl rfl (pu_len rfl rfl) rfl rfl (by kernel_rfl) ?_ | refine a_pu 18 rfl rfl rfl rfl (pu_lenS rfl rfl) rfl rfl (by kernel_rfl) ?_
      first | refine a_pass 19 rfl rfl rfl rfl rfl rfl (by kernel_rfl) ?_ | refine a_pu 19 rfl rfl rfl rfl (pu_geq_t rfl rfl rfl (by omega)) rfl rfl (by kernel_rfl) ?_ | refine a_pu 19 rfl rfl rfl rfl (pu_geq_f rfl rfl rfl (by omega)) rfl rfl (by kernel_rfl) ?_ | refine a_pu 19 rfl rfl rfl rfl (pu_geq rfl rfl rfl) rfl rfl (by kernel_rfl) ?_
      first | refine a_pass 20 rfl rfl rfl rfl rfl rfl (by kernel_rfl) ?_ | refine a_pu 20 rfl rfl rfl rfl (pu_move rfl rfl) rfl rfl (by kernel_rfl) ?_
      first | refine a_pass 21 rfl rfl rfl rfl rfl rfl (by kernel_rfl) ?_ | refine a_pu 21 rfl rfl rfl rfl (pu_move rfl rfl) rfl rfl (by kernel_rfl) ?_
      first | refine a_pass 22 rfl rfl rfl rfl rfl rfl (by kernel_rfl) ?_ | refine a_pu 22 rfl rfl rfl rfl (pu_move rfl rfl) rfl rfl (by kernel_rfl) ?_
      refine a_pu 23 rfl rfl rfl rfl (pu_at1 i rfl rfl rfl rfl (by omega)) rfl rfl (by kernel_rfl) ?_
      refine a_pu 24 rfl rfl rfl rfl (pu_rdB (j := i) (fun w' hm => ha.m hm) rfl rfl hg2) rfl rfl (by kernel_rfl) ?_
      first | refine a_pass 25 rfl rfl rfl rfl rfl rfl (by kernel_rfl) ?_ | refine a_pu 25 rfl rfl rfl rfl (pu_move rfl rfl) rfl rfl (by kernel_rfl) ?_
      first | refine a_pass 26 rfl rfl rfl rfl rfl rfl (by kernel_rfl) ?_ | refine a_pu 26 rfl rfl rfl rfl (pu_remI rfl rfl rfl (by omega)) rfl rfl (by kernel_rfl) ?_
      first | refine a_pass 27 rfl rfl rfl rfl rfl rfl (by kernel_rfl) ?_ | refine a_pu 27 rfl rfl rfl rfl (pu_addI rfl rfl rfl (by omega)) rfl rfl (by kernel_rfl) ?_
      first | refine a_pass 28 rfl rfl rfl rfl rfl rfl (by kernel_rfl) ?_ | refine a_pu 28 rfl rfl rfl rfl (pu_convI_8 rfl rfl) rfl rfl (by kernel_rfl) ?_
      refine a_pu 29 rfl rfl rfl rfl (pu_neq8_f rfl rfl rfl rfl) rfl rfl (by kernel_rfl) ?_
      first | refine a_pass 30 rfl rfl rfl rfl rfl rfl (by kernel_rfl) ?_ | refine a_pu 30 rfl rfl rfl rfl (pu_pick_t rfl rfl rfl) rfl rfl (by kernel_rfl) ?_ | refine a_pu 30 rfl rfl rfl rfl (pu_pick_f rfl rfl rfl) rfl rfl (by kernel_rfl) ?_
      first | refine a_pu 31 rfl rfl rfl rfl (pu_pick_t rfl rfl rfl) rfl rfl (by kernel_rfl) ?_ | refine a_pu 31 rfl rfl rfl rfl (pu_pick_f rfl rfl rfl) rfl rfl (by kernel_rfl) ?_
      refine a_done (by kernel_rfl) ?_
      (repeat refine g_seq ?_)
      refine g_cond_f rfl (g_skip ?_)
      refine g_blk ?_
      (repeat refine g_seq ?_)
      refine g_region ?_
      refine g_pu rfl rfl rfl (pu_move rfl rfl) ?_
      refine g_pu rfl rfl rfl (pu_addI rfl rfl rfl (by omega)) ?_
      refine g_pu rfl rfl rfl (pu_assign rfl rfl) ?_
      refine g_nil ?_
      exact g_round (i + 1) (by omega) (by omega) ⟨rfl, rfl, rfl, trivial⟩ trivial
  · (repeat refine g_seq ?_)
    refine g_region ?_
    refine g_pu rfl rfl rfl (pu_move rfl rfl) ?_
    refine g_pu rfl rfl rfl (pu_move rfl rfl) ?_
    first | refine g_pu rfl rfl rfl (pu_len rfl rfl) ?_ | refine g_pu rfl rfl rfl (pu_lenS rfl rfl) ?_
    first | refine g_pu rfl rfl rfl (pu_lss_t rfl rfl rfl (by omega)) ?_ | refine g_pu rfl rfl rfl (pu_lss_f rfl rfl rfl (by omega)) ?_ | refine g_pu rfl rfl rfl (pu_lss rfl rfl rfl) ?_
    refine g_nil ?_
    (repeat refine g_seq ?_)
    refine g_cond_f rfl (g_exit rfl ?_)
    (repeat refine g_seq ?_)
    refine g_region ?_
    refine g_pu rfl rfl rfl (pu_assign rfl rfl) ?_
    refine g_nil ?_
    exact g_ret1 rfl rfl (fun w' hm => ⟨(), trivial, rfl, hm.grows [] trivial rfl⟩)
end Go.Sx

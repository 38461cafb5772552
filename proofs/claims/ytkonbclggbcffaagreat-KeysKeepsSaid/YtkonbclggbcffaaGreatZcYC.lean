import Derived.Test.YtkonbclggbcffaaGreatZcYA
import Derived.Test.YtkonbclggbcffaaGreatZcXE
import Derived.Test.YtkonbclggbcffaaGreatZcYB
set_option linter.unusedVariables false
set_option linter.unusedSimpArgs false
/-
  Turning every byte of a list: of the reference. No condition.
-/
namespace Go.Sx
open Go Go.Proofs

def overL (l : List (BitVec 8)) (i : Nat) : List (BitVec 8) := (l.take i).map (· ^^^ 90#8) ++ l.drop i
theorem overL_length (l : List (BitVec 8)) (i : Nat) : (overL l i).length = l.length := by simp [overL]; omega
theorem overL_get {l : List (BitVec 8)} {i : Nat} {x : BitVec 8} (h : l[i]? = some x) : (overL l i)[i]? = some x := by
  have hi := (List.getElem?_eq_some_iff.1 h).1
  unfold overL
  rw [List.getElem?_append_right (by simp; omega)]
  simp [List.getElem?_drop]
  rw [show i + (i - min i l.length) = i by omega, h]
theorem overL_set {l : List (BitVec 8)} {i : Nat} {x : BitVec 8} (h : l[i]? = some x) : (overL l i).set i (x ^^^ 90#8) = overL l (i + 1) := by
  have hi := (List.getElem?_eq_some_iff.1 h).1
  unfold overL
  rw [List.set_append_right _ _ (by simp; omega)]
  have e1 : i - ((l.take i).map (· ^^^ 90#8)).length = 0 := by simp; omega
  have e2 : l.drop i = x :: l.drop (i + 1) := by
    rw [List.drop_eq_getElem_cons hi]
    rw [List.getElem?_eq_getElem hi] at h
    cases h; rfl
  rw [e1, e2, List.set_cons_zero, List.take_add_one, h]
  simp

theorem OverP_b (w : World) (b c : Nat) {n : Nat} {l J : List (BitVec 8)} (h : w.heap[b]? = some (.cells (bs (l ++ J)).toArray 5 (0, 0))) (hn : l.length = n) (hbig : n ≤ 140737488355328) :
    Spec Tryz.prog 21 #[.slice (some ⟨b, 0, none⟩) n c] w (σ := Unit) (fun _ => True) (fun _ => .tuple #[]) (fun j => j = b) (fun _ => [.pt b (.cells (bs (overL l n ++ J)).toArray 5 (0, 0))]) := by
  refine enter Tryz.func21 rfl rfl (Mem.start1 (.pt b (.cells (bs (l ++ J)).toArray 5 (0, 0))) h trivial (fun j hj => by rw [show j = b from hj]; exact lt_of_some h)) ?_
  (repeat refine g_seq ?_)
  refine g_region ?_
  refine g_pu rfl rfl rfl (pu_assign rfl rfl) ?_
  refine g_nil ?_
  refine g_block (g_loop (σ := Nat) (fun i => [(0, .slice (some ⟨b, 0, none⟩) n c), (2, .int .i64 (i : Int))]) (fun i => [(0, .pt b (.cells (bs (overL l i ++ J)).toArray 5 (0, 0)))]) (fun i => i ≤ n) (fun i => n - i) 0 ⟨rfl, rfl, trivial⟩ ⟨rfl, trivial⟩ (by omega) ?_)
  intro i hi
  by_cases hlt : i < n
  · (repeat refine g_seq ?_)
    refine g_region ?_
    refine g_pu rfl rfl rfl (pu_move rfl rfl) ?_
    refine g_pu rfl rfl rfl (pu_move rfl rfl) ?_
    first | refine g_pu rfl rfl rfl (pu_len rfl rfl) ?_ | refine g_pu rfl rfl rfl (pu_lenS rfl rfl) ?_
    first | refine g_pu rfl rfl rfl (pu_lss_t rfl rfl rfl (by omega)) ?_ | refine g_pu rfl rfl rfl (pu_lss_f rfl rfl rfl (by omega)) ?_ | refine g_pu rfl rfl rfl (pu_lss rfl rfl rfl) ?_
    refine g_nil ?_
    (repeat refine g_seq ?_)
    refine g_cond_t rfl (g_skip ?_)
    have h1 : l[i]? = some l[i] := List.getElem?_eq_getElem (by omega)
    generalize l[i] = y at h1
    have hol := overL_length l i
    have hg : (overL l i ++ J)[i]? = some y := by rw [List.getElem?_append_left (by omega)]; exact overL_get h1
    have hset : (bs (overL l i ++ J)).set (0 + i) (b8 (y ^^^ 90#8)) = bs (overL l (i + 1) ++ J) := by
      rw [Nat.zero_add, show (bs (overL l i ++ J)).set i (b8 (y ^^^ 90#8)) = bs ((overL l i ++ J).set i (y ^^^ 90#8)) by simp [bs, List.map_set], List.set_append_left _ _ (by omega), overL_set h1]
    (repeat refine g_seq ?_); refine g_block ?_
    (repeat refine g_seq ?_)
    refine g_region ?_
    refine g_pu rfl rfl rfl (pu_move rfl rfl) ?_
    refine g_pu rfl rfl rfl (pu_move rfl rfl) ?_
    refine g_pu rfl rfl rfl (pu_move rfl rfl) ?_
    refine g_pu rfl rfl rfl (pu_move rfl rfl) ?_
    refine g_pu rfl rfl rfl (pu_at1 i rfl rfl rfl rfl (by omega)) ?_
    refine g_pu rfl rfl rfl (pu_load 0 rfl rfl rfl (by rw [Nat.zero_add, List.getElem?_toArray]; exact bs_get hg)) ?_
    refine g_pu rfl rfl rfl (pu_xor8 (b := 90#8) rfl rfl rfl) ?_
    refine g_pu rfl rfl rfl (pu_at1 i rfl rfl rfl rfl (by omega)) ?_
    refine g_store 0 (v := b8 (y ^^^ 90#8)) rfl rfl rfl rfl rfl rfl rfl (by rw [bs_length, List.length_append]; omega) ?_
    rw [hset]
    refine g_nil ?_
    refine g_blk ?_
    (repeat refine g_seq ?_)
    refine g_region ?_
    refine g_pu rfl rfl rfl (pu_move rfl rfl) ?_
    refine g_pu rfl rfl rfl (pu_addI rfl rfl rfl (by omega)) ?_
    refine g_pu rfl rfl rfl (pu_assign rfl rfl) ?_
    refine g_nil ?_
    exact g_round (i + 1) (by omega) (by omega) ⟨rfl, rfl, trivial⟩ ⟨rfl, trivial⟩
  · (repeat refine g_seq ?_)
    refine g_region ?_
    refine g_pu rfl rfl rfl (pu_move rfl rfl) ?_
    refine g_pu rfl rfl rfl (pu_move rfl rfl) ?_
    first | refine g_pu rfl rfl rfl (pu_len rfl rfl) ?_ | refine g_pu rfl rfl rfl (pu_lenS rfl rfl) ?_
    first | refine g_pu rfl rfl rfl (pu_lss_t rfl rfl rfl (by omega)) ?_ | refine g_pu rfl rfl rfl (pu_lss_f rfl rfl rfl (by omega)) ?_ | refine g_pu rfl rfl rfl (pu_lss rfl rfl rfl) ?_
    refine g_nil ?_
    (repeat refine g_seq ?_)
    refine g_cond_f rfl (g_exit rfl ?_)
    have e1 : i = n := by omega
    subst e1
    exact g_end0 rfl (fun w' hm => ⟨(), trivial, rfl, hm.grows [0] ⟨rfl, trivial⟩ rfl⟩)
end Go.Sx

/-
  The reference's spare room, its looking after it, and its looking whether lists share memory. Conditions: the lists are writable, in blocks of their own.
-/
namespace Go.Sx
open Go Go.Proofs

theorem mark_b (w : World) (i j : Nat) (hi : i ≤ 100000000000000000) (hj : j ≤ 1000000000000000000) : Spec Tryz.prog 35 #[.int .i64 (i : Int), .int .i64 (j : Int)] w (σ := Unit) (fun _ => True) (fun _ => b8 (mk i j)) Nob (fun _ => []) := by
  refine enter Tryz.func35 rfl rfl (Mem.start w) ?_
  (repeat refine g_seq ?_)
  refine g_region ?_
  refine g_pu rfl rfl rfl (pu_assign (v := b8 0#8) rfl rfl) ?_
  refine g_nil ?_
  (repeat refine g_seq ?_)
  refine g_region ?_
  refine g_pu rfl rfl rfl (pu_move rfl rfl) ?_
  refine g_pu rfl rfl rfl (pu_mulI rfl rfl rfl (by omega)) ?_
  refine g_pu rfl rfl rfl (pu_move rfl rfl) ?_
  refine g_pu rfl rfl rfl (pu_mulI rfl rfl rfl (by omega)) ?_
  refine g_pu rfl rfl rfl (pu_addI rfl rfl rfl (by omega)) ?_
  refine g_pu rfl rfl rfl (pu_addI rfl rfl rfl (by omega)) ?_
  refine g_pu rfl rfl rfl (pu_convI_8 rfl rfl) ?_
  refine g_pu rfl rfl rfl (pu_assign rfl rfl) ?_
  refine g_nil ?_
  exact g_ret1 rfl rfl (fun w' hm => ⟨(), trivial, rfl, hm.grows [] trivial rfl⟩)

def spareB (j : Nat) : BitVec 8 := BitVec.ofInt 8 (160 + (j : Int) % 31)
/-- A list with marked room behind it, up to place j. -/
def spareL (l : List (BitVec 8)) (j : Nat) : List (BitVec 8) := l ++ (List.range j).map fun t => spareB (l.length + t)
theorem spareL_length (l : List (BitVec 8)) (j : Nat) : (spareL l j).length = l.length + j := by simp [spareL]
theorem spareL_succ (l : List (BitVec 8)) (j : Nat) : spareL l (j + 1) = spareL l j ++ [spareB (l.length + j)] := by
  simp [spareL, List.range_succ]

theorem Spare_b (w : World) {p : Option Addr} {n : Nat} (c : Nat) {l : List (BitVec 8)} (ha : By w p n l) :
    Spec Tryz.prog 18 #[.slice p n c] w (σ := Nat) (fun _ => True) (fun b => .tuple #[.slice (some ⟨b, 0, none⟩) n (n + 40), .slice (some ⟨b, 0, none⟩) (n + 40) (n + 40)]) Nob (fun b => [.pt b (.cells (bs (spareL l 40)).toArray 5 (0, 0))]) := by
  refine enter Tryz.func18 rfl rfl (Mem.start w) ?_
  have hn := ha.len
  have hbig := ha.big
  (repeat refine g_seq ?_)
  refine g_region ?_
  refine g_pu rfl rfl rfl (pu_assign rfl rfl) ?_
  refine g_pu rfl rfl rfl (pu_assign rfl rfl) ?_
  refine g_nil ?_
  (repeat refine g_seq ?_)
  refine g_region ?_
  refine g_pu rfl rfl rfl (pu_move rfl rfl) ?_
  first | refine g_pu rfl rfl rfl (pu_len rfl rfl) ?_ | refine g_pu rfl rfl rfl (pu_lenS rfl rfl) ?_
  refine g_pu rfl rfl rfl (pu_addI rfl rfl rfl (by omega)) ?_
  refine g_lo [9] rfl rfl rfl rfl (lo_make (n := n + 40) (c := n + 40) rfl rfl rfl (by omega) (by omega) (by omega) rfl) (fun b9 hb9 => ?_)
  refine g_pu rfl rfl rfl (pu_assign rfl rfl) ?_
  refine g_nil ?_
  (repeat refine g_seq ?_)
  refine g_region ?_
  refine g_pu rfl rfl rfl (pu_move rfl rfl) ?_
  refine g_pu rfl rfl rfl (pu_move rfl rfl) ?_
  refine g_copy 9 (bs l) rfl rfl rfl rfl rfl rfl rfl (fun w' hm => (ha.m hm).rd) (by rw [bs_length, hn]) (by simp) (oneCell_bs l) ?_
  refine g_nil ?_
  (repeat refine g_seq ?_)
  refine g_region ?_
  refine g_pu rfl rfl rfl (pu_move rfl rfl) ?_
  first | refine g_pu rfl rfl rfl (pu_len rfl rfl) ?_ | refine g_pu rfl rfl rfl (pu_lenS rfl rfl) ?_
  refine g_pu rfl rfl rfl (pu_assign rfl rfl) ?_
  refine g_nil ?_
  have hrow : (List.replicate (n + 40) (b8 0#8)).take 0 ++ (bs l).take (Nat.min n (n + 40)) ++ (List.replicate (n + 40) (b8 0#8)).drop (0 + Nat.min n (n + 40)) = bs (spareL l 0 ++ List.replicate (40 - 0) 0#8) := by
    rw [show Nat.min n (n + 40) = n from Nat.min_eq_left (by omega), List.take_of_length_le (l := bs l) (by rw [bs_length]; omega)]
    simp [spareL, bs]
  refine g_to [(0, .slice p n c), (4, .slice (some ⟨b9, 0, none⟩) (n + 40) (n + 40)), (5, .int .i64 ((n + 0 : Nat) : Int))] [(9, .pt b9 (.cells (bs (spareL l 0 ++ List.replicate (40 - 0) 0#8)).toArray 5 (0, 0)))] ⟨rfl, rfl, rfl, trivial⟩ ⟨congrArg (fun L => some (Ck.pt b9 (.cells (List.toArray L) 5 (0, 0)))) hrow, trivial⟩ ?_
  (repeat refine g_seq ?_)
  refine g_block (g_loop (σ := Nat) (fun j => [(0, .slice p n c), (4, .slice (some ⟨b9, 0, none⟩) (n + 40) (n + 40)), (5, .int .i64 ((n + j : Nat) : Int))]) (fun j => [(9, .pt b9 (.cells (bs (spareL l j ++ List.replicate (40 - j) 0#8)).toArray 5 (0, 0)))]) (fun j => j ≤ 40) (fun j => 40 - j) 0 ⟨rfl, rfl, rfl, trivial⟩ ⟨rfl, trivial⟩ (by omega) ?_)
  intro j hj
  by_cases hlt : j < 40
  · (repeat refine g_seq ?_)
    refine g_region ?_
    refine g_pu rfl rfl rfl (pu_move rfl rfl) ?_
    refine g_pu rfl rfl rfl (pu_move rfl rfl) ?_
    first | refine g_pu rfl rfl rfl (pu_len rfl rfl) ?_ | refine g_pu rfl rfl rfl (pu_lenS rfl rfl) ?_
    first | refine g_pu rfl rfl rfl (pu_lss_t rfl rfl rfl (by omega)) ?_ | refine g_pu rfl rfl rfl (pu_lss_f rfl rfl rfl (by omega)) ?_ | refine g_pu rfl rfl rfl (pu_lss rfl rfl rfl) ?_
    refine g_nil ?_
    (repeat refine g_seq ?_)
    refine g_cond_t rfl (g_skip ?_)
    have hsl := spareL_length l j
    have hset : (spareL l j ++ List.replicate (40 - j) 0#8).set (n + j) (spareB (n + j)) = spareL l (j + 1) ++ List.replicate (40 - (j + 1)) 0#8 := by
      rw [List.set_append_right _ _ (by omega), hsl, show n + j - (l.length + j) = 0 by omega, show 40 - j = (40 - (j + 1)) + 1 by omega, List.replicate_succ, List.set_cons_zero, spareL_succ, hn, List.append_assoc]
      rfl
    (repeat refine g_seq ?_); refine g_block ?_
    (repeat refine g_seq ?_)
    refine g_region ?_
    refine g_pu rfl rfl rfl (pu_move rfl rfl) ?_
    refine g_pu rfl rfl rfl (pu_move rfl rfl) ?_
    refine g_pu rfl rfl rfl (pu_move rfl rfl) ?_
    refine g_pu rfl rfl rfl (pu_remI rfl rfl rfl (by omega)) ?_
    refine g_pu rfl rfl rfl (pu_addI rfl rfl rfl (by omega)) ?_
    refine g_pu rfl rfl rfl (pu_convI_8 rfl rfl) ?_
    refine g_pu rfl rfl rfl (pu_at1 (n + j) rfl rfl rfl rfl (by omega)) ?_
    refine g_store 9 (v := b8 (spareB (n + j))) rfl rfl rfl rfl rfl rfl rfl (by simp [bs_length, hsl]; omega) ?_
    rw [bs_setW, hset]
    refine g_nil ?_
    refine g_blk ?_
    (repeat refine g_seq ?_)
    refine g_region ?_
    refine g_pu rfl rfl rfl (pu_move rfl rfl) ?_
    refine g_pu rfl rfl rfl (pu_addI rfl rfl rfl (by omega)) ?_
    refine g_pu rfl rfl rfl (pu_assign rfl rfl) ?_
    refine g_nil ?_
    exact g_round (j + 1) (by omega) (by omega) ⟨rfl, rfl, congrArg (fun z => some (Value.int .i64 z)) (by omega), trivial⟩ ⟨rfl, trivial⟩
  · (repeat refine g_seq ?_)
    refine g_region ?_
    refine g_pu rfl rfl rfl (pu_move rfl rfl) ?_
    refine g_pu rfl rfl rfl (pu_move rfl rfl) ?_
    first | refine g_pu rfl rfl rfl (pu_len rfl rfl) ?_ | refine g_pu rfl rfl rfl (pu_lenS rfl rfl) ?_
    first | refine g_pu rfl rfl rfl (pu_lss_t rfl rfl rfl (by omega)) ?_ | refine g_pu rfl rfl rfl (pu_lss_f rfl rfl rfl (by omega)) ?_ | refine g_pu rfl rfl rfl (pu_lss rfl rfl rfl) ?_
    refine g_nil ?_
    (repeat refine g_seq ?_)
    refine g_cond_f rfl (g_exit rfl ?_)
    have e : j = 40 := by omega
    subst e
    (repeat refine g_seq ?_)
    refine g_region ?_
    refine g_pu rfl rfl rfl (pu_move rfl rfl) ?_
    refine g_pu rfl rfl rfl (pu_move rfl rfl) ?_
    first | refine g_pu rfl rfl rfl (pu_len rfl rfl) ?_ | refine g_pu rfl rfl rfl (pu_lenS rfl rfl) ?_
    refine g_pu rfl rfl rfl (pu_slice_h n rfl rfl rfl rfl (by omega)) ?_
    refine g_pu rfl rfl rfl (pu_move rfl rfl) ?_
    refine g_pu rfl rfl rfl (pu_assign rfl rfl) ?_
    refine g_pu rfl rfl rfl (pu_assign rfl rfl) ?_
    refine g_nil ?_
    exact g_ret2 rfl rfl rfl (fun w' hm => ⟨b9, trivial, rfl, hm.grows [9] ⟨by rw [show spareL l 40 ++ List.replicate (40 - 40) 0#8 = spareL l 40 by simp]; rfl, trivial⟩ rfl⟩)

theorem Kept_b (w : World) {p q : Option Addr} {n : Nat} (c d : Nat) {l : List (BitVec 8)} (ha : By w p (n + 40) (spareL l 40)) (hb : By w q n l) :
    Spec Tryz.prog 20 #[.slice p (n + 40) c, .slice q n d] w (σ := Unit) (fun _ => True) (fun _ => .bool true) Nob (fun _ => []) := by
  refine enter Tryz.func20 rfl rfl (Mem.start w) ?_
  have hl := hb.len
  have hbig := hb.big
  have hfl := ha.len
  obtain ⟨pb, po, hpe, _⟩ := ha.rd.place (by rw [bs_length, hfl]; omega)
  subst hpe
  (repeat refine g_seq ?_)
  refine g_region ?_
  refine g_pu rfl rfl rfl (pu_assign rfl rfl) ?_
  refine g_nil ?_
  (repeat refine g_seq ?_)
  refine g_region ?_
  refine g_pu rfl rfl rfl (pu_move rfl rfl) ?_
  first | refine g_pu rfl rfl rfl (pu_len rfl rfl) ?_ | refine g_pu rfl rfl rfl (pu_lenS rfl rfl) ?_
  refine g_pu rfl rfl rfl (pu_move rfl rfl) ?_
  first | refine g_pu rfl rfl rfl (pu_len rfl rfl) ?_ | refine g_pu rfl rfl rfl (pu_lenS rfl rfl) ?_
  refine g_pu rfl rfl rfl (pu_addI rfl rfl rfl (by omega)) ?_
  first | refine g_pu rfl rfl rfl (pu_neq_t rfl rfl rfl (by omega)) ?_ | refine g_pu rfl rfl rfl (pu_neq_f rfl rfl rfl (by omega)) ?_ | refine g_pu rfl rfl rfl (pu_neq rfl rfl rfl) ?_
  refine g_nil ?_
  (repeat refine g_seq ?_)
  refine g_cond_f rfl (g_skip ?_)
  (repeat refine g_seq ?_)
  refine g_region ?_
  refine g_pu rfl rfl rfl (pu_assign rfl rfl) ?_
  refine g_nil ?_
  (repeat refine g_seq ?_)
  refine g_block (g_loop (σ := Nat) (fun i => [(0, .slice (some ⟨pb, po, none⟩) (n + 40) c), (1, .slice q n d), (5, .int .i64 (i : Int))]) (fun _ => []) (fun i => i ≤ n + 40) (fun i => n + 40 - i) 0 ⟨rfl, rfl, rfl, trivial⟩ trivial (by omega) ?_)
  intro i hi
  by_cases hlt : i < n + 40
  · (repeat refine g_seq ?_)
    refine g_region ?_
    refine g_pu rfl rfl rfl (pu_move rfl rfl) ?_
    refine g_pu rfl rfl rfl (pu_move rfl rfl) ?_
    first | refine g_pu rfl rfl rfl (pu_len rfl rfl) ?_ | refine g_pu rfl rfl rfl (pu_lenS rfl rfl) ?_
    first | refine g_pu rfl rfl rfl (pu_lss_t rfl rfl rfl (by omega)) ?_ | refine g_pu rfl rfl rfl (pu_lss_f rfl rfl rfl (by omega)) ?_ | refine g_pu rfl rfl rfl (pu_lss rfl rfl rfl) ?_
    refine g_nil ?_
    (repeat refine g_seq ?_)
    refine g_cond_t rfl (g_skip ?_)
    by_cases hin : i < n
    · have hg : l[i]? = some (l.getD i 0#8) := by rw [List.getElem?_eq_getElem (by omega)]; simp [List.getD, show i < l.length by omega]
      have hg2 : (spareL l 40)[i]? = some (l.getD i 0#8) := by rw [spareL, List.getElem?_append_left (by omega)]; exact hg
      obtain ⟨qb, qo, hqe, _⟩ := hb.rd.place (by rw [bs_length, hl]; omega)
      subst hqe
      (repeat refine g_seq ?_); refine g_block ?_
      (repeat refine g_seq ?_)
      refine g_any (32, []) ?_
      refine a_pu 0 rfl rfl rfl rfl (pu_move rfl rfl) rfl rfl (by kernel_rfl) ?_
      refine a_pu 1 rfl rfl rfl rfl (pu_move rfl rfl) rfl rfl (by kernel_rfl) ?_
      first | refine a_pu 2 rfl rfl rfl rfl (pu_len rfl rfl) rfl rfl (by kernel_rfl) ?_ | refine a_pu 2 rfl rfl rfl rfl (pu_lenS rfl rfl) rfl rfl (by kernel_rfl) ?_
      first | refine a_pu 3 rfl rfl rfl rfl (pu_lss_t rfl rfl rfl (by omega)) rfl rfl (by kernel_rfl) ?_ | refine a_pu 3 rfl rfl rfl rfl (pu_lss_f rfl rfl rfl (by omega)) rfl rfl (by kernel_rfl) ?_ | refine a_pu 3 rfl rfl rfl rfl (pu_lss rfl rfl rfl) rfl rfl (by kernel_rfl) ?_
      refine a_pu 4 rfl rfl rfl rfl (pu_move rfl rfl) rfl rfl (by kernel_rfl) ?_
      first | refine a_pass 5 rfl rfl rfl rfl rfl rfl (by kernel_rfl) ?_ | refine a_pu 5 rfl rfl rfl rfl (pu_move rfl rfl) rfl rfl (by kernel_rfl) ?_
      first | refine a_pass 6 rfl rfl rfl rfl rfl rfl (by kernel_rfl) ?_ | refine a_pu 6 rfl rfl rfl rfl (pu_move rfl rfl) rfl rfl (by kernel_rfl) ?_
      refine a_pu 7 rfl rfl rfl rfl (pu_at1 i rfl rfl rfl rfl (by omega)) rfl rfl (by kernel_rfl) ?_
      refine a_pu 8 rfl rfl rfl rfl (pu_rdB (j := i) (fun w' hm => ha.m hm) rfl rfl hg2) rfl rfl (by kernel_rfl) ?_
      first | refine a_pass 9 rfl rfl rfl rfl rfl rfl (by kernel_rfl) ?_ | refine a_pu 9 rfl rfl rfl rfl (pu_move rfl rfl) rfl rfl (by kernel_rfl) ?_
      first | refine a_pass 10 rfl rfl rfl rfl rfl rfl (by kernel_rfl) ?_ | refine a_pu 10 rfl rfl rfl rfl (pu_move rfl rfl) rfl rfl (by kernel_rfl) ?_
      refine a_pu 11 rfl rfl rfl rfl (pu_at1 i rfl rfl rfl rfl hin) rfl rfl (by kernel_rfl) ?_
      refine a_pu 12 rfl rfl rfl rfl (pu_rdB (j := i) (fun w' hm => hb.m hm) rfl rfl hg) rfl rfl (by kernel_rfl) ?_
      refine a_pu 13 rfl rfl rfl rfl (pu_neq8_f rfl rfl rfl rfl) rfl rfl (by kernel_rfl) ?_
      first | refine a_pu 14 rfl rfl rfl rfl (pu_pick_t rfl rfl rfl) rfl rfl (by kernel_rfl) ?_ | refine a_pu 14 rfl rfl rfl rfl (pu_pick_f rfl rfl rfl) rfl rfl (by kernel_rfl) ?_
      refine a_pu 15 rfl rfl rfl rfl (pu_move rfl rfl) rfl rfl (by kernel_rfl) ?_
      first | refine a_pass 16 rfl rfl rfl rfl rfl rfl (by kernel_rfl) ?_ | refine a_pu 16 rfl rfl rfl rfl (pu_move rfl rfl) rfl rfl (by kernel_rfl) ?_
      first | refine a_pass 17 rfl rfl rfl rfl rfl rfl (by kernel_rfl) ?_ | refine a_pu 17 rfl rfl rfl rfl (pu_move rfl rfl) rfl rfl (by kernel_rfl) ?_
      first | refine a_pass 18 rfl rfl rfl rfl rfl rfl (by kernel_rfl) ?_ | refine a_pu 18 rfl rfl rfl rfl (pu_len rfl rfl) rfl rfl (by kernel_rfl) ?_ | refine a_pu 18 rfl rfl rfl rfl (pu_lenS rfl rfl) rfl rfl (by kernel_rfl) ?_
      first | refine a_pass 19 rfl rfl rfl rfl rfl rfl (by kernel_rfl) ?_ | refine a_pu 19 rfl rfl rfl rfl (pu_geq_t rfl rfl rfl (by omega)) rfl rfl (by kernel_rfl) ?_ | refine a_pu 19 rfl rfl rfl rfl (pu_geq_f rfl rfl rfl (by omega)) rfl rfl (by kernel_rfl) ?_ | refine a_pu 19 rfl rfl rfl rfl (pu_geq rfl rfl rfl) rfl rfl (by kernel_rfl) ?_
      first | refine a_pass 20 rfl rfl rfl rfl rfl rfl (by kernel_rfl) ?_ | refine a_pu 20 rfl rfl rfl rfl (pu_move rfl rfl) rfl rfl (by kernel_rfl) ?_
      first | refine a_pass 21 rfl rfl rfl rfl rfl rfl (by kernel_rfl) ?_ | refine a_pu 21 rfl rfl rfl rfl (pu_move rfl rfl) rfl rfl (by kernel_rfl) ?_
      first | refine a_pass 22 rfl rfl rfl rfl rfl rfl (by kernel_rfl) ?_ | refine a_pu 22 rfl rfl rfl rfl (pu_move rfl rfl) rfl rfl (by kernel_rfl) ?_
      refine a_pass 23 rfl rfl rfl rfl rfl rfl (by kernel_rfl) ?_
      refine a_pass 24 rfl rfl rfl rfl rfl rfl (by kernel_rfl) ?_
      first | refine a_pass 25 rfl rfl rfl rfl rfl rfl (by kernel_rfl) ?_ | refine a_pu 25 rfl rfl rfl rfl (pu_move rfl rfl) rfl rfl (by kernel_rfl) ?_
      first | refine a_pass 26 rfl rfl rfl rfl rfl rfl (by kernel_rfl) ?_ | refine a_pu 26 rfl rfl rfl rfl (pu_remI rfl rfl rfl (by omega)) rfl rfl (by kernel_rfl) ?_
      first | refine a_pass 27 rfl rfl rfl rfl rfl rfl (by kernel_rfl) ?_ | refine a_pu 27 rfl rfl rfl rfl (pu_addI rfl rfl rfl (by omega)) rfl rfl (by kernel_rfl) ?_
      first | refine a_pass 28 rfl rfl rfl rfl rfl rfl (by kernel_rfl) ?_ | refine a_pu 28 rfl rfl rfl rfl (pu_convI_8 rfl rfl) rfl rfl (by kernel_rfl) ?_
      first | refine a_pass 29 rfl rfl rfl rfl rfl rfl (by kernel_rfl) ?_ | refine a_pu 29 rfl rfl rfl rfl (pu_neq8_t rfl rfl rfl (by first | assumption | decide)) rfl rfl (by kernel_rfl) ?_ | refine a_pu 29 rfl rfl rfl rfl (pu_neq8_f rfl rfl rfl (by first | rfl | assumption | decide)) rfl rfl (by kernel_rfl) ?_ | refine a_pu 29 rfl rfl rfl rfl (pu_neq8 rfl rfl rfl) rfl rfl (by kernel_rfl) ?_
      first | refine a_pass 30 rfl rfl rfl rfl rfl rfl (by kernel_rfl) ?_ | refine a_pu 30 rfl rfl rfl rfl (pu_pick_t rfl rfl rfl) rfl rfl (by kernel_rfl) ?_ | refine a_pu 30 rfl rfl rfl rfl (pu_pick_f rfl rfl rfl) rfl rfl (by kernel_rfl) ?_
      first | refine a_pu 31 rfl rfl rfl rfl (pu_pick_t rfl rfl rfl) rfl rfl (by kernel_rfl) ?_ | refine a_pu 31 rfl rfl rfl rfl (pu_pick_f rfl rfl rfl) rfl rfl (by kernel_rfl) ?_
      refine a_done (by kernel_rfl) ?_
      (repeat refine g_seq ?_)
      refine g_cond_f rfl (g_skip ?_)
      refine g_blk ?_
      (repeat refine g_seq ?_)
      refine g_region ?_
      refine g_pu rfl rfl rfl (pu_move rfl rfl) ?_
      refine g_pu rfl rfl rfl (pu_addI rfl rfl rfl (by omega)) ?_
      refine g_pu rfl rfl rfl (pu_assign rfl rfl) ?_
      refine g_nil ?_
      exact g_round (i + 1) (by omega) (by omega) ⟨rfl, rfl, rfl, trivial⟩ trivial
    · have hg2 : (spareL l 40)[i]? = some (spareB i) := by
        rw [spareL, List.getElem?_append_right (by omega), List.getElem?_map, List.getElem?_range (by omega)]
        simp only [Option.map_some]
        rw [show l.length + (i - l.length) = i by omega]
      (repeat refine g_seq ?_); refine g_block ?_
      (repeat refine g_seq ?_)
      refine g_any (32, []) ?_
      refine a_pu 0 rfl rfl rfl rfl (pu_move rfl rfl) rfl rfl (by kernel_rfl) ?_
      refine a_pu 1 rfl rfl rfl rfl (pu_move rfl rfl) rfl rfl (by kernel_rfl) ?_
      first | refine a_pu 2 rfl rfl rfl rfl (pu_len rfl rfl) rfl rfl (by kernel_rfl) ?_ | refine a_pu 2 rfl rfl rfl rfl (pu_lenS rfl rfl) rfl rfl (by kernel_rfl) ?_
      first | refine a_pu 3 rfl rfl rfl rfl (pu_lss_t rfl rfl rfl (by omega)) rfl rfl (by kernel_rfl) ?_ | refine a_pu 3 rfl rfl rfl rfl (pu_lss_f rfl rfl rfl (by omega)) rfl rfl (by kernel_rfl) ?_ | refine a_pu 3 rfl rfl rfl rfl (pu_lss rfl rfl rfl) rfl rfl (by kernel_rfl) ?_
      refine a_pu 4 rfl rfl rfl rfl (pu_move rfl rfl) rfl rfl (by kernel_rfl) ?_
      first | refine a_pass 5 rfl rfl rfl rfl rfl rfl (by kernel_rfl) ?_ | refine a_pu 5 rfl rfl rfl rfl (pu_move rfl rfl) rfl rfl (by kernel_rfl) ?_
      first | refine a_pass 6 rfl rfl rfl rfl rfl rfl (by kernel_rfl) ?_ | refine a_pu 6 rfl rfl rfl rfl (pu_move rfl rfl) rfl rfl (by kernel_rfl) ?_
      refine a_pass 7 rfl rfl rfl rfl rfl rfl (by kernel_rfl) ?_
      refine a_pass 8 rfl rfl rfl rfl rfl rfl (by kernel_rfl) ?_
      first | refine a_pass 9 rfl rfl rfl rfl rfl rfl (by kernel_rfl) ?_ | refine a_pu 9 rfl rfl rfl rfl (pu_move rfl rfl) rfl rfl (by kernel_rfl) ?_
      first | refine a_pass 10 rfl rfl rfl rfl rfl rfl (by kernel_rfl) ?_ | refine a_pu 10 rfl rfl rfl rfl (pu_move rfl rfl) rfl rfl (by kernel_rfl) ?_
      refine a_pass 11 rfl rfl rfl rfl rfl rfl (by kernel_rfl) ?_
      refine a_pass 12 rfl rfl rfl rfl rfl rfl (by kernel_rfl) ?_
      refine a_pass 13 rfl rfl rfl rfl rfl rfl (by kernel_rfl) ?_
      first | refine a_pu 14 rfl rfl rfl rfl (pu_pick_t rfl rfl rfl) rfl rfl (by kernel_rfl) ?_ | refine a_pu 14 rfl rfl rfl rfl (pu_pick_f rfl rfl rfl) rfl rfl (by kernel_rfl) ?_
      refine a_pu 15 rfl rfl rfl rfl (pu_move rfl rfl) rfl rfl (by kernel_rfl) ?_
      first | refine a_pass 16 rfl rfl rfl rfl rfl rfl (by kernel_rfl) ?_ | refine a_pu 16 rfl rfl rfl rfl (pu_move rfl rfl) rfl rfl (by kernel_rfl) ?_
      first | refine a_pass 17 rfl rfl rfl rfl rfl rfl (by kernel_rfl) ?_ | refine a_pu 17 rfl rfl rfl rfl (pu_move rfl rfl) rfl rfl (by kernel_rfl) ?_
      first | refine a_pass 18 rfl rfl rfl rfl rfl rfl (by kernel_rfl) ?_ | refine a_pu 18 rfl rfl rfl rfl (pu_len rfl rfl) rfl rfl (by kernel_rfl) ?_ | refine a_pu 18 rfl rfl rfl rfl (pu_lenS rfl rfl) rfl rfl (by kernel_rfl) ?_
      first | refine a_pass 19 rfl rfl rfl rfl rfl rfl (by kernel_rfl) ?_ | refine a_pu 19 rfl rfl rfl rfl (pu_geq_t rfl rfl rfl (by omega)) rfl rfl (by kernel_rfl) ?_ | refine a_pu 19 rfl rfl rfl rfl (pu_geq_f rfl rfl rfl (by omega)) rfl rfl (by kernel_rfl) ?_ | refine a_pu 19 rfl rfl rfl rfl (pu_geq rfl rfl rfl) rfl rfl (by kernel_rfl) ?_
      first | refine a_pass 20 rfl rfl rfl rfl rfl rfl (by kernel_rfl) ?_ | refine a_pu 20 rfl rfl rfl rfl (pu_move rfl rfl) rfl rfl (by kernel_rfl) ?_
      first | refine a_pass 21 rfl rfl rfl rfl rfl rfl (by kernel_rfl) ?_ | refine a_pu 21 rfl rfl rfl rfl (pu_move rfl rfl) rfl rfl (by kernel_rfl) ?_
      first | refine a_pass 22 rfl rfl rfl rfl rfl rfl (by kernel_rfl) ?_ | refine a_pu 22 rfl rfl rfl rfl (pu_move rfl rfl) rfl rfl (by kernel_rfl) ?_
      refine a_pu 23 rfl rfl rfl rfl (pu_at1 i rfl rfl rfl rfl (by omega)) rfl rfl (by kernel_rfl) ?_
      refine a_pu 24 rfl rfl rfl rfl (pu_rdB (j := i) (fun w' hm => ha.m hm) rfl rfl hg2) rfl rfl (by kernel_rfl) ?_
      first | refine a_pass 25 rfl rfl rfl rfl rfl rfl (by kernel_rfl) ?_ | refine a_pu 25 rfl rfl rfl rfl (pu_move rfl rfl) rfl rfl (by kernel_rfl) ?_
      first | refine a_pass 26 rfl rfl rfl rfl rfl rfl (by kernel_rfl) ?_ | refine a_pu 26 rfl rfl rfl rfl (pu_remI rfl rfl rfl (by omega)) rfl rfl (by kernel_rfl) ?_
      first | refine a_pass 27 rfl rfl rfl rfl rfl rfl (by kernel_rfl) ?_ | refine a_pu 27 rfl rfl rfl rfl (pu_addI rfl rfl rfl (by omega)) rfl rfl (by kernel_rfl) ?_
      first | refine a_pass 28 rfl rfl rfl rfl rfl rfl (by kernel_rfl) ?_ | refine a_pu 28 rfl rfl rfl rfl (pu_convI_8 rfl rfl) rfl rfl (by kernel_rfl) ?_
      refine a_pu 29 rfl rfl rfl rfl (pu_neq8_f rfl rfl rfl rfl) rfl rfl (by kernel_rfl) ?_
      first | refine a_pass 30 rfl rfl rfl rfl rfl rfl (by kernel_rfl) ?_ | refine a_pu 30 rfl rfl rfl rfl (pu_pick_t rfl rfl rfl) rfl rfl (by kernel_rfl) ?_ | refine a_pu 30 rfl rfl rfl rfl (pu_pick_f rfl rfl rfl) rfl rfl (by kernel_rfl) ?_
      first | refine a_pu 31 rfl rfl rfl rfl (pu_pick_t rfl rfl rfl) rfl rfl (by kernel_rfl) ?_ | refine a_pu 31 rfl rfl rfl rfl (pu_pick_f rfl rfl rfl) rfl rfl (by kernel_rfl) ?_
      refine a_done (by kernel_rfl) ?_
      (repeat refine g_seq ?_)
      refine g_cond_f rfl (g_skip ?_)
      refine g_blk ?_
      (repeat refine g_seq ?_)
      refine g_region ?_
      refine g_pu rfl rfl rfl (pu_move rfl rfl) ?_
      refine g_pu rfl rfl rfl (pu_addI rfl rfl rfl (by omega)) ?_
      refine g_pu rfl rfl rfl (pu_assign rfl rfl) ?_
      refine g_nil ?_
      exact g_round (i + 1) (by omega) (by omega) ⟨rfl, rfl, rfl, trivial⟩ trivial
  · (repeat refine g_seq ?_)
    refine g_region ?_
    refine g_pu rfl rfl rfl (pu_move rfl rfl) ?_
    refine g_pu rfl rfl rfl (pu_move rfl rfl) ?_
    first | refine g_pu rfl rfl rfl (pu_len rfl rfl) ?_ | refine g_pu rfl rfl rfl (pu_lenS rfl rfl) ?_
    first | refine g_pu rfl rfl rfl (pu_lss_t rfl rfl rfl (by omega)) ?_ | refine g_pu rfl rfl rfl (pu_lss_f rfl rfl rfl (by omega)) ?_ | refine g_pu rfl rfl rfl (pu_lss rfl rfl rfl) ?_
    refine g_nil ?_
    (repeat refine g_seq ?_)
    refine g_cond_f rfl (g_exit rfl ?_)
    (repeat refine g_seq ?_)
    refine g_region ?_
    refine g_pu rfl rfl rfl (pu_assign rfl rfl) ?_
    refine g_nil ?_
    exact g_ret1 rfl rfl (fun w' hm => ⟨(), trivial, rfl, hm.grows [] trivial rfl⟩)
end Go.Sx

/-
  The reference's looking whether lists share memory: of lists that are writable, each in a block of its own, it says no. Conditions: at most 1000000 lists of at most 2^46 bytes.
-/
namespace Go.Sx
open Go Go.Proofs

/-- The first i lists are marked whole. -/
def Ph (xs ys : List Itm) (nf : Nat → Nat) (i : Nat) : Prop := Ext xs ys ∧ ∀ k y, xs[k]? = some y → k < i → ∃ z, ys[k]? = some z ∧ nf k ≤ z.m
theorem Ph.ext {xs ys zs : List Itm} {nf : Nat → Nat} {i : Nat} (h : Ph xs ys nf i) (he : Ext ys zs) : Ph xs zs nf i :=
  ⟨h.1.trans he, fun k y hy hk => by
    obtain ⟨z, hz, hm⟩ := h.2 k y hy hk
    obtain ⟨u, hu, _, _, _, hm2⟩ := he k z hz
    exact ⟨u, hu, Nat.le_trans hm hm2⟩⟩
/-- Each grown list is marked. -/
def Good (n : Nat) (ys : List Itm) (GL : List Value) : Prop := ∀ (k : Nat) v, GL[k]? = some v → ∃ (r : Nat) (z : Itm) (nn : Nat), ys[r]? = some z ∧ v = .slice z.p nn z.c ∧ nn ≤ z.m ∧ z.id = k % n ∧ nn ≤ 140737488355328
theorem Good.ext {n : Nat} {ys zs : List Itm} {GL : List Value} (h : Good n ys GL) (he : Ext ys zs) : Good n zs GL := fun k v hv => by
  obtain ⟨r, z, nn, hz, rfl, h1, h2, h3⟩ := h k v hv
  obtain ⟨u, hu, e1, e2, e3, e4⟩ := he r z hz
  exact ⟨r, u, nn, hu, by rw [e2, e3], by omega, by rw [e1]; exact h2, h3⟩
theorem Good.snoc {n : Nat} {ys : List Itm} {GL : List Value} (h : Good n ys GL) {r : Nat} {z : Itm} {nn : Nat} (hz : ys[r]? = some z) (h1 : nn ≤ z.m) (h2 : z.id = GL.length % n) (h3 : nn ≤ 140737488355328) : Good n ys (GL ++ [.slice z.p nn z.c]) := fun k v hv => by
  by_cases hk : k < GL.length
  · rw [List.getElem?_append_left hk] at hv
    exact h k v hv
  · rw [List.getElem?_append_right (by omega)] at hv
    have hk2 : k = GL.length := by
      rcases Nat.lt_or_ge (k - GL.length) 1 with h4 | h4
      · omega
      · rw [List.getElem?_eq_none (by simpa using h4)] at hv; cases hv
    subst hk2
    rw [Nat.sub_self] at hv
    cases hv
    exact ⟨r, z, nn, hz, rfl, h1, h2, h3⟩

theorem Apart_b (w : World) {p : Option Addr} {n : Nat} (c : Nat) {LL : List Value} {xs : List Itm} {nf : Nat → Nat} (hr : RdV w p LL) (hn : LL.length = n) (hxl : xs.length = n) (hx0 : ∀ i y, xs[i]? = some y → y.id = i ∧ y.m = 0 ∧ LL[i]? = some (.slice y.p (nf i) y.c) ∧ nf i ≤ y.c ∧ nf i ≤ 140737488355200)
    (hB : Bag xs w) (hb : ∀ j, BS xs j → j < w.heap.size) (hq : ∀ b o, p = some ⟨b, o, none⟩ → ¬ BS xs b) (hnb : n ≤ 1000000) :
    Spec Tryz.prog 22 #[.slice p n c] w (σ := Unit) (fun _ => True) (fun _ => .bool true) (BS xs) (fun _ => []) := by
  refine enter Tryz.func22 rfl rfl (Mem.start1 (.fact (BS xs) (Bag xs)) hB Bag.loc hb) ?_
  have hxs : ∀ i, i < n → ∃ y, xs[i]? = some y := fun i hi => ⟨_, List.getElem?_eq_getElem (by omega)⟩
  have hpn : 0 < n → ∃ b o, p = some ⟨b, o, none⟩ := fun h0 => by
    obtain ⟨b, o, e, _⟩ := hr.place (by omega)
    exact ⟨b, o, e⟩
  have hel : ∀ {i : Nat} {ys : List Itm}, i < n → Ext xs ys → ∃ z, ys[i]? = some z ∧ z.id = i ∧ LL[i]? = some (.slice z.p (nf i) z.c) ∧ nf i ≤ z.c ∧ nf i ≤ 140737488355200 := by
    intro i ys hi he
    obtain ⟨y, hy⟩ := hxs i hi
    obtain ⟨h1, h2, h3, h4, h5⟩ := hx0 i y hy
    obtain ⟨z, hz, e1, e2, e3, e4⟩ := he i y hy
    exact ⟨z, hz, by rw [e1, h1], by rw [e2, e3]; exact h3, by rw [e3]; exact h4, h5⟩
  (repeat refine g_seq ?_)
  refine g_region ?_
  refine g_pu rfl rfl rfl (pu_assign rfl rfl) ?_
  refine g_nil ?_
  (repeat refine g_seq ?_)
  refine g_region ?_
  refine g_pu rfl rfl rfl (pu_assign rfl rfl) ?_
  refine g_nil ?_
  (repeat refine g_seq ?_)
  refine g_block (g_loop2 (fun (i : Nat) (_ : List Itm) => [(0, .slice p n c), (3, .int .i64 (i : Int))]) (fun _ ys => [(0, .fact (BS ys) (Bag ys))]) (fun i ys => i ≤ n ∧ Ph xs ys nf i) (fun i _ => n - i) 0 xs ⟨rfl, rfl, trivial⟩ ⟨rfl, trivial⟩ ⟨by omega, Ext.refl _, fun k y _ hk => by omega⟩ ?_)
  intro i ys ⟨hi, hph⟩
  by_cases hlt : i < n
  · (repeat refine g_seq ?_)
    refine g_region ?_
    refine g_pu rfl rfl rfl (pu_move rfl rfl) ?_
    refine g_pu rfl rfl rfl (pu_move rfl rfl) ?_
    first | refine g_pu rfl rfl rfl (pu_len rfl rfl) ?_ | refine g_pu rfl rfl rfl (pu_lenS rfl rfl) ?_
    first | refine g_pu rfl rfl rfl (pu_lss_t rfl rfl rfl (by omega)) ?_ | refine g_pu rfl rfl rfl (pu_lss_f rfl rfl rfl (by omega)) ?_ | refine g_pu rfl rfl rfl (pu_lss rfl rfl rfl) ?_
    refine g_nil ?_
    (repeat refine g_seq ?_)
    refine g_cond_t rfl (g_skip ?_)
    have hpn := hpn (by omega)
    obtain ⟨z0, hz0, hid0, hLL, hc0, hnf⟩ := hel hlt hph.1
    (repeat refine g_seq ?_); refine g_block ?_
    (repeat refine g_seq ?_)
    refine g_region ?_
    refine g_pu rfl rfl rfl (pu_assign rfl rfl) ?_
    refine g_nil ?_
    (repeat refine g_seq ?_)
    refine g_block (g_loop3 (fun (_ : List Itm) (z : Itm) (j : Nat) => [(0, .slice p n c), (3, .int .i64 (i : Int)), (4, .int .i64 (j : Int))]) (fun ys _ _ => [(0, .fact (BS ys) (Bag ys))]) (fun ys z j => Ph xs ys nf i ∧ ys[i]? = some z ∧ z.id = i ∧ LL[i]? = some (.slice z.p (nf i) z.c) ∧ nf i ≤ z.c ∧ j ≤ nf i ∧ j ≤ z.m) (fun _ _ j => nf i - j) ys z0 0 ⟨rfl, rfl, rfl, trivial⟩ ⟨rfl, trivial⟩ ⟨hph, hz0, hid0, hLL, hc0, by omega, by omega⟩ ?_)
    clear hph hz0 hid0 hLL hc0
    intro ys z j ⟨hph, hz, hid, hLL, hc, hj, hjm⟩
    by_cases hlj : j < nf i
    · refine g_know (φ := ∃ b o, z.p = some ⟨b, o, none⟩) (fun w' hm => ((hm.holds 0 _ rfl).1 z (List.mem_of_getElem? hz)).ex (by omega)) (fun hzn => ?_)
      (repeat refine g_seq ?_)
      refine g_region ?_
      refine g_pu rfl rfl rfl (pu_move rfl rfl) ?_
      refine g_pu rfl rfl rfl (pu_move rfl rfl) ?_
      refine g_pu rfl rfl rfl (pu_move rfl rfl) ?_
      refine g_pu rfl rfl rfl (pu_atP i hpn rfl rfl rfl rfl hlt) ?_
      refine g_pu rfl rfl rfl (pu_rdM (fun w' hm => hr.mem hm hq) rfl rfl hLL) ?_
      first | refine g_pu rfl rfl rfl (pu_len rfl rfl) ?_ | refine g_pu rfl rfl rfl (pu_lenS rfl rfl) ?_
      first | refine g_pu rfl rfl rfl (pu_lss_t rfl rfl rfl (by omega)) ?_ | refine g_pu rfl rfl rfl (pu_lss_f rfl rfl rfl (by omega)) ?_ | refine g_pu rfl rfl rfl (pu_lss rfl rfl rfl) ?_
      refine g_nil ?_
      (repeat refine g_seq ?_)
      refine g_cond_t rfl (g_skip ?_)
      (repeat refine g_seq ?_); refine g_block ?_
      (repeat refine g_seq ?_)
      refine g_any (9, []) ?_
      refine a_pu 0 rfl rfl rfl rfl (pu_move rfl rfl) rfl rfl (by kernel_rfl) ?_
      refine a_pu 1 rfl rfl rfl rfl (pu_move rfl rfl) rfl rfl (by kernel_rfl) ?_
      refine a_pu 2 rfl rfl rfl rfl (pu_atP i hpn rfl rfl rfl rfl hlt) rfl rfl (by kernel_rfl) ?_
      refine a_pu 3 rfl rfl rfl rfl (pu_rdM (fun w' hm => hr.mem hm hq) rfl rfl hLL) rfl rfl (by kernel_rfl) ?_
      refine a_pu 4 rfl rfl rfl rfl (pu_move rfl rfl) rfl rfl (by kernel_rfl) ?_
      refine a_pu 5 rfl rfl rfl rfl (pu_move rfl rfl) rfl rfl (by kernel_rfl) ?_
      refine a_pu 6 rfl rfl rfl rfl (pu_move rfl rfl) rfl rfl (by kernel_rfl) ?_
      refine a_do 7 38 [] (does_call rfl rfl rfl rfl rfl (fun w' hm => mark_b w' i j (by omega) (by omega))) rfl rfl (by kernel_rfl) rfl rfl (by kernel_rfl) (by kernel_rfl) (by kernel_rfl) rfl (fun p hp => by cases hp) ?_; rintro v_ cs_ ⟨_, _, rfl, rfl⟩
      refine a_pu 8 rfl rfl rfl rfl (pu_atP j hzn rfl rfl rfl rfl hlj) rfl rfl (by kernel_rfl) ?_
      refine a_tail [9] (by kernel_rfl) rfl rfl (by kernel_rfl) ?_
      refine g_bagStore 0 (r := i) (z := z) j rfl rfl rfl rfl (by rw [hid]; rfl) rfl hz hjm (by omega) ?_
      refine g_nil ?_
      refine g_blk ?_
      (repeat refine g_seq ?_)
      refine g_region ?_
      refine g_pu rfl rfl rfl (pu_move rfl rfl) ?_
      refine g_pu rfl rfl rfl (pu_addI rfl rfl rfl (by omega)) ?_
      refine g_pu rfl rfl rfl (pu_assign rfl rfl) ?_
      refine g_nil ?_
      have he : Ext ys (ys.set i ⟨z.id, max z.m (j + 1), z.p, z.c⟩) := Ext.set hz (by omega)
      exact g_round3 (ys.set i ⟨z.id, max z.m (j + 1), z.p, z.c⟩) (⟨z.id, max z.m (j + 1), z.p, z.c⟩ : Itm) (j + 1) ⟨hph.ext he, List.getElem?_set_self (List.getElem?_eq_some_iff.1 hz).1, hid, hLL, hc, by omega, by simp only; omega⟩ (by omega) ⟨rfl, rfl, rfl, trivial⟩ ⟨rfl, trivial⟩
    · (repeat refine g_seq ?_)
      refine g_region ?_
      refine g_pu rfl rfl rfl (pu_move rfl rfl) ?_
      refine g_pu rfl rfl rfl (pu_move rfl rfl) ?_
      refine g_pu rfl rfl rfl (pu_move rfl rfl) ?_
      refine g_pu rfl rfl rfl (pu_atP i hpn rfl rfl rfl rfl hlt) ?_
      refine g_pu rfl rfl rfl (pu_rdM (fun w' hm => hr.mem hm hq) rfl rfl hLL) ?_
      first | refine g_pu rfl rfl rfl (pu_len rfl rfl) ?_ | refine g_pu rfl rfl rfl (pu_lenS rfl rfl) ?_
      first | refine g_pu rfl rfl rfl (pu_lss_t rfl rfl rfl (by omega)) ?_ | refine g_pu rfl rfl rfl (pu_lss_f rfl rfl rfl (by omega)) ?_ | refine g_pu rfl rfl rfl (pu_lss rfl rfl rfl) ?_
      refine g_nil ?_
      (repeat refine g_seq ?_)
      refine g_cond_f rfl (g_exit rfl ?_)
      refine g_blk ?_
      (repeat refine g_seq ?_)
      refine g_region ?_
      refine g_pu rfl rfl rfl (pu_move rfl rfl) ?_
      refine g_pu rfl rfl rfl (pu_addI rfl rfl rfl (by omega)) ?_
      refine g_pu rfl rfl rfl (pu_assign rfl rfl) ?_
      refine g_nil ?_
      refine g_round2 (i + 1) ys ⟨by omega, hph.1, fun k y hy hk => ?_⟩ (by omega) ⟨rfl, rfl, trivial⟩ ⟨rfl, trivial⟩
      by_cases hki : k < i
      · exact hph.2 k y hy hki
      · have : k = i := by omega
        subst this
        exact ⟨z, hz, by omega⟩
  · (repeat refine g_seq ?_)
    refine g_region ?_
    refine g_pu rfl rfl rfl (pu_move rfl rfl) ?_
    refine g_pu rfl rfl rfl (pu_move rfl rfl) ?_
    first | refine g_pu rfl rfl rfl (pu_len rfl rfl) ?_ | refine g_pu rfl rfl rfl (pu_lenS rfl rfl) ?_
    first | refine g_pu rfl rfl rfl (pu_lss_t rfl rfl rfl (by omega)) ?_ | refine g_pu rfl rfl rfl (pu_lss_f rfl rfl rfl (by omega)) ?_ | refine g_pu rfl rfl rfl (pu_lss rfl rfl rfl) ?_
    refine g_nil ?_
    (repeat refine g_seq ?_)
    refine g_cond_f rfl (g_exit rfl ?_)
    have e1 : i = n := by omega
    subst e1
    clear hi hlt
    (repeat refine g_seq ?_)
    refine g_region ?_
    refine g_pu rfl rfl rfl (pu_assign rfl rfl) ?_
    refine g_nil ?_
    (repeat refine g_seq ?_)
    refine g_region ?_
    refine g_pu rfl rfl rfl (pu_assign rfl rfl) ?_
    refine g_nil ?_
    refine g_nilOwn 90 22 1 rfl ?_
    (repeat refine g_seq ?_)
    refine g_block (g_loop4 (fun (a : Nat) (_ : List Itm) (GL : List Value) (x : Ow) => [(0, .slice p i c), (5, x.sl a), (6, .int .i64 (a : Int))]) (fun _ ys GL x => [(0, .fact (BS ys) (Bag ys)), (90, x.ck 22 1 GL)]) (fun a ys GL _ => a ≤ i ∧ Ph xs ys nf i ∧ GL.length = a ∧ Good i ys GL ∧ GL.all isSl = true) (fun a _ _ _ => i - a) 0 ys [] ⟨none, 0⟩ ⟨rfl, rfl, rfl, trivial⟩ ⟨rfl, rfl, trivial⟩ ⟨by omega, hph, rfl, fun k v hv => by simp at hv, rfl⟩ ?_)
    clear hph
    intro a ys GL x ⟨ha, hph, hGl, hgood, hsl⟩
    by_cases hlt : a < i
    · (repeat refine g_seq ?_)
      refine g_region ?_
      refine g_pu rfl rfl rfl (pu_move rfl rfl) ?_
      refine g_pu rfl rfl rfl (pu_move rfl rfl) ?_
      first | refine g_pu rfl rfl rfl (pu_len rfl rfl) ?_ | refine g_pu rfl rfl rfl (pu_lenS rfl rfl) ?_
      first | refine g_pu rfl rfl rfl (pu_lss_t rfl rfl rfl (by omega)) ?_ | refine g_pu rfl rfl rfl (pu_lss_f rfl rfl rfl (by omega)) ?_ | refine g_pu rfl rfl rfl (pu_lss rfl rfl rfl) ?_
      refine g_nil ?_
      (repeat refine g_seq ?_)
      refine g_cond_t rfl (g_skip ?_)
      have hpn := hpn (by omega)
      obtain ⟨z0, hz0, hid0, hLL, hc0, hnf⟩ := hel hlt hph.1
      obtain ⟨y0, hy0⟩ := hxs a hlt
      obtain ⟨z1, hz1, hm1⟩ := hph.2 a y0 hy0 hlt
      rw [hz0] at hz1
      cases hz1
      (repeat refine g_seq ?_); refine g_block ?_
      (repeat refine g_seq ?_)
      refine g_region ?_
      refine g_pu rfl rfl rfl (pu_move rfl rfl) ?_
      refine g_pu rfl rfl rfl (pu_move rfl rfl) ?_
      refine g_pu rfl rfl rfl (pu_atP a hpn rfl rfl rfl rfl hlt) ?_
      refine g_pu rfl rfl rfl (pu_rdM (fun w' hm => hr.mem hm hq) rfl rfl hLL) ?_
      refine g_pu rfl rfl rfl (pu_assign rfl rfl) ?_
      refine g_nil ?_
      (repeat refine g_seq ?_)
      refine g_region ?_
      refine g_pu rfl rfl rfl (pu_assign rfl rfl) ?_
      refine g_nil ?_
      (repeat refine g_seq ?_)
      refine g_block (g_loop4 (fun (k : Nat) (_ : Nat) (z : Itm) (_ : List Itm) => [(0, .slice p i c), (5, x.sl a), (6, .int .i64 (a : Int)), (7, .slice z.p (nf a + k) z.c), (8, .int .i64 (k : Int))]) (fun _ _ _ ys => [(0, .fact (BS ys) (Bag ys)), (90, x.ck 22 1 GL)]) (fun k r z ys => k ≤ 16 ∧ Ph xs ys nf i ∧ Good i ys GL ∧ ys[r]? = some z ∧ z.id = a ∧ nf a + k ≤ z.m) (fun k _ _ _ => 16 - k) 0 a z0 ys ⟨rfl, rfl, rfl, rfl, rfl, trivial⟩ ⟨rfl, rfl, trivial⟩ ⟨by omega, hph, hgood, hz0, hid0, by omega⟩ ?_)
      clear hph hgood hz0 hm1
      intro k r z ys ⟨hk, hph, hgood, hz, hid, hm⟩
      obtain ⟨z2, hz2, hid2, hLL2, hc2, _⟩ := hel hlt hph.1
      by_cases hk16 : k < 16
      · (repeat refine g_seq ?_)
        refine g_region ?_
        refine g_pu rfl rfl rfl (pu_move rfl rfl) ?_
        first | refine g_pu rfl rfl rfl (pu_lss_t rfl rfl rfl (by omega)) ?_ | refine g_pu rfl rfl rfl (pu_lss_f rfl rfl rfl (by omega)) ?_ | refine g_pu rfl rfl rfl (pu_lss rfl rfl rfl) ?_
        refine g_nil ?_
        (repeat refine g_seq ?_)
        refine g_cond_t rfl (g_skip ?_)
        (repeat refine g_seq ?_); refine g_block ?_
        (repeat refine g_seq ?_)
        refine g_region ?_
        refine g_pu rfl rfl rfl (pu_move rfl rfl) ?_
        refine g_pu rfl rfl rfl (pu_move rfl rfl) ?_
        refine g_pu rfl rfl rfl (pu_move rfl rfl) ?_
        refine g_pu rfl rfl rfl (pu_move rfl rfl) ?_
        refine g_pu rfl rfl rfl (pu_atP a hpn rfl rfl rfl rfl hlt) ?_
        refine g_pu rfl rfl rfl (pu_rdM (fun w' hm => hr.mem hm hq) rfl rfl hLL2) ?_
        first | refine g_pu rfl rfl rfl (pu_len rfl rfl) ?_ | refine g_pu rfl rfl rfl (pu_lenS rfl rfl) ?_
        refine g_pu rfl rfl rfl (pu_move rfl rfl) ?_
        refine g_pu rfl rfl rfl (pu_addI rfl rfl rfl (by omega)) ?_
        refine g_call [] rfl rfl rfl rfl rfl rfl (fun w' hm => mark_b w' a (nf a + k) (by omega) (by omega)) (fun _ _ => ?_)
        refine g_lo [64] rfl rfl rfl rfl (lo_buildSlice rfl rfl (by decide) (by decide) rfl rfl) (fun q64 hb64 => ?_)
        refine g_bagApp 0 (r := r) (z := z) (n := nf a + k) (m := 1) rfl rfl rfl rfl rfl rfl rfl hz hm (fun w' hm => by rw [show seg z.id (nf a + k) 1 = [mk a (nf a + k)] by simp [seg, hid]]; exact hm.rowA 64 rfl) (by omega) (fun r' z' ys' hext hget hid' hm' => ?_)
        refine g_pu rfl rfl rfl (pu_assign rfl rfl) ?_
        refine g_nil ?_
        refine g_blk ?_
        (repeat refine g_seq ?_)
        refine g_region ?_
        refine g_pu rfl rfl rfl (pu_move rfl rfl) ?_
        refine g_pu rfl rfl rfl (pu_addI rfl rfl rfl (by omega)) ?_
        refine g_pu rfl rfl rfl (pu_assign rfl rfl) ?_
        refine g_nil ?_
        exact g_round4 (k + 1) r' z' ys' ⟨by omega, hph.ext hext, hgood.ext hext, hget, by rw [hid', hid], by omega⟩ (by omega) ⟨rfl, rfl, rfl, rfl, rfl, trivial⟩ ⟨rfl, rfl, trivial⟩
      · (repeat refine g_seq ?_)
        refine g_region ?_
        refine g_pu rfl rfl rfl (pu_move rfl rfl) ?_
        first | refine g_pu rfl rfl rfl (pu_lss_t rfl rfl rfl (by omega)) ?_ | refine g_pu rfl rfl rfl (pu_lss_f rfl rfl rfl (by omega)) ?_ | refine g_pu rfl rfl rfl (pu_lss rfl rfl rfl) ?_
        refine g_nil ?_
        (repeat refine g_seq ?_)
        refine g_cond_f rfl (g_exit rfl ?_)
        have ek : k = 16 := by omega
        subst ek
        (repeat refine g_seq ?_)
        refine g_region ?_
        refine g_pu rfl rfl rfl (pu_move rfl rfl) ?_
        refine g_pu rfl rfl rfl (pu_move rfl rfl) ?_
        refine g_lo [68] rfl rfl rfl rfl (lo_buildSlice rfl rfl (by decide) (by decide) rfl rfl) (fun b68 hb68 => ?_)
        refine g_append1 90 [.slice z.p (nf a + 16) z.c] rfl rfl rfl rfl rfl rfl rfl rfl (by omega) (fun w' hm => hm.rowA 68 rfl) rfl (fun u hu => by obtain rfl := List.mem_singleton.1 hu; rfl) (by omega) (by omega) (fun p' c' => ?_)
        refine g_pu rfl rfl rfl (pu_assign rfl rfl) ?_
        refine g_nil ?_
        refine g_blk ?_
        (repeat refine g_seq ?_)
        refine g_region ?_
        refine g_pu rfl rfl rfl (pu_move rfl rfl) ?_
        refine g_pu rfl rfl rfl (pu_addI rfl rfl rfl (by omega)) ?_
        refine g_pu rfl rfl rfl (pu_assign rfl rfl) ?_
        refine g_nil ?_
        exact g_round4 (a + 1) ys (GL ++ [.slice z.p (nf a + 16) z.c]) (⟨p', c'⟩ : Ow) ⟨by omega, hph, by simp [hGl], hgood.snoc hz hm (by rw [hid, hGl, Nat.mod_eq_of_lt hlt]) (by omega), by rw [List.all_append, hsl]; rfl⟩ (by omega) ⟨rfl, rfl, rfl, trivial⟩ ⟨rfl, rfl, trivial⟩
    · (repeat refine g_seq ?_)
      refine g_region ?_
      refine g_pu rfl rfl rfl (pu_move rfl rfl) ?_
      refine g_pu rfl rfl rfl (pu_move rfl rfl) ?_
      first | refine g_pu rfl rfl rfl (pu_len rfl rfl) ?_ | refine g_pu rfl rfl rfl (pu_lenS rfl rfl) ?_
      first | refine g_pu rfl rfl rfl (pu_lss_t rfl rfl rfl (by omega)) ?_ | refine g_pu rfl rfl rfl (pu_lss_f rfl rfl rfl (by omega)) ?_ | refine g_pu rfl rfl rfl (pu_lss rfl rfl rfl) ?_
      refine g_nil ?_
      (repeat refine g_seq ?_)
      refine g_cond_f rfl (g_exit rfl ?_)
      have e1 : a = i := by omega
      subst e1
      clear ha hlt
      (repeat refine g_seq ?_)
      refine g_region ?_
      refine g_pu rfl rfl rfl (pu_assign rfl rfl) ?_
      refine g_nil ?_
      (repeat refine g_seq ?_)
      refine g_block (g_loop4 (fun (b : Nat) (_ : List Itm) (GL : List Value) (x : Ow) => [(0, .slice p a c), (5, x.sl (a + b)), (9, .int .i64 (b : Int))]) (fun _ ys GL x => [(0, .fact (BS ys) (Bag ys)), (90, x.ck 22 1 GL)]) (fun b ys GL _ => b ≤ a ∧ Ph xs ys nf a ∧ GL.length = a + b ∧ Good a ys GL ∧ GL.all isSl = true) (fun b _ _ _ => a - b) 0 ys GL x ⟨rfl, rfl, rfl, trivial⟩ ⟨rfl, rfl, trivial⟩ ⟨by omega, hph, hGl, hgood, hsl⟩ ?_)
      clear hph hgood hsl hGl
      intro b ys GL x ⟨hb2, hph, hGl, hgood, hsl⟩
      by_cases hlt : b < a
      · (repeat refine g_seq ?_)
        refine g_region ?_
        refine g_pu rfl rfl rfl (pu_move rfl rfl) ?_
        refine g_pu rfl rfl rfl (pu_move rfl rfl) ?_
        first | refine g_pu rfl rfl rfl (pu_len rfl rfl) ?_ | refine g_pu rfl rfl rfl (pu_lenS rfl rfl) ?_
        first | refine g_pu rfl rfl rfl (pu_lss_t rfl rfl rfl (by omega)) ?_ | refine g_pu rfl rfl rfl (pu_lss_f rfl rfl rfl (by omega)) ?_ | refine g_pu rfl rfl rfl (pu_lss rfl rfl rfl) ?_
        refine g_nil ?_
        (repeat refine g_seq ?_)
        refine g_cond_t rfl (g_skip ?_)
        have hpn := hpn (by omega)
        obtain ⟨z0, hz0, hid0, hLL, hc0, hnf⟩ := hel hlt hph.1
        obtain ⟨y0, hy0⟩ := hxs b hlt
        obtain ⟨z1, hz1, hm1⟩ := hph.2 b y0 hy0 hlt
        rw [hz0] at hz1
        cases hz1
        have hsgl := seg_length b (nf b) 40
        (repeat refine g_seq ?_); refine g_block ?_
        (repeat refine g_seq ?_)
        refine g_region ?_
        refine g_lo [76] rfl rfl rfl rfl (lo_make (n := 40) (c := 40) rfl rfl rfl (by omega) (by omega) (by omega) rfl) (fun b76 hb76 => ?_)
        refine g_pu rfl rfl rfl (pu_assign rfl rfl) ?_
        refine g_nil ?_
        (repeat refine g_seq ?_)
        refine g_region ?_
        refine g_pu rfl rfl rfl (pu_assign rfl rfl) ?_
        refine g_nil ?_
        (repeat refine g_seq ?_)
        refine g_block (g_loop (σ := Nat) (fun k => [(0, .slice p a c), (5, x.sl (a + b)), (9, .int .i64 (b : Int)), (10, .slice (some ⟨b76, 0, none⟩) 40 40), (11, .int .i64 (k : Int))]) (fun k => [(0, .fact (BS ys) (Bag ys)), (90, x.ck 22 1 GL), (76, .pt b76 (.cells (bs (fillW 0#8 (seg b (nf b) 40) k)).toArray 5 (0, 0)))]) (fun k => k ≤ 40) (fun k => 40 - k) 0 ⟨rfl, rfl, rfl, rfl, rfl, trivial⟩ ⟨rfl, rfl, by rw [show fillW 0#8 (seg b (nf b) 40) 0 = List.replicate 40 0#8 by simp [fillW, hsgl]]; rfl, trivial⟩ (by omega) ?_)
        intro k hk
        by_cases hk40 : k < 40
        · (repeat refine g_seq ?_)
          refine g_region ?_
          refine g_pu rfl rfl rfl (pu_move rfl rfl) ?_
          first | refine g_pu rfl rfl rfl (pu_lss_t rfl rfl rfl (by omega)) ?_ | refine g_pu rfl rfl rfl (pu_lss_f rfl rfl rfl (by omega)) ?_ | refine g_pu rfl rfl rfl (pu_lss rfl rfl rfl) ?_
          refine g_nil ?_
          (repeat refine g_seq ?_)
          refine g_cond_t rfl (g_skip ?_)
          have hsg : (seg b (nf b) 40)[k]? = some (mk b (nf b + k)) := by simp [seg, hk40]
          (repeat refine g_seq ?_); refine g_block ?_
          (repeat refine g_seq ?_)
          refine g_region ?_
          refine g_pu rfl rfl rfl (pu_move rfl rfl) ?_
          refine g_pu rfl rfl rfl (pu_move rfl rfl) ?_
          refine g_pu rfl rfl rfl (pu_move rfl rfl) ?_
          refine g_pu rfl rfl rfl (pu_move rfl rfl) ?_
          refine g_pu rfl rfl rfl (pu_move rfl rfl) ?_
          refine g_pu rfl rfl rfl (pu_atP b hpn rfl rfl rfl rfl hlt) ?_
          refine g_pu rfl rfl rfl (pu_rdM (fun w' hm => hr.mem hm hq) rfl rfl hLL) ?_
          first | refine g_pu rfl rfl rfl (pu_len rfl rfl) ?_ | refine g_pu rfl rfl rfl (pu_lenS rfl rfl) ?_
          refine g_pu rfl rfl rfl (pu_move rfl rfl) ?_
          refine g_pu rfl rfl rfl (pu_addI rfl rfl rfl (by omega)) ?_
          refine g_call [] rfl rfl rfl rfl rfl rfl (fun w' hm => mark_b w' b (nf b + k) (by omega) (by omega)) (fun _ _ => ?_)
          refine g_pu rfl rfl rfl (pu_at1 k rfl rfl rfl rfl hk40) ?_
          refine g_store 76 (v := b8 (mk b (nf b + k))) rfl rfl rfl rfl rfl rfl rfl (by rw [bs_length, fillW_length, hsgl]; omega) ?_
          rw [bs_setW, fillW_set hsg]
          refine g_nil ?_
          refine g_blk ?_
          (repeat refine g_seq ?_)
          refine g_region ?_
          refine g_pu rfl rfl rfl (pu_move rfl rfl) ?_
          refine g_pu rfl rfl rfl (pu_addI rfl rfl rfl (by omega)) ?_
          refine g_pu rfl rfl rfl (pu_assign rfl rfl) ?_
          refine g_nil ?_
          exact g_round (k + 1) (by omega) (by omega) ⟨rfl, rfl, rfl, rfl, rfl, trivial⟩ ⟨rfl, rfl, rfl, trivial⟩
        · (repeat refine g_seq ?_)
          refine g_region ?_
          refine g_pu rfl rfl rfl (pu_move rfl rfl) ?_
          first | refine g_pu rfl rfl rfl (pu_lss_t rfl rfl rfl (by omega)) ?_ | refine g_pu rfl rfl rfl (pu_lss_f rfl rfl rfl (by omega)) ?_ | refine g_pu rfl rfl rfl (pu_lss rfl rfl rfl) ?_
          refine g_nil ?_
          (repeat refine g_seq ?_)
          refine g_cond_f rfl (g_exit rfl ?_)
          have ek : k = 40 := by omega
          subst ek
          have hfe : fillW 0#8 (seg b (nf b) 40) 40 = seg b (nf b) 40 := by have := fillW_end 0#8 (seg b (nf b) 40); rwa [hsgl] at this
          rw [hfe]
          (repeat refine g_seq ?_)
          refine g_region ?_
          refine g_pu rfl rfl rfl (pu_move rfl rfl) ?_
          refine g_pu rfl rfl rfl (pu_move rfl rfl) ?_
          refine g_pu rfl rfl rfl (pu_move rfl rfl) ?_
          refine g_pu rfl rfl rfl (pu_atP b hpn rfl rfl rfl rfl hlt) ?_
          refine g_pu rfl rfl rfl (pu_rdM (fun w' hm => hr.mem hm hq) rfl rfl hLL) ?_
          refine g_pu rfl rfl rfl (pu_move rfl rfl) ?_
          refine g_bagApp 0 (r := b) (z := z0) (n := nf b) (m := 40) rfl rfl rfl rfl rfl rfl rfl hz0 hm1 (fun w' hm => by rw [hid0]; exact hm.rowA 76 rfl) (by omega) (fun r' z' ys' hext hget hid' hm' => ?_)
          refine g_lo [100] rfl rfl rfl rfl (lo_buildSlice rfl rfl (by decide) (by decide) rfl rfl) (fun b100 hb100 => ?_)
          refine g_append1 90 [.slice z'.p (nf b + 40) z'.c] rfl rfl rfl rfl rfl rfl rfl rfl (by omega) (fun w' hm => hm.rowA 100 rfl) rfl (fun u hu => by obtain rfl := List.mem_singleton.1 hu; rfl) (by omega) (by omega) (fun p' c' => ?_)
          refine g_pu rfl rfl rfl (pu_assign rfl rfl) ?_
          refine g_nil ?_
          refine g_blk ?_
          (repeat refine g_seq ?_)
          refine g_region ?_
          refine g_pu rfl rfl rfl (pu_move rfl rfl) ?_
          refine g_pu rfl rfl rfl (pu_addI rfl rfl rfl (by omega)) ?_
          refine g_pu rfl rfl rfl (pu_assign rfl rfl) ?_
          refine g_nil ?_
          have hmod : (a + b) % a = b := by rw [Nat.add_mod_left]; exact Nat.mod_eq_of_lt hlt
          exact g_round4 (b + 1) ys' (GL ++ [.slice z'.p (nf b + 40) z'.c]) (⟨p', c'⟩ : Ow) ⟨by omega, hph.ext hext, by simp [hGl]; omega, (hgood.ext hext).snoc hget hm' (by rw [hid', hid0, hGl, hmod]) (by omega), by rw [List.all_append, hsl]; rfl⟩ (by omega) ⟨rfl, rfl, rfl, trivial⟩ ⟨rfl, rfl, trivial⟩
      · (repeat refine g_seq ?_)
        refine g_region ?_
        refine g_pu rfl rfl rfl (pu_move rfl rfl) ?_
        refine g_pu rfl rfl rfl (pu_move rfl rfl) ?_
        first | refine g_pu rfl rfl rfl (pu_len rfl rfl) ?_ | refine g_pu rfl rfl rfl (pu_lenS rfl rfl) ?_
        first | refine g_pu rfl rfl rfl (pu_lss_t rfl rfl rfl (by omega)) ?_ | refine g_pu rfl rfl rfl (pu_lss_f rfl rfl rfl (by omega)) ?_ | refine g_pu rfl rfl rfl (pu_lss rfl rfl rfl) ?_
        refine g_nil ?_
        (repeat refine g_seq ?_)
        refine g_cond_f rfl (g_exit rfl ?_)
        have e1 : b = a := by omega
        subst e1
        clear hb2 hlt
        (repeat refine g_seq ?_)
        refine g_region ?_
        refine g_pu rfl rfl rfl (pu_assign rfl rfl) ?_
        refine g_nil ?_
        (repeat refine g_seq ?_)
        refine g_block (g_loop (σ := Nat) (fun u => [(0, .slice p b c), (5, x.sl (b + b)), (12, .int .i64 (u : Int))]) (fun _ => [(0, .fact (BS ys) (Bag ys)), (90, x.ck 22 1 GL)]) (fun u => u ≤ b + b) (fun u => b + b - u) 0 ⟨rfl, rfl, rfl, trivial⟩ ⟨rfl, rfl, trivial⟩ (by omega) ?_)
        intro u hu
        by_cases hlt : u < b + b
        · (repeat refine g_seq ?_)
          refine g_region ?_
          refine g_pu rfl rfl rfl (pu_move rfl rfl) ?_
          refine g_pu rfl rfl rfl (pu_move rfl rfl) ?_
          first | refine g_pu rfl rfl rfl (pu_len rfl rfl) ?_ | refine g_pu rfl rfl rfl (pu_lenS rfl rfl) ?_
          first | refine g_pu rfl rfl rfl (pu_lss_t rfl rfl rfl (by omega)) ?_ | refine g_pu rfl rfl rfl (pu_lss_f rfl rfl rfl (by omega)) ?_ | refine g_pu rfl rfl rfl (pu_lss rfl rfl rfl) ?_
          refine g_nil ?_
          (repeat refine g_seq ?_)
          refine g_cond_t rfl (g_skip ?_)
          obtain ⟨v, hv⟩ : ∃ v, GL[u]? = some v := ⟨_, List.getElem?_eq_getElem (by omega)⟩
          obtain ⟨r, z, nn, hz, rfl, hnm, hid, hnn⟩ := hgood u v hv
          refine g_know (φ := ∃ b o, x.p = some ⟨b, o, none⟩) (fun w' hm => by obtain ⟨b, o, e, _⟩ := (Ow.rd (t := 90) rfl hm : RdV w' x.p GL).place (by omega); exact ⟨b, o, e⟩) (fun hxn => ?_)
          (repeat refine g_seq ?_); refine g_block ?_
          (repeat refine g_seq ?_)
          refine g_region ?_
          refine g_pu rfl rfl rfl (pu_assign rfl rfl) ?_
          refine g_nil ?_
          (repeat refine g_seq ?_)
          refine g_block (g_loop (σ := Nat) (fun j => [(0, .slice p b c), (5, x.sl (b + b)), (12, .int .i64 (u : Int)), (13, .int .i64 (j : Int))]) (fun _ => [(0, .fact (BS ys) (Bag ys)), (90, x.ck 22 1 GL)]) (fun j => j ≤ nn) (fun j => nn - j) 0 ⟨rfl, rfl, rfl, rfl, trivial⟩ ⟨rfl, rfl, trivial⟩ (by omega) ?_)
          intro j hj
          by_cases hlj : j < nn
          · refine g_know (φ := ∃ b o, z.p = some ⟨b, o, none⟩) (fun w' hm => ((hm.holds 0 _ rfl).1 z (List.mem_of_getElem? hz)).ex (by have := ((hm.holds 0 _ rfl).1 z (List.mem_of_getElem? hz)).le; omega)) (fun hzn => ?_)
            (repeat refine g_seq ?_)
            refine g_region ?_
            refine g_pu rfl rfl rfl (pu_move rfl rfl) ?_
            refine g_pu rfl rfl rfl (pu_move rfl rfl) ?_
            refine g_pu rfl rfl rfl (pu_move rfl rfl) ?_
            refine g_pu rfl rfl rfl (pu_atP u hxn rfl rfl rfl rfl hlt) ?_
            refine g_pu rfl rfl rfl (pu_rdM (fun w' hm => Ow.rd (t := 90) rfl hm) rfl rfl hv) ?_
            first | refine g_pu rfl rfl rfl (pu_len rfl rfl) ?_ | refine g_pu rfl rfl rfl (pu_lenS rfl rfl) ?_
            first | refine g_pu rfl rfl rfl (pu_lss_t rfl rfl rfl (by omega)) ?_ | refine g_pu rfl rfl rfl (pu_lss_f rfl rfl rfl (by omega)) ?_ | refine g_pu rfl rfl rfl (pu_lss rfl rfl rfl) ?_
            refine g_nil ?_
            (repeat refine g_seq ?_)
            refine g_cond_t rfl (g_skip ?_)
            (repeat refine g_seq ?_); refine g_block ?_
            (repeat refine g_seq ?_)
            refine g_any (14, []) ?_
            refine a_pu 0 rfl rfl rfl rfl (pu_move rfl rfl) rfl rfl (by kernel_rfl) ?_
            refine a_pu 1 rfl rfl rfl rfl (pu_move rfl rfl) rfl rfl (by kernel_rfl) ?_
            refine a_pu 2 rfl rfl rfl rfl (pu_atP u hxn rfl rfl rfl rfl hlt) rfl rfl (by kernel_rfl) ?_
            refine a_pu 3 rfl rfl rfl rfl (pu_rdM (fun w' hm => Ow.rd (t := 90) rfl hm) rfl rfl hv) rfl rfl (by kernel_rfl) ?_
            refine a_pu 4 rfl rfl rfl rfl (pu_move rfl rfl) rfl rfl (by kernel_rfl) ?_
            refine a_pu 5 rfl rfl rfl rfl (pu_atP j hzn rfl rfl rfl rfl hlj) rfl rfl (by kernel_rfl) ?_
            refine a_pu 6 rfl rfl rfl rfl (pu_rdM (j := j) (fun w' hm => ((hm.holds 0 _ rfl).1 z (List.mem_of_getElem? hz)).rd) rfl rfl (bs_get (mks_get (by omega)))) rfl rfl (by kernel_rfl) ?_
            refine a_pu 7 rfl rfl rfl rfl (pu_move rfl rfl) rfl rfl (by kernel_rfl) ?_
            refine a_pu 8 rfl rfl rfl rfl (pu_move rfl rfl) rfl rfl (by kernel_rfl) ?_
            first | refine a_pu 9 rfl rfl rfl rfl (pu_len rfl rfl) rfl rfl (by kernel_rfl) ?_ | refine a_pu 9 rfl rfl rfl rfl (pu_lenS rfl rfl) rfl rfl (by kernel_rfl) ?_
            refine a_pu 10 rfl rfl rfl rfl (pu_remI rfl rfl rfl (by omega)) rfl rfl (by kernel_rfl) ?_
            refine a_pu 11 rfl rfl rfl rfl (pu_move rfl rfl) rfl rfl (by kernel_rfl) ?_
            refine a_do 12 129 [] (does_call rfl rfl rfl rfl rfl (fun w' hm => mark_b w' (u % b) j (by have := Nat.mod_le u b; omega) (by omega))) rfl rfl (by kernel_rfl) rfl rfl (by kernel_rfl) (by kernel_rfl) (by kernel_rfl) rfl (fun p hp => by cases hp) ?_; rintro v_ cs_ ⟨_, _, rfl, rfl⟩
            refine a_pu 13 rfl rfl rfl rfl (pu_neq8_f rfl rfl rfl (by rw [hid])) rfl rfl (by kernel_rfl) ?_
            refine a_done (by kernel_rfl) ?_
            (repeat refine g_seq ?_)
            refine g_cond_f rfl (g_skip ?_)
            refine g_blk ?_
            (repeat refine g_seq ?_)
            refine g_region ?_
            refine g_pu rfl rfl rfl (pu_move rfl rfl) ?_
            refine g_pu rfl rfl rfl (pu_addI rfl rfl rfl (by omega)) ?_
            refine g_pu rfl rfl rfl (pu_assign rfl rfl) ?_
            refine g_nil ?_
            exact g_round (j + 1) (by omega) (by omega) ⟨rfl, rfl, rfl, rfl, trivial⟩ ⟨rfl, rfl, trivial⟩
          · (repeat refine g_seq ?_)
            refine g_region ?_
            refine g_pu rfl rfl rfl (pu_move rfl rfl) ?_
            refine g_pu rfl rfl rfl (pu_move rfl rfl) ?_
            refine g_pu rfl rfl rfl (pu_move rfl rfl) ?_
            refine g_pu rfl rfl rfl (pu_atP u hxn rfl rfl rfl rfl hlt) ?_
            refine g_pu rfl rfl rfl (pu_rdM (fun w' hm => Ow.rd (t := 90) rfl hm) rfl rfl hv) ?_
            first | refine g_pu rfl rfl rfl (pu_len rfl rfl) ?_ | refine g_pu rfl rfl rfl (pu_lenS rfl rfl) ?_
            first | refine g_pu rfl rfl rfl (pu_lss_t rfl rfl rfl (by omega)) ?_ | refine g_pu rfl rfl rfl (pu_lss_f rfl rfl rfl (by omega)) ?_ | refine g_pu rfl rfl rfl (pu_lss rfl rfl rfl) ?_
            refine g_nil ?_
            (repeat refine g_seq ?_)
            refine g_cond_f rfl (g_exit rfl ?_)
            refine g_blk ?_
            (repeat refine g_seq ?_)
            refine g_region ?_
            refine g_pu rfl rfl rfl (pu_move rfl rfl) ?_
            refine g_pu rfl rfl rfl (pu_addI rfl rfl rfl (by omega)) ?_
            refine g_pu rfl rfl rfl (pu_assign rfl rfl) ?_
            refine g_nil ?_
            exact g_round (u + 1) (by omega) (by omega) ⟨rfl, rfl, rfl, trivial⟩ ⟨rfl, rfl, trivial⟩
        · (repeat refine g_seq ?_)
          refine g_region ?_
          refine g_pu rfl rfl rfl (pu_move rfl rfl) ?_
          refine g_pu rfl rfl rfl (pu_move rfl rfl) ?_
          first | refine g_pu rfl rfl rfl (pu_len rfl rfl) ?_ | refine g_pu rfl rfl rfl (pu_lenS rfl rfl) ?_
          first | refine g_pu rfl rfl rfl (pu_lss_t rfl rfl rfl (by omega)) ?_ | refine g_pu rfl rfl rfl (pu_lss_f rfl rfl rfl (by omega)) ?_ | refine g_pu rfl rfl rfl (pu_lss rfl rfl rfl) ?_
          refine g_nil ?_
          (repeat refine g_seq ?_)
          refine g_cond_f rfl (g_exit rfl ?_)
          (repeat refine g_seq ?_)
          refine g_region ?_
          refine g_pu rfl rfl rfl (pu_assign rfl rfl) ?_
          refine g_nil ?_
          (repeat refine g_seq ?_)
          refine g_block (g_loop (σ := Nat) (fun u => [(0, .slice p b c), (14, .int .i64 (u : Int))]) (fun _ => [(0, .fact (BS ys) (Bag ys))]) (fun u => u ≤ b) (fun u => b - u) 0 ⟨rfl, rfl, trivial⟩ ⟨rfl, trivial⟩ (by omega) ?_)
          clear hu hlt
          intro u hu
          by_cases hlt : u < b
          · (repeat refine g_seq ?_)
            refine g_region ?_
            refine g_pu rfl rfl rfl (pu_move rfl rfl) ?_
            refine g_pu rfl rfl rfl (pu_move rfl rfl) ?_
            first | refine g_pu rfl rfl rfl (pu_len rfl rfl) ?_ | refine g_pu rfl rfl rfl (pu_lenS rfl rfl) ?_
            first | refine g_pu rfl rfl rfl (pu_lss_t rfl rfl rfl (by omega)) ?_ | refine g_pu rfl rfl rfl (pu_lss_f rfl rfl rfl (by omega)) ?_ | refine g_pu rfl rfl rfl (pu_lss rfl rfl rfl) ?_
            refine g_nil ?_
            (repeat refine g_seq ?_)
            refine g_cond_t rfl (g_skip ?_)
            have hpn := hpn (by omega)
            obtain ⟨z, hz, hid, hLL, hc0, hnf⟩ := hel hlt hph.1
            obtain ⟨y0, hy0⟩ := hxs u hlt
            obtain ⟨z1, hz1, hm1⟩ := hph.2 u y0 hy0 hlt
            rw [hz] at hz1
            cases hz1
            (repeat refine g_seq ?_); refine g_block ?_
            (repeat refine g_seq ?_)
            refine g_region ?_
            refine g_pu rfl rfl rfl (pu_assign rfl rfl) ?_
            refine g_nil ?_
            (repeat refine g_seq ?_)
            refine g_block (g_loop (σ := Nat) (fun j => [(0, .slice p b c), (14, .int .i64 (u : Int)), (15, .int .i64 (j : Int))]) (fun _ => [(0, .fact (BS ys) (Bag ys))]) (fun j => j ≤ nf u) (fun j => nf u - j) 0 ⟨rfl, rfl, rfl, trivial⟩ ⟨rfl, trivial⟩ (by omega) ?_)
            intro j hj
            by_cases hlj : j < nf u
            · refine g_know (φ := ∃ b o, z.p = some ⟨b, o, none⟩) (fun w' hm => ((hm.holds 0 _ rfl).1 z (List.mem_of_getElem? hz)).ex (by omega)) (fun hzn => ?_)
              (repeat refine g_seq ?_)
              refine g_region ?_
              refine g_pu rfl rfl rfl (pu_move rfl rfl) ?_
              refine g_pu rfl rfl rfl (pu_move rfl rfl) ?_
              refine g_pu rfl rfl rfl (pu_move rfl rfl) ?_
              refine g_pu rfl rfl rfl (pu_atP u hpn rfl rfl rfl rfl hlt) ?_
              refine g_pu rfl rfl rfl (pu_rdM (fun w' hm => hr.mem hm hq) rfl rfl hLL) ?_
              first | refine g_pu rfl rfl rfl (pu_len rfl rfl) ?_ | refine g_pu rfl rfl rfl (pu_lenS rfl rfl) ?_
              first | refine g_pu rfl rfl rfl (pu_lss_t rfl rfl rfl (by omega)) ?_ | refine g_pu rfl rfl rfl (pu_lss_f rfl rfl rfl (by omega)) ?_ | refine g_pu rfl rfl rfl (pu_lss rfl rfl rfl) ?_
              refine g_nil ?_
              (repeat refine g_seq ?_)
              refine g_cond_t rfl (g_skip ?_)
              (repeat refine g_seq ?_); refine g_block ?_
              (repeat refine g_seq ?_)
              refine g_any (11, []) ?_
              refine a_pu 0 rfl rfl rfl rfl (pu_move rfl rfl) rfl rfl (by kernel_rfl) ?_
              refine a_pu 1 rfl rfl rfl rfl (pu_move rfl rfl) rfl rfl (by kernel_rfl) ?_
              refine a_pu 2 rfl rfl rfl rfl (pu_atP u hpn rfl rfl rfl rfl hlt) rfl rfl (by kernel_rfl) ?_
              refine a_pu 3 rfl rfl rfl rfl (pu_rdM (fun w' hm => hr.mem hm hq) rfl rfl hLL) rfl rfl (by kernel_rfl) ?_
              refine a_pu 4 rfl rfl rfl rfl (pu_move rfl rfl) rfl rfl (by kernel_rfl) ?_
              refine a_pu 5 rfl rfl rfl rfl (pu_atP j hzn rfl rfl rfl rfl hlj) rfl rfl (by kernel_rfl) ?_
              refine a_pu 6 rfl rfl rfl rfl (pu_rdM (j := j) (fun w' hm => ((hm.holds 0 _ rfl).1 z (List.mem_of_getElem? hz)).rd) rfl rfl (bs_get (mks_get (by omega)))) rfl rfl (by kernel_rfl) ?_
              refine a_pu 7 rfl rfl rfl rfl (pu_move rfl rfl) rfl rfl (by kernel_rfl) ?_
              refine a_pu 8 rfl rfl rfl rfl (pu_move rfl rfl) rfl rfl (by kernel_rfl) ?_
              refine a_do 9 155 [] (does_call rfl rfl rfl rfl rfl (fun w' hm => mark_b w' u j (by omega) (by omega))) rfl rfl (by kernel_rfl) rfl rfl (by kernel_rfl) (by kernel_rfl) (by kernel_rfl) rfl (fun p hp => by cases hp) ?_; rintro v_ cs_ ⟨_, _, rfl, rfl⟩
              refine a_pu 10 rfl rfl rfl rfl (pu_neq8_f rfl rfl rfl (by rw [hid])) rfl rfl (by kernel_rfl) ?_
              refine a_done (by kernel_rfl) ?_
              (repeat refine g_seq ?_)
              refine g_cond_f rfl (g_skip ?_)
              refine g_blk ?_
              (repeat refine g_seq ?_)
              refine g_region ?_
              refine g_pu rfl rfl rfl (pu_move rfl rfl) ?_
              refine g_pu rfl rfl rfl (pu_addI rfl rfl rfl (by omega)) ?_
              refine g_pu rfl rfl rfl (pu_assign rfl rfl) ?_
              refine g_nil ?_
              exact g_round (j + 1) (by omega) (by omega) ⟨rfl, rfl, rfl, trivial⟩ ⟨rfl, trivial⟩
            · (repeat refine g_seq ?_)
              refine g_region ?_
              refine g_pu rfl rfl rfl (pu_move rfl rfl) ?_
              refine g_pu rfl rfl rfl (pu_move rfl rfl) ?_
              refine g_pu rfl rfl rfl (pu_move rfl rfl) ?_
              refine g_pu rfl rfl rfl (pu_atP u hpn rfl rfl rfl rfl hlt) ?_
              refine g_pu rfl rfl rfl (pu_rdM (fun w' hm => hr.mem hm hq) rfl rfl hLL) ?_
              first | refine g_pu rfl rfl rfl (pu_len rfl rfl) ?_ | refine g_pu rfl rfl rfl (pu_lenS rfl rfl) ?_
              first | refine g_pu rfl rfl rfl (pu_lss_t rfl rfl rfl (by omega)) ?_ | refine g_pu rfl rfl rfl (pu_lss_f rfl rfl rfl (by omega)) ?_ | refine g_pu rfl rfl rfl (pu_lss rfl rfl rfl) ?_
              refine g_nil ?_
              (repeat refine g_seq ?_)
              refine g_cond_f rfl (g_exit rfl ?_)
              refine g_blk ?_
              (repeat refine g_seq ?_)
              refine g_region ?_
              refine g_pu rfl rfl rfl (pu_move rfl rfl) ?_
              refine g_pu rfl rfl rfl (pu_addI rfl rfl rfl (by omega)) ?_
              refine g_pu rfl rfl rfl (pu_assign rfl rfl) ?_
              refine g_nil ?_
              exact g_round (u + 1) (by omega) (by omega) ⟨rfl, rfl, trivial⟩ ⟨rfl, trivial⟩
          · (repeat refine g_seq ?_)
            refine g_region ?_
            refine g_pu rfl rfl rfl (pu_move rfl rfl) ?_
            refine g_pu rfl rfl rfl (pu_move rfl rfl) ?_
            first | refine g_pu rfl rfl rfl (pu_len rfl rfl) ?_ | refine g_pu rfl rfl rfl (pu_lenS rfl rfl) ?_
            first | refine g_pu rfl rfl rfl (pu_lss_t rfl rfl rfl (by omega)) ?_ | refine g_pu rfl rfl rfl (pu_lss_f rfl rfl rfl (by omega)) ?_ | refine g_pu rfl rfl rfl (pu_lss rfl rfl rfl) ?_
            refine g_nil ?_
            (repeat refine g_seq ?_)
            refine g_cond_f rfl (g_exit rfl ?_)
            (repeat refine g_seq ?_)
            refine g_region ?_
            refine g_pu rfl rfl rfl (pu_assign rfl rfl) ?_
            refine g_nil ?_
            exact g_ret1 rfl rfl (fun w' hm => ⟨(), trivial, rfl, hm.grows [] trivial rfl⟩)
end Go.Sx

/-
  Handing known parts of memory to the look whether lists share memory. No condition.
-/
namespace Go.Sx
open Go Go.Proofs

/-- The parts under these numbers are writable, item by item. -/
def Tg (M : List (Nat × Ck)) : List Nat → List Itm → Prop
  | [], [] => True
  | t :: ts, y :: ys => (∃ c, mget M t = some c ∧ (∀ w, c.holds w → Wr y w) ∧ ∀ j, At y.p j → c.has j) ∧ ts.contains t = false ∧ Tg M ts ys
  | _, _ => False
def HxL : Nat → List Itm → List Value → List Nat → Prop
  | _, [], [], [] => True
  | k, y :: ys, v :: vs, n :: ns => (y.id = k ∧ y.m = 0 ∧ v = .slice y.p n y.c ∧ n ≤ y.c ∧ n ≤ 140737488355200) ∧ HxL (k + 1) ys vs ns
  | _, _, _, _ => False
theorem HxL.len : ∀ {k : Nat} {xs : List Itm} {LL : List Value} {ns : List Nat}, HxL k xs LL ns → xs.length = LL.length
  | _, [], [], [], _ => rfl
  | k, y :: ys, v :: vs, n :: ns, h => by simp [HxL.len h.2]
theorem HxL.at : ∀ {k : Nat} {xs : List Itm} {LL : List Value} {ns : List Nat}, HxL k xs LL ns → ∀ i y, xs[i]? = some y → y.id = k + i ∧ y.m = 0 ∧ LL[i]? = some (.slice y.p (ns.getD i 0) y.c) ∧ ns.getD i 0 ≤ y.c ∧ ns.getD i 0 ≤ 140737488355200
  | _, [], [], [], _, i, y, hi => by simp at hi
  | k, x :: ys, v :: vs, n :: ns, h, 0, y, hi => by
    simp only [List.getElem?_cons_zero, Option.some.injEq] at hi
    subst hi
    obtain ⟨h1, h2, h3, h4, h5⟩ := h.1
    exact ⟨by omega, h2, by rw [h3]; rfl, h4, h5⟩
  | k, x :: ys, v :: vs, n :: ns, h, i + 1, y, hi => by
    have := HxL.at h.2 i y (by simpa using hi)
    obtain ⟨h1, h2, h3, h4, h5⟩ := this
    exact ⟨by omega, h2, by simpa using h3, by simpa using h4, by simpa using h5⟩

theorem By.spare (t : Nat) {w0 w : World} {D : Blocks} {M : List (Nat × Ck)} {b n : Nat} {E : TypeId} {fz : Nat × Nat} {l : List (BitVec 8)} (hM : mget M t = some (.pt b (.cells (bs (spareL l 40)).toArray E fz))) (hm : Mem w0 D M w) (hn : l.length = n) (hb : n ≤ 140737488355328) : By w (some ⟨b, 0, none⟩) n l := by
  have h1 := hm.holds t _ hM
  simp only [Ck.holds, spareL, bs_append] at h1
  exact ⟨RdV.row h1, hn, hb⟩
end Go.Sx

/-
  Lists of slices of the run's own, each in a block of its own, with their contents; handing them to the look whether lists share memory. No condition.
-/
namespace Go.Sx
open Go Go.Proofs

abbrev Otm := Ow × List (BitVec 8)
def BSC (xs : List Otm) : Blocks := fun j => ∃ x ∈ xs, At x.1.p j
def BagC (_ : TypeId) (xs : List Otm) (w : World) : Prop := (∀ x ∈ xs, ∃ F, OwnO F x.1.p x.1.c (bs x.2) w) ∧ xs.Pairwise (fun a b => ∀ j, At a.1.p j → ¬ At b.1.p j)
def vals (xs : List Otm) : List Value := xs.map fun x => x.1.sl x.2.length
def conts (xs : List Otm) : List (List (BitVec 8)) := xs.map (·.2)
theorem vals_length (xs : List Otm) : (vals xs).length = xs.length := by simp [vals]
theorem conts_length (xs : List Otm) : (conts xs).length = xs.length := by simp [conts]
theorem BagC.loc {E : TypeId} {xs : List Otm} : Local (BSC xs) (BagC E xs) := fun w w' hk h => ⟨fun x hx => by obtain ⟨F, hF⟩ := h.1 x hx; exact ⟨F, OwnO.loc w w' (fun j hj => hk j ⟨x, hx, hj⟩) hF⟩, h.2⟩
theorem BagC.els {E : TypeId} {xs : List Otm} {w : World} (h : BagC E xs w) (hb : ∀ x ∈ xs, x.2.length ≤ 140737488355328) : All2 (IsB (BSC xs) w) (vals xs) (conts xs) := by
  refine ⟨by simp [vals, conts], fun i v l hv hl => ?_⟩
  simp only [vals, conts, List.getElem?_map, Option.map_eq_some_iff] at hv hl
  obtain ⟨x, hx, rfl⟩ := hv
  obtain ⟨y, hy, rfl⟩ := hl
  rw [hx] at hy; cases hy
  have hm := List.mem_of_getElem? hx
  obtain ⟨F, hF⟩ := h.1 x hm
  exact ⟨x.1.p, x.2.length, x.1.c, rfl, ⟨hF.rd, rfl, hb x hm⟩, fun j hj => ⟨x, hm, hj⟩⟩
/-- The outer row and the contents, as slices of slices. -/
theorem BagC.byl (t t' : Nat) {w0 w : World} {D : Blocks} {M : List (Nat × Ck)} {F E : TypeId} {x : Ow} {xs : List Otm} {n : Nat} (h : mget M t = some (x.ck F 1 (vals xs))) (h' : mget M t' = some (.fact (BSC xs) (BagC E xs))) (hm : Mem w0 D M w) (hn : xs.length = n) (hb : ∀ x ∈ xs, x.2.length ≤ 140737488355328) (hnb : n * 24 ≤ 140737488355328) : ByL w x.p n (vals xs) (conts xs) :=
  ⟨Own.rd (hm.holds t _ h), by rw [vals_length, hn], (BagC.els (E := E) (hm.holds t' _ h') hb).imp (fun _ _ h => h.imp (fun _ _ => trivial)), hnb⟩

def itms : Nat → List Otm → List Itm
  | _, [] => []
  | k, x :: r => ⟨k, 0, x.1.p, x.1.c⟩ :: itms (k + 1) r
theorem itms_length : ∀ (k : Nat) (xs : List Otm), (itms k xs).length = xs.length
  | _, [] => rfl
  | k, _ :: r => by simp [itms, itms_length (k + 1) r]
theorem itms_mem : ∀ {k : Nat} {xs : List Otm} {y : Itm}, y ∈ itms k xs → ∃ x ∈ xs, y.p = x.1.p ∧ y.c = x.1.c ∧ y.m = 0
  | _, [], y, h => by simp [itms] at h
  | k, x :: r, y, h => by
    rcases List.mem_cons.1 h with rfl | h1
    · exact ⟨x, by simp, rfl, rfl, rfl⟩
    · obtain ⟨z, hz, r⟩ := itms_mem h1
      exact ⟨z, List.mem_cons_of_mem _ hz, r⟩
theorem itms_BS {k : Nat} {xs : List Otm} {j : Nat} (h : BS (itms k xs) j) : BSC xs j := by
  obtain ⟨y, hy, hj⟩ := h
  obtain ⟨x, hx, e, _⟩ := itms_mem hy
  exact ⟨x, hx, by rw [← e]; exact hj⟩
theorem BagC.bag {E : TypeId} {w : World} : ∀ {k : Nat} {xs : List Otm}, BagC E xs w → Bag (itms k xs) w
  | _, [], _ => Bag.nil w
  | k, x :: r, h => by
    have hp := List.pairwise_cons.1 h.2
    obtain ⟨F, hF⟩ := h.1 x (by simp)
    refine Bag.cons (Wr.ownO hF) (BagC.bag (E := E) ⟨fun z hz => h.1 z (List.mem_cons_of_mem _ hz), hp.2⟩) (fun j hj hb => ?_)
    obtain ⟨z, hz, hz2⟩ := itms_BS hb
    exact hp.1 z hz j hj hz2
theorem BagC.le {E : TypeId} {xs : List Otm} {w : World} (h : BagC E xs w) : ∀ x ∈ xs, x.2.length ≤ x.1.c := fun x hx => by
  obtain ⟨F, hF⟩ := h.1 x hx
  have := hF.le
  rwa [bs_length] at this
def lens' (xs : List Otm) : List Nat := xs.map fun x => x.2.length
theorem HxL.otm : ∀ {k : Nat} {xs : List Otm}, (∀ x ∈ xs, x.2.length ≤ x.1.c) → (∀ x ∈ xs, x.2.length ≤ 140737488355200) → HxL k (itms k xs) (vals xs) (lens' xs)
  | _, [], _, _ => trivial
  | k, x :: r, h, h2 => ⟨⟨rfl, rfl, rfl, h x (by simp), h2 x (by simp)⟩, HxL.otm (fun z hz => h z (List.mem_cons_of_mem _ hz)) (fun z hz => h2 z (List.mem_cons_of_mem _ hz))⟩
theorem HxL.app : ∀ {k : Nat} {xs ys : List Itm} {V U : List Value} {n m : List Nat}, HxL k xs V n → HxL (k + xs.length) ys U m → HxL k (xs ++ ys) (V ++ U) (n ++ m)
  | _, [], _, [], _, [], _, _, h => by simpa using h
  | k, y :: xs, ys, v :: V, U, n :: ns, m, h, h' => ⟨h.1, HxL.app h.2 (by rw [List.length_cons] at h'; rw [show k + 1 + xs.length = k + (xs.length + 1) by omega]; exact h')⟩

/-- The parts under these numbers are writable, list by list. -/
def TgL (M : List (Nat × Ck)) : List Nat → List (List Itm) → Prop
  | [], [] => True
  | t :: ts, ys :: yss => (∃ c, mget M t = some c ∧ (∀ w, c.holds w → Bag ys w) ∧ ∀ j, BS ys j → c.has j) ∧ ts.contains t = false ∧ TgL M ts yss
  | _, _ => False
theorem TgL.nil {M : List (Nat × Ck)} : TgL M [] [] := trivial
theorem TgL.ch {M : List (Nat × Ck)} : ∀ {ts : List Nat} {yss : List (List Itm)}, TgL M ts yss → ∀ j, BS yss.flatten j → ∃ u ∈ ts, ∃ c, mget M u = some c ∧ c.has j
  | [], [], _, j, ⟨y, hy, _⟩ => by simp at hy
  | t :: ts, ys :: yss, h, j, ⟨z, hz, hj⟩ => by
    rw [List.flatten_cons] at hz
    rcases List.mem_append.1 hz with h1 | h1
    · obtain ⟨c, hc, _, hh⟩ := h.1
      exact ⟨t, by simp, c, hc, hh j ⟨z, h1, hj⟩⟩
    · obtain ⟨u, hu, r⟩ := TgL.ch h.2.2 j ⟨z, h1, hj⟩
      exact ⟨u, List.mem_cons_of_mem _ hu, r⟩
theorem TgL.not {w0 w : World} {D : Blocks} {M : List (Nat × Ck)} (hm : Mem w0 D M w) {ts : List Nat} {yss : List (List Itm)} (h : TgL M ts yss) {t : Nat} {c : Ck} (hc : mget M t = some c) (ht : ts.contains t = false) {j : Nat} (hj : c.has j) : ¬ BS yss.flatten j := fun hb => by
  obtain ⟨u, hu, d, hd, hj2⟩ := h.ch j hb
  have hne : t ≠ u := fun e => by subst e; simp at ht; exact ht hu
  exact hm.apart t c u d hc hd hne j hj hj2
theorem Bag.app {xs ys : List Itm} {w : World} (h : Bag xs w) (h' : Bag ys w) (hd : ∀ j, BS xs j → ¬ BS ys j) : Bag (xs ++ ys) w :=
  ⟨fun y hy => (List.mem_append.1 hy).elim (h.1 y) (h'.1 y), List.pairwise_append.2 ⟨h.2, h'.2, fun a ha b hb j hj hj2 => hd j ⟨a, ha, hj⟩ ⟨b, hb, hj2⟩⟩⟩
theorem TgL.bag {w0 w : World} {D : Blocks} {M : List (Nat × Ck)} (hm : Mem w0 D M w) : ∀ {ts : List Nat} {yss : List (List Itm)}, TgL M ts yss → Bag yss.flatten w
  | [], [], _ => Bag.nil w
  | t :: ts, ys :: yss, h => by
    obtain ⟨⟨c, hc, hw, hh⟩, hn, hr⟩ := h
    rw [List.flatten_cons]
    exact Bag.app (hw w (hm.holds t c hc)) (TgL.bag hm hr) (fun j hj => TgL.not hm hr hc hn (hh j hj))
theorem TgL.below {w0 w : World} {D : Blocks} {M : List (Nat × Ck)} (hm : Mem w0 D M w) {ts : List Nat} {yss : List (List Itm)} (h : TgL M ts yss) : ∀ j, BS yss.flatten j → j < w.heap.size := fun j hj => by
  obtain ⟨u, _, c, hc, hj2⟩ := h.ch j hj
  exact hm.below u c hc j hj2
theorem BS.one {y : Itm} {j : Nat} (h : BS [y] j) : At y.p j := by
  obtain ⟨z, hz, hj⟩ := h
  obtain rfl := List.mem_singleton.1 hz
  exact hj
theorem TgL.row {M : List (Nat × Ck)} {ts : List Nat} {yss : List (List Itm)} (t i n : Nat) {b : Nat} {F : TypeId} {L : List Value} (ht : mget M t = some (.pt b (.cells L.toArray F (0, 0)))) (hl : n ≤ L.length) (hm : n ≤ 9223372036854775807) (hn : ts.contains t = false) (h : TgL M ts yss) : TgL M (t :: ts) ([⟨i, 0, some ⟨b, 0, none⟩, n⟩] :: yss) :=
  ⟨⟨_, ht, fun _ hw => Bag.cons (Wr.row hw hl hm) (Bag.nil _) (fun _ _ ⟨_, h, _⟩ => by simp at h), fun _ hj => At.some.1 (BS.one hj)⟩, hn, h⟩
theorem TgL.otm {M : List (Nat × Ck)} {ts : List Nat} {yss : List (List Itm)} (t i : Nat) {E : TypeId} {xs : List Otm} (ht : mget M t = some (.fact (BSC xs) (BagC E xs))) (hn : ts.contains t = false) (h : TgL M ts yss) : TgL M (t :: ts) (itms i xs :: yss) :=
  ⟨⟨_, ht, fun _ hw => BagC.bag (E := E) hw, fun _ hj => itms_BS hj⟩, hn, h⟩

/-- The call, of known parts, the row being the run's own. -/
theorem Apart_o {w0 w : World} {D : Blocks} {M : List (Nat × Ck)} (hm : Mem w0 D M w) {ts : List Nat} {yss : List (List Itm)} (tg : TgL M ts yss) (t0 : Nat) {p : Option Addr} {n : Nat} (c : Nat) {LL : List Value} {ns : List Nat} {E : TypeId} {c' : Nat} (h0 : mget M t0 = some (.fact (At p) (Own E 1 p c' LL))) (hn0 : ts.contains t0 = false) (hx : HxL 0 yss.flatten LL ns) (hn : LL.length = n) (hnb : n ≤ 1000000) :
    Spec Tryz.prog 22 #[.slice p n c] w (σ := Unit) (fun _ => True) (fun _ => .bool true) (BS yss.flatten) (fun _ => []) :=
  Apart_b w c (nf := fun i => ns.getD i 0) (Own.rd (hm.holds t0 _ h0)) hn (by rw [hx.len, hn]) (fun i y hi => by have := hx.at i y hi; simpa using this) (tg.bag hm) (tg.below hm) (fun b' o e => tg.not hm h0 hn0 (by rw [e]; exact At.some.2 rfl)) hnb

/-- The parts under these numbers are own slices of these contents. -/
def TgC (E : TypeId) (M : List (Nat × Ck)) : List Nat → List Otm → Prop
  | [], [] => True
  | t :: ts, x :: xs => (mget M t = some (x.1.ck E 1 (bs x.2)) ∨ ∃ F, mget M t = some (x.1.ck F 1 (bs x.2))) ∧ ts.contains t = false ∧ TgC E M ts xs
  | _, _ => False
theorem TgC.ch {E : TypeId} {M : List (Nat × Ck)} : ∀ {ts : List Nat} {xs : List Otm}, TgC E M ts xs → ∀ j, BSC xs j → ∃ u ∈ ts, ∃ c, mget M u = some c ∧ c.has j
  | [], [], _, j, ⟨y, hy, _⟩ => by simp at hy
  | t :: ts, x :: xs, h, j, ⟨z, hz, hj⟩ => by
    rcases List.mem_cons.1 hz with rfl | h1
    · rcases h.1 with h2 | ⟨F, h2⟩
      · exact ⟨t, by simp, _, h2, hj⟩
      · exact ⟨t, by simp, _, h2, hj⟩
    · obtain ⟨u, hu, r⟩ := TgC.ch h.2.2 j ⟨z, h1, hj⟩
      exact ⟨u, List.mem_cons_of_mem _ hu, r⟩
theorem TgC.bag {E : TypeId} {w0 w : World} {D : Blocks} {M : List (Nat × Ck)} (hm : Mem w0 D M w) : ∀ {ts : List Nat} {xs : List Otm}, TgC E M ts xs → BagC E xs w
  | [], [], _ => ⟨fun _ h => by simp at h, List.Pairwise.nil⟩
  | t :: ts, x :: xs, h => by
    have ih := TgC.bag hm h.2.2
    obtain ⟨c, hc, ho, hh⟩ : ∃ c, mget M t = some c ∧ (c.holds w → ∃ F, OwnO F x.1.p x.1.c (bs x.2) w) ∧ ∀ j, At x.1.p j → c.has j := by
      rcases h.1 with h2 | ⟨F, h2⟩
      · exact ⟨_, h2, fun h => ⟨E, OwnO.of h⟩, fun _ h => h⟩
      · exact ⟨_, h2, fun h => ⟨F, OwnO.of h⟩, fun _ h => h⟩
    refine ⟨fun z hz => (List.mem_cons.1 hz).elim (fun e => by rw [e]; exact ho (hm.holds t c hc)) (ih.1 z), List.pairwise_cons.2 ⟨fun z hz j hj hj2 => ?_, ih.2⟩⟩
    obtain ⟨u, hu, d, hd, hj3⟩ := h.2.2.ch j ⟨z, hz, hj2⟩
    have hne : t ≠ u := fun e => by subst e; have := h.2.1; simp at this; exact this hu
    exact hm.apart t c u d hc hd hne j (hh j hj) hj3
section
variable {P : Program} {fn : Func} {R : Ending → World → Prop} {N : Nat} {w0 : World} {D : Blocks} {e : List (Nat × Value)} {M : List (Nat × Ck)} {k : List It}
/-- Own slices become one part. -/
theorem g_bagC (us : List Nat) (t : Nat) {E : TypeId} {xs : List Otm} (h0 : TgC E M us xs) (hf : fresh (gone us M) [t] = true) (h : G P fn R N w0 D e ((t, .fact (BSC xs) (BagC E xs)) :: gone us M) k) : G P fn R N w0 D e M k :=
  g_merge us t (.fact (BSC xs) (BagC E xs)) hf (fun _ hm => h0.bag hm) BagC.loc h0.ch h
theorem oneCell_vals (xs : List Otm) : ∀ u ∈ vals xs, u.oneCell' = true := by
  intro u hu
  obtain ⟨x, _, rfl⟩ := List.mem_map.1 hu
  rfl
end
end Go.Sx

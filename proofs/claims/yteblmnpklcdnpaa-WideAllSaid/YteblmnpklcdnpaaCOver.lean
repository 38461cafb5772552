/-
  Turning every byte of a list: of the reference. No condition.
-/
import Derived.Test.YteblmnpklcdnpaaC7
set_option linter.unusedVariables false
set_option linter.unusedSimpArgs false
namespace Go.Sx
open Go Go.Proofs

def overL (l : List (BitVec 8)) (i : Nat) : List (BitVec 8) := (l.take i).map (· ^^^ 90#8) ++ l.drop i
theorem overL_length (l : List (BitVec 8)) (i : Nat) : (overL l i).length = l.length := by simp [overL]; omega
theorem overL_get {l : List (BitVec 8)} {i : Nat} {x : BitVec 8} (h : l[i]? = some x) : (overL l i)[i]? = some x := by
  have hi := (List.getElem?_eq_some_iff.1 h).1
  unfold overL
  rw [List.getElem?_append_right (by simp; omega)]
  simp [List.getElem?_drop]
  rw [show i + (i - min i l.length) = i by omega, h]
theorem overL_set {l : List (BitVec 8)} {i : Nat} {x : BitVec 8} (h : l[i]? = some x) : (overL l i).set i (x ^^^ 90#8) = overL l (i + 1) := by
  have hi := (List.getElem?_eq_some_iff.1 h).1
  unfold overL
  rw [List.set_append_right _ _ (by simp; omega)]
  have e1 : i - ((l.take i).map (· ^^^ 90#8)).length = 0 := by simp; omega
  have e2 : l.drop i = x :: l.drop (i + 1) := by
    rw [List.drop_eq_getElem_cons hi]
    rw [List.getElem?_eq_getElem hi] at h
    cases h; rfl
  rw [e1, e2, List.set_cons_zero, List.take_add_one, h]
  simp

theorem Over_b (w : World) (x : Ow) {n : Nat} {l : List (BitVec 8)} (h : Own 5 1 x.p x.c (bs l) w) (hb : ∀ j, At x.p j → j < w.heap.size) (hn : l.length = n) (hbig : n ≤ 140737488355328) :
    Spec Try.prog 25 #[x.sl n] w (σ := Unit) (fun _ => True) (fun _ => .tuple #[]) (At x.p) (fun _ => [x.ck 5 1 (bs (overL l n))]) := by
  obtain ⟨p, c⟩ := x
  refine enter Try.func25 rfl rfl (Mem.start1 (.fact (At p) (Own 5 1 p c (bs l))) h Own.loc hb) ?_
  (repeat refine g_seq ?_)
  refine g_region ?_
  refine g_pu rfl rfl rfl (pu_assign rfl rfl) ?_
  refine g_nil ?_
  refine g_block (g_loop (σ := Nat) (fun i => [(0, .slice p n c), (2, .int .i64 (i : Int))]) (fun i => [(0, .fact (At p) (Own 5 1 p c (bs (overL l i))))]) (fun i => i ≤ n) (fun i => n - i) 0 ⟨rfl, rfl, trivial⟩ ⟨rfl, trivial⟩ (by omega) ?_)
  intro i hi
  by_cases hlt : i < n
  · (repeat refine g_seq ?_)
    refine g_region ?_
    refine g_pu rfl rfl rfl (pu_move rfl rfl) ?_
    refine g_pu rfl rfl rfl (pu_move rfl rfl) ?_
    first | refine g_pu rfl rfl rfl (pu_len rfl rfl) ?_ | refine g_pu rfl rfl rfl (pu_lenS rfl rfl) ?_
    first | refine g_pu rfl rfl rfl (pu_lss_t rfl rfl rfl (by omega)) ?_ | refine g_pu rfl rfl rfl (pu_lss_f rfl rfl rfl (by omega)) ?_ | refine g_pu rfl rfl rfl (pu_lss rfl rfl rfl) ?_
    refine g_nil ?_
    (repeat refine g_seq ?_)
    refine g_cond_t rfl (g_skip ?_)
    have h1 : l[i]? = some l[i] := List.getElem?_eq_getElem (by omega)
    generalize l[i] = y at h1
    have hol := overL_length l i
    (repeat refine g_seq ?_); refine g_block ?_
    refine g_row 0 rfl (by rw [bs_length]; omega) (fun bb J hp hJ hcap => ?_)
    subst hp
    (repeat refine g_seq ?_)
    refine g_region ?_
    refine g_pu rfl rfl rfl (pu_move rfl rfl) ?_
    refine g_pu rfl rfl rfl (pu_move rfl rfl) ?_
    refine g_pu rfl rfl rfl (pu_move rfl rfl) ?_
    refine g_pu rfl rfl rfl (pu_move rfl rfl) ?_
    refine g_pu rfl rfl rfl (pu_at1 i rfl rfl rfl rfl (by omega)) ?_
    refine g_pu rfl rfl rfl (pu_load 0 rfl rfl rfl (bs_load (overL_get h1))) ?_
    refine g_pu rfl rfl rfl (pu_xor8 (b := 90#8) rfl rfl rfl) ?_
    refine g_pu rfl rfl rfl (pu_at1 i rfl rfl rfl rfl (by omega)) ?_
    refine g_store 0 (v := b8 (y ^^^ 90#8)) rfl rfl rfl rfl rfl rfl rfl (by rw [List.length_append, bs_length]; omega) ?_
    rw [Nat.zero_add, bs_set _ J i _ (by omega), overL_set h1]
    refine g_nil ?_
    refine g_own 0 (L := bs (overL l (i + 1))) (J := J) (c := c) (s := 1) rfl (by simpa [bs_length, overL_length] using hJ) hcap ?_
    refine g_blk ?_
    (repeat refine g_seq ?_)
    refine g_region ?_
    refine g_pu rfl rfl rfl (pu_move rfl rfl) ?_
    refine g_pu rfl rfl rfl (pu_addI rfl rfl rfl (by omega)) ?_
    refine g_pu rfl rfl rfl (pu_assign rfl rfl) ?_
    refine g_nil ?_
    exact g_round (i + 1) (by omega) (by omega) ⟨rfl, rfl, trivial⟩ ⟨rfl, trivial⟩
  · (repeat refine g_seq ?_)
    refine g_region ?_
    refine g_pu rfl rfl rfl (pu_move rfl rfl) ?_
    refine g_pu rfl rfl rfl (pu_move rfl rfl) ?_
    first | refine g_pu rfl rfl rfl (pu_len rfl rfl) ?_ | refine g_pu rfl rfl rfl (pu_lenS rfl rfl) ?_
    first | refine g_pu rfl rfl rfl (pu_lss_t rfl rfl rfl (by omega)) ?_ | refine g_pu rfl rfl rfl (pu_lss_f rfl rfl rfl (by omega)) ?_ | refine g_pu rfl rfl rfl (pu_lss rfl rfl rfl) ?_
    refine g_nil ?_
    (repeat refine g_seq ?_)
    refine g_cond_f rfl (g_exit rfl ?_)
    have e1 : i = n := by omega
    subst e1
    exact g_end0 rfl (fun w' hm => ⟨(), trivial, rfl, hm.grows [0] ⟨rfl, trivial⟩ rfl⟩)

theorem OverP_b (w : World) (b c : Nat) {n : Nat} {l J : List (BitVec 8)} (h : w.heap[b]? = some (.cells (bs (l ++ J)).toArray 5 (0, 0))) (hn : l.length = n) (hbig : n ≤ 140737488355328) :
    Spec Try.prog 25 #[.slice (some ⟨b, 0, none⟩) n c] w (σ := Unit) (fun _ => True) (fun _ => .tuple #[]) (fun j => j = b) (fun _ => [.pt b (.cells (bs (overL l n ++ J)).toArray 5 (0, 0))]) := by
  refine enter Try.func25 rfl rfl (Mem.start1 (.pt b (.cells (bs (l ++ J)).toArray 5 (0, 0))) h trivial (fun j hj => by rw [show j = b from hj]; exact lt_of_some h)) ?_
  (repeat refine g_seq ?_)
  refine g_region ?_
  refine g_pu rfl rfl rfl (pu_assign rfl rfl) ?_
  refine g_nil ?_
  refine g_block (g_loop (σ := Nat) (fun i => [(0, .slice (some ⟨b, 0, none⟩) n c), (2, .int .i64 (i : Int))]) (fun i => [(0, .pt b (.cells (bs (overL l i ++ J)).toArray 5 (0, 0)))]) (fun i => i ≤ n) (fun i => n - i) 0 ⟨rfl, rfl, trivial⟩ ⟨rfl, trivial⟩ (by omega) ?_)
  intro i hi
  by_cases hlt : i < n
  · (repeat refine g_seq ?_)
    refine g_region ?_
    refine g_pu rfl rfl rfl (pu_move rfl rfl) ?_
    refine g_pu rfl rfl rfl (pu_move rfl rfl) ?_
    first | refine g_pu rfl rfl rfl (pu_len rfl rfl) ?_ | refine g_pu rfl rfl rfl (pu_lenS rfl rfl) ?_
    first | refine g_pu rfl rfl rfl (pu_lss_t rfl rfl rfl (by omega)) ?_ | refine g_pu rfl rfl rfl (pu_lss_f rfl rfl rfl (by omega)) ?_ | refine g_pu rfl rfl rfl (pu_lss rfl rfl rfl) ?_
    refine g_nil ?_
    (repeat refine g_seq ?_)
    refine g_cond_t rfl (g_skip ?_)
    have h1 : l[i]? = some l[i] := List.getElem?_eq_getElem (by omega)
    generalize l[i] = y at h1
    have hol := overL_length l i
    have hg : (overL l i ++ J)[i]? = some y := by rw [List.getElem?_append_left (by omega)]; exact overL_get h1
    have hset : (bs (overL l i ++ J)).set (0 + i) (b8 (y ^^^ 90#8)) = bs (overL l (i + 1) ++ J) := by
      rw [Nat.zero_add, show (bs (overL l i ++ J)).set i (b8 (y ^^^ 90#8)) = bs ((overL l i ++ J).set i (y ^^^ 90#8)) by simp [bs, List.map_set], List.set_append_left _ _ (by omega), overL_set h1]
    (repeat refine g_seq ?_); refine g_block ?_
    (repeat refine g_seq ?_)
    refine g_region ?_
    refine g_pu rfl rfl rfl (pu_move rfl rfl) ?_
    refine g_pu rfl rfl rfl (pu_move rfl rfl) ?_
    refine g_pu rfl rfl rfl (pu_move rfl rfl) ?_
    refine g_pu rfl rfl rfl (pu_move rfl rfl) ?_
    refine g_pu rfl rfl rfl (pu_at1 i rfl rfl rfl rfl (by omega)) ?_
    refine g_pu rfl rfl rfl (pu_load 0 rfl rfl rfl (by rw [Nat.zero_add, List.getElem?_toArray]; exact bs_get hg)) ?_
    refine g_pu rfl rfl rfl (pu_xor8 (b := 90#8) rfl rfl rfl) ?_
    refine g_pu rfl rfl rfl (pu_at1 i rfl rfl rfl rfl (by omega)) ?_
    refine g_store 0 (v := b8 (y ^^^ 90#8)) rfl rfl rfl rfl rfl rfl rfl (by rw [bs_length, List.length_append]; omega) ?_
    rw [hset]
    refine g_nil ?_
    refine g_blk ?_
    (repeat refine g_seq ?_)
    refine g_region ?_
    refine g_pu rfl rfl rfl (pu_move rfl rfl) ?_
    refine g_pu rfl rfl rfl (pu_addI rfl rfl rfl (by omega)) ?_
    refine g_pu rfl rfl rfl (pu_assign rfl rfl) ?_
    refine g_nil ?_
    exact g_round (i + 1) (by omega) (by omega) ⟨rfl, rfl, trivial⟩ ⟨rfl, trivial⟩
  · (repeat refine g_seq ?_)
    refine g_region ?_
    refine g_pu rfl rfl rfl (pu_move rfl rfl) ?_
    refine g_pu rfl rfl rfl (pu_move rfl rfl) ?_
    first | refine g_pu rfl rfl rfl (pu_len rfl rfl) ?_ | refine g_pu rfl rfl rfl (pu_lenS rfl rfl) ?_
    first | refine g_pu rfl rfl rfl (pu_lss_t rfl rfl rfl (by omega)) ?_ | refine g_pu rfl rfl rfl (pu_lss_f rfl rfl rfl (by omega)) ?_ | refine g_pu rfl rfl rfl (pu_lss rfl rfl rfl) ?_
    refine g_nil ?_
    (repeat refine g_seq ?_)
    refine g_cond_f rfl (g_exit rfl ?_)
    have e1 : i = n := by omega
    subst e1
    exact g_end0 rfl (fun w' hm => ⟨(), trivial, rfl, hm.grows [0] ⟨rfl, trivial⟩ rfl⟩)
end Go.Sx

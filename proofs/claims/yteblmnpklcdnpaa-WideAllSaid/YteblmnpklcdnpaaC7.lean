/-
  Writing a number as bytes: the codec's way, its reference's way, and that it is read back.
-/
import Derived.Test.YteblmnpklcdnpaaC4
import Derived.Test.YteblmnpklcdnpaaC5
set_option linter.unusedVariables false
set_option linter.unusedSimpArgs false
namespace Go.Sx
open Go Go.Proofs

theorem get_set (m : List (BitVec 8)) (i k : Nat) (x : BitVec 8) (hi : i < m.length) : (m.set i x)[k]? = if i = k then some x else m[k]? := by
  rw [List.getElem?_set]
  split
  · rfl
  · rfl
theorem bs_set (m : List (BitVec 8)) (J : List Value) (i : Nat) (x : BitVec 8) (hi : i < m.length) : (bs m ++ J).set i (b8 x) = bs (m.set i x) ++ J := by
  rw [List.set_append_left _ _ (by rw [bs_length]; exact hi)]
  simp [bs, List.map_set]
theorem bs_load {m : List (BitVec 8)} {J : List Value} {i : Nat} {x : BitVec 8} (h : m[i]? = some x) : (bs m ++ J).toArray[0 + i]? = some (b8 x) := by
  have hi := (List.getElem?_eq_some_iff.1 h).1
  rw [Nat.zero_add, List.getElem?_toArray, List.getElem?_append_left (by rw [bs_length]; exact hi)]
  exact bs_get h

theorem Reverse_b (w : World) (x : Ow) {n : Nat} {l : List (BitVec 8)} (h : Own 5 1 x.p x.c (bs l) w) (hb : ∀ j, At x.p j → j < w.heap.size) (hn : l.length = n) (hbig : n ≤ 140737488355328) :
    Spec Try.prog 82 #[x.sl n] w (σ := Unit) (fun _ => True) (fun _ => .tuple #[]) (At x.p) (fun _ => [x.ck 5 1 (bs l.reverse)]) := by
  obtain ⟨p, c⟩ := x
  refine enter Try.func82 rfl rfl (Mem.start1 (.fact (At p) (Own 5 1 p c (bs l))) h Own.loc hb) ?_
  (repeat refine g_seq ?_)
  refine g_region ?_
  refine g_pu rfl rfl rfl (pu_move rfl rfl) ?_
  first | refine g_pu rfl rfl rfl (pu_len rfl rfl) ?_ | refine g_pu rfl rfl rfl (pu_lenS rfl rfl) ?_
  refine g_pu rfl rfl rfl (pu_subI rfl rfl rfl (by omega)) ?_
  refine g_pu rfl rfl rfl (pu_assign rfl rfl) ?_
  refine g_pu rfl rfl rfl (pu_assign rfl rfl) ?_
  refine g_nil ?_
  refine g_block (g_loop2 (fun (i : Nat) (m : List (BitVec 8)) => [(0, .slice p n c), (2, .int .i64 (i : Int)), (3, .int .i64 ((n : Int) - 1 - i))]) (fun _ m => [(0, .fact (At p) (Own 5 1 p c (bs m)))])
    (fun i m => 2 * i ≤ n + 1 ∧ m.length = n ∧ ∀ k, k < n → m[k]? = if k < i ∨ n - 1 - k < i then l[n - 1 - k]? else l[k]?) (fun i _ => n - i) 0 l ⟨rfl, rfl, congrArg (fun z => some (Value.int .i64 z)) (by omega), trivial⟩ ⟨rfl, trivial⟩ ⟨by omega, hn, fun k hk => by simp⟩ ?_)
  intro i m ⟨hi, hml, hm⟩
  by_cases hlt : 2 * i + 1 < n
  · (repeat refine g_seq ?_)
    refine g_region ?_
    refine g_pu rfl rfl rfl (pu_move rfl rfl) ?_
    refine g_pu rfl rfl rfl (pu_move rfl rfl) ?_
    first | refine g_pu rfl rfl rfl (pu_lss_t rfl rfl rfl (by omega)) ?_ | refine g_pu rfl rfl rfl (pu_lss_f rfl rfl rfl (by omega)) ?_ | refine g_pu rfl rfl rfl (pu_lss rfl rfl rfl) ?_
    refine g_nil ?_
    (repeat refine g_seq ?_)
    refine g_cond_t rfl (g_skip ?_)
    obtain ⟨j, hj⟩ : ∃ j, j = n - 1 - i := ⟨_, rfl⟩
    have h1 : m[i]? = some m[i] := List.getElem?_eq_getElem (by omega)
    have h2 : m[j]? = some m[j] := List.getElem?_eq_getElem (by omega)
    have h3 := hm i (by omega)
    have h4 := hm j (by omega)
    rw [if_neg (by omega), h1] at h3
    rw [if_neg (by omega), h2] at h4
    generalize m[i] = y at h1 h3
    generalize m[j] = z at h2 h4
    (repeat refine g_seq ?_); refine g_block ?_
    refine g_row 0 rfl (by rw [bs_length]; omega) (fun bb J hp hJ hcap => ?_)
    subst hp
    (repeat refine g_seq ?_)
    refine g_any (13, [2, 3]) ?_
    refine a_pu 0 rfl rfl rfl rfl (pu_move rfl rfl) rfl rfl (by kernel_rfl) ?_
    refine a_pu 1 rfl rfl rfl rfl (pu_move rfl rfl) rfl rfl (by kernel_rfl) ?_
    first | refine a_mv 2 rfl rfl rfl rfl (fun _ => (pu_move rfl rfl)) rfl rfl rfl (by kernel_rfl) (by kernel_rfl) (by kernel_rfl) rfl ?_
    first | refine a_mv 3 rfl rfl rfl rfl (fun _ => (pu_move rfl rfl)) rfl rfl rfl (by kernel_rfl) (by kernel_rfl) (by kernel_rfl) rfl ?_
    refine a_pu 4 rfl rfl rfl rfl (pu_move rfl rfl) rfl rfl (by kernel_rfl) ?_
    refine a_pu 5 rfl rfl rfl rfl (pu_move rfl rfl) rfl rfl (by kernel_rfl) ?_
    refine a_pu 6 rfl rfl rfl rfl (pu_at1 j rfl rfl rfl (by omega) (by omega)) rfl rfl (by kernel_rfl) ?_
    refine a_pu 7 rfl rfl rfl rfl (pu_load 0 rfl rfl rfl (bs_load h2)) rfl rfl (by kernel_rfl) ?_
    refine a_pu 8 rfl rfl rfl rfl (pu_move rfl rfl) rfl rfl (by kernel_rfl) ?_
    refine a_pu 9 rfl rfl rfl rfl (pu_move rfl rfl) rfl rfl (by kernel_rfl) ?_
    refine a_pu 10 rfl rfl rfl rfl (pu_at1 i rfl rfl rfl rfl (by omega)) rfl rfl (by kernel_rfl) ?_
    refine a_pu 11 rfl rfl rfl rfl (pu_load 0 rfl rfl rfl (bs_load h1)) rfl rfl (by kernel_rfl) ?_
    refine a_pu 12 rfl rfl rfl rfl (pu_at1 i rfl rfl rfl rfl (by omega)) rfl rfl (by kernel_rfl) ?_
    refine a_tail [13, 14, 15] (by kernel_rfl) rfl rfl (by kernel_rfl) ?_
    refine g_store 0 (v := b8 z) rfl rfl rfl rfl rfl rfl rfl (by rw [List.length_append, bs_length]; omega) ?_
    rw [Nat.zero_add, bs_set m J i z (by omega)]
    refine g_pu rfl rfl rfl (pu_at1 j rfl rfl rfl (by omega) (by omega)) ?_
    refine g_store 0 (v := b8 y) rfl rfl rfl rfl rfl rfl rfl (by rw [List.length_append, bs_length, List.length_set]; omega) ?_
    rw [Nat.zero_add, bs_set (m.set i z) J j y (by rw [List.length_set]; omega)]
    refine g_nil ?_
    refine g_own 0 (L := bs ((m.set i z).set j y)) (J := J) (c := c) (s := 1) rfl (by simpa [bs_length] using hJ) hcap ?_
    refine g_blk ?_
    (repeat refine g_seq ?_)
    refine g_region ?_
    refine g_pu rfl rfl rfl (pu_move rfl rfl) ?_
    refine g_pu rfl rfl rfl (pu_addI rfl rfl rfl (by omega)) ?_
    refine g_pu rfl rfl rfl (pu_move rfl rfl) ?_
    refine g_pu rfl rfl rfl (pu_subI rfl rfl rfl (by omega)) ?_
    refine g_pu rfl rfl rfl (pu_assign rfl rfl) ?_
    refine g_pu rfl rfl rfl (pu_assign rfl rfl) ?_
    refine g_nil ?_
    refine g_round2 (i + 1) ((m.set i z).set j y) ⟨by omega, by simp [hml], fun k hk => ?_⟩ (by omega) ⟨rfl, rfl, congrArg (fun z => some (Value.int .i64 z)) (by omega), trivial⟩ ⟨rfl, trivial⟩
    rw [get_set _ _ _ _ (by rw [List.length_set]; omega), get_set _ _ _ _ (by omega)]
    by_cases hkj : j = k
    · subst hkj
      rw [if_pos rfl, if_pos (by omega), h3]
      congr 1; omega
    · rw [if_neg hkj]
      by_cases hki : i = k
      · subst hki
        rw [if_pos rfl, if_pos (by omega), h4, hj]
      · rw [if_neg hki, hm k hk]
        by_cases hc : k < i ∨ n - 1 - k < i
        · rw [if_pos hc, if_pos (by omega)]
        · rw [if_neg hc, if_neg (by omega)]
  · (repeat refine g_seq ?_)
    refine g_region ?_
    refine g_pu rfl rfl rfl (pu_move rfl rfl) ?_
    refine g_pu rfl rfl rfl (pu_move rfl rfl) ?_
    first | refine g_pu rfl rfl rfl (pu_lss_t rfl rfl rfl (by omega)) ?_ | refine g_pu rfl rfl rfl (pu_lss_f rfl rfl rfl (by omega)) ?_ | refine g_pu rfl rfl rfl (pu_lss rfl rfl rfl) ?_
    refine g_nil ?_
    (repeat refine g_seq ?_)
    refine g_cond_f rfl (g_exit rfl ?_)
    have e : m = l.reverse := by
      apply List.ext_getElem?
      intro k
      by_cases hk : k < n
      · rw [hm k hk, List.getElem?_reverse (by omega), hn]
        split
        · rfl
        · congr 1; omega
      · rw [List.getElem?_eq_none (by omega), List.getElem?_eq_none (by simp; omega)]
    subst e
    exact g_end0 rfl (fun w' hm => ⟨(), trivial, rfl, hm.grows [0] ⟨rfl, trivial⟩ rfl⟩)
end Go.Sx

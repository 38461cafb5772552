/-
  Cutting bytes into pieces, of the codec and of its reference; are two lists of lists equal. At most 2^47 / 24 sizes.
-/
import Derived.Test.YteblmnpklcdnpaaC5
import Derived.Test.YteblmnpklcdnpaaWords
set_option linter.unusedVariables false
set_option linter.unusedSimpArgs false
namespace Go.Sx
open Go Go.Proofs

theorem By.fst {w : World} {p : Option Addr} {n : Nat} {l : List (BitVec 8)} (h : By w p n l) (j : Nat) (hj : j ≤ n) : By w p j (l.take j) := by
  have h1 := h.rd.fst (n := j)
  rw [bs_take] at h1
  exact ⟨h1, by rw [List.length_take, h.len]; omega, by have := h.big; omega⟩

/-- The bytes that the first sizes take. -/
def cutS (ns : List Int) : Nat := (ns.map Int.toNat).sum
/-- The pieces. -/
def cutP : List (BitVec 8) → List Int → List (List (BitVec 8))
  | _, [] => []
  | l, z :: r => l.take z.toNat :: cutP (l.drop z.toNat) r
def cutE (l : List (BitVec 8)) (ns : List Int) : Int := if ns.any (· < 0) then 1 else if cutS ns = l.length then 0 else 2
def cutV (l : List (BitVec 8)) (ns : List Int) : List (List (BitVec 8)) := if cutE l ns = 0 then cutP l ns else []
theorem cutP_length : ∀ (l : List (BitVec 8)) (ns : List Int), (cutP l ns).length = ns.length
  | _, [] => rfl
  | l, z :: r => by simp [cutP, cutP_length]
theorem cutV_length (l : List (BitVec 8)) (ns : List Int) : (cutV l ns).length ≤ ns.length := by
  unfold cutV
  split
  · rw [cutP_length]; omega
  · simp
theorem cutS_snoc (ns : List Int) (z : Int) : cutS (ns ++ [z]) = cutS ns + z.toNat := by simp [cutS]
theorem cutP_snoc : ∀ (l : List (BitVec 8)) (ns : List Int) (z : Int), cutP l (ns ++ [z]) = cutP l ns ++ [(l.drop (cutS ns)).take z.toNat]
  | l, [], z => by simp [cutP, cutS]
  | l, y :: r, z => by simp [cutP, cutS, cutP_snoc, List.drop_drop]
theorem cutS_take_le (ns : List Int) (i : Nat) : cutS (ns.take i) ≤ cutS ns := by
  have h : cutS ns = cutS (ns.take i) + cutS (ns.drop i) := by
    conv => lhs; rw [← List.take_append_drop i ns]
    simp only [cutS, List.map_append, List.sum_append]
  omega
theorem cutS_at {ns : List Int} {i : Nat} {z : Int} (h : ns[i]? = some z) : cutS (ns.take (i + 1)) = cutS (ns.take i) + z.toNat := by
  rw [List.take_add_one, h]; exact cutS_snoc _ _
theorem cutP_at {l : List (BitVec 8)} {ns : List Int} {i : Nat} {z : Int} (h : ns[i]? = some z) : cutP l (ns.take (i + 1)) = cutP l (ns.take i) ++ [(l.drop (cutS (ns.take i))).take z.toNat] := by
  rw [List.take_add_one, h]; exact cutP_snoc _ _ _
theorem cut_bad {l : List (BitVec 8)} {ns : List Int} (h : ns.any (· < 0) = true) : cutE l ns = 1 ∧ cutV l ns = [] := by
  have : cutE l ns = 1 := by simp only [cutE, h, if_true]
  exact ⟨this, by simp [cutV, this]⟩
theorem cut_off {l : List (BitVec 8)} {ns : List Int} (h : ns.any (· < 0) = false) (h2 : cutS ns ≠ l.length) : cutE l ns = 2 ∧ cutV l ns = [] := by
  have : cutE l ns = 2 := by simp [cutE, h, h2]
  exact ⟨this, by simp [cutV, this]⟩
theorem cut_ok {l : List (BitVec 8)} {ns : List Int} (h : ns.any (· < 0) = false) (h2 : cutS ns = l.length) : cutE l ns = 0 ∧ cutV l ns = cutP l ns := by
  have : cutE l ns = 0 := by simp [cutE, h, h2]
  exact ⟨this, by simp [cutV, this]⟩
theorem any_lt {ns : List Int} (h : ns.any (· < 0) = false) {i : Nat} {z : Int} (hz : ns[i]? = some z) : 0 ≤ z := by
  have := List.any_eq_false.1 h z (List.mem_of_getElem? hz)
  simp at this; omega
theorem flat_cutP : ∀ (l : List (BitVec 8)) (ns : List Int), (cutP l ns).flatten = l.take (cutS ns)
  | _, [] => by simp [cutP, cutS]
  | l, z :: r => by
    have e : cutS (z :: r) = z.toNat + cutS r := by simp [cutS]
    rw [cutP, List.flatten_cons, flat_cutP, e, List.take_add]
/-- Cut at their lengths, the lists joined are the lists. -/
theorem cutP_flat : ∀ (ls : List (List (BitVec 8))), cutP ls.flatten (ls.map fun l => (l.length : Int)) = ls
  | [] => rfl
  | l :: r => by simp [cutP, cutP_flat]
theorem cutS_flat (ls : List (List (BitVec 8))) : cutS (ls.map fun l => (l.length : Int)) = ls.flatten.length := by
  simp only [cutS, List.map_map, List.length_flatten]
  congr 1
theorem noNeg_flat (ls : List (List (BitVec 8))) : (ls.map fun l => (l.length : Int)).any (· < 0) = false := by
  rw [List.any_eq_false]
  intro z hz
  obtain ⟨l, _, rfl⟩ := List.mem_map.1 hz
  simp
def is (ns : List Int) : List Value := ns.map (.int .i64)
theorem is_get {ns : List Int} {i : Nat} {z : Int} (h : ns[i]? = some z) : (is ns)[i]? = some (.int .i64 z) := by simp [is, h]
theorem is_length (ns : List Int) : (is ns).length = ns.length := by simp [is]

theorem Equals_b (w : World) {p q : Option Addr} {n m : Nat} (c d : Nat) {L L' : List Value} {ls ls' : List (List (BitVec 8))} (ha : ByL w p n L ls) (hb : ByL w q m L' ls') :
    Spec Try.prog 23 #[.slice p n c, .slice q m d] w (σ := Unit) (fun _ => True) (fun _ => .bool (decide (ls = ls'))) Nob (fun _ => []) := by
  refine enter Try.func23 rfl rfl (Mem.start w) ?_
  have hn := ha.len
  have hbig := ha.big
  have hln := ha.lenL
  have hn' := hb.len
  have hbig' := hb.big
  have hln' := hb.lenL
  (repeat refine g_seq ?_)
  refine g_region ?_
  refine g_pu rfl rfl rfl (pu_assign rfl rfl) ?_
  refine g_nil ?_
  by_cases hnm : n = m
  · subst hnm
    (repeat refine g_seq ?_)
    refine g_region ?_
    refine g_pu rfl rfl rfl (pu_move rfl rfl) ?_
    first | refine g_pu rfl rfl rfl (pu_len rfl rfl) ?_ | refine g_pu rfl rfl rfl (pu_lenS rfl rfl) ?_
    refine g_pu rfl rfl rfl (pu_move rfl rfl) ?_
    first | refine g_pu rfl rfl rfl (pu_len rfl rfl) ?_ | refine g_pu rfl rfl rfl (pu_lenS rfl rfl) ?_
    refine g_pu rfl rfl rfl (pu_neq_f rfl rfl rfl (by simp)) ?_
    refine g_nil ?_
    (repeat refine g_seq ?_)
    refine g_cond_f rfl (g_skip ?_)
    (repeat refine g_seq ?_)
    refine g_region ?_
    refine g_pu rfl rfl rfl (pu_assign rfl rfl) ?_
    refine g_nil ?_
    refine g_block (g_loop (σ := Nat) (fun (i : Nat) => [(0, .slice p n c), (1, .slice q n d), (5, .int .i64 (i : Int))]) (fun i => []) (fun i => i ≤ n ∧ ls.take i = ls'.take i) (fun i => n - i) 0 ⟨rfl, rfl, rfl, trivial⟩ trivial ⟨by omega, rfl⟩ ?_)
    intro i ⟨hi, heq⟩
    by_cases hlt : i < n
    · (repeat refine g_seq ?_)
      refine g_region ?_
      refine g_pu rfl rfl rfl (pu_move rfl rfl) ?_
      refine g_pu rfl rfl rfl (pu_move rfl rfl) ?_
      first | refine g_pu rfl rfl rfl (pu_len rfl rfl) ?_ | refine g_pu rfl rfl rfl (pu_lenS rfl rfl) ?_
      first | refine g_pu rfl rfl rfl (pu_lss_t rfl rfl rfl (by omega)) ?_ | refine g_pu rfl rfl rfl (pu_lss_f rfl rfl rfl (by omega)) ?_ | refine g_pu rfl rfl rfl (pu_lss rfl rfl rfl) ?_
      refine g_nil ?_
      (repeat refine g_seq ?_)
      refine g_cond_t rfl (g_skip ?_)
      have hl : ls[i]? = some ls[i] := List.getElem?_eq_getElem (by omega)
      generalize ls[i] = a at hl
      have hl' : ls'[i]? = some ls'[i] := List.getElem?_eq_getElem (by omega)
      generalize ls'[i] = b at hl'
      obtain ⟨q1, m1, c1, hL1, hq1⟩ := ha.at hl
      obtain ⟨q2, m2, c2, hL2, hq2⟩ := hb.at hl'
      (repeat refine g_seq ?_); refine g_block ?_
      (repeat refine g_seq ?_)
      refine g_any (8, []) ?_
      refine a_pu 0 rfl rfl rfl rfl (pu_move rfl rfl) rfl rfl (by kernel_rfl) ?_
      refine a_pu 1 rfl rfl rfl rfl (pu_move rfl rfl) rfl rfl (by kernel_rfl) ?_
      refine a_pu 2 rfl rfl rfl rfl (pu_atM1 i (fun w' hm => (ha.m hm).rd) rfl rfl rfl rfl hlt (by omega)) rfl rfl (by kernel_rfl) ?_
      refine a_pu 3 rfl rfl rfl rfl (pu_rdM (fun w' hm => (ha.m hm).rd) rfl rfl hL1) rfl rfl (by kernel_rfl) ?_
      refine a_pu 4 rfl rfl rfl rfl (pu_move rfl rfl) rfl rfl (by kernel_rfl) ?_
      refine a_pu 5 rfl rfl rfl rfl (pu_move rfl rfl) rfl rfl (by kernel_rfl) ?_
      refine a_pu 6 rfl rfl rfl rfl (pu_atM1 i (fun w' hm => (hb.m hm).rd) rfl rfl rfl rfl hlt (by omega)) rfl rfl (by kernel_rfl) ?_
      refine a_pu 7 rfl rfl rfl rfl (pu_rdM (fun w' hm => (hb.m hm).rd) rfl rfl hL2) rfl rfl (by kernel_rfl) ?_
      refine a_tail [8, 9] (by kernel_rfl) rfl rfl (by kernel_rfl) ?_
      refine g_call [] rfl rfl rfl rfl rfl rfl (fun w' hm => Equal_b w' _ _ (hq1.m hm) (hq2.m hm)) (fun _ _ => ?_)
      refine g_pu rfl rfl rfl (pu_not rfl rfl) ?_
      refine g_nil ?_
      by_cases hab : a = b
      · subst hab
        refine g_as (t := 26) (u := .bool false) rfl (by simp) rfl ?_
        (repeat refine g_seq ?_)
        refine g_cond_f rfl (g_skip ?_)
        refine g_blk ?_
        (repeat refine g_seq ?_)
        refine g_region ?_
        refine g_pu rfl rfl rfl (pu_move rfl rfl) ?_
        refine g_pu rfl rfl rfl (pu_addI rfl rfl rfl (by omega)) ?_
        refine g_pu rfl rfl rfl (pu_assign rfl rfl) ?_
        refine g_nil ?_
        exact g_round (i + 1) ⟨by omega, by rw [List.take_add_one, List.take_add_one, hl, hl', heq]⟩ (by omega) ⟨rfl, rfl, rfl, trivial⟩ trivial
      · refine g_as (t := 26) (u := .bool true) rfl (by simp [hab]) rfl ?_
        (repeat refine g_seq ?_)
        refine g_cond_t rfl ?_
        (repeat refine g_seq ?_)
        refine g_region ?_
        refine g_pu rfl rfl rfl (pu_assign rfl rfl) ?_
        refine g_nil ?_
        have hne : ls ≠ ls' := fun h => by subst h; rw [hl] at hl'; cases hl'; exact hab rfl
        exact g_ret1 rfl rfl (fun w' hm => ⟨(), trivial, by simp [hne], hm.grows [] trivial rfl⟩)
    · (repeat refine g_seq ?_)
      refine g_region ?_
      refine g_pu rfl rfl rfl (pu_move rfl rfl) ?_
      refine g_pu rfl rfl rfl (pu_move rfl rfl) ?_
      first | refine g_pu rfl rfl rfl (pu_len rfl rfl) ?_ | refine g_pu rfl rfl rfl (pu_lenS rfl rfl) ?_
      first | refine g_pu rfl rfl rfl (pu_lss_t rfl rfl rfl (by omega)) ?_ | refine g_pu rfl rfl rfl (pu_lss_f rfl rfl rfl (by omega)) ?_ | refine g_pu rfl rfl rfl (pu_lss rfl rfl rfl) ?_
      refine g_nil ?_
      (repeat refine g_seq ?_)
      refine g_cond_f rfl (g_exit rfl ?_)
      (repeat refine g_seq ?_)
      refine g_region ?_
      refine g_pu rfl rfl rfl (pu_assign rfl rfl) ?_
      refine g_nil ?_
      have e1 : i = n := by omega
      subst e1
      rw [List.take_of_length_le (by omega), List.take_of_length_le (by omega)] at heq
      exact g_ret1 rfl rfl (fun w' hm => ⟨(), trivial, by simp [heq], hm.grows [] trivial rfl⟩)
  · (repeat refine g_seq ?_)
    refine g_region ?_
    refine g_pu rfl rfl rfl (pu_move rfl rfl) ?_
    first | refine g_pu rfl rfl rfl (pu_len rfl rfl) ?_ | refine g_pu rfl rfl rfl (pu_lenS rfl rfl) ?_
    refine g_pu rfl rfl rfl (pu_move rfl rfl) ?_
    first | refine g_pu rfl rfl rfl (pu_len rfl rfl) ?_ | refine g_pu rfl rfl rfl (pu_lenS rfl rfl) ?_
    refine g_pu rfl rfl rfl (pu_neq_t rfl rfl rfl (by omega)) ?_
    refine g_nil ?_
    (repeat refine g_seq ?_)
    refine g_cond_t rfl ?_
    (repeat refine g_seq ?_)
    refine g_region ?_
    refine g_pu rfl rfl rfl (pu_assign rfl rfl) ?_
    refine g_nil ?_
    have hne : ls ≠ ls' := fun h => by subst h; omega
    exact g_ret1 rfl rfl (fun w' hm => ⟨(), trivial, by simp [hne], hm.grows [] trivial rfl⟩)
end Go.Sx

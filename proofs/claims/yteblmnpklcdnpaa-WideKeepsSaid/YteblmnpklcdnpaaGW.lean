import Derived.Test.YteblmnpklcdnpaaGM
import Derived.Test.YteblmnpklcdnpaaGH
import Derived.Test.YteblmnpklcdnpaaXE
import Derived.Test.YteblmnpklcdnpaaYA
set_option linter.unusedVariables false
set_option linter.unusedSimpArgs false
/-
  The wide cipher's lengths and one round of the program. The block has at least 32 bytes.
-/
namespace Go.Sx
open Go Go.Proofs

def fitsB (n m : Nat) : Bool := n == 32 && Nat.ble 32 m && Nat.ble m 4096
theorem fitsB_iff (n m : Nat) : fitsB n m = true ↔ n = 32 ∧ 32 ≤ m ∧ m ≤ 4096 := by
  simp [fitsB, Nat.ble_eq, and_assoc]

theorem wcheck_b (w : World) (p q : Option Addr) (n m c d : Nat) : Spec Try.prog 27 #[.slice p n c, .slice q m d] w (σ := Unit) (fun _ => True) (fun _ => .int .i64 (if fitsB n m = true then 0 else 2)) Nob (fun _ => []) := by
  refine enter Try.func27 rfl rfl (Mem.start w) ?_
  (repeat refine g_seq ?_)
  refine g_region ?_
  refine g_pu rfl rfl rfl (pu_assign rfl rfl) ?_
  refine g_nil ?_
  by_cases h1 : n = 32
  · by_cases h2 : 32 ≤ m
    · by_cases h3 : m ≤ 4096
      · rw [if_pos ((fitsB_iff n m).2 ⟨h1, h2, h3⟩)]
        (repeat refine g_seq ?_)
        refine g_region ?_
        refine g_pu rfl rfl rfl (pu_move rfl rfl) ?_
        first | refine g_pu rfl rfl rfl (pu_len rfl rfl) ?_ | refine g_pu rfl rfl rfl (pu_lenS rfl rfl) ?_
        first | refine g_pu rfl rfl rfl (pu_neq_t rfl rfl rfl (by omega)) ?_ | refine g_pu rfl rfl rfl (pu_neq_f rfl rfl rfl (by omega)) ?_ | refine g_pu rfl rfl rfl (pu_neq rfl rfl rfl) ?_
        refine g_pu rfl rfl rfl (pu_move rfl rfl) ?_
        first | refine g_pass rfl rfl rfl ?_ | refine g_pu rfl rfl rfl (pu_move rfl rfl) ?_
        first | refine g_pass rfl rfl rfl ?_ | refine g_pu rfl rfl rfl (pu_len rfl rfl) ?_ | refine g_pu rfl rfl rfl (pu_lenS rfl rfl) ?_
        first | refine g_pass rfl rfl rfl ?_ | refine g_pu rfl rfl rfl (pu_lss_t rfl rfl rfl (by omega)) ?_ | refine g_pu rfl rfl rfl (pu_lss_f rfl rfl rfl (by omega)) ?_ | refine g_pu rfl rfl rfl (pu_lss rfl rfl rfl) ?_
        first | refine g_pu rfl rfl rfl (pu_pick_t rfl rfl rfl) ?_ | refine g_pu rfl rfl rfl (pu_pick_f rfl rfl rfl) ?_
        refine g_pu rfl rfl rfl (pu_move rfl rfl) ?_
        first | refine g_pass rfl rfl rfl ?_ | refine g_pu rfl rfl rfl (pu_move rfl rfl) ?_
        first | refine g_pass rfl rfl rfl ?_ | refine g_pu rfl rfl rfl (pu_len rfl rfl) ?_ | refine g_pu rfl rfl rfl (pu_lenS rfl rfl) ?_
        first | refine g_pass rfl rfl rfl ?_ | refine g_pu rfl rfl rfl (pu_gtr_t rfl rfl rfl (by omega)) ?_ | refine g_pu rfl rfl rfl (pu_gtr_f rfl rfl rfl (by omega)) ?_ | refine g_pu rfl rfl rfl (pu_gtr rfl rfl rfl) ?_
        first | refine g_pu rfl rfl rfl (pu_pick_t rfl rfl rfl) ?_ | refine g_pu rfl rfl rfl (pu_pick_f rfl rfl rfl) ?_
        refine g_nil ?_
        (repeat refine g_seq ?_)
        refine g_cond_f rfl (g_skip ?_)
        (repeat refine g_seq ?_)
        refine g_region ?_
        refine g_pu rfl rfl rfl (pu_assign rfl rfl) ?_
        refine g_nil ?_
        exact g_ret1 rfl rfl (fun w' hm => ⟨(), trivial, rfl, hm.grows [] trivial rfl⟩)
      · rw [if_neg (fun h => h3 ((fitsB_iff n m).1 h).2.2)]
        (repeat refine g_seq ?_)
        refine g_region ?_
        refine g_pu rfl rfl rfl (pu_move rfl rfl) ?_
        first | refine g_pu rfl rfl rfl (pu_len rfl rfl) ?_ | refine g_pu rfl rfl rfl (pu_lenS rfl rfl) ?_
        first | refine g_pu rfl rfl rfl (pu_neq_t rfl rfl rfl (by omega)) ?_ | refine g_pu rfl rfl rfl (pu_neq_f rfl rfl rfl (by omega)) ?_ | refine g_pu rfl rfl rfl (pu_neq rfl rfl rfl) ?_
        refine g_pu rfl rfl rfl (pu_move rfl rfl) ?_
        first | refine g_pass rfl rfl rfl ?_ | refine g_pu rfl rfl rfl (pu_move rfl rfl) ?_
        first | refine g_pass rfl rfl rfl ?_ | refine g_pu rfl rfl rfl (pu_len rfl rfl) ?_ | refine g_pu rfl rfl rfl (pu_lenS rfl rfl) ?_
        first | refine g_pass rfl rfl rfl ?_ | refine g_pu rfl rfl rfl (pu_lss_t rfl rfl rfl (by omega)) ?_ | refine g_pu rfl rfl rfl (pu_lss_f rfl rfl rfl (by omega)) ?_ | refine g_pu rfl rfl rfl (pu_lss rfl rfl rfl) ?_
        first | refine g_pu rfl rfl rfl (pu_pick_t rfl rfl rfl) ?_ | refine g_pu rfl rfl rfl (pu_pick_f rfl rfl rfl) ?_
        refine g_pu rfl rfl rfl (pu_move rfl rfl) ?_
        first | refine g_pass rfl rfl rfl ?_ | refine g_pu rfl rfl rfl (pu_move rfl rfl) ?_
        first | refine g_pass rfl rfl rfl ?_ | refine g_pu rfl rfl rfl (pu_len rfl rfl) ?_ | refine g_pu rfl rfl rfl (pu_lenS rfl rfl) ?_
        first | refine g_pass rfl rfl rfl ?_ | refine g_pu rfl rfl rfl (pu_gtr_t rfl rfl rfl (by omega)) ?_ | refine g_pu rfl rfl rfl (pu_gtr_f rfl rfl rfl (by omega)) ?_ | refine g_pu rfl rfl rfl (pu_gtr rfl rfl rfl) ?_
        first | refine g_pu rfl rfl rfl (pu_pick_t rfl rfl rfl) ?_ | refine g_pu rfl rfl rfl (pu_pick_f rfl rfl rfl) ?_
        refine g_nil ?_
        (repeat refine g_seq ?_)
        refine g_cond_t rfl ?_
        (repeat refine g_seq ?_)
        refine g_region ?_
        refine g_pu rfl rfl rfl (pu_assign rfl rfl) ?_
        refine g_nil ?_
        exact g_ret1 rfl rfl (fun w' hm => ⟨(), trivial, rfl, hm.grows [] trivial rfl⟩)
    · rw [if_neg (fun h => h2 ((fitsB_iff n m).1 h).2.1)]
      (repeat refine g_seq ?_)
      refine g_region ?_
      refine g_pu rfl rfl rfl (pu_move rfl rfl) ?_
      first | refine g_pu rfl rfl rfl (pu_len rfl rfl) ?_ | refine g_pu rfl rfl rfl (pu_lenS rfl rfl) ?_
      first | refine g_pu rfl rfl rfl (pu_neq_t rfl rfl rfl (by omega)) ?_ | refine g_pu rfl rfl rfl (pu_neq_f rfl rfl rfl (by omega)) ?_ | refine g_pu rfl rfl rfl (pu_neq rfl rfl rfl) ?_
      refine g_pu rfl rfl rfl (pu_move rfl rfl) ?_
      first | refine g_pass rfl rfl rfl ?_ | refine g_pu rfl rfl rfl (pu_move rfl rfl) ?_
      first | refine g_pass rfl rfl rfl ?_ | refine g_pu rfl rfl rfl (pu_len rfl rfl) ?_ | refine g_pu rfl rfl rfl (pu_lenS rfl rfl) ?_
      first | refine g_pass rfl rfl rfl ?_ | refine g_pu rfl rfl rfl (pu_lss_t rfl rfl rfl (by omega)) ?_ | refine g_pu rfl rfl rfl (pu_lss_f rfl rfl rfl (by omega)) ?_ | refine g_pu rfl rfl rfl (pu_lss rfl rfl rfl) ?_
      first | refine g_pu rfl rfl rfl (pu_pick_t rfl rfl rfl) ?_ | refine g_pu rfl rfl rfl (pu_pick_f rfl rfl rfl) ?_
      refine g_pu rfl rfl rfl (pu_move rfl rfl) ?_
      first | refine g_pass rfl rfl rfl ?_ | refine g_pu rfl rfl rfl (pu_move rfl rfl) ?_
      first | refine g_pass rfl rfl rfl ?_ | refine g_pu rfl rfl rfl (pu_len rfl rfl) ?_ | refine g_pu rfl rfl rfl (pu_lenS rfl rfl) ?_
      first | refine g_pass rfl rfl rfl ?_ | refine g_pu rfl rfl rfl (pu_gtr_t rfl rfl rfl (by omega)) ?_ | refine g_pu rfl rfl rfl (pu_gtr_f rfl rfl rfl (by omega)) ?_ | refine g_pu rfl rfl rfl (pu_gtr rfl rfl rfl) ?_
      first | refine g_pu rfl rfl rfl (pu_pick_t rfl rfl rfl) ?_ | refine g_pu rfl rfl rfl (pu_pick_f rfl rfl rfl) ?_
      refine g_nil ?_
      (repeat refine g_seq ?_)
      refine g_cond_t rfl ?_
      (repeat refine g_seq ?_)
      refine g_region ?_
      refine g_pu rfl rfl rfl (pu_assign rfl rfl) ?_
      refine g_nil ?_
      exact g_ret1 rfl rfl (fun w' hm => ⟨(), trivial, rfl, hm.grows [] trivial rfl⟩)
  · rw [if_neg (fun h => h1 ((fitsB_iff n m).1 h).1)]
    (repeat refine g_seq ?_)
    refine g_region ?_
    refine g_pu rfl rfl rfl (pu_move rfl rfl) ?_
    first | refine g_pu rfl rfl rfl (pu_len rfl rfl) ?_ | refine g_pu rfl rfl rfl (pu_lenS rfl rfl) ?_
    first | refine g_pu rfl rfl rfl (pu_neq_t rfl rfl rfl (by omega)) ?_ | refine g_pu rfl rfl rfl (pu_neq_f rfl rfl rfl (by omega)) ?_ | refine g_pu rfl rfl rfl (pu_neq rfl rfl rfl) ?_
    refine g_pu rfl rfl rfl (pu_move rfl rfl) ?_
    first | refine g_pass rfl rfl rfl ?_ | refine g_pu rfl rfl rfl (pu_move rfl rfl) ?_
    first | refine g_pass rfl rfl rfl ?_ | refine g_pu rfl rfl rfl (pu_len rfl rfl) ?_ | refine g_pu rfl rfl rfl (pu_lenS rfl rfl) ?_
    first | refine g_pass rfl rfl rfl ?_ | refine g_pu rfl rfl rfl (pu_lss_t rfl rfl rfl (by omega)) ?_ | refine g_pu rfl rfl rfl (pu_lss_f rfl rfl rfl (by omega)) ?_ | refine g_pu rfl rfl rfl (pu_lss rfl rfl rfl) ?_
    first | refine g_pu rfl rfl rfl (pu_pick_t rfl rfl rfl) ?_ | refine g_pu rfl rfl rfl (pu_pick_f rfl rfl rfl) ?_
    refine g_pu rfl rfl rfl (pu_move rfl rfl) ?_
    first | refine g_pass rfl rfl rfl ?_ | refine g_pu rfl rfl rfl (pu_move rfl rfl) ?_
    first | refine g_pass rfl rfl rfl ?_ | refine g_pu rfl rfl rfl (pu_len rfl rfl) ?_ | refine g_pu rfl rfl rfl (pu_lenS rfl rfl) ?_
    first | refine g_pass rfl rfl rfl ?_ | refine g_pu rfl rfl rfl (pu_gtr_t rfl rfl rfl (by omega)) ?_ | refine g_pu rfl rfl rfl (pu_gtr_f rfl rfl rfl (by omega)) ?_ | refine g_pu rfl rfl rfl (pu_gtr rfl rfl rfl) ?_
    first | refine g_pu rfl rfl rfl (pu_pick_t rfl rfl rfl) ?_ | refine g_pu rfl rfl rfl (pu_pick_f rfl rfl rfl) ?_
    refine g_nil ?_
    (repeat refine g_seq ?_)
    refine g_cond_t rfl ?_
    (repeat refine g_seq ?_)
    refine g_region ?_
    refine g_pu rfl rfl rfl (pu_assign rfl rfl) ?_
    refine g_nil ?_
    exact g_ret1 rfl rfl (fun w' hm => ⟨(), trivial, rfl, hm.grows [] trivial rfl⟩)
theorem fits07_b (w : World) (p q : Option Addr) (n m c d : Nat) : Spec Try.prog 31 #[.slice p n c, .slice q m d] w (σ := Unit) (fun _ => True) (fun _ => .bool (fitsB n m)) Nob (fun _ => []) := by
  refine enter Try.func31 rfl rfl (Mem.start w) ?_
  (repeat refine g_seq ?_)
  refine g_region ?_
  refine g_pu rfl rfl rfl (pu_assign rfl rfl) ?_
  refine g_nil ?_
  by_cases h1 : n = 32
  · by_cases h2 : 32 ≤ m
    · by_cases h3 : m ≤ 4096
      · rw [(fitsB_iff n m).2 ⟨h1, h2, h3⟩]
        (repeat refine g_seq ?_)
        refine g_region ?_
        refine g_pu rfl rfl rfl (pu_move rfl rfl) ?_
        first | refine g_pu rfl rfl rfl (pu_len rfl rfl) ?_ | refine g_pu rfl rfl rfl (pu_lenS rfl rfl) ?_
        first | refine g_pu rfl rfl rfl (pu_eql_t rfl rfl rfl (by omega)) ?_ | refine g_pu rfl rfl rfl (pu_eql_f rfl rfl rfl (by omega)) ?_ | refine g_pu rfl rfl rfl (pu_eql rfl rfl rfl) ?_
        refine g_pu rfl rfl rfl (pu_move rfl rfl) ?_
        first | refine g_pass rfl rfl rfl ?_ | refine g_pu rfl rfl rfl (pu_move rfl rfl) ?_
        first | refine g_pass rfl rfl rfl ?_ | refine g_pu rfl rfl rfl (pu_len rfl rfl) ?_ | refine g_pu rfl rfl rfl (pu_lenS rfl rfl) ?_
        first | refine g_pass rfl rfl rfl ?_ | refine g_pu rfl rfl rfl (pu_geq_t rfl rfl rfl (by omega)) ?_ | refine g_pu rfl rfl rfl (pu_geq_f rfl rfl rfl (by omega)) ?_ | refine g_pu rfl rfl rfl (pu_geq rfl rfl rfl) ?_
        first | refine g_pu rfl rfl rfl (pu_pick_t rfl rfl rfl) ?_ | refine g_pu rfl rfl rfl (pu_pick_f rfl rfl rfl) ?_
        refine g_pu rfl rfl rfl (pu_move rfl rfl) ?_
        first | refine g_pass rfl rfl rfl ?_ | refine g_pu rfl rfl rfl (pu_move rfl rfl) ?_
        first | refine g_pass rfl rfl rfl ?_ | refine g_pu rfl rfl rfl (pu_len rfl rfl) ?_ | refine g_pu rfl rfl rfl (pu_lenS rfl rfl) ?_
        first | refine g_pass rfl rfl rfl ?_ | refine g_pu rfl rfl rfl (pu_leq_t rfl rfl rfl (by omega)) ?_ | refine g_pu rfl rfl rfl (pu_leq_f rfl rfl rfl (by omega)) ?_ | refine g_pu rfl rfl rfl (pu_leq rfl rfl rfl) ?_
        first | refine g_pu rfl rfl rfl (pu_pick_t rfl rfl rfl) ?_ | refine g_pu rfl rfl rfl (pu_pick_f rfl rfl rfl) ?_
        refine g_pu rfl rfl rfl (pu_assign rfl rfl) ?_
        refine g_nil ?_
        exact g_ret1 rfl rfl (fun w' hm => ⟨(), trivial, rfl, hm.grows [] trivial rfl⟩)
      · rw [Bool.eq_false_iff.2 (fun h => h3 ((fitsB_iff n m).1 h).2.2)]
        (repeat refine g_seq ?_)
        refine g_region ?_
        refine g_pu rfl rfl rfl (pu_move rfl rfl) ?_
        first | refine g_pu rfl rfl rfl (pu_len rfl rfl) ?_ | refine g_pu rfl rfl rfl (pu_lenS rfl rfl) ?_
        first | refine g_pu rfl rfl rfl (pu_eql_t rfl rfl rfl (by omega)) ?_ | refine g_pu rfl rfl rfl (pu_eql_f rfl rfl rfl (by omega)) ?_ | refine g_pu rfl rfl rfl (pu_eql rfl rfl rfl) ?_
        refine g_pu rfl rfl rfl (pu_move rfl rfl) ?_
        first | refine g_pass rfl rfl rfl ?_ | refine g_pu rfl rfl rfl (pu_move rfl rfl) ?_
        first | refine g_pass rfl rfl rfl ?_ | refine g_pu rfl rfl rfl (pu_len rfl rfl) ?_ | refine g_pu rfl rfl rfl (pu_lenS rfl rfl) ?_
        first | refine g_pass rfl rfl rfl ?_ | refine g_pu rfl rfl rfl (pu_geq_t rfl rfl rfl (by omega)) ?_ | refine g_pu rfl rfl rfl (pu_geq_f rfl rfl rfl (by omega)) ?_ | refine g_pu rfl rfl rfl (pu_geq rfl rfl rfl) ?_
        first | refine g_pu rfl rfl rfl (pu_pick_t rfl rfl rfl) ?_ | refine g_pu rfl rfl rfl (pu_pick_f rfl rfl rfl) ?_
        refine g_pu rfl rfl rfl (pu_move rfl rfl) ?_
        first | refine g_pass rfl rfl rfl ?_ | refine g_pu rfl rfl rfl (pu_move rfl rfl) ?_
        first | refine g_pass rfl rfl rfl ?_ | refine g_pu rfl rfl rfl (pu_len rfl rfl) ?_ | refine g_pu rfl rfl rfl (pu_lenS rfl rfl) ?_
        first | refine g_pass rfl rfl rfl ?_ | refine g_pu rfl rfl rfl (pu_leq_t rfl rfl rfl (by omega)) ?_ | refine g_pu rfl rfl rfl (pu_leq_f rfl rfl rfl (by omega)) ?_ | refine g_pu rfl rfl rfl (pu_leq rfl rfl rfl) ?_
        first | refine g_pu rfl rfl rfl (pu_pick_t rfl rfl rfl) ?_ | refine g_pu rfl rfl rfl (pu_pick_f rfl rfl rfl) ?_
        refine g_pu rfl rfl rfl (pu_assign rfl rfl) ?_
        refine g_nil ?_
        exact g_ret1 rfl rfl (fun w' hm => ⟨(), trivial, rfl, hm.grows [] trivial rfl⟩)
    · rw [Bool.eq_false_iff.2 (fun h => h2 ((fitsB_iff n m).1 h).2.1)]
      (repeat refine g_seq ?_)
      refine g_region ?_
      refine g_pu rfl rfl rfl (pu_move rfl rfl) ?_
      first | refine g_pu rfl rfl rfl (pu_len rfl rfl) ?_ | refine g_pu rfl rfl rfl (pu_lenS rfl rfl) ?_
      first | refine g_pu rfl rfl rfl (pu_eql_t rfl rfl rfl (by omega)) ?_ | refine g_pu rfl rfl rfl (pu_eql_f rfl rfl rfl (by omega)) ?_ | refine g_pu rfl rfl rfl (pu_eql rfl rfl rfl) ?_
      refine g_pu rfl rfl rfl (pu_move rfl rfl) ?_
      first | refine g_pass rfl rfl rfl ?_ | refine g_pu rfl rfl rfl (pu_move rfl rfl) ?_
      first | refine g_pass rfl rfl rfl ?_ | refine g_pu rfl rfl rfl (pu_len rfl rfl) ?_ | refine g_pu rfl rfl rfl (pu_lenS rfl rfl) ?_
      first | refine g_pass rfl rfl rfl ?_ | refine g_pu rfl rfl rfl (pu_geq_t rfl rfl rfl (by omega)) ?_ | refine g_pu rfl rfl rfl (pu_geq_f rfl rfl rfl (by omega)) ?_ | refine g_pu rfl rfl rfl (pu_geq rfl rfl rfl) ?_
      first | refine g_pu rfl rfl rfl (pu_pick_t rfl rfl rfl) ?_ | refine g_pu rfl rfl rfl (pu_pick_f rfl rfl rfl) ?_
      refine g_pu rfl rfl rfl (pu_move rfl rfl) ?_
      first | refine g_pass rfl rfl rfl ?_ | refine g_pu rfl rfl rfl (pu_move rfl rfl) ?_
      first | refine g_pass rfl rfl rfl ?_ | refine g_pu rfl rfl rfl (pu_len rfl rfl) ?_ | refine g_pu rfl rfl rfl (pu_lenS rfl rfl) ?_
      first | refine g_pass rfl rfl rfl ?_ | refine g_pu rfl rfl rfl (pu_leq_t rfl rfl rfl (by omega)) ?_ | refine g_pu rfl rfl rfl (pu_leq_f rfl rfl rfl (by omega)) ?_ | refine g_pu rfl rfl rfl (pu_leq rfl rfl rfl) ?_
      first | refine g_pu rfl rfl rfl (pu_pick_t rfl rfl rfl) ?_ | refine g_pu rfl rfl rfl (pu_pick_f rfl rfl rfl) ?_
      refine g_pu rfl rfl rfl (pu_assign rfl rfl) ?_
      refine g_nil ?_
      exact g_ret1 rfl rfl (fun w' hm => ⟨(), trivial, rfl, hm.grows [] trivial rfl⟩)
  · rw [Bool.eq_false_iff.2 (fun h => h1 ((fitsB_iff n m).1 h).1)]
    (repeat refine g_seq ?_)
    refine g_region ?_
    refine g_pu rfl rfl rfl (pu_move rfl rfl) ?_
    first | refine g_pu rfl rfl rfl (pu_len rfl rfl) ?_ | refine g_pu rfl rfl rfl (pu_lenS rfl rfl) ?_
    first | refine g_pu rfl rfl rfl (pu_eql_t rfl rfl rfl (by omega)) ?_ | refine g_pu rfl rfl rfl (pu_eql_f rfl rfl rfl (by omega)) ?_ | refine g_pu rfl rfl rfl (pu_eql rfl rfl rfl) ?_
    refine g_pu rfl rfl rfl (pu_move rfl rfl) ?_
    first | refine g_pass rfl rfl rfl ?_ | refine g_pu rfl rfl rfl (pu_move rfl rfl) ?_
    first | refine g_pass rfl rfl rfl ?_ | refine g_pu rfl rfl rfl (pu_len rfl rfl) ?_ | refine g_pu rfl rfl rfl (pu_lenS rfl rfl) ?_
    first | refine g_pass rfl rfl rfl ?_ | refine g_pu rfl rfl rfl (pu_geq_t rfl rfl rfl (by omega)) ?_ | refine g_pu rfl rfl rfl (pu_geq_f rfl rfl rfl (by omega)) ?_ | refine g_pu rfl rfl rfl (pu_geq rfl rfl rfl) ?_
    first | refine g_pu rfl rfl rfl (pu_pick_t rfl rfl rfl) ?_ | refine g_pu rfl rfl rfl (pu_pick_f rfl rfl rfl) ?_
    refine g_pu rfl rfl rfl (pu_move rfl rfl) ?_
    first | refine g_pass rfl rfl rfl ?_ | refine g_pu rfl rfl rfl (pu_move rfl rfl) ?_
    first | refine g_pass rfl rfl rfl ?_ | refine g_pu rfl rfl rfl (pu_len rfl rfl) ?_ | refine g_pu rfl rfl rfl (pu_lenS rfl rfl) ?_
    first | refine g_pass rfl rfl rfl ?_ | refine g_pu rfl rfl rfl (pu_leq_t rfl rfl rfl (by omega)) ?_ | refine g_pu rfl rfl rfl (pu_leq_f rfl rfl rfl (by omega)) ?_ | refine g_pu rfl rfl rfl (pu_leq rfl rfl rfl) ?_
    first | refine g_pu rfl rfl rfl (pu_pick_t rfl rfl rfl) ?_ | refine g_pu rfl rfl rfl (pu_pick_f rfl rfl rfl) ?_
    refine g_pu rfl rfl rfl (pu_assign rfl rfl) ?_
    refine g_nil ?_
    exact g_ret1 rfl rfl (fun w' hm => ⟨(), trivial, rfl, hm.grows [] trivial rfl⟩)

/-- One round: of a number, a key, a block. -/
def rdL (z : Nat) (kd b : List (BitVec 8)) : List (BitVec 8) :=
  if z % 2 = 0 then xorL (b.take 32) (hmacL kd (b.drop 32)) ++ b.drop 32
  else b.take 32 ++ xorL (b.drop 32) (streamL (xorL (b.take 32) kd) 0 (b.length - 32))
theorem take32 {b : List (BitVec 8)} (h : 32 ≤ b.length) : (b.take 32).length = 32 := by rw [List.length_take]; omega
theorem rdL_even {z : Nat} (h : z % 2 = 0) (kd b : List (BitVec 8)) : rdL z kd b = xorL (b.take 32) (hmacL kd (b.drop 32)) ++ b.drop 32 := if_pos h
theorem rdL_odd {z : Nat} (h : ¬ z % 2 = 0) (kd b : List (BitVec 8)) : rdL z kd b = b.take 32 ++ xorL (b.drop 32) (streamL (xorL (b.take 32) kd) 0 (b.length - 32)) := if_neg h
theorem rdL_length (z : Nat) (kd : List (BitVec 8)) {b : List (BitVec 8)} (h : 32 ≤ b.length) : (rdL z kd b).length = b.length := by
  have ht := take32 h
  by_cases hz : z % 2 = 0
  · rw [rdL_even hz, List.length_append, xorL_length (by rw [hmacL_length, ht]), ht, List.length_drop]; omega
  · rw [rdL_odd hz, List.length_append, xorL_length (by rw [streamL_length, List.length_drop]), ht, List.length_drop]; omega
/-- A round undoes itself. -/
theorem rdL_back (z : Nat) (kd : List (BitVec 8)) {b : List (BitVec 8)} (h : 32 ≤ b.length) : rdL z kd (rdL z kd b) = b := by
  have ht := take32 h
  have hl := rdL_length z kd h
  by_cases hz : z % 2 = 0
  · have hx : (xorL (b.take 32) (hmacL kd (b.drop 32))).length = 32 := by rw [xorL_length (by rw [hmacL_length, ht]), ht]
    rw [rdL_even hz kd (rdL z kd b), rdL_even hz, List.take_left' hx, List.drop_left' hx, xorL_back (by rw [hmacL_length, ht]), List.take_append_drop]
  · rw [rdL_odd hz kd (rdL z kd b), hl, rdL_odd hz, List.take_left' ht, List.drop_left' ht, xorL_back (by rw [streamL_length, List.length_drop]), List.take_append_drop]

theorem splice {b T : List (BitVec 8)} {J : List Value} {n o : Nat} (hb : b.length = n) (hT : T.length = n - 32) (ho : n = 32 ∨ o = 32) (h : 32 ≤ n) : (bs b ++ J).take o ++ (bs T).take (n - 32) ++ (bs b ++ J).drop (o + (n - 32)) = bs (b.take 32 ++ T) ++ J := by
  rcases ho with h1 | h1
  · have hT0 : T = [] := List.eq_nil_of_length_eq_zero (by omega)
    subst hT0
    rw [h1, List.take_of_length_le (by omega : b.length ≤ 32)]
    simp [bs]
  · subst h1
    rw [List.take_append_of_le_length (by rw [bs_length]; omega), List.take_of_length_le (by rw [bs_length, hT]; omega : (bs T).length ≤ n - 32), show 32 + (n - 32) = (bs b).length by rw [bs_length]; omega, List.drop_left' rfl, bs_append, ← bs_take]
theorem wround_b (w : World) (bb c z : Nat) {n : Nat} {kd b : List (BitVec 8)} {J : List Value} (h : w.heap[bb]? = some (.cells (bs b ++ J).toArray 5 (0, 0))) (hk : kd.length = 32) (hb : b.length = n) (h32 : 32 ≤ n) (hn : n ≤ 4096) (hc : n ≤ c) :
    Spec Try.prog 30 #[.int .i64 (z : Int), .agg (bs kd).toArray, .slice (some ⟨bb, 0, none⟩) n c] w (σ := Unit) (fun _ => True) (fun _ => .tuple #[]) (fun j => j = bb) (fun _ => [.pt bb (.cells (bs (rdL z kd b) ++ J).toArray 5 (0, 0))]) := by
  refine enter Try.func30 rfl rfl (Mem.start1 (.pt bb (.cells (bs b ++ J).toArray 5 (0, 0))) h trivial (fun j hj => by rw [show j = bb from hj]; exact lt_of_some h)) ?_
  have ht := take32 (b := b) (by omega)
  have hd : (b.drop 32).length = n - 32 := by rw [List.length_drop, hb]
  have hkb : (bs kd).length = 32 := by rw [bs_length, hk]
  have hhl := hmacL_length kd (b.drop 32)
  have hhb : (bs (hmacL kd (b.drop 32))).length = 32 := by rw [bs_length, hhl]
  have hbl : (bs b ++ J).length = n + J.length := by rw [List.length_append, bs_length, hb]
  obtain ⟨o, ho, hor, ho32⟩ : ∃ o, cutp (some ⟨bb, 0, none⟩) c 32 1 = some ⟨bb, o, none⟩ ∧ (n = 32 ∨ o = 32) ∧ o ≤ 32 := by
    unfold cutp
    split
    · exact ⟨0, rfl, by omega, by omega⟩
    · exact ⟨32, rfl, .inr rfl, by omega⟩
  have hL : ∀ {D : Blocks} {w' w0 : World} {M : List (Nat × Ck)}, mget M 0 = some (.pt bb (.cells (bs b ++ J).toArray 5 (0, 0))) → Mem w0 D M w' → By w' (some ⟨bb, 0, none⟩) 32 (b.take 32) := fun hM hm => by
    have h1 := By.row 0 hM hm hb (by omega)
    exact ⟨RdV.take (L' := bs (b.drop 32)) (by rw [← bs_append, List.take_append_drop]; exact h1.rd), ht, by omega⟩
  have hR : ∀ {D : Blocks} {w' w0 : World} {M : List (Nat × Ck)}, mget M 0 = some (.pt bb (.cells (bs b ++ J).toArray 5 (0, 0))) → Mem w0 D M w' → By w' (some ⟨bb, o, none⟩) (n - 32) (b.drop 32) := fun hM hm => by
    have h1 := (By.row 0 hM hm hb (by omega)).cut hc 32
    rwa [ho] at h1
  (repeat refine g_seq ?_)
  refine g_region ?_
  refine g_lo [4] rfl rfl rfl rfl (lo_box rfl rfl) (fun b4 hb4 => ?_)
  refine g_nil ?_
  (repeat refine g_seq ?_)
  refine g_any (6, []) ?_
  refine a_pu 0 rfl rfl rfl rfl (pu_move rfl rfl) rfl rfl (by kernel_rfl) ?_
  refine a_pu 1 rfl rfl rfl rfl (pu_slice_h 32 rfl rfl rfl rfl (by omega)) rfl rfl (by kernel_rfl) ?_
  refine a_pu 2 rfl rfl rfl rfl (pu_move rfl rfl) rfl rfl (by kernel_rfl) ?_
  refine a_pu 3 rfl rfl rfl rfl (pu_slice_l 32 rfl rfl rfl rfl (by omega)) rfl rfl (by kernel_rfl) ?_
  refine a_pu 4 rfl rfl rfl rfl (pu_assign rfl rfl) rfl rfl (by kernel_rfl) ?_
  refine a_pu 5 rfl rfl rfl rfl (pu_assign rfl rfl) rfl rfl (by kernel_rfl) ?_
  refine a_done (by kernel_rfl) ?_
  refine g_as (t := 7) (u := .slice (some ⟨bb, o, none⟩) (n - 32) (c - 32)) rfl (by rw [ho]) rfl ?_
  by_cases hz : z % 2 = 0
  · have hV := (xorV_two (a := b.take 32) (b := hmacL kd (b.drop 32)) (by rw [hhl, ht])).1
    have hVl : (xorL (b.take 32) (hmacL kd (b.drop 32))).length = 32 := by rw [xorL_length (by rw [hhl, ht]), ht]
    rw [rdL_even hz]
    (repeat refine g_seq ?_)
    refine g_region ?_
    refine g_pu rfl rfl rfl (pu_move rfl rfl) ?_
    refine g_pu rfl rfl rfl (pu_remI rfl rfl rfl (by omega)) ?_
    first | refine g_pu rfl rfl rfl (pu_eql_t rfl rfl rfl (by omega)) ?_ | refine g_pu rfl rfl rfl (pu_eql_f rfl rfl rfl (by omega)) ?_ | refine g_pu rfl rfl rfl (pu_eql rfl rfl rfl) ?_
    refine g_nil ?_
    (repeat refine g_seq ?_)
    refine g_cond_t rfl ?_
    (repeat refine g_seq ?_)
    refine g_region ?_
    refine g_pu rfl rfl rfl (pu_sliceA rfl rfl) ?_
    refine g_pu rfl rfl rfl (pu_move rfl rfl) ?_
    refine g_lo [24] rfl rfl rfl rfl (lo_buildSlice rfl rfl (by decide) (by decide) rfl rfl) (fun b24 hb24 => ?_)
    refine g_call [] rfl rfl rfl rfl rfl rfl (fun w' hm => Tag_b w' 32 1 (key := kd) (LL := [.slice (some ⟨bb, o, none⟩) (n - 32) (c - 32)]) (ls := [b.drop 32]) (By.full 4 rfl hm hk (by omega)) ⟨hm.rowA 24 rfl, rfl, All2.cons ⟨_, _, _, rfl, hR rfl hm, fun _ _ => trivial⟩ All2.nil, by omega⟩ (by omega) (fun l hl => by rw [List.mem_singleton.1 hl, hd]; omega) (by simp; omega)) (fun _ _ => ?_)
    rw [show [b.drop 32].flatten = b.drop 32 by simp]
    refine g_lo [8] rfl rfl rfl rfl (lo_alloc rfl) (fun q8 hb8 => ?_)
    refine g_storeL 8 (s := 32) (C := bs (hmacL kd (b.drop 32))) rfl rfl rfl rfl rfl rfl hhb rfl (oneCell_bs _) ?_
    refine g_nil ?_
    (repeat refine g_seq ?_)
    refine g_region ?_
    refine g_pu rfl rfl rfl (pu_move rfl rfl) ?_
    refine g_pu rfl rfl rfl (pu_sliceA rfl rfl) ?_
    refine g_lo [29] rfl rfl rfl rfl (lo_buildSlice rfl rfl (by decide) (by decide) rfl rfl) (fun b29 hb29 => ?_)
    refine g_call [30] rfl rfl rfl rfl rfl rfl (fun w' hm => Xor_b w' 2 (L := [.slice (some ⟨bb, 0, none⟩) 32 c, .slice (some ⟨q8, 0, none⟩) 32 32]) (ls := [b.take 32, hmacL kd (b.drop 32)]) ⟨hm.rowA 29 rfl, rfl, All2.cons ⟨_, _, _, rfl, hL rfl hm, fun _ _ => trivial⟩ (All2.cons ⟨_, _, _, rfl, By.full 8 rfl hm hhl (by omega), fun _ _ => trivial⟩ All2.nil), by omega⟩ (by omega)) (fun x30 _ => ?_)
    rw [hV, hVl]
    refine g_pu rfl rfl rfl (pu_move rfl rfl) ?_
    refine g_pu rfl rfl rfl (pu_extract rfl rfl rfl) ?_
    refine g_pu rfl rfl rfl (pu_extract rfl rfl rfl) ?_
    refine g_pu rfl rfl rfl (pu_assign rfl rfl) ?_
    refine g_pu rfl rfl rfl (pu_assign rfl rfl) ?_
    refine g_nil ?_
    generalize xorL (b.take 32) (hmacL kd (b.drop 32)) = T at hV hVl
    (repeat refine g_seq ?_)
    refine g_region ?_
    refine g_pu rfl rfl rfl (pu_move rfl rfl) ?_
    refine g_pu rfl rfl rfl (pu_move rfl rfl) ?_
    refine g_copy 0 (bs T) rfl rfl rfl rfl rfl rfl rfl (fun w' hm => Ow.rd (t := 30) rfl hm) (by rw [bs_length, hVl]) (by rw [hbl]; omega) (oneCell_bs _) ?_
    rw [show (bs b ++ J).take 0 ++ (bs T).take (Nat.min 32 32) ++ (bs b ++ J).drop (0 + Nat.min 32 32) = bs (T ++ b.drop 32) ++ J by rw [List.take_zero, List.nil_append, List.take_of_length_le (by rw [bs_length, hVl]; decide), show 0 + Nat.min 32 32 = 32 from rfl, List.drop_append_of_le_length (by rw [bs_length]; omega), bs_append, List.append_assoc, bs_drop]]
    refine g_nil ?_
    exact g_ret0 rfl (fun w' hm => ⟨(), trivial, rfl, hm.grows [0] ⟨rfl, trivial⟩ rfl⟩)
  · have hV := (xorV_two (a := b.take 32) (b := kd) (by rw [hk, ht])).1
    have hVl : (xorL (b.take 32) kd).length = 32 := by rw [xorL_length (by rw [hk, ht]), ht]
    rw [rdL_odd hz, hb]
    (repeat refine g_seq ?_)
    refine g_region ?_
    refine g_pu rfl rfl rfl (pu_move rfl rfl) ?_
    refine g_pu rfl rfl rfl (pu_remI rfl rfl rfl (by omega)) ?_
    first | refine g_pu rfl rfl rfl (pu_eql_t rfl rfl rfl (by omega)) ?_ | refine g_pu rfl rfl rfl (pu_eql_f rfl rfl rfl (by omega)) ?_ | refine g_pu rfl rfl rfl (pu_eql rfl rfl rfl) ?_
    refine g_nil ?_
    (repeat refine g_seq ?_)
    refine g_cond_f rfl (g_skip ?_)
    (repeat refine g_seq ?_)
    refine g_region ?_
    refine g_pu rfl rfl rfl (pu_move rfl rfl) ?_
    refine g_pu rfl rfl rfl (pu_sliceA rfl rfl) ?_
    refine g_lo [39] rfl rfl rfl rfl (lo_buildSlice rfl rfl (by decide) (by decide) rfl rfl) (fun b39 hb39 => ?_)
    refine g_call [40] rfl rfl rfl rfl rfl rfl (fun w' hm => Xor_b w' 2 (L := [.slice (some ⟨bb, 0, none⟩) 32 c, .slice (some ⟨b4, 0, none⟩) 32 32]) (ls := [b.take 32, kd]) ⟨hm.rowA 39 rfl, rfl, All2.cons ⟨_, _, _, rfl, hL rfl hm, fun _ _ => trivial⟩ (All2.cons ⟨_, _, _, rfl, By.full 4 rfl hm hk (by omega), fun _ _ => trivial⟩ All2.nil), by omega⟩ (by omega)) (fun x40 _ => ?_)
    rw [hV, hVl]
    refine g_pu rfl rfl rfl (pu_move rfl rfl) ?_
    refine g_pu rfl rfl rfl (pu_extract rfl rfl rfl) ?_
    refine g_pu rfl rfl rfl (pu_extract rfl rfl rfl) ?_
    refine g_pu rfl rfl rfl (pu_assign rfl rfl) ?_
    refine g_pu rfl rfl rfl (pu_assign rfl rfl) ?_
    refine g_nil ?_
    generalize xorL (b.take 32) kd = K at hV hVl
    have hE : turnE K (n - 32) = 0 := by unfold turnE; rw [if_neg (by omega), if_neg (by omega)]
    have hT : turnL K (b.drop 32) = xorL (b.drop 32) (streamL K 0 (n - 32)) := by unfold turnL; rw [hd, if_pos hE]
    have hTl : (xorL (b.drop 32) (streamL K 0 (n - 32))).length = n - 32 := by rw [xorL_length (by rw [streamL_length, hd]), hd]
    (repeat refine g_seq ?_)
    refine g_region ?_
    refine g_pu rfl rfl rfl (pu_move rfl rfl) ?_
    refine g_pu rfl rfl rfl (pu_move rfl rfl) ?_
    refine g_lo [46] rfl rfl rfl rfl (lo_buildSlice rfl rfl (by decide) (by decide) rfl rfl) (fun b46 hb46 => ?_)
    refine g_call [47] rfl rfl rfl rfl rfl rfl (fun w' hm => Turn_b w' x40.c 1 (L := [.slice (some ⟨bb, o, none⟩) (n - 32) (c - 32)]) (ls := [b.drop 32]) (By.ow 40 rfl hm hVl (by omega)) ⟨hm.rowA 46 rfl, rfl, All2.cons ⟨_, _, _, rfl, hR rfl hm, fun _ _ => trivial⟩ All2.nil, by omega⟩ (by omega) (by simp; omega)) (fun x47 _ => ?_)
    rw [show [b.drop 32].flatten = b.drop 32 by simp, hT, hTl]
    refine g_pu rfl rfl rfl (pu_move rfl rfl) ?_
    refine g_pu rfl rfl rfl (pu_extract rfl rfl rfl) ?_
    refine g_pu rfl rfl rfl (pu_extract rfl rfl rfl) ?_
    refine g_pu rfl rfl rfl (pu_assign rfl rfl) ?_
    refine g_pu rfl rfl rfl (pu_assign rfl rfl) ?_
    refine g_nil ?_
    generalize xorL (b.drop 32) (streamL K 0 (n - 32)) = T at hT hTl
    have hmin : Nat.min (n - 32) (n - 32) = n - 32 := Nat.min_self _
    (repeat refine g_seq ?_)
    refine g_region ?_
    refine g_pu rfl rfl rfl (pu_move rfl rfl) ?_
    refine g_pu rfl rfl rfl (pu_move rfl rfl) ?_
    refine g_copy 0 (bs T) rfl rfl rfl rfl rfl rfl rfl (fun w' hm => Ow.rd (t := 47) rfl hm) (by rw [bs_length, hTl]) (by rw [hbl]; omega) (oneCell_bs _) ?_
    rw [show (bs b ++ J).take o ++ (bs T).take (Nat.min (n - 32) (n - 32)) ++ (bs b ++ J).drop (o + Nat.min (n - 32) (n - 32)) = bs (b.take 32 ++ T) ++ J by rw [hmin]; exact splice hb hTl hor h32]
    refine g_nil ?_
    exact g_end0 rfl (fun w' hm => ⟨(), trivial, rfl, hm.grows [0] ⟨rfl, trivial⟩ rfl⟩)
end Go.Sx

/-
  The rounds of the wide cipher, of the program. The lists fit memory.
-/
namespace Go.Sx
open Go Go.Proofs

def wlab : Nat → ByteArray
  | 0 => ⟨#[119, 105, 100, 101, 49]⟩
  | 1 => ⟨#[119, 105, 100, 101, 50]⟩
  | 2 => ⟨#[119, 105, 100, 101, 51]⟩
  | _ => ⟨#[119, 105, 100, 101, 52]⟩
def wlabs : List ByteArray := [wlab 0, wlab 1, wlab 2, wlab 3]
theorem wlabs_get {i : Nat} (h : i < 4) : wlabs[i]? = some (wlab i) := by
  have : i = 0 ∨ i = 1 ∨ i = 2 ∨ i = 3 := by omega
  rcases this with rfl | rfl | rfl | rfl <;> rfl
theorem wlab_size (i : Nat) : (wlab i).size = 5 := by
  unfold wlab
  split <;> rfl
theorem wlabs_size : ∀ s ∈ wlabs, s.size ≤ 140737488355072 := fun s hs => by
  simp only [wlabs, List.mem_cons, List.not_mem_nil, or_false] at hs
  rcases hs with rfl | rfl | rfl | rfl <;> rw [wlab_size] <;> omega
/-- A round's key. -/
def wk (key : List (BitVec 8)) (z : Nat) : List (BitVec 8) := drvL key (bytesOf (wlab (z - 1)))
theorem wk_length (key : List (BitVec 8)) (z : Nat) : (wk key z).length = 32 := drvL_length _ _
def okZ (zs : List Int) : Bool := zs.all fun z => decide (1 ≤ z ∧ z ≤ 4)
def rdsL (key : List (BitVec 8)) : List Int → List (BitVec 8) → List (BitVec 8)
  | [], b => b
  | z :: r, b => rdsL key r (rdL z.toNat (wk key z.toNat) b)
theorem rdsL_append (key : List (BitVec 8)) : ∀ (a b : List Int) (l : List (BitVec 8)), rdsL key (a ++ b) l = rdsL key b (rdsL key a l)
  | [], _, _ => rfl
  | z :: r, b, l => rdsL_append key r b _
theorem rdsL_length (key : List (BitVec 8)) : ∀ (a : List Int) {l : List (BitVec 8)}, 32 ≤ l.length → (rdsL key a l).length = l.length
  | [], _, _ => rfl
  | z :: r, l, h => by
    have h1 := rdL_length z.toNat (wk key z.toNat) h
    rw [rdsL, rdsL_length key r (by omega), h1]
theorem rdsL_take {key : List (BitVec 8)} {zs : List Int} {i : Nat} {z : Int} (h : zs[i]? = some z) (l : List (BitVec 8)) : rdsL key (zs.take (i + 1)) l = rdL z.toNat (wk key z.toNat) (rdsL key (zs.take i) l) := by
  rw [List.take_add_one, h, rdsL_append]; rfl
theorem okZ_take {zs : List Int} {i : Nat} {z : Int} (h : zs[i]? = some z) : okZ (zs.take (i + 1)) = (okZ (zs.take i) && decide (1 ≤ z ∧ z ≤ 4)) := by
  unfold okZ
  rw [List.take_add_one, h, List.all_append]
  simp
/-- The same rounds backwards undo them. -/
theorem rdsL_back (key : List (BitVec 8)) : ∀ (zs : List Int) {l : List (BitVec 8)}, 32 ≤ l.length → rdsL key zs.reverse (rdsL key zs l) = l
  | [], _, _ => rfl
  | z :: r, l, h => by
    have h1 := rdL_length z.toNat (wk key z.toNat) h
    rw [List.reverse_cons, rdsL_append]
    show rdL z.toNat (wk key z.toNat) (rdsL key r.reverse (rdsL key r (rdL z.toNat (wk key z.toNat) l))) = l
    rw [rdsL_back key r (by omega)]
    exact rdL_back _ _ h
def rdsE (n m : Nat) (zs : List Int) : Int := if okZ zs = true then (if fitsB n m = true then 0 else 2) else 1
def rdsV (key b : List (BitVec 8)) (zs : List Int) : List (BitVec 8) := if rdsE key.length b.length zs = 0 then rdsL key zs b else []
theorem rds_ok {key b : List (BitVec 8)} {zs : List Int} (h1 : okZ zs = true) (h2 : fitsB key.length b.length = true) : rdsE key.length b.length zs = 0 ∧ rdsV key b zs = rdsL key zs b := by
  have e : rdsE key.length b.length zs = 0 := by unfold rdsE; rw [if_pos h1, if_pos h2]
  exact ⟨e, if_pos e⟩
theorem rds_z {key b : List (BitVec 8)} {zs : List Int} (h1 : ¬ okZ zs = true) : rdsE key.length b.length zs = 1 ∧ rdsV key b zs = [] := by
  have e : rdsE key.length b.length zs = 1 := by unfold rdsE; rw [if_neg h1]
  exact ⟨e, if_neg (by rw [e]; decide)⟩
theorem rds_s {key b : List (BitVec 8)} {zs : List Int} (h1 : okZ zs = true) (h2 : ¬ fitsB key.length b.length = true) : rdsE key.length b.length zs = 2 ∧ rdsV key b zs = [] := by
  have e : rdsE key.length b.length zs = 2 := by unfold rdsE; rw [if_pos h1, if_neg h2]
  exact ⟨e, if_neg (by rw [e]; decide)⟩
theorem okZ_mem {zs : List Int} (h : okZ zs = true) {z : Int} (hz : z ∈ zs) : 1 ≤ z ∧ z ≤ 4 := by
  have := List.all_eq_true.1 h z hz
  simpa using this
theorem drvs_cell {key : List (BitVec 8)} {i : Nat} (h : i < 4) : ((bs (drvs key wlabs)).drop (i * 32)).take 32 = bs (drvL key (bytesOf (wlab i))) := by
  rw [bs_drop, bs_take, drvs_get (wlabs_get h)]

theorem WRounds_b (w : World) {p q r : Option Addr} {n m k : Nat} (c d e : Nat) {key b : List (BitVec 8)} {zs : List Int} (hk : By w p n key) (hb : By w q m b) (hr : RdV w r (zs.map (Value.int .i64))) (hz : zs.length = k) (hkb : k ≤ 1152921504606846976) :
    Spec Try.prog 8 #[.slice p n c, .slice q m d, .slice r k e] w (σ := Ow) (fun _ => True) (fun x => .tuple #[x.sl (rdsV key b zs).length, .int .i64 (rdsE n m zs)]) Nob (fun x => [x.ck 5 1 (bs (rdsV key b zs))]) := by
  have hkl := hk.len
  have hbl := hb.len
  subst hkl hbl
  refine enter Try.func8 rfl rfl (Mem.start w) ?_
  have hzl : (zs.map (Value.int .i64)).length = k := by rw [List.length_map, hz]
  (repeat refine g_seq ?_)
  refine g_region ?_
  refine g_pu rfl rfl rfl (pu_assign rfl rfl) ?_
  refine g_pu rfl rfl rfl (pu_assign rfl rfl) ?_
  refine g_nil ?_
  (repeat refine g_seq ?_)
  refine g_region ?_
  refine g_pu rfl rfl rfl (pu_move rfl rfl) ?_
  first | refine g_pu rfl rfl rfl (pu_len rfl rfl) ?_ | refine g_pu rfl rfl rfl (pu_lenS rfl rfl) ?_
  refine g_pu rfl rfl rfl (pu_move rfl rfl) ?_
  refine g_nil ?_
  (repeat refine g_seq ?_)
  refine g_block (g_loop (σ := Nat) (fun i => [(0, .slice p key.length c), (1, .slice q b.length d), (2, .slice r k e), (15, .slice r k e), (16, .int .i64 (k : Int)), (17, .int .i64 (i : Int))]) (fun _ => []) (fun i => i ≤ k ∧ okZ (zs.take i) = true) (fun i => k - i) 0 ⟨rfl, rfl, rfl, rfl, rfl, rfl, trivial⟩ trivial ⟨by omega, rfl⟩ ?_)
  intro i ⟨hi, hok⟩
  by_cases hlt : i < k
  · (repeat refine g_seq ?_)
    refine g_region ?_
    first | refine g_pu rfl rfl rfl (pu_lss_t rfl rfl rfl (by omega)) ?_ | refine g_pu rfl rfl rfl (pu_lss_f rfl rfl rfl (by omega)) ?_ | refine g_pu rfl rfl rfl (pu_lss rfl rfl rfl) ?_
    refine g_nil ?_
    (repeat refine g_seq ?_)
    refine g_cond_t rfl (g_skip ?_)
    have h1 : zs[i]? = some zs[i] := List.getElem?_eq_getElem (by omega)
    have hmem := List.getElem_mem (l := zs) (n := i) (by omega)
    generalize zs[i] = z at h1 hmem
    have h2 : (zs.map (Value.int .i64))[i]? = some (.int .i64 z) := by rw [List.getElem?_map, h1]; rfl
    have ht := okZ_take h1
    rw [hok, Bool.true_and] at ht
    (repeat refine g_seq ?_); refine g_block ?_
    (repeat refine g_seq ?_)
    refine g_region ?_
    refine g_pu rfl rfl rfl (pu_atM1 i (fun w' hm => hr.mem0 hm) rfl rfl rfl rfl hlt (by omega)) ?_
    refine g_pu rfl rfl rfl (pu_rdM (fun w' hm => hr.mem0 hm) rfl rfl h2) ?_
    refine g_pu rfl rfl rfl (pu_assign rfl rfl) ?_
    refine g_nil ?_
    by_cases hz1 : 1 ≤ z
    · by_cases hz4 : z ≤ 4
      · (repeat refine g_seq ?_)
        refine g_region ?_
        refine g_pu rfl rfl rfl (pu_move rfl rfl) ?_
        first | refine g_pu rfl rfl rfl (pu_lss_t rfl rfl rfl (by omega)) ?_ | refine g_pu rfl rfl rfl (pu_lss_f rfl rfl rfl (by omega)) ?_ | refine g_pu rfl rfl rfl (pu_lss rfl rfl rfl) ?_
        refine g_pu rfl rfl rfl (pu_move rfl rfl) ?_
        first | refine g_pass rfl rfl rfl ?_ | refine g_pu rfl rfl rfl (pu_move rfl rfl) ?_
        first | refine g_pass rfl rfl rfl ?_ | refine g_pu rfl rfl rfl (pu_gtr_t rfl rfl rfl (by omega)) ?_ | refine g_pu rfl rfl rfl (pu_gtr_f rfl rfl rfl (by omega)) ?_ | refine g_pu rfl rfl rfl (pu_gtr rfl rfl rfl) ?_
        first | refine g_pu rfl rfl rfl (pu_pick_t rfl rfl rfl) ?_ | refine g_pu rfl rfl rfl (pu_pick_f rfl rfl rfl) ?_
        refine g_nil ?_
        (repeat refine g_seq ?_)
        refine g_cond_f rfl (g_skip ?_)
        refine g_blk ?_
        (repeat refine g_seq ?_)
        refine g_region ?_
        refine g_pu rfl rfl rfl (pu_addI rfl rfl rfl (by omega)) ?_
        refine g_pu rfl rfl rfl (pu_move rfl rfl) ?_
        refine g_nil ?_
        exact g_round (i + 1) ⟨by omega, by rw [ht]; exact decide_eq_true ⟨hz1, hz4⟩⟩ (by omega) ⟨rfl, rfl, rfl, rfl, rfl, rfl, trivial⟩ trivial
      · obtain ⟨e1, e2⟩ := rds_z (key := key) (b := b) (zs := zs) (fun h => hz4 (okZ_mem h hmem).2)
        rw [e1, e2]
        (repeat refine g_seq ?_)
        refine g_region ?_
        refine g_pu rfl rfl rfl (pu_move rfl rfl) ?_
        first | refine g_pu rfl rfl rfl (pu_lss_t rfl rfl rfl (by omega)) ?_ | refine g_pu rfl rfl rfl (pu_lss_f rfl rfl rfl (by omega)) ?_ | refine g_pu rfl rfl rfl (pu_lss rfl rfl rfl) ?_
        refine g_pu rfl rfl rfl (pu_move rfl rfl) ?_
        first | refine g_pass rfl rfl rfl ?_ | refine g_pu rfl rfl rfl (pu_move rfl rfl) ?_
        first | refine g_pass rfl rfl rfl ?_ | refine g_pu rfl rfl rfl (pu_gtr_t rfl rfl rfl (by omega)) ?_ | refine g_pu rfl rfl rfl (pu_gtr_f rfl rfl rfl (by omega)) ?_ | refine g_pu rfl rfl rfl (pu_gtr rfl rfl rfl) ?_
        first | refine g_pu rfl rfl rfl (pu_pick_t rfl rfl rfl) ?_ | refine g_pu rfl rfl rfl (pu_pick_f rfl rfl rfl) ?_
        refine g_nil ?_
        (repeat refine g_seq ?_)
        refine g_cond_t rfl ?_
        (repeat refine g_seq ?_)
        refine g_region ?_
        refine g_pu rfl rfl rfl (pu_assign rfl rfl) ?_
        refine g_pu rfl rfl rfl (pu_assign rfl rfl) ?_
        refine g_nil ?_
        refine g_nilOwn 90 5 1 rfl ?_
        exact g_ret2 rfl rfl rfl (fun w' hm => ⟨⟨none, 0⟩, trivial, rfl, hm.grows [90] ⟨rfl, trivial⟩ rfl⟩)
    · obtain ⟨e1, e2⟩ := rds_z (key := key) (b := b) (zs := zs) (fun h => hz1 (okZ_mem h hmem).1)
      rw [e1, e2]
      (repeat refine g_seq ?_)
      refine g_region ?_
      refine g_pu rfl rfl rfl (pu_move rfl rfl) ?_
      first | refine g_pu rfl rfl rfl (pu_lss_t rfl rfl rfl (by omega)) ?_ | refine g_pu rfl rfl rfl (pu_lss_f rfl rfl rfl (by omega)) ?_ | refine g_pu rfl rfl rfl (pu_lss rfl rfl rfl) ?_
      refine g_pu rfl rfl rfl (pu_move rfl rfl) ?_
      first | refine g_pass rfl rfl rfl ?_ | refine g_pu rfl rfl rfl (pu_move rfl rfl) ?_
      first | refine g_pass rfl rfl rfl ?_ | refine g_pu rfl rfl rfl (pu_gtr_t rfl rfl rfl (by omega)) ?_ | refine g_pu rfl rfl rfl (pu_gtr_f rfl rfl rfl (by omega)) ?_ | refine g_pu rfl rfl rfl (pu_gtr rfl rfl rfl) ?_
      first | refine g_pu rfl rfl rfl (pu_pick_t rfl rfl rfl) ?_ | refine g_pu rfl rfl rfl (pu_pick_f rfl rfl rfl) ?_
      refine g_nil ?_
      (repeat refine g_seq ?_)
      refine g_cond_t rfl ?_
      (repeat refine g_seq ?_)
      refine g_region ?_
      refine g_pu rfl rfl rfl (pu_assign rfl rfl) ?_
      refine g_pu rfl rfl rfl (pu_assign rfl rfl) ?_
      refine g_nil ?_
      refine g_nilOwn 90 5 1 rfl ?_
      exact g_ret2 rfl rfl rfl (fun w' hm => ⟨⟨none, 0⟩, trivial, rfl, hm.grows [90] ⟨rfl, trivial⟩ rfl⟩)
  · (repeat refine g_seq ?_)
    refine g_region ?_
    first | refine g_pu rfl rfl rfl (pu_lss_t rfl rfl rfl (by omega)) ?_ | refine g_pu rfl rfl rfl (pu_lss_f rfl rfl rfl (by omega)) ?_ | refine g_pu rfl rfl rfl (pu_lss rfl rfl rfl) ?_
    refine g_nil ?_
    (repeat refine g_seq ?_)
    refine g_cond_f rfl (g_exit rfl ?_)
    rw [List.take_of_length_le (by omega)] at hok
    (repeat refine g_seq ?_)
    refine g_region ?_
    refine g_pu rfl rfl rfl (pu_move rfl rfl) ?_
    refine g_pu rfl rfl rfl (pu_move rfl rfl) ?_
    refine g_call [] rfl rfl rfl rfl rfl rfl (fun w' hm => wcheck_b w' p q key.length b.length c d) (fun _ _ => ?_)
    refine g_pu rfl rfl rfl (pu_assign rfl rfl) ?_
    refine g_nil ?_
    by_cases hf : fitsB key.length b.length = true
    · obtain ⟨e1, e2⟩ := rds_ok hok hf
      obtain ⟨f1, f2, f3⟩ := (fitsB_iff _ _).1 hf
      rw [e1, e2, if_pos hf]
      (repeat refine g_seq ?_)
      refine g_region ?_
      refine g_pu rfl rfl rfl (pu_move rfl rfl) ?_
      first | refine g_pu rfl rfl rfl (pu_neq_t rfl rfl rfl (by omega)) ?_ | refine g_pu rfl rfl rfl (pu_neq_f rfl rfl rfl (by omega)) ?_ | refine g_pu rfl rfl rfl (pu_neq rfl rfl rfl) ?_
      refine g_nil ?_
      (repeat refine g_seq ?_)
      refine g_cond_f rfl (g_skip ?_)
      (repeat refine g_seq ?_)
      refine g_region ?_
      refine g_pu rfl rfl rfl (pu_move rfl rfl) ?_
      refine g_lo [35] rfl rfl rfl rfl (lo_buildSlice rfl rfl (by decide) (by decide) rfl rfl) (fun b35 hb35 => ?_)
      refine g_call [36] rfl rfl rfl rfl rfl rfl (fun w' hm => Derive_b w' c 4 (ss := wlabs) (hk.m hm) (hm.rowA 35 (L := wlabs.map Value.string) rfl) rfl (by omega) (by omega) wlabs_size) (fun x36 _ => ?_)
      refine g_pu rfl rfl rfl (pu_assign rfl rfl) ?_
      refine g_nil ?_
      (repeat refine g_seq ?_)
      refine g_region ?_
      refine g_pu rfl rfl rfl (pu_move rfl rfl) ?_
      refine g_call [38] rfl rfl rfl rfl rfl rfl (fun w' hm => Clone_b w' d (hb.m hm)) (fun x38 _ => ?_)
      refine g_pu rfl rfl rfl (pu_assign rfl rfl) ?_
      refine g_nil ?_
      refine g_row 38 rfl (by rw [bs_length]; omega) (fun bb J hp hJ hcap => ?_)
      obtain ⟨xp, xc⟩ := x38
      simp only at hp hJ hcap
      subst hp
      have hcc : b.length ≤ xc := by have := hJ.1; rw [bs_length] at this; omega
      have hdl : (bs (drvs key wlabs)).length = 4 * 32 := by rw [bs_length, drvs_length]; rfl
      (repeat refine g_seq ?_)
      refine g_region ?_
      refine g_pu rfl rfl rfl (pu_move rfl rfl) ?_
      first | refine g_pu rfl rfl rfl (pu_len rfl rfl) ?_ | refine g_pu rfl rfl rfl (pu_lenS rfl rfl) ?_
      refine g_pu rfl rfl rfl (pu_move rfl rfl) ?_
      refine g_nil ?_
      (repeat refine g_seq ?_)
      refine g_block (g_loop2 (fun (i : Nat) (l : List (BitVec 8)) => [(11, x36.sl 4), (12, .slice (some ⟨bb, 0, none⟩) b.length xc), (39, .slice r k e), (40, .int .i64 (k : Int)), (41, .int .i64 (i : Int))]) (fun _ l => [(36, x36.ck 51 32 (bs (drvs key wlabs))), (38, .pt bb (.cells (bs l ++ J).toArray 5 (0, 0)))]) (fun i l => i ≤ k ∧ l.length = b.length ∧ l = rdsL key (zs.take i) b) (fun i _ => k - i) 0 b ⟨rfl, rfl, rfl, rfl, rfl, trivial⟩ ⟨rfl, rfl, trivial⟩ ⟨by omega, rfl, rfl⟩ ?_)
      intro i l ⟨hi, hll, hl⟩
      by_cases hlt2 : i < k
      · (repeat refine g_seq ?_)
        refine g_region ?_
        first | refine g_pu rfl rfl rfl (pu_lss_t rfl rfl rfl (by omega)) ?_ | refine g_pu rfl rfl rfl (pu_lss_f rfl rfl rfl (by omega)) ?_ | refine g_pu rfl rfl rfl (pu_lss rfl rfl rfl) ?_
        refine g_nil ?_
        (repeat refine g_seq ?_)
        refine g_cond_t rfl (g_skip ?_)
        have h1 : zs[i]? = some zs[i] := List.getElem?_eq_getElem (by omega)
        have hzz := okZ_mem hok (List.getElem_mem (l := zs) (n := i) (by omega))
        generalize zs[i] = z at h1 hzz
        obtain ⟨zn, rfl⟩ := Int.eq_ofNat_of_zero_le (show 0 ≤ z by omega)
        have h2 : (zs.map (Value.int .i64))[i]? = some (.int .i64 (zn : Int)) := by rw [List.getElem?_map, h1]; rfl
        have ht : rdsL key (zs.take (i + 1)) b = rdL zn (wk key zn) l := by rw [rdsL_take h1, ← hl]; rfl
        have hwl := wk_length key zn
        have hrl := rdL_length zn (wk key zn) (b := l) (by omega)
        have hcell : ((bs (drvs key wlabs)).drop ((zn - 1) * 32)).take 32 = bs (wk key zn) := drvs_cell (by omega)
        (repeat refine g_seq ?_); refine g_block ?_
        (repeat refine g_seq ?_)
        refine g_region ?_
        refine g_pu rfl rfl rfl (pu_atM1 i (fun w' hm => hr.mem0 hm) rfl rfl rfl rfl hlt2 (by omega)) ?_
        refine g_pu rfl rfl rfl (pu_rdM (fun w' hm => hr.mem0 hm) rfl rfl h2) ?_
        refine g_pu rfl rfl rfl (pu_assign rfl rfl) ?_
        refine g_nil ?_
        (repeat refine g_seq ?_)
        refine g_region ?_
        refine g_pu rfl rfl rfl (pu_move rfl rfl) ?_
        refine g_pu rfl rfl rfl (pu_move rfl rfl) ?_
        refine g_pu rfl rfl rfl (pu_move rfl rfl) ?_
        refine g_pu rfl rfl rfl (pu_subI rfl rfl rfl (by omega)) ?_
        refine g_pu rfl rfl rfl (pu_atM (zn - 1) (s := 32) (L := bs (drvs key wlabs)) (fun w' hm => Ow.rd (t := 36) rfl hm) rfl rfl rfl (by omega) (by omega) (by omega)) ?_
        refine g_pu rfl rfl rfl (pu_rdMA (L := bs (drvs key wlabs)) (j := (zn - 1) * 32) (s := 32) (fun w' hm => Ow.rd (t := 36) rfl hm) rfl rfl (by omega) (by omega)) ?_
        rw [hcell]
        refine g_pu rfl rfl rfl (pu_move rfl rfl) ?_
        refine g_callW [38] [38] rfl rfl rfl rfl rfl rfl (fun j hj => ⟨38, by simp, _, rfl, hj⟩) (fun w' hm => wround_b w' bb xc zn (hm.holds 38 _ rfl) hwl hll f2 f3 hcc) (fun _ _ => ?_)
        refine g_nil ?_
        refine g_blk ?_
        (repeat refine g_seq ?_)
        refine g_region ?_
        refine g_pu rfl rfl rfl (pu_addI rfl rfl rfl (by omega)) ?_
        refine g_pu rfl rfl rfl (pu_move rfl rfl) ?_
        refine g_nil ?_
        exact g_round2 (i + 1) (rdL zn (wk key zn) l) ⟨by omega, by rw [hrl, hll], ht.symm⟩ (by omega) ⟨rfl, rfl, rfl, rfl, rfl, trivial⟩ ⟨rfl, rfl, trivial⟩
      · (repeat refine g_seq ?_)
        refine g_region ?_
        first | refine g_pu rfl rfl rfl (pu_lss_t rfl rfl rfl (by omega)) ?_ | refine g_pu rfl rfl rfl (pu_lss_f rfl rfl rfl (by omega)) ?_ | refine g_pu rfl rfl rfl (pu_lss rfl rfl rfl) ?_
        refine g_nil ?_
        (repeat refine g_seq ?_)
        refine g_cond_f rfl (g_exit rfl ?_)
        rw [List.take_of_length_le (by omega)] at hl
        rw [← hl, hll]
        (repeat refine g_seq ?_)
        refine g_region ?_
        refine g_pu rfl rfl rfl (pu_move rfl rfl) ?_
        refine g_pu rfl rfl rfl (pu_assign rfl rfl) ?_
        refine g_pu rfl rfl rfl (pu_assign rfl rfl) ?_
        refine g_nil ?_
        refine g_own 38 (L := bs l) (J := J) (c := xc) (s := 1) rfl (by rw [List.length_append, bs_length, hll]; rw [List.length_append, bs_length] at hJ; exact hJ) hcap ?_
        exact g_ret2 rfl rfl rfl (fun w' hm => ⟨⟨some ⟨bb, 0, none⟩, xc⟩, trivial, rfl, hm.grows [38] ⟨rfl, trivial⟩ rfl⟩)
    · obtain ⟨e1, e2⟩ := rds_s hok hf
      rw [e1, e2, if_neg hf]
      (repeat refine g_seq ?_)
      refine g_region ?_
      refine g_pu rfl rfl rfl (pu_move rfl rfl) ?_
      first | refine g_pu rfl rfl rfl (pu_neq_t rfl rfl rfl (by omega)) ?_ | refine g_pu rfl rfl rfl (pu_neq_f rfl rfl rfl (by omega)) ?_ | refine g_pu rfl rfl rfl (pu_neq rfl rfl rfl) ?_
      refine g_nil ?_
      (repeat refine g_seq ?_)
      refine g_cond_t rfl ?_
      (repeat refine g_seq ?_)
      refine g_region ?_
      refine g_pu rfl rfl rfl (pu_move rfl rfl) ?_
      refine g_pu rfl rfl rfl (pu_assign rfl rfl) ?_
      refine g_pu rfl rfl rfl (pu_assign rfl rfl) ?_
      refine g_nil ?_
      refine g_nilOwn 90 5 1 rfl ?_
      exact g_ret2 rfl rfl rfl (fun w' hm => ⟨⟨none, 0⟩, trivial, rfl, hm.grows [90] ⟨rfl, trivial⟩ rfl⟩)
end Go.Sx

/-
  The rounds of the wide cipher, of the document; sealing and opening of both. The lists fit memory.
-/
namespace Go.Sx
open Go Go.Proofs

theorem wl_cell {i : Nat} (h : i < 4) : (wlabs.map Value.string).toArray[0 + i]? = some (.string (wlab i)) := by
  rw [Nat.zero_add, List.getElem?_toArray, List.getElem?_map, wlabs_get h]; rfl
theorem By.preW {w : World} {p : Option Addr} {n : Nat} {l : List (BitVec 8)} (h : By w p n l) {k : Nat} (hk : k ≤ n) : By w p k (l.take k) :=
  ⟨RdV.take (L' := bs (l.drop k)) (by rw [← bs_append, List.take_append_drop]; exact h.rd), by rw [List.length_take, h.len]; omega, by have := h.big; omega⟩
theorem split32 {b : List (BitVec 8)} : b.take 32 ++ b.drop 32 = b := List.take_append_drop 32 b

theorem RRounds_b (w : World) {p q r : Option Addr} {n m k : Nat} (c d e : Nat) {key b : List (BitVec 8)} {zs : List Int} (hk : By w p n key) (hb : By w q m b) (hr : RdV w r (zs.map (Value.int .i64))) (hz : zs.length = k) (hkb : k ≤ 1152921504606846976) (hmd : m ≤ d) :
    Spec Try.prog 10 #[.slice p n c, .slice q m d, .slice r k e] w (σ := Ow) (fun _ => True) (fun x => .tuple #[x.sl (rdsV key b zs).length, .int .i64 (rdsE n m zs)]) Nob (fun x => [x.ck 5 1 (bs (rdsV key b zs))]) := by
  have hkl := hk.len
  have hbl := hb.len
  subst hkl hbl
  refine enter Try.func10 rfl rfl (Mem.start w) ?_
  have hzl : (zs.map (Value.int .i64)).length = k := by rw [List.length_map, hz]
  (repeat refine g_seq ?_)
  refine g_region ?_
  refine g_pu rfl rfl rfl (pu_assign rfl rfl) ?_
  refine g_pu rfl rfl rfl (pu_assign rfl rfl) ?_
  refine g_nil ?_
  (repeat refine g_seq ?_)
  refine g_region ?_
  refine g_pu rfl rfl rfl (pu_assign rfl rfl) ?_
  refine g_nil ?_
  (repeat refine g_seq ?_)
  refine g_block (g_loop (σ := Nat) (fun i => [(0, .slice p key.length c), (1, .slice q b.length d), (2, .slice r k e), (8, .int .i64 (i : Int))]) (fun _ => []) (fun i => i ≤ k ∧ okZ (zs.take i) = true) (fun i => k - i) 0 ⟨rfl, rfl, rfl, rfl, trivial⟩ trivial ⟨by omega, rfl⟩ ?_)
  intro i ⟨hi, hok⟩
  by_cases hlt : i < k
  · (repeat refine g_seq ?_)
    refine g_region ?_
    refine g_pu rfl rfl rfl (pu_move rfl rfl) ?_
    refine g_pu rfl rfl rfl (pu_move rfl rfl) ?_
    first | refine g_pu rfl rfl rfl (pu_len rfl rfl) ?_ | refine g_pu rfl rfl rfl (pu_lenS rfl rfl) ?_
    first | refine g_pu rfl rfl rfl (pu_lss_t rfl rfl rfl (by omega)) ?_ | refine g_pu rfl rfl rfl (pu_lss_f rfl rfl rfl (by omega)) ?_ | refine g_pu rfl rfl rfl (pu_lss rfl rfl rfl) ?_
    refine g_nil ?_
    (repeat refine g_seq ?_)
    refine g_cond_t rfl (g_skip ?_)
    have h1 : zs[i]? = some zs[i] := List.getElem?_eq_getElem (by omega)
    have hmem := List.getElem_mem (l := zs) (n := i) (by omega)
    generalize zs[i] = z at h1 hmem
    have h2 : (zs.map (Value.int .i64))[i]? = some (.int .i64 z) := by rw [List.getElem?_map, h1]; rfl
    have ht := okZ_take h1
    rw [hok, Bool.true_and] at ht
    (repeat refine g_seq ?_); refine g_block ?_
    by_cases hz1 : 1 ≤ z
    · by_cases hz4 : z ≤ 4
      · (repeat refine g_seq ?_)
        refine g_region ?_
        refine g_pu rfl rfl rfl (pu_move rfl rfl) ?_
        refine g_pu rfl rfl rfl (pu_move rfl rfl) ?_
        refine g_pu rfl rfl rfl (pu_atM1 i (fun w' hm => hr.mem0 hm) rfl rfl rfl rfl hlt (by omega)) ?_
        refine g_pu rfl rfl rfl (pu_rdM (fun w' hm => hr.mem0 hm) rfl rfl h2) ?_
        first | refine g_pu rfl rfl rfl (pu_lss_t rfl rfl rfl (by omega)) ?_ | refine g_pu rfl rfl rfl (pu_lss_f rfl rfl rfl (by omega)) ?_ | refine g_pu rfl rfl rfl (pu_lss rfl rfl rfl) ?_
        refine g_pu rfl rfl rfl (pu_move rfl rfl) ?_
        first | refine g_pass rfl rfl rfl ?_ | refine g_pu rfl rfl rfl (pu_move rfl rfl) ?_
        first | refine g_pass rfl rfl rfl ?_ | refine g_pu rfl rfl rfl (pu_move rfl rfl) ?_
        refine g_pu rfl rfl rfl (pu_atM1 i (fun w' hm => hr.mem0 hm) rfl rfl rfl rfl hlt (by omega)) ?_
        refine g_pu rfl rfl rfl (pu_rdM (fun w' hm => hr.mem0 hm) rfl rfl h2) ?_
        first | refine g_pass rfl rfl rfl ?_ | refine g_pu rfl rfl rfl (pu_gtr_t rfl rfl rfl (by omega)) ?_ | refine g_pu rfl rfl rfl (pu_gtr_f rfl rfl rfl (by omega)) ?_ | refine g_pu rfl rfl rfl (pu_gtr rfl rfl rfl) ?_
        first | refine g_pu rfl rfl rfl (pu_pick_t rfl rfl rfl) ?_ | refine g_pu rfl rfl rfl (pu_pick_f rfl rfl rfl) ?_
        refine g_nil ?_
        (repeat refine g_seq ?_)
        refine g_cond_f rfl (g_skip ?_)
        refine g_blk ?_
        (repeat refine g_seq ?_)
        refine g_region ?_
        refine g_pu rfl rfl rfl (pu_move rfl rfl) ?_
        refine g_pu rfl rfl rfl (pu_addI rfl rfl rfl (by omega)) ?_
        refine g_pu rfl rfl rfl (pu_assign rfl rfl) ?_
        refine g_nil ?_
        exact g_round (i + 1) ⟨by omega, by rw [ht]; exact decide_eq_true ⟨hz1, hz4⟩⟩ (by omega) ⟨rfl, rfl, rfl, rfl, trivial⟩ trivial
      · obtain ⟨e1, e2⟩ := rds_z (key := key) (b := b) (zs := zs) (fun h => hz4 (okZ_mem h hmem).2)
        rw [e1, e2]
        (repeat refine g_seq ?_)
        refine g_region ?_
        refine g_pu rfl rfl rfl (pu_move rfl rfl) ?_
        refine g_pu rfl rfl rfl (pu_move rfl rfl) ?_
        refine g_pu rfl rfl rfl (pu_atM1 i (fun w' hm => hr.mem0 hm) rfl rfl rfl rfl hlt (by omega)) ?_
        refine g_pu rfl rfl rfl (pu_rdM (fun w' hm => hr.mem0 hm) rfl rfl h2) ?_
        first | refine g_pu rfl rfl rfl (pu_lss_t rfl rfl rfl (by omega)) ?_ | refine g_pu rfl rfl rfl (pu_lss_f rfl rfl rfl (by omega)) ?_ | refine g_pu rfl rfl rfl (pu_lss rfl rfl rfl) ?_
        refine g_pu rfl rfl rfl (pu_move rfl rfl) ?_
        first | refine g_pass rfl rfl rfl ?_ | refine g_pu rfl rfl rfl (pu_move rfl rfl) ?_
        first | refine g_pass rfl rfl rfl ?_ | refine g_pu rfl rfl rfl (pu_move rfl rfl) ?_
        refine g_pu rfl rfl rfl (pu_atM1 i (fun w' hm => hr.mem0 hm) rfl rfl rfl rfl hlt (by omega)) ?_
        refine g_pu rfl rfl rfl (pu_rdM (fun w' hm => hr.mem0 hm) rfl rfl h2) ?_
        first | refine g_pass rfl rfl rfl ?_ | refine g_pu rfl rfl rfl (pu_gtr_t rfl rfl rfl (by omega)) ?_ | refine g_pu rfl rfl rfl (pu_gtr_f rfl rfl rfl (by omega)) ?_ | refine g_pu rfl rfl rfl (pu_gtr rfl rfl rfl) ?_
        first | refine g_pu rfl rfl rfl (pu_pick_t rfl rfl rfl) ?_ | refine g_pu rfl rfl rfl (pu_pick_f rfl rfl rfl) ?_
        refine g_nil ?_
        (repeat refine g_seq ?_)
        refine g_cond_t rfl ?_
        (repeat refine g_seq ?_)
        refine g_region ?_
        refine g_pu rfl rfl rfl (pu_assign rfl rfl) ?_
        refine g_pu rfl rfl rfl (pu_assign rfl rfl) ?_
        refine g_nil ?_
        refine g_nilOwn 90 5 1 rfl ?_
        exact g_ret2 rfl rfl rfl (fun w' hm => ⟨⟨none, 0⟩, trivial, rfl, hm.grows [90] ⟨rfl, trivial⟩ rfl⟩)
    · obtain ⟨e1, e2⟩ := rds_z (key := key) (b := b) (zs := zs) (fun h => hz1 (okZ_mem h hmem).1)
      rw [e1, e2]
      (repeat refine g_seq ?_)
      refine g_region ?_
      refine g_pu rfl rfl rfl (pu_move rfl rfl) ?_
      refine g_pu rfl rfl rfl (pu_move rfl rfl) ?_
      refine g_pu rfl rfl rfl (pu_atM1 i (fun w' hm => hr.mem0 hm) rfl rfl rfl rfl hlt (by omega)) ?_
      refine g_pu rfl rfl rfl (pu_rdM (fun w' hm => hr.mem0 hm) rfl rfl h2) ?_
      first | refine g_pu rfl rfl rfl (pu_lss_t rfl rfl rfl (by omega)) ?_ | refine g_pu rfl rfl rfl (pu_lss_f rfl rfl rfl (by omega)) ?_ | refine g_pu rfl rfl rfl (pu_lss rfl rfl rfl) ?_
      refine g_pu rfl rfl rfl (pu_move rfl rfl) ?_
      first | refine g_pass rfl rfl rfl ?_ | refine g_pu rfl rfl rfl (pu_move rfl rfl) ?_
      first | refine g_pass rfl rfl rfl ?_ | refine g_pu rfl rfl rfl (pu_move rfl rfl) ?_
      refine g_pass rfl rfl rfl ?_
      refine g_pass rfl rfl rfl ?_
      first | refine g_pass rfl rfl rfl ?_ | refine g_pu rfl rfl rfl (pu_gtr_t rfl rfl rfl (by omega)) ?_ | refine g_pu rfl rfl rfl (pu_gtr_f rfl rfl rfl (by omega)) ?_ | refine g_pu rfl rfl rfl (pu_gtr rfl rfl rfl) ?_
      first | refine g_pu rfl rfl rfl (pu_pick_t rfl rfl rfl) ?_ | refine g_pu rfl rfl rfl (pu_pick_f rfl rfl rfl) ?_
      refine g_nil ?_
      (repeat refine g_seq ?_)
      refine g_cond_t rfl ?_
      (repeat refine g_seq ?_)
      refine g_region ?_
      refine g_pu rfl rfl rfl (pu_assign rfl rfl) ?_
      refine g_pu rfl rfl rfl (pu_assign rfl rfl) ?_
      refine g_nil ?_
      refine g_nilOwn 90 5 1 rfl ?_
      exact g_ret2 rfl rfl rfl (fun w' hm => ⟨⟨none, 0⟩, trivial, rfl, hm.grows [90] ⟨rfl, trivial⟩ rfl⟩)
  · (repeat refine g_seq ?_)
    refine g_region ?_
    refine g_pu rfl rfl rfl (pu_move rfl rfl) ?_
    refine g_pu rfl rfl rfl (pu_move rfl rfl) ?_
    first | refine g_pu rfl rfl rfl (pu_len rfl rfl) ?_ | refine g_pu rfl rfl rfl (pu_lenS rfl rfl) ?_
    first | refine g_pu rfl rfl rfl (pu_lss_t rfl rfl rfl (by omega)) ?_ | refine g_pu rfl rfl rfl (pu_lss_f rfl rfl rfl (by omega)) ?_ | refine g_pu rfl rfl rfl (pu_lss rfl rfl rfl) ?_
    refine g_nil ?_
    (repeat refine g_seq ?_)
    refine g_cond_f rfl (g_exit rfl ?_)
    rw [List.take_of_length_le (by omega)] at hok
    by_cases hf : fitsB key.length b.length = true
    · obtain ⟨e1, e2⟩ := rds_ok hok hf
      obtain ⟨f1, f2, f3⟩ := (fitsB_iff _ _).1 hf
      rw [e1, e2]
      (repeat refine g_seq ?_)
      refine g_region ?_
      refine g_pu rfl rfl rfl (pu_move rfl rfl) ?_
      refine g_pu rfl rfl rfl (pu_move rfl rfl) ?_
      refine g_call [] rfl rfl rfl rfl rfl rfl (fun w' hm => fits07_b w' p q key.length b.length c d) (fun _ _ => ?_)
      rw [hf]
      refine g_pu rfl rfl rfl (pu_not rfl rfl) ?_
      refine g_nil ?_
      (repeat refine g_seq ?_)
      refine g_cond_f rfl (g_skip ?_)
      have ht := take32 f2
      have hd : (b.drop 32).length = b.length - 32 := List.length_drop ..
      (repeat refine g_seq ?_)
      refine g_region ?_
      refine g_pu rfl rfl rfl (pu_buildA (cs := wlabs.map Value.string) rfl rfl rfl rfl rfl) ?_
      refine g_lo [9] rfl rfl rfl rfl (lo_alloc rfl) (fun b9 hb9 => ?_)
      refine g_storeL 9 (s := 4) (C := wlabs.map Value.string) rfl rfl rfl rfl rfl rfl rfl rfl (fun u hu => by obtain ⟨s, _, rfl⟩ := List.mem_map.1 hu; rfl) ?_
      refine g_nil ?_
      (repeat refine g_seq ?_)
      refine g_region ?_
      refine g_pu rfl rfl rfl (pu_move rfl rfl) ?_
      refine g_pu rfl rfl rfl (pu_slice_h 32 rfl rfl rfl rfl (by omega)) ?_
      refine g_call [43] rfl rfl rfl rfl rfl rfl (fun w' hm => Copy_b w' d (l := b.take 32) ((hb.m hm).preW (by omega))) (fun x43 _ => ?_)
      refine g_pu rfl rfl rfl (pu_assign rfl rfl) ?_
      refine g_nil ?_
      (repeat refine g_seq ?_)
      refine g_region ?_
      refine g_pu rfl rfl rfl (pu_move rfl rfl) ?_
      refine g_pu rfl rfl rfl (pu_slice_l 32 rfl rfl rfl rfl (by omega)) ?_
      refine g_call [46] rfl rfl rfl rfl rfl rfl (fun w' hm => Copy_b w' (d - 32) (l := b.drop 32) ((hb.m hm).cut hmd 32)) (fun x46 _ => ?_)
      refine g_pu rfl rfl rfl (pu_assign rfl rfl) ?_
      refine g_nil ?_
      (repeat refine g_seq ?_)
      refine g_region ?_
      refine g_pu rfl rfl rfl (pu_assign rfl rfl) ?_
      refine g_nil ?_
      (repeat refine g_seq ?_)
      refine g_block (g_loop4 (fun (i : Nat) (l : List (BitVec 8)) (x y : Ow) => [(0, .slice p key.length c), (2, .slice r k e), (9, .pointer (some ⟨b9, 0, none⟩)), (10, x.sl 32), (11, y.sl (b.length - 32)), (12, .int .i64 (i : Int))]) (fun _ l x y => [(9, .pt b9 (.cells (wlabs.map Value.string).toArray 52 (0, 0))), (43, x.ck 5 1 (bs (l.take 32))), (46, y.ck 5 1 (bs (l.drop 32)))]) (fun i l _ _ => i ≤ k ∧ l.length = b.length ∧ l = rdsL key (zs.take i) b) (fun i _ _ _ => k - i) 0 b x43 x46 ⟨rfl, rfl, rfl, rfl, rfl, rfl, trivial⟩ ⟨rfl, rfl, rfl, trivial⟩ ⟨by omega, rfl, rfl⟩ ?_)
      intro i l x y ⟨hi, hll, hl⟩
      have hlt32 := take32 (b := l) (by omega)
      have hld : (l.drop 32).length = b.length - 32 := by rw [List.length_drop, hll]
      by_cases hlt2 : i < k
      · (repeat refine g_seq ?_)
        refine g_region ?_
        refine g_pu rfl rfl rfl (pu_move rfl rfl) ?_
        refine g_pu rfl rfl rfl (pu_move rfl rfl) ?_
        first | refine g_pu rfl rfl rfl (pu_len rfl rfl) ?_ | refine g_pu rfl rfl rfl (pu_lenS rfl rfl) ?_
        first | refine g_pu rfl rfl rfl (pu_lss_t rfl rfl rfl (by omega)) ?_ | refine g_pu rfl rfl rfl (pu_lss_f rfl rfl rfl (by omega)) ?_ | refine g_pu rfl rfl rfl (pu_lss rfl rfl rfl) ?_
        refine g_nil ?_
        (repeat refine g_seq ?_)
        refine g_cond_t rfl (g_skip ?_)
        have h1 : zs[i]? = some zs[i] := List.getElem?_eq_getElem (by omega)
        have hzz := okZ_mem hok (List.getElem_mem (l := zs) (n := i) (by omega))
        generalize zs[i] = z at h1 hzz
        obtain ⟨zn, rfl⟩ := Int.eq_ofNat_of_zero_le (show 0 ≤ z by omega)
        have h2 : (zs.map (Value.int .i64))[i]? = some (.int .i64 (zn : Int)) := by rw [List.getElem?_map, h1]; rfl
        have hrt : rdsL key (zs.take (i + 1)) b = rdL zn (wk key zn) l := by rw [rdsL_take h1, ← hl]; rfl
        have hwl := wk_length key zn
        have hrl := rdL_length zn (wk key zn) (b := l) (by omega)
        have hwb : (bs (wk key zn)).length = 32 := by rw [bs_length, hwl]
        (repeat refine g_seq ?_); refine g_block ?_
        (repeat refine g_seq ?_)
        refine g_region ?_
        refine g_pu rfl rfl rfl (pu_move rfl rfl) ?_
        refine g_pu rfl rfl rfl (pu_move rfl rfl) ?_
        refine g_pu rfl rfl rfl (pu_move rfl rfl) ?_
        refine g_pu rfl rfl rfl (pu_atM1 i (fun w' hm => hr.mem0 hm) rfl rfl rfl rfl hlt2 (by omega)) ?_
        refine g_pu rfl rfl rfl (pu_rdM (fun w' hm => hr.mem0 hm) rfl rfl h2) ?_
        refine g_pu rfl rfl rfl (pu_subI rfl rfl rfl (by omega)) ?_
        refine g_pu rfl rfl rfl (pu_atA1 (zn - 1) rfl rfl rfl (by omega) (by omega)) ?_
        refine g_pu rfl rfl rfl (pu_load 9 (v := .string (wlab (zn - 1))) rfl rfl rfl (wl_cell (by omega))) ?_
        refine g_call [] rfl rfl rfl rfl rfl rfl (fun w' hm => RDerive_b w' c (wlab (zn - 1)) (hk.m hm) (by omega) (by rw [wlab_size]; omega)) (fun _ _ => ?_)
        refine g_lo [13] rfl rfl rfl rfl (lo_alloc rfl) (fun b13 hb13 => ?_)
        refine g_storeL 13 (s := 32) (C := bs (wk key zn)) rfl rfl rfl rfl rfl rfl hwb rfl (oneCell_bs _) ?_
        refine g_nil ?_
        (repeat refine g_seq ?_)
        refine g_region ?_
        refine g_lo [62] rfl rfl rfl rfl (lo_make (n := 0) (c := 0) rfl rfl rfl (by omega) (by omega) (by omega) rfl) (fun b62 hb62 => ?_)
        refine g_pu rfl rfl rfl (pu_assign rfl rfl) ?_
        refine g_nil ?_
        by_cases hodd : zn % 2 = 0
        · have hV := (xorV_two (a := l.take 32) (b := hmacL (wk key zn) (l.drop 32)) (by rw [hmacL_length, hlt32])).1
          have hVl : (xorL (l.take 32) (hmacL (wk key zn) (l.drop 32))).length = 32 := by rw [xorL_length (by rw [hmacL_length, hlt32]), hlt32]
          have hhl := hmacL_length (wk key zn) (l.drop 32)
          have hhb : (bs (hmacL (wk key zn) (l.drop 32))).length = 32 := by rw [bs_length, hhl]
          have hre := rdL_even hodd (wk key zn) l
          (repeat refine g_seq ?_)
          refine g_region ?_
          refine g_pu rfl rfl rfl (pu_move rfl rfl) ?_
          refine g_pu rfl rfl rfl (pu_move rfl rfl) ?_
          refine g_pu rfl rfl rfl (pu_atM1 i (fun w' hm => hr.mem0 hm) rfl rfl rfl rfl hlt2 (by omega)) ?_
          refine g_pu rfl rfl rfl (pu_rdM (fun w' hm => hr.mem0 hm) rfl rfl h2) ?_
          refine g_pu rfl rfl rfl (pu_remI rfl rfl rfl (by omega)) ?_
          first | refine g_pu rfl rfl rfl (pu_eql_t rfl rfl rfl (by omega)) ?_ | refine g_pu rfl rfl rfl (pu_eql_f rfl rfl rfl (by omega)) ?_ | refine g_pu rfl rfl rfl (pu_eql rfl rfl rfl) ?_
          refine g_nil ?_
          (repeat refine g_seq ?_)
          refine g_cond_f rfl ?_
          (repeat refine g_seq ?_)
          refine g_region ?_
          refine g_pu rfl rfl rfl (pu_sliceA rfl rfl) ?_
          refine g_pu rfl rfl rfl (pu_move rfl rfl) ?_
          refine g_call [] rfl rfl rfl rfl rfl rfl (fun w' hm => RTag_b w' 32 y.c (By.full 13 rfl hm hwl (by omega)) (By.ow 46 rfl hm hld (by omega)) (by omega) (by omega)) (fun _ _ => ?_)
          refine g_lo [17] rfl rfl rfl rfl (lo_alloc rfl) (fun b17 hb17 => ?_)
          refine g_storeL 17 (s := 32) (C := bs (hmacL (wk key zn) (l.drop 32))) rfl rfl rfl rfl rfl rfl hhb rfl (oneCell_bs _) ?_
          refine g_nil ?_
          (repeat refine g_seq ?_)
          refine g_region ?_
          refine g_pu rfl rfl rfl (pu_sliceA rfl rfl) ?_
          refine g_pu rfl rfl rfl (pu_assign rfl rfl) ?_
          refine g_nil ?_
          (repeat refine g_seq ?_)
          refine g_region ?_
          refine g_pu rfl rfl rfl (pu_move rfl rfl) ?_
          refine g_pu rfl rfl rfl (pu_move rfl rfl) ?_
          refine g_lo [94] rfl rfl rfl rfl (lo_buildSlice rfl rfl (by decide) (by decide) rfl rfl) (fun b94 hb94 => ?_)
          refine g_call [95] rfl rfl rfl rfl rfl rfl (fun w' hm => RXor_b w' 2 (L := [x.sl 32, .slice (some ⟨b17, 0, none⟩) 32 32]) (ls := [l.take 32, hmacL (wk key zn) (l.drop 32)]) ⟨hm.rowA 94 rfl, rfl, All2.cons (IsB.own 43 rfl hm hlt32 (by omega)) (All2.cons (IsB.full 17 rfl hm hhl (by omega)) All2.nil), by omega⟩) (fun x95 _ => ?_)
          rw [hV, hVl]
          refine g_pu rfl rfl rfl (pu_move rfl rfl) ?_
          refine g_pu rfl rfl rfl (pu_extract rfl rfl rfl) ?_
          refine g_pu rfl rfl rfl (pu_extract rfl rfl rfl) ?_
          refine g_pu rfl rfl rfl (pu_assign rfl rfl) ?_
          refine g_nil ?_
          have e3 : (rdL zn (wk key zn) l).take 32 = xorL (l.take 32) (hmacL (wk key zn) (l.drop 32)) := by rw [hre, List.take_left' hVl]
          have e4 : (rdL zn (wk key zn) l).drop 32 = l.drop 32 := by rw [hre, List.drop_left' hVl]
          rw [← e3, ← e4]
          refine g_retag 95 43 _ rfl rfl ?_
          refine g_blk ?_
          (repeat refine g_seq ?_)
          refine g_region ?_
          refine g_pu rfl rfl rfl (pu_move rfl rfl) ?_
          refine g_pu rfl rfl rfl (pu_addI rfl rfl rfl (by omega)) ?_
          refine g_pu rfl rfl rfl (pu_assign rfl rfl) ?_
          refine g_nil ?_
          exact g_round4 (i + 1) (rdL zn (wk key zn) l) x95 y ⟨by omega, by rw [hrl, hll], hrt.symm⟩ (by omega) ⟨rfl, rfl, rfl, rfl, rfl, rfl, trivial⟩ ⟨rfl, rfl, rfl, trivial⟩
        · have hV := (xorV_two (a := l.take 32) (b := wk key zn) (by rw [hwl, hlt32])).1
          have hVl : (xorL (l.take 32) (wk key zn)).length = 32 := by rw [xorL_length (by rw [hwl, hlt32]), hlt32]
          have hre := rdL_odd hodd (wk key zn) l
          rw [hll] at hre
          (repeat refine g_seq ?_)
          refine g_region ?_
          refine g_pu rfl rfl rfl (pu_move rfl rfl) ?_
          refine g_pu rfl rfl rfl (pu_move rfl rfl) ?_
          refine g_pu rfl rfl rfl (pu_atM1 i (fun w' hm => hr.mem0 hm) rfl rfl rfl rfl hlt2 (by omega)) ?_
          refine g_pu rfl rfl rfl (pu_rdM (fun w' hm => hr.mem0 hm) rfl rfl h2) ?_
          refine g_pu rfl rfl rfl (pu_remI rfl rfl rfl (by omega)) ?_
          first | refine g_pu rfl rfl rfl (pu_eql_t rfl rfl rfl (by omega)) ?_ | refine g_pu rfl rfl rfl (pu_eql_f rfl rfl rfl (by omega)) ?_ | refine g_pu rfl rfl rfl (pu_eql rfl rfl rfl) ?_
          refine g_nil ?_
          (repeat refine g_seq ?_)
          refine g_cond_t rfl ?_
          (repeat refine g_seq ?_)
          refine g_region ?_
          refine g_pu rfl rfl rfl (pu_move rfl rfl) ?_
          refine g_pu rfl rfl rfl (pu_sliceA rfl rfl) ?_
          refine g_lo [72] rfl rfl rfl rfl (lo_buildSlice rfl rfl (by decide) (by decide) rfl rfl) (fun b72 hb72 => ?_)
          refine g_call [73] rfl rfl rfl rfl rfl rfl (fun w' hm => RXor_b w' 2 (L := [x.sl 32, .slice (some ⟨b13, 0, none⟩) 32 32]) (ls := [l.take 32, wk key zn]) ⟨hm.rowA 72 rfl, rfl, All2.cons (IsB.own 43 rfl hm hlt32 (by omega)) (All2.cons (IsB.full 13 rfl hm hwl (by omega)) All2.nil), by omega⟩) (fun x73 _ => ?_)
          rw [hV, hVl]
          refine g_pu rfl rfl rfl (pu_move rfl rfl) ?_
          refine g_pu rfl rfl rfl (pu_extract rfl rfl rfl) ?_
          refine g_pu rfl rfl rfl (pu_extract rfl rfl rfl) ?_
          refine g_pu rfl rfl rfl (pu_assign rfl rfl) ?_
          refine g_pu rfl rfl rfl (pu_assign rfl rfl) ?_
          refine g_nil ?_
          generalize xorL (l.take 32) (wk key zn) = K at hV hVl hre
          have hSl := streamL_length K 0 (b.length - 32)
          have hW := (xorV_two (a := l.drop 32) (b := streamL K 0 (b.length - 32)) (by rw [hSl, hld])).1
          have hWl : (xorL (l.drop 32) (streamL K 0 (b.length - 32))).length = b.length - 32 := by rw [xorL_length (by rw [hSl, hld]), hld]
          (repeat refine g_seq ?_)
          refine g_region ?_
          refine g_pu rfl rfl rfl (pu_move rfl rfl) ?_
          refine g_pu rfl rfl rfl (pu_move rfl rfl) ?_
          first | refine g_pu rfl rfl rfl (pu_len rfl rfl) ?_ | refine g_pu rfl rfl rfl (pu_lenS rfl rfl) ?_
          refine g_call [79] rfl rfl rfl rfl rfl rfl (fun w' hm => RStrB_b w' x73.c 0 (b.length - 32) (By.ow 73 rfl hm hVl (by omega)) (by omega)) (fun x79 _ => ?_)
          refine g_pu rfl rfl rfl (pu_assign rfl rfl) ?_
          refine g_nil ?_
          (repeat refine g_seq ?_)
          refine g_region ?_
          refine g_pu rfl rfl rfl (pu_move rfl rfl) ?_
          refine g_pu rfl rfl rfl (pu_move rfl rfl) ?_
          refine g_lo [83] rfl rfl rfl rfl (lo_buildSlice rfl rfl (by decide) (by decide) rfl rfl) (fun b83 hb83 => ?_)
          refine g_call [84] rfl rfl rfl rfl rfl rfl (fun w' hm => RXor_b w' 2 (L := [y.sl (b.length - 32), x79.sl (b.length - 32)]) (ls := [l.drop 32, streamL K 0 (b.length - 32)]) ⟨hm.rowA 83 rfl, rfl, All2.cons (IsB.own 46 rfl hm hld (by omega)) (All2.cons (IsB.own 79 rfl hm hSl (by omega)) All2.nil), by omega⟩) (fun x84 _ => ?_)
          rw [hW, hWl]
          refine g_pu rfl rfl rfl (pu_move rfl rfl) ?_
          refine g_pu rfl rfl rfl (pu_extract rfl rfl rfl) ?_
          refine g_pu rfl rfl rfl (pu_extract rfl rfl rfl) ?_
          refine g_pu rfl rfl rfl (pu_assign rfl rfl) ?_
          refine g_nil ?_
          have e3 : (rdL zn (wk key zn) l).take 32 = l.take 32 := by rw [hre, List.take_left' hlt32]
          have e4 : (rdL zn (wk key zn) l).drop 32 = xorL (l.drop 32) (streamL K 0 (b.length - 32)) := by rw [hre, List.drop_left' hlt32]
          rw [← e3, ← e4]
          refine g_retag 84 46 _ rfl rfl ?_
          refine g_blk ?_
          (repeat refine g_seq ?_)
          refine g_region ?_
          refine g_pu rfl rfl rfl (pu_move rfl rfl) ?_
          refine g_pu rfl rfl rfl (pu_addI rfl rfl rfl (by omega)) ?_
          refine g_pu rfl rfl rfl (pu_assign rfl rfl) ?_
          refine g_nil ?_
          exact g_round4 (i + 1) (rdL zn (wk key zn) l) x x84 ⟨by omega, by rw [hrl, hll], hrt.symm⟩ (by omega) ⟨rfl, rfl, rfl, rfl, rfl, rfl, trivial⟩ ⟨rfl, rfl, rfl, trivial⟩
      · (repeat refine g_seq ?_)
        refine g_region ?_
        refine g_pu rfl rfl rfl (pu_move rfl rfl) ?_
        refine g_pu rfl rfl rfl (pu_move rfl rfl) ?_
        first | refine g_pu rfl rfl rfl (pu_len rfl rfl) ?_ | refine g_pu rfl rfl rfl (pu_lenS rfl rfl) ?_
        first | refine g_pu rfl rfl rfl (pu_lss_t rfl rfl rfl (by omega)) ?_ | refine g_pu rfl rfl rfl (pu_lss_f rfl rfl rfl (by omega)) ?_ | refine g_pu rfl rfl rfl (pu_lss rfl rfl rfl) ?_
        refine g_nil ?_
        (repeat refine g_seq ?_)
        refine g_cond_f rfl (g_exit rfl ?_)
        rw [List.take_of_length_le (by omega)] at hl
        rw [← hl, hll]
        (repeat refine g_seq ?_)
        refine g_region ?_
        refine g_pu rfl rfl rfl (pu_move rfl rfl) ?_
        refine g_pu rfl rfl rfl (pu_move rfl rfl) ?_
        refine g_append1 43 (bs (l.drop 32)) rfl rfl rfl rfl rfl rfl rfl rfl (by rw [bs_length, hlt32]) (fun w' hm => Ow.rd (t := 46) rfl hm) (by rw [bs_length, hld]) (oneCell_bs _) (by omega) (by omega) (fun p' c' => ?_)
        rw [← bs_append, split32, show 32 + (b.length - 32) = b.length by omega]
        refine g_pu rfl rfl rfl (pu_assign rfl rfl) ?_
        refine g_pu rfl rfl rfl (pu_assign rfl rfl) ?_
        refine g_nil ?_
        exact g_ret2 rfl rfl rfl (fun w' hm => ⟨⟨p', c'⟩, trivial, rfl, hm.grows [43] ⟨rfl, trivial⟩ rfl⟩)
    · obtain ⟨e1, e2⟩ := rds_s hok hf
      rw [e1, e2]
      (repeat refine g_seq ?_)
      refine g_region ?_
      refine g_pu rfl rfl rfl (pu_move rfl rfl) ?_
      refine g_pu rfl rfl rfl (pu_move rfl rfl) ?_
      refine g_call [] rfl rfl rfl rfl rfl rfl (fun w' hm => fits07_b w' p q key.length b.length c d) (fun _ _ => ?_)
      rw [Bool.eq_false_iff.2 hf]
      refine g_pu rfl rfl rfl (pu_not rfl rfl) ?_
      refine g_nil ?_
      (repeat refine g_seq ?_)
      refine g_cond_t rfl ?_
      (repeat refine g_seq ?_)
      refine g_region ?_
      refine g_pu rfl rfl rfl (pu_assign rfl rfl) ?_
      refine g_pu rfl rfl rfl (pu_assign rfl rfl) ?_
      refine g_nil ?_
      refine g_nilOwn 90 5 1 rfl ?_
      exact g_ret2 rfl rfl rfl (fun w' hm => ⟨⟨none, 0⟩, trivial, rfl, hm.grows [90] ⟨rfl, trivial⟩ rfl⟩)
end Go.Sx

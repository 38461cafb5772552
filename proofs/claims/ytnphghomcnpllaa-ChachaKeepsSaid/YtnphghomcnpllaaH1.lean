/-
  The quarter round of the stream and of its reference. No condition.
-/
import Derived.Test.YtnphghomcnpllaaRot
set_option linter.unusedVariables false
set_option linter.unusedSimpArgs false
namespace Go.Sx
open Go Go.Proofs

/-- One of the four steps. -/
def tq : Nat → Nat
  | 0 => 16
  | 1 => 12
  | 2 => 8
  | _ => 7
abbrev W4 := BitVec 32 × BitVec 32 × BitVec 32 × BitVec 32
def qstep (i : Nat) (v : W4) : W4 :=
  if i % 2 = 0 then (v.1 + v.2.1, v.2.1, v.2.2.1, rotL (v.2.2.2 ^^^ (v.1 + v.2.1)) (tq i))
  else (v.1, rotL (v.2.1 ^^^ (v.2.2.1 + v.2.2.2)) (tq i), v.2.2.1 + v.2.2.2, v.2.2.2)
def qit (v : W4) : Nat → W4
  | 0 => v
  | i + 1 => qstep i (qit v i)
def quarter (v : W4) : W4 := qit v 4
def cells4 (v : W4) : List Value := [b32 v.1, b32 v.2.1, b32 v.2.2.1, b32 v.2.2.2]

theorem Quarter_b (w : World) (a b c d : BitVec 32) : Spec Try.prog 8 #[b32 a, b32 b, b32 c, b32 d] w (σ := Unit) (fun _ => True) (fun _ => .tuple (cells4 (quarter (a, b, c, d))).toArray) Nob (fun _ => []) := by
  refine enter Try.func8 rfl rfl (Mem.start w) ?_
  (repeat refine g_seq ?_)
  refine g_region ?_
  refine g_pu rfl rfl rfl (pu_assign (v := b32 0#32) rfl rfl) ?_
  refine g_pu rfl rfl rfl (pu_assign (v := b32 0#32) rfl rfl) ?_
  refine g_pu rfl rfl rfl (pu_assign (v := b32 0#32) rfl rfl) ?_
  refine g_pu rfl rfl rfl (pu_assign (v := b32 0#32) rfl rfl) ?_
  refine g_nil ?_
  (repeat refine g_seq ?_)
  refine g_region ?_
  refine g_pu rfl rfl rfl (pu_move rfl rfl) ?_
  refine g_pu rfl rfl rfl (pu_move rfl rfl) ?_
  refine g_pu rfl rfl rfl (pu_add32 rfl rfl rfl) ?_
  refine g_pu rfl rfl rfl (pu_assign rfl rfl) ?_
  refine g_nil ?_
  (repeat refine g_seq ?_)
  refine g_region ?_
  refine g_pu rfl rfl rfl (pu_move rfl rfl) ?_
  refine g_pu rfl rfl rfl (pu_move rfl rfl) ?_
  refine g_pu rfl rfl rfl (pu_xor32 rfl rfl rfl) ?_
  refine g_call [] rfl rfl rfl rfl rfl rfl (fun w' hm => Rot_b w' _ 16 (by omega) (by omega)) (fun _ _ => ?_)
  refine g_pu rfl rfl rfl (pu_assign rfl rfl) ?_
  refine g_nil ?_
  (repeat refine g_seq ?_)
  refine g_region ?_
  refine g_pu rfl rfl rfl (pu_move rfl rfl) ?_
  refine g_pu rfl rfl rfl (pu_move rfl rfl) ?_
  refine g_pu rfl rfl rfl (pu_add32 rfl rfl rfl) ?_
  refine g_pu rfl rfl rfl (pu_assign rfl rfl) ?_
  refine g_nil ?_
  (repeat refine g_seq ?_)
  refine g_region ?_
  refine g_pu rfl rfl rfl (pu_move rfl rfl) ?_
  refine g_pu rfl rfl rfl (pu_move rfl rfl) ?_
  refine g_pu rfl rfl rfl (pu_xor32 rfl rfl rfl) ?_
  refine g_call [] rfl rfl rfl rfl rfl rfl (fun w' hm => Rot_b w' _ 12 (by omega) (by omega)) (fun _ _ => ?_)
  refine g_pu rfl rfl rfl (pu_assign rfl rfl) ?_
  refine g_nil ?_
  (repeat refine g_seq ?_)
  refine g_region ?_
  refine g_pu rfl rfl rfl (pu_move rfl rfl) ?_
  refine g_pu rfl rfl rfl (pu_move rfl rfl) ?_
  refine g_pu rfl rfl rfl (pu_add32 rfl rfl rfl) ?_
  refine g_pu rfl rfl rfl (pu_assign rfl rfl) ?_
  refine g_nil ?_
  (repeat refine g_seq ?_)
  refine g_region ?_
  refine g_pu rfl rfl rfl (pu_move rfl rfl) ?_
  refine g_pu rfl rfl rfl (pu_move rfl rfl) ?_
  refine g_pu rfl rfl rfl (pu_xor32 rfl rfl rfl) ?_
  refine g_call [] rfl rfl rfl rfl rfl rfl (fun w' hm => Rot_b w' _ 8 (by omega) (by omega)) (fun _ _ => ?_)
  refine g_pu rfl rfl rfl (pu_assign rfl rfl) ?_
  refine g_nil ?_
  (repeat refine g_seq ?_)
  refine g_region ?_
  refine g_pu rfl rfl rfl (pu_move rfl rfl) ?_
  refine g_pu rfl rfl rfl (pu_move rfl rfl) ?_
  refine g_pu rfl rfl rfl (pu_add32 rfl rfl rfl) ?_
  refine g_pu rfl rfl rfl (pu_assign rfl rfl) ?_
  refine g_nil ?_
  (repeat refine g_seq ?_)
  refine g_region ?_
  refine g_pu rfl rfl rfl (pu_move rfl rfl) ?_
  refine g_pu rfl rfl rfl (pu_move rfl rfl) ?_
  refine g_pu rfl rfl rfl (pu_xor32 rfl rfl rfl) ?_
  refine g_call [] rfl rfl rfl rfl rfl rfl (fun w' hm => Rot_b w' _ 7 (by omega) (by omega)) (fun _ _ => ?_)
  refine g_pu rfl rfl rfl (pu_assign rfl rfl) ?_
  refine g_nil ?_
  (repeat refine g_seq ?_)
  refine g_region ?_
  refine g_pu rfl rfl rfl (pu_move rfl rfl) ?_
  refine g_pu rfl rfl rfl (pu_move rfl rfl) ?_
  refine g_pu rfl rfl rfl (pu_move rfl rfl) ?_
  refine g_pu rfl rfl rfl (pu_move rfl rfl) ?_
  refine g_pu rfl rfl rfl (pu_assign rfl rfl) ?_
  refine g_pu rfl rfl rfl (pu_assign rfl rfl) ?_
  refine g_pu rfl rfl rfl (pu_assign rfl rfl) ?_
  refine g_pu rfl rfl rfl (pu_assign rfl rfl) ?_
  refine g_nil ?_
  exact g_ret4 rfl rfl rfl rfl rfl (fun w' hm => ⟨(), trivial, rfl, hm.grows [] trivial rfl⟩)

theorem left_b (w : World) (x : BitVec 32) (k : Nat) (h0 : 0 < k) (h : k < 32) : Spec Try.prog 28 #[b32 x, .int .i64 (k : Int)] w (σ := Unit) (fun _ => True) (fun _ => b32 (rotL x k)) Nob (fun _ => []) := by
  refine enter Try.func28 rfl rfl (Mem.start w) ?_
  (repeat refine g_seq ?_)
  refine g_region ?_
  refine g_pu rfl rfl rfl (pu_assign (v := b32 0#32) rfl rfl) ?_
  refine g_nil ?_
  (repeat refine g_seq ?_)
  refine g_any (9, []) ?_
  refine a_pu 0 rfl rfl rfl rfl (pu_move rfl rfl) rfl rfl (by kernel_rfl) ?_
  refine a_pu 1 rfl rfl rfl rfl (pu_move rfl rfl) rfl rfl (by kernel_rfl) ?_
  refine a_pu 2 rfl rfl rfl rfl (pu_shl32 rfl rfl rfl (by omega)) rfl rfl (by kernel_rfl) ?_
  refine a_pu 3 rfl rfl rfl rfl (pu_move rfl rfl) rfl rfl (by kernel_rfl) ?_
  refine a_pu 4 rfl rfl rfl rfl (pu_move rfl rfl) rfl rfl (by kernel_rfl) ?_
  refine a_pu 5 rfl rfl rfl rfl (pu_subI rfl rfl rfl (by omega)) rfl rfl (by kernel_rfl) ?_
  refine a_pu 6 rfl rfl rfl rfl (pu_shr32 rfl rfl rfl (by omega)) rfl rfl (by kernel_rfl) ?_
  refine a_pu 7 rfl rfl rfl rfl (pu_or32 rfl rfl rfl) rfl rfl (by kernel_rfl) ?_
  refine a_pu 8 rfl rfl rfl rfl (pu_assign rfl rfl) rfl rfl (by kernel_rfl) ?_
  refine a_done (by kernel_rfl) ?_
  refine g_ret1 rfl rfl (fun w' hm => ⟨(), trivial, ?_, hm.grows [] trivial rfl⟩)
  unfold rotL
  rw [show ((k : Int)).toNat = k by omega, show ((32 : Int) - (k : Int)).toNat = 32 - k by omega]

theorem tq_cell (i : Nat) (h : i < 4) : ([Value.int .i64 16, .int .i64 12, .int .i64 8, .int .i64 7].toArray)[0 + i]? = some (.int .i64 ((tq i : Nat) : Int)) ∧ 0 < tq i ∧ tq i < 32 := by
  match i, h with
  | 0, _ => exact ⟨rfl, by decide, by decide⟩
  | 1, _ => exact ⟨rfl, by decide, by decide⟩
  | 2, _ => exact ⟨rfl, by decide, by decide⟩
  | 3, _ => exact ⟨rfl, by decide, by decide⟩

theorem RQuarter_b (w : World) (v : W4) : Spec Try.prog 9 #[.agg (cells4 v).toArray] w (σ := Unit) (fun _ => True) (fun _ => .agg (cells4 (quarter v)).toArray) Nob (fun _ => []) := by
  refine enter Try.func9 rfl rfl (Mem.start w) ?_
  (repeat refine g_seq ?_)
  refine g_region ?_
  refine g_lo [1] rfl rfl rfl rfl (lo_box rfl rfl) (fun b1 hb1 => ?_)
  refine g_lo [2] rfl rfl rfl rfl (lo_alloc rfl) (fun b2 hb2 => ?_)
  refine g_nil ?_
  (repeat refine g_seq ?_)
  refine g_region ?_
  first | refine g_pu rfl rfl rfl (pu_buildA rfl rfl rfl rfl rfl) ?_ | refine g_pu rfl rfl rfl (pu_buildA' rfl rfl rfl) ?_
  refine g_lo [3] rfl rfl rfl rfl (lo_alloc rfl) (fun b3 hb3 => ?_)
  refine g_storeW 3 (C := [.int .i64 16, .int .i64 12, .int .i64 8, .int .i64 7]) rfl rfl rfl rfl rfl rfl rfl (by simp [Value.oneCell']) ?_
  refine g_nil ?_
  (repeat refine g_seq ?_)
  refine g_region ?_
  refine g_pu rfl rfl rfl (pu_assign rfl rfl) ?_
  refine g_nil ?_
  refine g_block (g_loop5 (fun (i : Nat) (_ _ _ _ : BitVec 32) => [(1, .pointer (some ⟨b1, 0, none⟩)), (2, .pointer (some ⟨b2, 0, none⟩)), (3, .pointer (some ⟨b3, 0, none⟩)), (4, .int .i64 (i : Int))]) (fun _ a b c d => [(1, .pt b1 (.cells [b32 a, b32 b, b32 c, b32 d].toArray 23 (0, 0))), (2, .pt b2 (.cells [b32 0#32, b32 0#32, b32 0#32, b32 0#32].toArray 23 (0, 0))), (3, .pt b3 (.cells [.int .i64 16, .int .i64 12, .int .i64 8, .int .i64 7].toArray 54 (0, 0)))])
    (fun i a b c d => i ≤ 4 ∧ (a, b, c, d) = qit v i) (fun i _ _ _ _ => 4 - i) 0 v.1 v.2.1 v.2.2.1 v.2.2.2 ⟨rfl, rfl, rfl, rfl, trivial⟩ ⟨rfl, rfl, rfl, trivial⟩ ⟨by omega, rfl⟩ ?_)
  intro i a b c d ⟨hi, hv⟩
  by_cases hlt : i < 4
  · (repeat refine g_seq ?_)
    refine g_region ?_
    refine g_pu rfl rfl rfl (pu_move rfl rfl) ?_
    first | refine g_pu rfl rfl rfl (pu_lss_t rfl rfl rfl (by omega)) ?_ | refine g_pu rfl rfl rfl (pu_lss_f rfl rfl rfl (by omega)) ?_ | refine g_pu rfl rfl rfl (pu_lss rfl rfl rfl) ?_
    refine g_nil ?_
    (repeat refine g_seq ?_)
    refine g_cond_t rfl (g_skip ?_)
    obtain ⟨ht, h0, h32⟩ := tq_cell i hlt
    (repeat refine g_seq ?_); refine g_block ?_
    by_cases hp : i % 2 = 0
    · (repeat refine g_seq ?_)
      refine g_region ?_
      refine g_pu rfl rfl rfl (pu_move rfl rfl) ?_
      refine g_pu rfl rfl rfl (pu_remI rfl rfl rfl (by omega)) ?_
      first | refine g_pu rfl rfl rfl (pu_eql_t rfl rfl rfl (by omega)) ?_ | refine g_pu rfl rfl rfl (pu_eql_f rfl rfl rfl (by omega)) ?_ | refine g_pu rfl rfl rfl (pu_eql rfl rfl rfl) ?_
      refine g_nil ?_
      (repeat refine g_seq ?_)
      refine g_cond_t rfl ?_
      (repeat refine g_seq ?_)
      refine g_region ?_
      refine g_pu rfl rfl rfl (pu_atA1 0 rfl rfl rfl rfl (by omega)) ?_
      refine g_pu rfl rfl rfl (pu_load 1 rfl rfl rfl rfl) ?_
      refine g_pu rfl rfl rfl (pu_atA1 1 rfl rfl rfl rfl (by omega)) ?_
      refine g_pu rfl rfl rfl (pu_load 1 rfl rfl rfl rfl) ?_
      refine g_pu rfl rfl rfl (pu_add32 rfl rfl rfl) ?_
      refine g_pu rfl rfl rfl (pu_atA1 0 rfl rfl rfl rfl (by omega)) ?_
      refine g_store 1 rfl rfl rfl rfl rfl rfl rfl (by simp) ?_
      refine g_nil ?_
      (repeat refine g_seq ?_)
      refine g_any (8, []) ?_
      refine a_pu 0 rfl rfl rfl rfl (pu_atA1 3 rfl rfl rfl rfl (by omega)) rfl rfl (by kernel_rfl) ?_
      refine a_pu 1 rfl rfl rfl rfl (pu_load 1 rfl rfl rfl rfl) rfl rfl (by kernel_rfl) ?_
      refine a_pu 2 rfl rfl rfl rfl (pu_atA1 0 rfl rfl rfl rfl (by omega)) rfl rfl (by kernel_rfl) ?_
      refine a_pu 3 rfl rfl rfl rfl (pu_load 1 rfl rfl rfl rfl) rfl rfl (by kernel_rfl) ?_
      refine a_pu 4 rfl rfl rfl rfl (pu_xor32 rfl rfl rfl) rfl rfl (by kernel_rfl) ?_
      refine a_pu 5 rfl rfl rfl rfl (pu_move rfl rfl) rfl rfl (by kernel_rfl) ?_
      refine a_pu 6 rfl rfl rfl rfl (pu_atA1 i rfl rfl rfl rfl hlt) rfl rfl (by kernel_rfl) ?_
      refine a_pu 7 rfl rfl rfl rfl (pu_load 3 rfl rfl rfl ht) rfl rfl (by kernel_rfl) ?_
      refine a_tail [8, 9, 10] (by kernel_rfl) rfl rfl (by kernel_rfl) ?_
      refine g_call [] rfl rfl rfl rfl rfl rfl (fun w' hm => left_b w' _ (tq i) h0 h32) (fun _ _ => ?_)
      refine g_pu rfl rfl rfl (pu_atA1 3 rfl rfl rfl rfl (by omega)) ?_
      refine g_store 1 rfl rfl rfl rfl rfl rfl rfl (by simp) ?_
      refine g_nil ?_
      refine g_blk ?_
      (repeat refine g_seq ?_)
      refine g_region ?_
      refine g_pu rfl rfl rfl (pu_move rfl rfl) ?_
      refine g_pu rfl rfl rfl (pu_addI rfl rfl rfl (by omega)) ?_
      refine g_pu rfl rfl rfl (pu_assign rfl rfl) ?_
      refine g_nil ?_
      exact g_round5 (i + 1) _ _ _ _ ⟨by omega, by simp only [qit, qstep, ← hv, if_pos hp]⟩ (by omega) ⟨rfl, rfl, rfl, rfl, trivial⟩ ⟨rfl, rfl, rfl, trivial⟩
    · (repeat refine g_seq ?_)
      refine g_region ?_
      refine g_pu rfl rfl rfl (pu_move rfl rfl) ?_
      refine g_pu rfl rfl rfl (pu_remI rfl rfl rfl (by omega)) ?_
      first | refine g_pu rfl rfl rfl (pu_eql_t rfl rfl rfl (by omega)) ?_ | refine g_pu rfl rfl rfl (pu_eql_f rfl rfl rfl (by omega)) ?_ | refine g_pu rfl rfl rfl (pu_eql rfl rfl rfl) ?_
      refine g_nil ?_
      (repeat refine g_seq ?_)
      refine g_cond_f rfl ?_
      (repeat refine g_seq ?_)
      refine g_region ?_
      refine g_pu rfl rfl rfl (pu_atA1 2 rfl rfl rfl rfl (by omega)) ?_
      refine g_pu rfl rfl rfl (pu_load 1 rfl rfl rfl rfl) ?_
      refine g_pu rfl rfl rfl (pu_atA1 3 rfl rfl rfl rfl (by omega)) ?_
      refine g_pu rfl rfl rfl (pu_load 1 rfl rfl rfl rfl) ?_
      refine g_pu rfl rfl rfl (pu_add32 rfl rfl rfl) ?_
      refine g_pu rfl rfl rfl (pu_atA1 2 rfl rfl rfl rfl (by omega)) ?_
      refine g_store 1 rfl rfl rfl rfl rfl rfl rfl (by simp) ?_
      refine g_nil ?_
      (repeat refine g_seq ?_)
      refine g_any (8, []) ?_
      refine a_pu 0 rfl rfl rfl rfl (pu_atA1 1 rfl rfl rfl rfl (by omega)) rfl rfl (by kernel_rfl) ?_
      refine a_pu 1 rfl rfl rfl rfl (pu_load 1 rfl rfl rfl rfl) rfl rfl (by kernel_rfl) ?_
      refine a_pu 2 rfl rfl rfl rfl (pu_atA1 2 rfl rfl rfl rfl (by omega)) rfl rfl (by kernel_rfl) ?_
      refine a_pu 3 rfl rfl rfl rfl (pu_load 1 rfl rfl rfl rfl) rfl rfl (by kernel_rfl) ?_
      refine a_pu 4 rfl rfl rfl rfl (pu_xor32 rfl rfl rfl) rfl rfl (by kernel_rfl) ?_
      refine a_pu 5 rfl rfl rfl rfl (pu_move rfl rfl) rfl rfl (by kernel_rfl) ?_
      refine a_pu 6 rfl rfl rfl rfl (pu_atA1 i rfl rfl rfl rfl hlt) rfl rfl (by kernel_rfl) ?_
      refine a_pu 7 rfl rfl rfl rfl (pu_load 3 rfl rfl rfl ht) rfl rfl (by kernel_rfl) ?_
      refine a_tail [8, 9, 10] (by kernel_rfl) rfl rfl (by kernel_rfl) ?_
      refine g_call [] rfl rfl rfl rfl rfl rfl (fun w' hm => left_b w' _ (tq i) h0 h32) (fun _ _ => ?_)
      refine g_pu rfl rfl rfl (pu_atA1 1 rfl rfl rfl rfl (by omega)) ?_
      refine g_store 1 rfl rfl rfl rfl rfl rfl rfl (by simp) ?_
      refine g_nil ?_
      refine g_blk ?_
      (repeat refine g_seq ?_)
      refine g_region ?_
      refine g_pu rfl rfl rfl (pu_move rfl rfl) ?_
      refine g_pu rfl rfl rfl (pu_addI rfl rfl rfl (by omega)) ?_
      refine g_pu rfl rfl rfl (pu_assign rfl rfl) ?_
      refine g_nil ?_
      exact g_round5 (i + 1) _ _ _ _ ⟨by omega, by simp only [qit, qstep, ← hv, if_neg hp]⟩ (by omega) ⟨rfl, rfl, rfl, rfl, trivial⟩ ⟨rfl, rfl, rfl, trivial⟩
  · (repeat refine g_seq ?_)
    refine g_region ?_
    refine g_pu rfl rfl rfl (pu_move rfl rfl) ?_
    first | refine g_pu rfl rfl rfl (pu_lss_t rfl rfl rfl (by omega)) ?_ | refine g_pu rfl rfl rfl (pu_lss_f rfl rfl rfl (by omega)) ?_ | refine g_pu rfl rfl rfl (pu_lss rfl rfl rfl) ?_
    refine g_nil ?_
    (repeat refine g_seq ?_)
    refine g_cond_f rfl (g_exit rfl ?_)
    (repeat refine g_seq ?_)
    refine g_region ?_
    first | refine g_pu rfl rfl rfl (pu_loadW 1 rfl rfl rfl rfl) ?_ | refine g_pu rfl rfl rfl (pu_loadA 1 rfl rfl rfl (Nat.le_refl _)) ?_ | refine g_pu rfl rfl rfl (pu_loadA 1 rfl rfl rfl (by simp)) ?_ | refine g_pu rfl rfl rfl (pu_loadA 1 rfl rfl rfl (by decide)) ?_
    refine g_storeW 2 (C := [b32 a, b32 b, b32 c, b32 d]) rfl rfl rfl rfl rfl rfl rfl (by simp [Value.oneCell', b32]) ?_
    refine g_nil ?_
    have e : i = 4 := by omega
    subst e
    exact g_retC 2 (L := [b32 a, b32 b, b32 c, b32 d]) rfl rfl rfl (fun w' hm => ⟨(), trivial, by rw [quarter, ← hv]; rfl, hm.grows [] trivial rfl⟩)
end Go.Sx

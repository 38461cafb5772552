/-
  ChachaTurns: bytes are turned by the stream, and turned twice they are the same bytes again. Condition: at most 2^46 bytes together.
-/
import Derived.Test.YtnphghomcnpllaaChachaStreams
import Derived.Test.YtnphghomcnpllaaH8
set_option linter.unusedVariables false
set_option linter.unusedSimpArgs false
namespace Go.Sx
open Go Go.Proofs
theorem ChachaTurns_spec (w : World) {q : Option Addr} {m : Nat} (d : Nat) {key : List (BitVec 8)} {p : Option Addr} {n : Nat} (c : Nat) {L : List Value} {ls : List (List (BitVec 8))} (hb : By w q m key) (ha : ByL w p n L ls) (hlen : ls.flatten.length ≤ 70368744177664) :
    Spec Try.prog 6 #[.slice q m d, .slice p n c] w (σ := Unit) (fun _ => True) (fun _ => .bool true) Nob (fun _ => []) := by
  refine enter Try.func6 rfl rfl (Mem.start w) ?_
  have hbig := ha.big
  have hkl := hb.len
  have hkb := hb.big
  have htl := turnL_length (key := key) (all := ls.flatten)
  (repeat refine g_seq ?_)
  refine g_region ?_
  refine g_pu rfl rfl rfl (pu_assign rfl rfl) ?_
  refine g_nil ?_
  (repeat refine g_seq ?_)
  refine g_region ?_
  refine g_call [] rfl rfl rfl rfl rfl rfl (fun w' hm => awake_b w') (fun _ _ => ?_)
  refine g_pu rfl rfl rfl (pu_not rfl rfl) ?_
  refine g_nil ?_
  (repeat refine g_seq ?_)
  refine g_cond_f rfl (g_skip ?_)
  (repeat refine g_seq ?_)
  refine g_region ?_
  refine g_pu rfl rfl rfl (pu_move rfl rfl) ?_
  refine g_call [14] rfl rfl rfl rfl rfl rfl (fun w' hm => RJoin_b w' c (ha.m hm) (by omega)) (fun x14 _ => ?_)
  refine g_pu rfl rfl rfl (pu_assign rfl rfl) ?_
  refine g_nil ?_
  (repeat refine g_seq ?_)
  refine g_region ?_
  refine g_pu rfl rfl rfl (pu_move rfl rfl) ?_
  refine g_call [17] rfl rfl rfl rfl rfl rfl (fun w' hm => Copy_b w' d (hb.m hm)) (fun x17 _ => ?_)
  refine g_pu rfl rfl rfl (pu_move rfl rfl) ?_
  refine g_call [19, 119] rfl rfl rfl rfl rfl rfl (fun w' hm => Copies_b w' c (ha.m hm)) (fun x19 h19 => ?_)
  refine g_call [20] rfl rfl rfl rfl rfl rfl (fun w' hm => Turn_b w' _ _ (By.ow 17 rfl hm hkl hkb) (Owl.by 19 119 rfl rfl hm h19.1 hbig) (by rw [← h19.1]; exact Owl.le 19 rfl hm) (by omega)) (fun x20 _ => ?_)
  refine g_pu rfl rfl rfl (pu_move rfl rfl) ?_
  refine g_pu rfl rfl rfl (pu_extract rfl rfl rfl) ?_
  refine g_pu rfl rfl rfl (pu_extract rfl rfl rfl) ?_
  refine g_pu rfl rfl rfl (pu_assign rfl rfl) ?_
  refine g_pu rfl rfl rfl (pu_assign rfl rfl) ?_
  refine g_nil ?_
  (repeat refine g_seq ?_)
  refine g_region ?_
  refine g_pu rfl rfl rfl (pu_move rfl rfl) ?_
  refine g_pu rfl rfl rfl (pu_move rfl rfl) ?_
  refine g_call [26] rfl rfl rfl rfl rfl rfl (fun w' hm => RTurn_b w' d _ (hb.m hm) (By.ow 14 rfl hm rfl (by omega))) (fun x26 _ => ?_)
  refine g_pu rfl rfl rfl (pu_move rfl rfl) ?_
  refine g_pu rfl rfl rfl (pu_extract rfl rfl rfl) ?_
  refine g_pu rfl rfl rfl (pu_extract rfl rfl rfl) ?_
  refine g_pu rfl rfl rfl (pu_assign rfl rfl) ?_
  refine g_pu rfl rfl rfl (pu_assign rfl rfl) ?_
  refine g_nil ?_
  (repeat refine g_seq ?_)
  refine g_region ?_
  refine g_pu rfl rfl rfl (pu_move rfl rfl) ?_
  refine g_pu rfl rfl rfl (pu_move rfl rfl) ?_
  first | refine g_pu rfl rfl rfl (pu_neq_t rfl rfl rfl (by omega)) ?_ | refine g_pu rfl rfl rfl (pu_neq_f rfl rfl rfl (by omega)) ?_ | refine g_pu rfl rfl rfl (pu_neq rfl rfl rfl) ?_
  refine g_pu rfl rfl rfl (pu_move rfl rfl) ?_
  first | refine g_pass rfl rfl rfl ?_ | refine g_pu rfl rfl rfl (pu_move rfl rfl) ?_
  first | refine g_pass rfl rfl rfl ?_ | refine g_pu rfl rfl rfl (pu_move rfl rfl) ?_
  refine g_call [] rfl rfl rfl rfl rfl rfl (fun w' hm => Equal_b w' _ _ (a := turnL key ls.flatten) (b := turnL key ls.flatten) (By.ow 20 rfl hm rfl (by omega)) (By.ow 26 rfl hm rfl (by omega))) (fun _ _ => ?_)
  refine g_as (t := 35) (u := .bool true) rfl (by simp) rfl ?_
  first | refine g_pass rfl rfl rfl ?_ | refine g_pu rfl rfl rfl (pu_not rfl rfl) ?_
  first | refine g_pu rfl rfl rfl (pu_pick_t rfl rfl rfl) ?_ | refine g_pu rfl rfl rfl (pu_pick_f rfl rfl rfl) ?_
  refine g_nil ?_
  (repeat refine g_seq ?_)
  refine g_cond_f rfl (g_skip ?_)
  by_cases hE : turnE key ls.flatten.length = 0
  · rw [hE]
    (repeat refine g_seq ?_)
    refine g_region ?_
    refine g_pu rfl rfl rfl (pu_move rfl rfl) ?_
    first | refine g_pu rfl rfl rfl (pu_neq_t rfl rfl rfl (by omega)) ?_ | refine g_pu rfl rfl rfl (pu_neq_f rfl rfl rfl (by omega)) ?_ | refine g_pu rfl rfl rfl (pu_neq rfl rfl rfl) ?_
    refine g_nil ?_
    (repeat refine g_seq ?_)
    refine g_cond_f rfl (g_skip ?_)
    have hL0 : turnL key ls.flatten = xorL ls.flatten (streamL key 0 ls.flatten.length) := by unfold turnL; rw [if_pos hE]
    have hll : (turnL key ls.flatten).length = ls.flatten.length := by rw [hL0, xorL_length (by rw [streamL_length])]
    have hE2 : turnE key (turnL key ls.flatten).length = 0 := by rw [hll]; exact hE
    have hback : turnL key (turnL key ls.flatten) = ls.flatten := by
      rw [show turnL key (turnL key ls.flatten) = xorL (turnL key ls.flatten) (streamL key 0 (turnL key ls.flatten).length) by unfold turnL; rw [if_pos]; exact hE2, hll, hL0, xorL_back (by rw [streamL_length])]
    (repeat refine g_seq ?_)
    refine g_region ?_
    refine g_pu rfl rfl rfl (pu_move rfl rfl) ?_
    refine g_call [42] rfl rfl rfl rfl rfl rfl (fun w' hm => Copy_b w' d (hb.m hm)) (fun x42 _ => ?_)
    refine g_pu rfl rfl rfl (pu_move rfl rfl) ?_
    refine g_lo [44] rfl rfl rfl rfl (lo_buildSlice rfl rfl (by decide) (by decide) rfl rfl) (fun b44 hb44 => ?_)
    refine g_call [45] rfl rfl rfl rfl rfl rfl (fun w' hm => Turn_b w' _ 1 (L := [x20.sl (turnL key ls.flatten).length]) (ls := [turnL key ls.flatten]) (By.ow 42 rfl hm hkl hkb) ⟨hm.rowA 44 rfl, rfl, All2.cons (IsB.own 20 rfl hm rfl (by omega)) All2.nil, by omega⟩ (by omega) (by simp; omega)) (fun x45 _ => ?_)
    rw [show [turnL key ls.flatten].flatten = turnL key ls.flatten by simp, hE2, hback]
    refine g_pu rfl rfl rfl (pu_move rfl rfl) ?_
    refine g_pu rfl rfl rfl (pu_extract rfl rfl rfl) ?_
    refine g_pu rfl rfl rfl (pu_extract rfl rfl rfl) ?_
    refine g_pu rfl rfl rfl (pu_assign rfl rfl) ?_
    refine g_pu rfl rfl rfl (pu_assign rfl rfl) ?_
    refine g_nil ?_
    (repeat refine g_seq ?_)
    refine g_region ?_
    refine g_pu rfl rfl rfl (pu_move rfl rfl) ?_
    first | refine g_pu rfl rfl rfl (pu_eql_t rfl rfl rfl (by omega)) ?_ | refine g_pu rfl rfl rfl (pu_eql_f rfl rfl rfl (by omega)) ?_ | refine g_pu rfl rfl rfl (pu_eql rfl rfl rfl) ?_
    refine g_pu rfl rfl rfl (pu_move rfl rfl) ?_
    first | refine g_pass rfl rfl rfl ?_ | refine g_pu rfl rfl rfl (pu_move rfl rfl) ?_
    first | refine g_pass rfl rfl rfl ?_ | refine g_pu rfl rfl rfl (pu_move rfl rfl) ?_
    refine g_call [] rfl rfl rfl rfl rfl rfl (fun w' hm => Equal_b w' _ _ (a := ls.flatten) (b := ls.flatten) (By.ow 45 rfl hm rfl (by omega)) (By.ow 14 rfl hm rfl (by omega))) (fun _ _ => ?_)
    refine g_as (t := 53) (u := .bool true) rfl (by simp) rfl ?_
    first | refine g_pu rfl rfl rfl (pu_pick_t rfl rfl rfl) ?_ | refine g_pu rfl rfl rfl (pu_pick_f rfl rfl rfl) ?_
    refine g_pu rfl rfl rfl (pu_assign rfl rfl) ?_
    refine g_nil ?_
    exact g_ret1 rfl rfl (fun w' hm => ⟨(), trivial, rfl, hm.grows [] trivial rfl⟩)
  · (repeat refine g_seq ?_)
    refine g_region ?_
    refine g_pu rfl rfl rfl (pu_move rfl rfl) ?_
    refine g_pu rfl rfl rfl (pu_neq_t rfl rfl rfl hE) ?_
    refine g_nil ?_
    (repeat refine g_seq ?_)
    refine g_cond_t rfl ?_
    (repeat refine g_seq ?_)
    refine g_region ?_
    refine g_pu rfl rfl rfl (pu_assign rfl rfl) ?_
    refine g_nil ?_
    exact g_ret1 rfl rfl (fun w' hm => ⟨(), trivial, rfl, hm.grows [] trivial rfl⟩)
end Go.Sx

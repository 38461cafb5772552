/-
  MacExpands: HKDF makes just the bytes that the standard says, and fewer bytes are the beginning of more. Condition: at most 2^39 bytes a list.
-/
import Derived.Test.YtfnbedjnbofliaaM3
set_option linter.unusedVariables false
set_option linter.unusedSimpArgs false
namespace Go.Sx
open Go Go.Proofs

theorem MacExpands_spec (w : World) {p q : Option Addr} {n m : Nat} (c d : Nat) (z : Int) {key : List (BitVec 8)} {L : List Value} {ls : List (List (BitVec 8))} (ha : By w p n key) (hb : ByL w q m L ls) (hnb : n ≤ 549755813888) (hlen : ls.flatten.length ≤ 549755813888) :
    Spec Try.prog 3 #[.slice p n c, .int .i64 z, .slice q m d] w (σ := Unit) (fun _ => True) (fun _ => .bool true) Nob (fun _ => []) := by
  refine enter Try.func3 rfl rfl (Mem.start w) ?_
  have hbig := hb.big
  have hkl := ha.len
  have hhl := hmacL_length ls.flatten key
  (repeat refine g_seq ?_)
  refine g_region ?_
  refine g_pu rfl rfl rfl (pu_assign rfl rfl) ?_
  refine g_nil ?_
  (repeat refine g_seq ?_)
  refine g_region ?_
  refine g_call [] rfl rfl rfl rfl rfl rfl (fun w' hm => awake03_b w') (fun _ _ => ?_)
  refine g_pu rfl rfl rfl (pu_not rfl rfl) ?_
  refine g_nil ?_
  (repeat refine g_seq ?_)
  refine g_cond_f rfl (g_skip ?_)
  by_cases hz : z < 0 ∨ z > 8160
  · (repeat refine g_seq ?_)
    refine g_region ?_
    refine g_pu rfl rfl rfl (pu_move rfl rfl) ?_
    refine g_call [16] rfl rfl rfl rfl rfl rfl (fun w' hm => Copy_b w' c (ha.m hm)) (fun x16 _ => ?_)
    refine g_pu rfl rfl rfl (pu_move rfl rfl) ?_
    refine g_pu rfl rfl rfl (pu_move rfl rfl) ?_
    refine g_call [19, 119] rfl rfl rfl rfl rfl rfl (fun w' hm => Copies_b w' d (hb.m hm)) (fun x19 h19 => ?_)
    refine g_call [] rfl rfl rfl rfl rfl rfl (fun w' hm => Expand_bad w' _ _ z hz) (fun _ _ => ?_)
    refine g_pu rfl rfl rfl (pu_move rfl rfl) ?_
    refine g_pu rfl rfl rfl (pu_extract rfl rfl rfl) ?_
    refine g_pu rfl rfl rfl (pu_extract rfl rfl rfl) ?_
    refine g_pu rfl rfl rfl (pu_assign rfl rfl) ?_
    refine g_pu rfl rfl rfl (pu_assign rfl rfl) ?_
    refine g_nil ?_
    (repeat refine g_seq ?_)
    refine g_region ?_
    refine g_pu rfl rfl rfl (pu_move rfl rfl) ?_
    refine g_pu rfl rfl rfl (pu_move rfl rfl) ?_
    refine g_pu rfl rfl rfl (pu_move rfl rfl) ?_
    refine g_call [27] rfl rfl rfl rfl rfl rfl (fun w' hm => RJoin_b w' d (hb.m hm) (by omega)) (fun x27 _ => ?_)
    refine g_call [] rfl rfl rfl rfl rfl rfl (fun w' hm => RExpand_bad w' _ _ z hz) (fun _ _ => ?_)
    refine g_pu rfl rfl rfl (pu_move rfl rfl) ?_
    refine g_pu rfl rfl rfl (pu_extract rfl rfl rfl) ?_
    refine g_pu rfl rfl rfl (pu_extract rfl rfl rfl) ?_
    refine g_pu rfl rfl rfl (pu_assign rfl rfl) ?_
    refine g_pu rfl rfl rfl (pu_assign rfl rfl) ?_
    refine g_nil ?_
    (repeat refine g_seq ?_)
    refine g_region ?_
    refine g_pu rfl rfl rfl (pu_move rfl rfl) ?_
    refine g_pu rfl rfl rfl (pu_move rfl rfl) ?_
    first | refine g_pu rfl rfl rfl (pu_neq_t rfl rfl rfl (by omega)) ?_ | refine g_pu rfl rfl rfl (pu_neq_f rfl rfl rfl (by omega)) ?_ | refine g_pu rfl rfl rfl (pu_neq rfl rfl rfl) ?_
    refine g_pu rfl rfl rfl (pu_move rfl rfl) ?_
    first | refine g_pass rfl rfl rfl ?_ | refine g_pu rfl rfl rfl (pu_move rfl rfl) ?_
    first | refine g_pass rfl rfl rfl ?_ | refine g_pu rfl rfl rfl (pu_move rfl rfl) ?_
    refine g_call [] rfl rfl rfl rfl rfl rfl (fun w' hm => Equal_b w' 0 0 (By.nil w' none) (By.nil w' none)) (fun _ _ => ?_)
    rw [decide_eq_true (rfl : ([] : List (BitVec 8)) = [])]
    first | refine g_pass rfl rfl rfl ?_ | refine g_pu rfl rfl rfl (pu_not rfl rfl) ?_
    first | refine g_pu rfl rfl rfl (pu_pick_t rfl rfl rfl) ?_ | refine g_pu rfl rfl rfl (pu_pick_f rfl rfl rfl) ?_
    refine g_pu rfl rfl rfl (pu_move rfl rfl) ?_
    first | refine g_pass rfl rfl rfl ?_ | refine g_pu rfl rfl rfl (pu_move rfl rfl) ?_
    refine g_call [42] rfl rfl rfl rfl rfl rfl (fun w' hm => RJoin_b w' d (hb.m hm) (by omega)) (fun x42 _ => ?_)
    first | refine g_pass rfl rfl rfl ?_ | refine g_pu rfl rfl rfl (pu_move rfl rfl) ?_
    refine g_call [44] rfl rfl rfl rfl rfl rfl (fun w' hm => Copy_b w' c (ha.m hm)) (fun x44 _ => ?_)
    refine g_call [] rfl rfl rfl rfl rfl rfl (fun w' hm => Extract_b w' _ _ (By.ow 42 rfl hm rfl (by omega)) (By.ow 44 rfl hm hkl (by omega)) (by omega) (by omega)) (fun _ _ => ?_)
    first | refine g_pass rfl rfl rfl ?_ | refine g_pu rfl rfl rfl (pu_move rfl rfl) ?_
    refine g_call [47] rfl rfl rfl rfl rfl rfl (fun w' hm => RJoin_b w' d (hb.m hm) (by omega)) (fun x47 _ => ?_)
    first | refine g_pass rfl rfl rfl ?_ | refine g_pu rfl rfl rfl (pu_move rfl rfl) ?_
    refine g_call [] rfl rfl rfl rfl rfl rfl (fun w' hm => RTag_b w' _ c (By.ow 47 rfl hm rfl (by omega)) (ha.m hm) (by omega) (by omega)) (fun _ _ => ?_)
    refine g_pu rfl rfl rfl (pu_neqA_f rfl rfl rfl rfl (all_bs _) (by rw [bs_length, hhl])) ?_
    first | refine g_pu rfl rfl rfl (pu_pick_t rfl rfl rfl) ?_ | refine g_pu rfl rfl rfl (pu_pick_f rfl rfl rfl) ?_
    refine g_nil ?_
    (repeat refine g_seq ?_)
    refine g_cond_f rfl (g_skip ?_)
    (repeat refine g_seq ?_)
    refine g_region ?_
    refine g_pu rfl rfl rfl (pu_move rfl rfl) ?_
    first | refine g_pu rfl rfl rfl (pu_neq_t rfl rfl rfl (by omega)) ?_ | refine g_pu rfl rfl rfl (pu_neq_f rfl rfl rfl (by omega)) ?_ | refine g_pu rfl rfl rfl (pu_neq rfl rfl rfl) ?_
    refine g_pu rfl rfl rfl (pu_move rfl rfl) ?_
    first | refine g_pass rfl rfl rfl ?_ | refine g_pu rfl rfl rfl (pu_move rfl rfl) ?_
    first | refine g_pass rfl rfl rfl ?_ | refine g_pu rfl rfl rfl (pu_gtr_t rfl rfl rfl (by omega)) ?_ | refine g_pu rfl rfl rfl (pu_gtr_f rfl rfl rfl (by omega)) ?_ | refine g_pu rfl rfl rfl (pu_gtr rfl rfl rfl) ?_
    first | refine g_pu rfl rfl rfl (pu_pick_t rfl rfl rfl) ?_ | refine g_pu rfl rfl rfl (pu_pick_f rfl rfl rfl) ?_
    refine g_nil ?_
    (repeat refine g_seq ?_)
    refine g_cond_t rfl ?_
    (repeat refine g_seq ?_)
    refine g_region ?_
    refine g_pu rfl rfl rfl (pu_assign rfl rfl) ?_
    refine g_nil ?_
    exact g_ret1 rfl rfl (fun w' hm => ⟨(), trivial, rfl, hm.grows [] trivial rfl⟩)
  · obtain ⟨zn, rfl⟩ : ∃ zn : Nat, z = (zn : Int) := ⟨z.toNat, by omega⟩
    have hel := expL_length (key := key) (info := ls.flatten) zn
    have hel2 := expL_length (key := key) (info := ls.flatten) (zn + 33)
    have het : (expL key ls.flatten (zn + 33)).take zn = expL key ls.flatten zn := expL_take (by omega)
    (repeat refine g_seq ?_)
    refine g_region ?_
    refine g_pu rfl rfl rfl (pu_move rfl rfl) ?_
    refine g_call [16] rfl rfl rfl rfl rfl rfl (fun w' hm => Copy_b w' c (ha.m hm)) (fun x16 _ => ?_)
    refine g_pu rfl rfl rfl (pu_move rfl rfl) ?_
    refine g_pu rfl rfl rfl (pu_move rfl rfl) ?_
    refine g_call [19, 119] rfl rfl rfl rfl rfl rfl (fun w' hm => Copies_b w' d (hb.m hm)) (fun x19 h19 => ?_)
    refine g_know (φ := m ≤ x19.c) (fun w' hm => by have := Own.le (hm.holds 19 _ rfl); rwa [h19.1] at this) (fun hc19 => ?_)
    refine g_call [20] rfl rfl rfl rfl rfl rfl (fun w' hm => Expand_b w' _ _ zn (By.ow 16 rfl hm hkl (by omega)) (Owl.by 19 119 rfl rfl hm h19.1 hbig) hc19 (by omega) (by omega) (by omega)) (fun x20 _ => ?_)
    refine g_pu rfl rfl rfl (pu_move rfl rfl) ?_
    refine g_pu rfl rfl rfl (pu_extract rfl rfl rfl) ?_
    refine g_pu rfl rfl rfl (pu_extract rfl rfl rfl) ?_
    refine g_pu rfl rfl rfl (pu_assign rfl rfl) ?_
    refine g_pu rfl rfl rfl (pu_assign rfl rfl) ?_
    refine g_nil ?_
    (repeat refine g_seq ?_)
    refine g_region ?_
    refine g_pu rfl rfl rfl (pu_move rfl rfl) ?_
    refine g_pu rfl rfl rfl (pu_move rfl rfl) ?_
    refine g_pu rfl rfl rfl (pu_move rfl rfl) ?_
    refine g_call [27] rfl rfl rfl rfl rfl rfl (fun w' hm => RJoin_b w' d (hb.m hm) (by omega)) (fun x27 _ => ?_)
    refine g_call [28] rfl rfl rfl rfl rfl rfl (fun w' hm => RExpand_b w' c _ zn (ha.m hm) (By.ow 27 rfl hm rfl (by omega)) (by omega) (by omega) (by omega)) (fun x28 _ => ?_)
    refine g_pu rfl rfl rfl (pu_move rfl rfl) ?_
    refine g_pu rfl rfl rfl (pu_extract rfl rfl rfl) ?_
    refine g_pu rfl rfl rfl (pu_extract rfl rfl rfl) ?_
    refine g_pu rfl rfl rfl (pu_assign rfl rfl) ?_
    refine g_pu rfl rfl rfl (pu_assign rfl rfl) ?_
    refine g_nil ?_
    (repeat refine g_seq ?_)
    refine g_region ?_
    refine g_pu rfl rfl rfl (pu_move rfl rfl) ?_
    refine g_pu rfl rfl rfl (pu_move rfl rfl) ?_
    first | refine g_pu rfl rfl rfl (pu_neq_t rfl rfl rfl (by omega)) ?_ | refine g_pu rfl rfl rfl (pu_neq_f rfl rfl rfl (by omega)) ?_ | refine g_pu rfl rfl rfl (pu_neq rfl rfl rfl) ?_
    refine g_pu rfl rfl rfl (pu_move rfl rfl) ?_
    first | refine g_pass rfl rfl rfl ?_ | refine g_pu rfl rfl rfl (pu_move rfl rfl) ?_
    first | refine g_pass rfl rfl rfl ?_ | refine g_pu rfl rfl rfl (pu_move rfl rfl) ?_
    refine g_call [] rfl rfl rfl rfl rfl rfl (fun w' hm => Equal_b w' _ _ (By.ow 20 rfl hm hel (by omega)) (By.ow 28 rfl hm hel (by omega))) (fun _ _ => ?_)
    rw [decide_eq_true (rfl : expL key ls.flatten zn = expL key ls.flatten zn)]
    first | refine g_pass rfl rfl rfl ?_ | refine g_pu rfl rfl rfl (pu_not rfl rfl) ?_
    first | refine g_pu rfl rfl rfl (pu_pick_t rfl rfl rfl) ?_ | refine g_pu rfl rfl rfl (pu_pick_f rfl rfl rfl) ?_
    refine g_pu rfl rfl rfl (pu_move rfl rfl) ?_
    first | refine g_pass rfl rfl rfl ?_ | refine g_pu rfl rfl rfl (pu_move rfl rfl) ?_
    refine g_call [42] rfl rfl rfl rfl rfl rfl (fun w' hm => RJoin_b w' d (hb.m hm) (by omega)) (fun x42 _ => ?_)
    first | refine g_pass rfl rfl rfl ?_ | refine g_pu rfl rfl rfl (pu_move rfl rfl) ?_
    refine g_call [44] rfl rfl rfl rfl rfl rfl (fun w' hm => Copy_b w' c (ha.m hm)) (fun x44 _ => ?_)
    refine g_call [] rfl rfl rfl rfl rfl rfl (fun w' hm => Extract_b w' _ _ (By.ow 42 rfl hm rfl (by omega)) (By.ow 44 rfl hm hkl (by omega)) (by omega) (by omega)) (fun _ _ => ?_)
    first | refine g_pass rfl rfl rfl ?_ | refine g_pu rfl rfl rfl (pu_move rfl rfl) ?_
    refine g_call [47] rfl rfl rfl rfl rfl rfl (fun w' hm => RJoin_b w' d (hb.m hm) (by omega)) (fun x47 _ => ?_)
    first | refine g_pass rfl rfl rfl ?_ | refine g_pu rfl rfl rfl (pu_move rfl rfl) ?_
    refine g_call [] rfl rfl rfl rfl rfl rfl (fun w' hm => RTag_b w' _ c (By.ow 47 rfl hm rfl (by omega)) (ha.m hm) (by omega) (by omega)) (fun _ _ => ?_)
    refine g_pu rfl rfl rfl (pu_neqA_f rfl rfl rfl rfl (all_bs _) (by rw [bs_length, hhl])) ?_
    first | refine g_pu rfl rfl rfl (pu_pick_t rfl rfl rfl) ?_ | refine g_pu rfl rfl rfl (pu_pick_f rfl rfl rfl) ?_
    refine g_nil ?_
    (repeat refine g_seq ?_)
    refine g_cond_f rfl (g_skip ?_)
    by_cases h8 : (zn : Int) > 8000
    · (repeat refine g_seq ?_)
      refine g_region ?_
      refine g_pu rfl rfl rfl (pu_move rfl rfl) ?_
      first | refine g_pu rfl rfl rfl (pu_neq_t rfl rfl rfl (by omega)) ?_ | refine g_pu rfl rfl rfl (pu_neq_f rfl rfl rfl (by omega)) ?_ | refine g_pu rfl rfl rfl (pu_neq rfl rfl rfl) ?_
      refine g_pu rfl rfl rfl (pu_move rfl rfl) ?_
      first | refine g_pass rfl rfl rfl ?_ | refine g_pu rfl rfl rfl (pu_move rfl rfl) ?_
      first | refine g_pass rfl rfl rfl ?_ | refine g_pu rfl rfl rfl (pu_gtr_t rfl rfl rfl (by omega)) ?_ | refine g_pu rfl rfl rfl (pu_gtr_f rfl rfl rfl (by omega)) ?_ | refine g_pu rfl rfl rfl (pu_gtr rfl rfl rfl) ?_
      first | refine g_pu rfl rfl rfl (pu_pick_t rfl rfl rfl) ?_ | refine g_pu rfl rfl rfl (pu_pick_f rfl rfl rfl) ?_
      refine g_nil ?_
      (repeat refine g_seq ?_)
      refine g_cond_t rfl ?_
      (repeat refine g_seq ?_)
      refine g_region ?_
      refine g_pu rfl rfl rfl (pu_assign rfl rfl) ?_
      refine g_nil ?_
      exact g_ret1 rfl rfl (fun w' hm => ⟨(), trivial, rfl, hm.grows [] trivial rfl⟩)
    · (repeat refine g_seq ?_)
      refine g_region ?_
      refine g_pu rfl rfl rfl (pu_move rfl rfl) ?_
      first | refine g_pu rfl rfl rfl (pu_neq_t rfl rfl rfl (by omega)) ?_ | refine g_pu rfl rfl rfl (pu_neq_f rfl rfl rfl (by omega)) ?_ | refine g_pu rfl rfl rfl (pu_neq rfl rfl rfl) ?_
      refine g_pu rfl rfl rfl (pu_move rfl rfl) ?_
      first | refine g_pass rfl rfl rfl ?_ | refine g_pu rfl rfl rfl (pu_move rfl rfl) ?_
      first | refine g_pass rfl rfl rfl ?_ | refine g_pu rfl rfl rfl (pu_gtr_t rfl rfl rfl (by omega)) ?_ | refine g_pu rfl rfl rfl (pu_gtr_f rfl rfl rfl (by omega)) ?_ | refine g_pu rfl rfl rfl (pu_gtr rfl rfl rfl) ?_
      first | refine g_pu rfl rfl rfl (pu_pick_t rfl rfl rfl) ?_ | refine g_pu rfl rfl rfl (pu_pick_f rfl rfl rfl) ?_
      refine g_nil ?_
      (repeat refine g_seq ?_)
      refine g_cond_f rfl (g_skip ?_)
      (repeat refine g_seq ?_)
      refine g_region ?_
      refine g_pu rfl rfl rfl (pu_move rfl rfl) ?_
      refine g_call [60] rfl rfl rfl rfl rfl rfl (fun w' hm => Copy_b w' c (ha.m hm)) (fun x60 _ => ?_)
      refine g_pu rfl rfl rfl (pu_move rfl rfl) ?_
      refine g_pu rfl rfl rfl (pu_addI rfl rfl rfl (by omega)) ?_
      refine g_pu rfl rfl rfl (pu_move rfl rfl) ?_
      refine g_call [64, 164] rfl rfl rfl rfl rfl rfl (fun w' hm => Copies_b w' d (hb.m hm)) (fun x64 h64 => ?_)
      refine g_know (φ := m ≤ x64.c) (fun w' hm => by have := Own.le (hm.holds 64 _ rfl); rwa [h64.1] at this) (fun hc64 => ?_)
      refine g_call [65] rfl rfl rfl rfl rfl rfl (fun w' hm => Expand_b w' _ _ (zn + 33) (By.ow 60 rfl hm hkl (by omega)) (Owl.by 64 164 rfl rfl hm h64.1 hbig) hc64 (by omega) (by omega) (by omega)) (fun x65 _ => ?_)
      refine g_pu rfl rfl rfl (pu_move rfl rfl) ?_
      refine g_pu rfl rfl rfl (pu_extract rfl rfl rfl) ?_
      refine g_pu rfl rfl rfl (pu_extract rfl rfl rfl) ?_
      refine g_pu rfl rfl rfl (pu_assign rfl rfl) ?_
      refine g_pu rfl rfl rfl (pu_assign rfl rfl) ?_
      refine g_nil ?_
      refine g_know (φ := zn + 33 ≤ x65.c) (fun w' hm => by have := Own.le (hm.holds 65 _ rfl); rwa [bs_length, hel2] at this) (fun hxc => ?_)
      (repeat refine g_seq ?_)
      refine g_region ?_
      refine g_pu rfl rfl rfl (pu_move rfl rfl) ?_
      first | refine g_pu rfl rfl rfl (pu_eql_t rfl rfl rfl (by omega)) ?_ | refine g_pu rfl rfl rfl (pu_eql_f rfl rfl rfl (by omega)) ?_ | refine g_pu rfl rfl rfl (pu_eql rfl rfl rfl) ?_
      refine g_pu rfl rfl rfl (pu_move rfl rfl) ?_
      first | refine g_pass rfl rfl rfl ?_ | refine g_pu rfl rfl rfl (pu_move rfl rfl) ?_
      first | refine g_pass rfl rfl rfl ?_ | refine g_pu rfl rfl rfl (pu_len rfl rfl) ?_ | refine g_pu rfl rfl rfl (pu_lenS rfl rfl) ?_
      first | refine g_pass rfl rfl rfl ?_ | refine g_pu rfl rfl rfl (pu_move rfl rfl) ?_
      first | refine g_pass rfl rfl rfl ?_ | refine g_pu rfl rfl rfl (pu_addI rfl rfl rfl (by omega)) ?_
      refine g_pu rfl rfl rfl (pu_eql_t rfl rfl rfl (by omega)) ?_
      first | refine g_pu rfl rfl rfl (pu_pick_t rfl rfl rfl) ?_ | refine g_pu rfl rfl rfl (pu_pick_f rfl rfl rfl) ?_
      refine g_pu rfl rfl rfl (pu_move rfl rfl) ?_
      first | refine g_pass rfl rfl rfl ?_ | refine g_pu rfl rfl rfl (pu_move rfl rfl) ?_
      first | refine g_pass rfl rfl rfl ?_ | refine g_pu rfl rfl rfl (pu_move rfl rfl) ?_
      refine g_pu rfl rfl rfl (pu_slice_h zn rfl rfl rfl rfl (by omega)) ?_
      first | refine g_pass rfl rfl rfl ?_ | refine g_pu rfl rfl rfl (pu_move rfl rfl) ?_
      refine g_call [] rfl rfl rfl rfl rfl rfl (fun w' hm => Equal_b w' _ _ (a := expL key ls.flatten zn) ⟨by rw [← het, ← bs_take]; exact (Ow.rd (t := 65) rfl hm : RdV w' _ (bs (expL key ls.flatten (zn + 33)))).fst, hel, by omega⟩ (By.ow 20 rfl hm hel (by omega))) (fun _ _ => ?_)
      rw [decide_eq_true (rfl : expL key ls.flatten zn = expL key ls.flatten zn)]
      first | refine g_pu rfl rfl rfl (pu_pick_t rfl rfl rfl) ?_ | refine g_pu rfl rfl rfl (pu_pick_f rfl rfl rfl) ?_
      refine g_pu rfl rfl rfl (pu_assign rfl rfl) ?_
      refine g_nil ?_
      exact g_ret1 rfl rfl (fun w' hm => ⟨(), trivial, rfl, hm.grows [] trivial rfl⟩)
end Go.Sx

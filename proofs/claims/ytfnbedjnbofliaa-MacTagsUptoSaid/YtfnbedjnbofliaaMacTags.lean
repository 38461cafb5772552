/-
  MacTags: every tag is the HMAC of the parts joined, and the short tag of them is accepted. Condition: at most 2^39 bytes a list.
-/
import Derived.Test.YtfnbedjnbofliaaM2
set_option linter.unusedVariables false
set_option linter.unusedSimpArgs false
namespace Go.Sx
open Go Go.Proofs
theorem MacTags_spec (w : World) {p q : Option Addr} {n m : Nat} (c d : Nat) {key : List (BitVec 8)} {L : List Value} {ls : List (List (BitVec 8))} (ha : By w p n key) (hb : ByL w q m L ls) (hnb : n ≤ 549755813888) (hlen : ls.flatten.length ≤ 549755813888) :
    Spec Try.prog 7 #[.slice p n c, .slice q m d] w (σ := Unit) (fun _ => True) (fun _ => .bool true) Nob (fun _ => []) := by
  refine enter Try.func7 rfl rfl (Mem.start w) ?_
  have hbig := hb.big
  have hkl := ha.len
  have hhl := hmacL_length key ls.flatten
  have htl := take_len (l := hmacL key ls.flatten) (k := 16) (by omega)
  have hsm : ∀ l ∈ ls, l.length ≤ 140737488355200 := fun l hl => by have := mem_flat hl; omega
  (repeat refine g_seq ?_)
  refine g_region ?_
  refine g_pu rfl rfl rfl (pu_assign rfl rfl) ?_
  refine g_nil ?_
  (repeat refine g_seq ?_)
  refine g_region ?_
  refine g_call [] rfl rfl rfl rfl rfl rfl (fun w' hm => awake03_b w') (fun _ _ => ?_)
  refine g_pu rfl rfl rfl (pu_not rfl rfl) ?_
  refine g_nil ?_
  (repeat refine g_seq ?_)
  refine g_cond_f rfl (g_skip ?_)
  (repeat refine g_seq ?_)
  refine g_region ?_
  refine g_pu rfl rfl rfl (pu_move rfl rfl) ?_
  refine g_call [10] rfl rfl rfl rfl rfl rfl (fun w' hm => RJoin_b w' d (hb.m hm) (by omega)) (fun x10 _ => ?_)
  refine g_pu rfl rfl rfl (pu_assign rfl rfl) ?_
  refine g_nil ?_
  (repeat refine g_seq ?_)
  refine g_region ?_
  refine g_pu rfl rfl rfl (pu_move rfl rfl) ?_
  refine g_call [12] rfl rfl rfl rfl rfl rfl (fun w' hm => Copy_b w' c (ha.m hm)) (fun x12 _ => ?_)
  refine g_pu rfl rfl rfl (pu_move rfl rfl) ?_
  refine g_call [14, 114] rfl rfl rfl rfl rfl rfl (fun w' hm => Copies_b w' d (hb.m hm)) (fun x14 h14 => ?_)
  refine g_call [15] rfl rfl rfl rfl rfl rfl (fun w' hm => Short_b w' _ _ (By.ow 12 rfl hm hkl (by omega)) (Owl.by 14 114 rfl rfl hm h14.1 hbig) (by omega) hsm (by omega)) (fun x15 _ => ?_)
  refine g_pu rfl rfl rfl (pu_assign rfl rfl) ?_
  refine g_nil ?_
  (repeat refine g_seq ?_)
  refine g_region ?_
  refine g_pu rfl rfl rfl (pu_move rfl rfl) ?_
  refine g_call [17] rfl rfl rfl rfl rfl rfl (fun w' hm => Copy_b w' c (ha.m hm)) (fun x17 _ => ?_)
  refine g_pu rfl rfl rfl (pu_move rfl rfl) ?_
  refine g_call [19, 119] rfl rfl rfl rfl rfl rfl (fun w' hm => Copies_b w' d (hb.m hm)) (fun x19 h19 => ?_)
  refine g_call [] rfl rfl rfl rfl rfl rfl (fun w' hm => Tag_b w' _ _ (By.ow 17 rfl hm hkl (by omega)) (Owl.by 19 119 rfl rfl hm h19.1 hbig) (by omega) hsm (by omega)) (fun _ _ => ?_)
  refine g_pu rfl rfl rfl (pu_move rfl rfl) ?_
  refine g_pu rfl rfl rfl (pu_move rfl rfl) ?_
  refine g_call [] rfl rfl rfl rfl rfl rfl (fun w' hm => RTag_b w' c _ (ha.m hm) (By.ow 10 rfl hm rfl (by omega)) (by omega) (by omega)) (fun _ _ => ?_)
  refine g_pu rfl rfl rfl (pu_eqlA_t rfl rfl rfl rfl (all_bs _) (by rw [bs_length, hhl])) ?_
  refine g_pu rfl rfl rfl (pu_move rfl rfl) ?_
  first | refine g_pass rfl rfl rfl ?_ | refine g_pu rfl rfl rfl (pu_move rfl rfl) ?_
  first | refine g_pass rfl rfl rfl ?_ | refine g_pu rfl rfl rfl (pu_move rfl rfl) ?_
  first | refine g_pass rfl rfl rfl ?_ | refine g_pu rfl rfl rfl (pu_move rfl rfl) ?_
  refine g_call [29] rfl rfl rfl rfl rfl rfl (fun w' hm => RShort_b w' c _ (ha.m hm) (By.ow 10 rfl hm rfl (by omega)) (by omega) (by omega)) (fun x29 _ => ?_)
  refine g_call [] rfl rfl rfl rfl rfl rfl (fun w' hm => Equal_b w' _ _ (By.ow 15 rfl hm htl (by omega)) (By.ow 29 rfl hm htl (by omega))) (fun _ _ => ?_)
  rw [decide_eq_true (rfl : (hmacL key ls.flatten).take 16 = (hmacL key ls.flatten).take 16)]
  first | refine g_pu rfl rfl rfl (pu_pick_t rfl rfl rfl) ?_ | refine g_pu rfl rfl rfl (pu_pick_f rfl rfl rfl) ?_
  refine g_pu rfl rfl rfl (pu_move rfl rfl) ?_
  first | refine g_pass rfl rfl rfl ?_ | refine g_pu rfl rfl rfl (pu_move rfl rfl) ?_
  refine g_call [34] rfl rfl rfl rfl rfl rfl (fun w' hm => Copy_b w' c (ha.m hm)) (fun x34 _ => ?_)
  first | refine g_pass rfl rfl rfl ?_ | refine g_pu rfl rfl rfl (pu_move rfl rfl) ?_
  first | refine g_pass rfl rfl rfl ?_ | refine g_pu rfl rfl rfl (pu_move rfl rfl) ?_
  first | (refine g_pass rfl rfl rfl ?_) | (refine g_lo [37] rfl rfl rfl rfl (lo_buildSlice rfl rfl (by decide) (by decide) rfl rfl) (fun b37 hb37 => ?_))
  refine g_call [] rfl rfl rfl rfl rfl rfl (fun w' hm => MCheck_b w' _ _ _ (LL := [x10.sl ls.flatten.length]) (ls := [ls.flatten]) (By.ow 34 rfl hm hkl (by omega)) (By.ow 15 rfl hm htl (by omega)) ⟨hm.rowA 37 rfl, rfl, All2.cons (IsB.own 10 rfl hm rfl (by omega)) All2.nil, by omega⟩ (by omega) (fun l hl => by obtain rfl := List.mem_singleton.1 hl; omega) (by rw [flat1]; omega)) (fun _ _ => ?_)
  rw [flat1, decide_eq_true (rfl : (hmacL key ls.flatten).take 16 = (hmacL key ls.flatten).take 16)]
  first | refine g_pu rfl rfl rfl (pu_pick_t rfl rfl rfl) ?_ | refine g_pu rfl rfl rfl (pu_pick_f rfl rfl rfl) ?_
  refine g_pu rfl rfl rfl (pu_assign rfl rfl) ?_
  refine g_nil ?_
  exact g_ret1 rfl rfl (fun w' hm => ⟨(), trivial, rfl, hm.grows [] trivial rfl⟩)
end Go.Sx

/-
  MacChecks: a short tag is accepted just if it is the right one. Condition: at most 2^39 bytes a list.
-/
import Derived.Test.YtfnbedjnbofliaaM2
set_option linter.unusedVariables false
set_option linter.unusedSimpArgs false
namespace Go.Sx
open Go Go.Proofs
theorem MacChecks_spec (w : World) {p q r : Option Addr} {n m k : Nat} (c d f : Nat) {key tg : List (BitVec 8)} {L : List Value} {ls : List (List (BitVec 8))} (ha : By w p n key) (ht : By w r k tg) (hb : ByL w q m L ls) (hnb : n ≤ 549755813888) (hlen : ls.flatten.length ≤ 549755813888) :
    Spec Try.prog 4 #[.slice p n c, .slice r k f, .slice q m d] w (σ := Unit) (fun _ => True) (fun _ => .bool true) Nob (fun _ => []) := by
  refine enter Try.func4 rfl rfl (Mem.start w) ?_
  have hbig := hb.big
  have hkl := ha.len
  have htg := ht.len
  have htb := ht.big
  have hhl := hmacL_length key ls.flatten
  have htl := take_len (l := hmacL key ls.flatten) (k := 16) (by omega)
  have hsm : ∀ l ∈ ls, l.length ≤ 140737488355200 := fun l hl => by have := mem_flat hl; omega
  (repeat refine g_seq ?_)
  refine g_region ?_
  refine g_pu rfl rfl rfl (pu_assign rfl rfl) ?_
  refine g_nil ?_
  (repeat refine g_seq ?_)
  refine g_region ?_
  refine g_call [] rfl rfl rfl rfl rfl rfl (fun w' hm => awake03_b w') (fun _ _ => ?_)
  refine g_pu rfl rfl rfl (pu_not rfl rfl) ?_
  refine g_pu rfl rfl rfl (pu_move rfl rfl) ?_
  first | (refine g_pass rfl rfl rfl ?_) | (refine g_lo [10] rfl rfl rfl rfl (lo_buildSlice rfl rfl (by decide) (by decide) rfl rfl) (fun b10 hb10 => ?_))
  refine g_call [] rfl rfl rfl rfl rfl rfl (fun w' hm => MCheck_b w' 0 0 _ (key := []) (tg := [0xb6#8, 0x13#8, 0x67#8, 0x9a#8, 0x08#8, 0x14#8, 0xd9#8, 0xec#8, 0x77#8, 0x2f#8, 0x95#8, 0xd7#8, 0x78#8, 0xc3#8, 0x5f#8, 0xc5#8]) (LL := []) (ls := []) (By.nil w' none) (By.full 10 rfl hm rfl (by omega)) ⟨RdV.nil _ _, rfl, All2.nil, by omega⟩ (by omega) (fun l hl => by simp at hl) (by simp)) (fun _ _ => ?_)
  rw [show ([] : List (List (BitVec 8))).flatten = [] from rfl, hmac_none, decide_eq_true (rfl : [0xb6#8, 0x13#8, 0x67#8, 0x9a#8, 0x08#8, 0x14#8, 0xd9#8, 0xec#8, 0x77#8, 0x2f#8, 0x95#8, 0xd7#8, 0x78#8, 0xc3#8, 0x5f#8, 0xc5#8] = _)]
  first | refine g_pass rfl rfl rfl ?_ | refine g_pu rfl rfl rfl (pu_not rfl rfl) ?_
  first | refine g_pu rfl rfl rfl (pu_pick_t rfl rfl rfl) ?_ | refine g_pu rfl rfl rfl (pu_pick_f rfl rfl rfl) ?_
  refine g_nil ?_
  (repeat refine g_seq ?_)
  refine g_cond_f rfl (g_skip ?_)
  (repeat refine g_seq ?_)
  refine g_region ?_
  refine g_pu rfl rfl rfl (pu_move rfl rfl) ?_
  refine g_call [15] rfl rfl rfl rfl rfl rfl (fun w' hm => Copy_b w' c (ha.m hm)) (fun x15 _ => ?_)
  refine g_pu rfl rfl rfl (pu_move rfl rfl) ?_
  refine g_call [17] rfl rfl rfl rfl rfl rfl (fun w' hm => Copy_b w' f (ht.m hm)) (fun x17 _ => ?_)
  refine g_pu rfl rfl rfl (pu_move rfl rfl) ?_
  refine g_call [19, 119] rfl rfl rfl rfl rfl rfl (fun w' hm => Copies_b w' d (hb.m hm)) (fun x19 h19 => ?_)
  refine g_call [] rfl rfl rfl rfl rfl rfl (fun w' hm => MCheck_b w' _ _ _ (By.ow 15 rfl hm hkl (by omega)) (By.ow 17 rfl hm htg (by omega)) (Owl.by 19 119 rfl rfl hm h19.1 hbig) (by omega) hsm (by omega)) (fun _ _ => ?_)
  refine g_pu rfl rfl rfl (pu_move rfl rfl) ?_
  refine g_pu rfl rfl rfl (pu_move rfl rfl) ?_
  refine g_pu rfl rfl rfl (pu_move rfl rfl) ?_
  refine g_call [24] rfl rfl rfl rfl rfl rfl (fun w' hm => RJoin_b w' d (hb.m hm) (by omega)) (fun x24 _ => ?_)
  refine g_call [25] rfl rfl rfl rfl rfl rfl (fun w' hm => RShort_b w' c _ (ha.m hm) (By.ow 24 rfl hm rfl (by omega)) (by omega) (by omega)) (fun x25 _ => ?_)
  refine g_call [] rfl rfl rfl rfl rfl rfl (fun w' hm => Equal_b w' f _ (ht.m hm) (By.ow 25 rfl hm htl (by omega))) (fun _ _ => ?_)
  refine g_pu rfl rfl rfl (pu_eqlB_t rfl rfl rfl rfl) ?_
  refine g_pu rfl rfl rfl (pu_assign rfl rfl) ?_
  refine g_nil ?_
  exact g_ret1 rfl rfl (fun w' hm => ⟨(), trivial, rfl, hm.grows [] trivial rfl⟩)
end Go.Sx

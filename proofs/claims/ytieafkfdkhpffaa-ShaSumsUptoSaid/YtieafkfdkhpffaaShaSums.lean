/-
  ShaSums: SHA-256 of any parts is that of the parts joined, by the standard. Condition: at most 2^39 bytes together.
-/
import Derived.Test.YtieafkfdkhpffaaS7
set_option linter.unusedVariables false
set_option linter.unusedSimpArgs false
namespace Go.Sx
open Go Go.Proofs
theorem ShaSums_spec (w : World) {p : Option Addr} {n : Nat} (c : Nat) {L : List Value} {ls : List (List (BitVec 8))} (ha : ByL w p n L ls) (hlen : ls.flatten.length ≤ 549755813888) :
    Spec Try.prog 5 #[.slice p n c] w (σ := Unit) (fun _ => True) (fun _ => .bool true) Nob (fun _ => []) := by
  refine enter Try.func5 rfl rfl (Mem.start w) ?_
  have hbig := ha.big
  have hsl := shaL_length ls.flatten
  (repeat refine g_seq ?_)
  refine g_region ?_
  refine g_pu rfl rfl rfl (pu_assign rfl rfl) ?_
  refine g_nil ?_
  (repeat refine g_seq ?_)
  refine g_region ?_
  refine g_call [] rfl rfl rfl rfl rfl rfl (fun w' hm => awake02_b w') (fun _ _ => ?_)
  refine g_pu rfl rfl rfl (pu_move rfl rfl) ?_
  first | refine g_pass rfl rfl rfl ?_ | refine g_pu rfl rfl rfl (pu_move rfl rfl) ?_
  refine g_call [6, 106] rfl rfl rfl rfl rfl rfl (fun w' hm => Copies_b w' c (ha.m hm)) (fun x6 h6 => ?_)
  refine g_call [] rfl rfl rfl rfl rfl rfl (fun w' hm => ShaSum_b w' _ (Owl.by 6 106 rfl rfl hm h6.1 hbig) hlen) (fun _ _ => ?_)
  first | refine g_pass rfl rfl rfl ?_ | refine g_pu rfl rfl rfl (pu_move rfl rfl) ?_
  refine g_call [9] rfl rfl rfl rfl rfl rfl (fun w' hm => RJoin_b w' c (ha.m hm) (by omega)) (fun x9 _ => ?_)
  refine g_call [] rfl rfl rfl rfl rfl rfl (fun w' hm => RSum_b w' _ (By.ow 9 rfl hm rfl (by omega)) hlen) (fun _ _ => ?_)
  refine g_pu rfl rfl rfl (pu_eqlA_t rfl rfl rfl rfl (all_bs _) (by rw [bs_length, hsl])) ?_
  first | refine g_pu rfl rfl rfl (pu_pick_t rfl rfl rfl) ?_ | refine g_pu rfl rfl rfl (pu_pick_f rfl rfl rfl) ?_
  refine g_pu rfl rfl rfl (pu_assign rfl rfl) ?_
  refine g_nil ?_
  exact g_ret1 rfl rfl (fun w' hm => ⟨(), trivial, rfl, hm.grows [] trivial rfl⟩)
end Go.Sx

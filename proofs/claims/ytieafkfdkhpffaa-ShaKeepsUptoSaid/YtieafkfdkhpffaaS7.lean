/-
  SHA-256 is awake: the sum of "abc". No condition.
-/
import Derived.Test.YtieafkfdkhpffaaS6
import Derived.Test.YtieafkfdkhpffaaSxConv
set_option linter.unusedVariables false
set_option linter.unusedSimpArgs false
namespace Go.Sx
open Go Go.Proofs

set_option maxRecDepth 100000 in
theorem sha_abc : shaL [97#8, 98#8, 99#8] = [186#8, 120#8, 22#8, 191#8, 143#8, 1#8, 207#8, 234#8, 65#8, 65#8, 64#8, 222#8, 93#8, 174#8, 34#8, 35#8, 176#8, 3#8, 97#8, 163#8, 150#8, 23#8, 122#8, 156#8, 180#8, 16#8, 255#8, 97#8, 242#8, 0#8, 21#8, 173#8] := by decide +kernel

theorem awake02_b (w : World) : Spec Try.prog 17 #[] w (σ := Unit) (fun _ => True) (fun _ => .bool true) Nob (fun _ => []) := by
  refine enter Try.func17 rfl rfl (Mem.start w) ?_
  (repeat refine g_seq ?_)
  refine g_region ?_
  refine g_pu rfl rfl rfl (pu_assign rfl rfl) ?_
  refine g_nil ?_
  (repeat refine g_seq ?_)
  refine g_region ?_
  refine g_lo [2] rfl rfl rfl rfl (lo_buildSlice rfl rfl (by decide) (by decide) rfl rfl) (fun b2 hb2 => ?_)
  refine g_mark 2 rfl rfl rfl rfl rfl rfl ?_
  refine g_lo [4] rfl rfl rfl rfl (lo_buildSlice rfl rfl (by decide) (by decide) rfl rfl) (fun b4 hb4 => ?_)
  refine g_mark 4 rfl rfl rfl rfl rfl rfl ?_
  refine g_lo [6] rfl rfl rfl rfl (lo_buildSlice rfl rfl (by decide) (by decide) rfl rfl) (fun b6 hb6 => ?_)
  refine g_call [] rfl rfl rfl rfl rfl rfl (fun w' hm => ShaSum_b w' _ (LL := [.slice (some ⟨b2, 0, none⟩) 1 1, .slice none 0 0, .slice (some ⟨b4, 0, none⟩) 2 2]) (ls := [[97#8], [], [98#8, 99#8]]) ⟨hm.rowA 6 rfl, rfl, All2.cons (IsB.full 2 rfl hm rfl (by omega)) (All2.cons ⟨none, 0, 0, rfl, By.nil w' none, fun _ _ => trivial⟩ (All2.cons (IsB.full 4 rfl hm rfl (by omega)) All2.nil)), by omega⟩ (by decide)) (fun _ _ => ?_)
  rw [show [[97#8], [], [98#8, 99#8]].flatten = [97#8, 98#8, 99#8] from rfl, sha_abc]
  refine g_lo [1] rfl rfl rfl rfl (lo_alloc rfl) (fun b1 hb1 => ?_)
  refine g_storeL 1 rfl rfl rfl rfl rfl rfl rfl rfl (oneCell_bs _) ?_
  refine g_nil ?_
  (repeat refine g_seq ?_)
  refine g_region ?_
  refine g_pu rfl rfl rfl (pu_atA1 0 rfl rfl rfl rfl (by omega)) ?_
  refine g_pu rfl rfl rfl (pu_load 1 rfl rfl rfl rfl) ?_
  first | refine g_pu rfl rfl rfl (pu_eql8_t (b := 186#8) rfl rfl rfl (by first | rfl | assumption | decide)) ?_ | refine g_pu rfl rfl rfl (pu_eql8_f (b := 186#8) rfl rfl rfl (by first | assumption | decide)) ?_ | refine g_pu rfl rfl rfl (pu_eql8 (b := 186#8) rfl rfl rfl) ?_
  refine g_pu rfl rfl rfl (pu_move rfl rfl) ?_
  first | refine g_pass rfl rfl rfl ?_ | refine g_pu rfl rfl rfl (pu_atA1 1 rfl rfl rfl rfl (by omega)) ?_
  first | refine g_pass rfl rfl rfl ?_ | refine g_pu rfl rfl rfl (pu_load 1 rfl rfl rfl rfl) ?_
  first | refine g_pass rfl rfl rfl ?_ | refine g_pu rfl rfl rfl (pu_eql8_t (b := 120#8) rfl rfl rfl (by first | rfl | assumption | decide)) ?_ | refine g_pu rfl rfl rfl (pu_eql8_f (b := 120#8) rfl rfl rfl (by first | assumption | decide)) ?_ | refine g_pu rfl rfl rfl (pu_eql8 (b := 120#8) rfl rfl rfl) ?_
  first | refine g_pu rfl rfl rfl (pu_pick_t rfl rfl rfl) ?_ | refine g_pu rfl rfl rfl (pu_pick_f rfl rfl rfl) ?_
  refine g_pu rfl rfl rfl (pu_move rfl rfl) ?_
  first | refine g_pass rfl rfl rfl ?_ | refine g_pu rfl rfl rfl (pu_atA1 2 rfl rfl rfl rfl (by omega)) ?_
  first | refine g_pass rfl rfl rfl ?_ | refine g_pu rfl rfl rfl (pu_load 1 rfl rfl rfl rfl) ?_
  first | refine g_pass rfl rfl rfl ?_ | refine g_pu rfl rfl rfl (pu_eql8_t (b := 22#8) rfl rfl rfl (by first | rfl | assumption | decide)) ?_ | refine g_pu rfl rfl rfl (pu_eql8_f (b := 22#8) rfl rfl rfl (by first | assumption | decide)) ?_ | refine g_pu rfl rfl rfl (pu_eql8 (b := 22#8) rfl rfl rfl) ?_
  first | refine g_pu rfl rfl rfl (pu_pick_t rfl rfl rfl) ?_ | refine g_pu rfl rfl rfl (pu_pick_f rfl rfl rfl) ?_
  refine g_pu rfl rfl rfl (pu_move rfl rfl) ?_
  first | refine g_pass rfl rfl rfl ?_ | refine g_pu rfl rfl rfl (pu_atA1 31 rfl rfl rfl rfl (by omega)) ?_
  first | refine g_pass rfl rfl rfl ?_ | refine g_pu rfl rfl rfl (pu_load 1 rfl rfl rfl rfl) ?_
  first | refine g_pass rfl rfl rfl ?_ | refine g_pu rfl rfl rfl (pu_eql8_t (b := 173#8) rfl rfl rfl (by first | rfl | assumption | decide)) ?_ | refine g_pu rfl rfl rfl (pu_eql8_f (b := 173#8) rfl rfl rfl (by first | assumption | decide)) ?_ | refine g_pu rfl rfl rfl (pu_eql8 (b := 173#8) rfl rfl rfl) ?_
  first | refine g_pu rfl rfl rfl (pu_pick_t rfl rfl rfl) ?_ | refine g_pu rfl rfl rfl (pu_pick_f rfl rfl rfl) ?_
  refine g_pu rfl rfl rfl (pu_assign rfl rfl) ?_
  refine g_nil ?_
  exact g_ret1 rfl rfl (fun w' hm => ⟨(), trivial, rfl, hm.grows [] trivial rfl⟩)
end Go.Sx

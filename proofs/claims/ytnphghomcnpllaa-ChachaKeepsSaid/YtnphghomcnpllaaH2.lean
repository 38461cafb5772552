/-
  A block of the stream. The key has 32 bytes, the nonce 12.
-/
import Derived.Test.YtnphghomcnpllaaH1
import Derived.Test.YtnphghomcnpllaaWords
set_option linter.unusedVariables false
set_option linter.unusedSimpArgs false
namespace Go.Sx
open Go Go.Proofs

theorem word_b (w : World) {p : Option Addr} {n : Nat} (c : Nat) {l : List (BitVec 8)} (ha : By w p n l) (h4 : 4 ≤ n) :
    Spec Try.prog 43 #[.slice p n c] w (σ := Unit) (fun _ => True) (fun _ => b32 (word4 l)) Nob (fun _ => []) := by
  refine enter Try.func43 rfl rfl (Mem.start w) ?_
  have hn := ha.len
  have g : ∀ j, j < 4 → l[j]? = some (l.getD j 0#8) := fun j hj => by
    have : l[j]? = some l[j] := List.getElem?_eq_getElem (by omega)
    simp [List.getD, this]
  (repeat refine g_seq ?_)
  refine g_region ?_
  refine g_pu rfl rfl rfl (pu_assign (v := b32 0#32) rfl rfl) ?_
  refine g_nil ?_
  (repeat refine g_seq ?_)
  refine g_any (23, []) ?_
  refine a_pu 0 rfl rfl rfl rfl (pu_move rfl rfl) rfl rfl (by kernel_rfl) ?_
  refine a_pu 1 rfl rfl rfl rfl (pu_atB 0 (fun w' hm => ha.m hm) rfl rfl rfl (by omega) (by omega)) rfl rfl (by kernel_rfl) ?_
  refine a_pu 2 rfl rfl rfl rfl (pu_rdB (fun w' hm => ha.m hm) rfl rfl (g 0 (by omega))) rfl rfl (by kernel_rfl) ?_
  refine a_pu 3 rfl rfl rfl rfl (pu_conv8_32 rfl rfl) rfl rfl (by kernel_rfl) ?_
  refine a_pu 4 rfl rfl rfl rfl (pu_move rfl rfl) rfl rfl (by kernel_rfl) ?_
  refine a_pu 5 rfl rfl rfl rfl (pu_atB 1 (fun w' hm => ha.m hm) rfl rfl rfl (by omega) (by omega)) rfl rfl (by kernel_rfl) ?_
  refine a_pu 6 rfl rfl rfl rfl (pu_rdB (fun w' hm => ha.m hm) rfl rfl (g 1 (by omega))) rfl rfl (by kernel_rfl) ?_
  refine a_pu 7 rfl rfl rfl rfl (pu_conv8_32 rfl rfl) rfl rfl (by kernel_rfl) ?_
  refine a_pu 8 rfl rfl rfl rfl (pu_shl32 rfl rfl rfl (by omega)) rfl rfl (by kernel_rfl) ?_
  refine a_pu 9 rfl rfl rfl rfl (pu_or32 rfl rfl rfl) rfl rfl (by kernel_rfl) ?_
  refine a_pu 10 rfl rfl rfl rfl (pu_move rfl rfl) rfl rfl (by kernel_rfl) ?_
  refine a_pu 11 rfl rfl rfl rfl (pu_atB 2 (fun w' hm => ha.m hm) rfl rfl rfl (by omega) (by omega)) rfl rfl (by kernel_rfl) ?_
  refine a_pu 12 rfl rfl rfl rfl (pu_rdB (fun w' hm => ha.m hm) rfl rfl (g 2 (by omega))) rfl rfl (by kernel_rfl) ?_
  refine a_pu 13 rfl rfl rfl rfl (pu_conv8_32 rfl rfl) rfl rfl (by kernel_rfl) ?_
  refine a_pu 14 rfl rfl rfl rfl (pu_shl32 rfl rfl rfl (by omega)) rfl rfl (by kernel_rfl) ?_
  refine a_pu 15 rfl rfl rfl rfl (pu_or32 rfl rfl rfl) rfl rfl (by kernel_rfl) ?_
  refine a_pu 16 rfl rfl rfl rfl (pu_move rfl rfl) rfl rfl (by kernel_rfl) ?_
  refine a_pu 17 rfl rfl rfl rfl (pu_atB 3 (fun w' hm => ha.m hm) rfl rfl rfl (by omega) (by omega)) rfl rfl (by kernel_rfl) ?_
  refine a_pu 18 rfl rfl rfl rfl (pu_rdB (fun w' hm => ha.m hm) rfl rfl (g 3 (by omega))) rfl rfl (by kernel_rfl) ?_
  refine a_pu 19 rfl rfl rfl rfl (pu_conv8_32 rfl rfl) rfl rfl (by kernel_rfl) ?_
  refine a_pu 20 rfl rfl rfl rfl (pu_shl32 rfl rfl rfl (by omega)) rfl rfl (by kernel_rfl) ?_
  refine a_pu 21 rfl rfl rfl rfl (pu_or32 rfl rfl rfl) rfl rfl (by kernel_rfl) ?_
  refine a_pu 22 rfl rfl rfl rfl (pu_assign rfl rfl) rfl rfl (by kernel_rfl) ?_
  refine a_done (by kernel_rfl) ?_
  exact g_ret1 rfl rfl (fun w' hm => ⟨(), trivial, rfl, hm.grows [] trivial rfl⟩)

def sigma : List (BitVec 32) := [1634760805#32, 857760878#32, 2036477234#32, 1797285236#32]
def stateL (key nonce : List (BitVec 8)) (ctr : BitVec 32) : List (BitVec 32) := sigma ++ wordsL key ++ [ctr] ++ wordsL nonce
end Go.Sx

/-
  Contracts of the reference's copies and equality of lists of bytes, and of the codec's padding with its reference. Each list is at most 2^47 bytes long.
-/
import Derived.Test.YtckfeakolpjleaaFacts
set_option linter.unusedVariables false
set_option linter.unusedSimpArgs false
namespace Go.Sx
open Go Go.Proofs

theorem Copy_spec (w : World) (p : Option Addr) (n c : Nat) (l : List (BitVec 8)) (hr : RdV w p (bs l)) (hn : l.length = n) (hbig : n ≤ 140737488355328) :
    Spec Try.prog 15 #[.slice p n c] w (σ := Ow) (fun _ => True) (fun x => x.sl n) Nob (fun x => [x.ck 5 1 (bs l)]) := by
  refine enter Try.func15 rfl rfl (Mem.start w) ?_
  (repeat refine g_seq ?_)
  refine g_region ?_
  refine g_pu rfl rfl rfl (pu_assign rfl rfl) ?_
  refine g_nil ?_
  (repeat refine g_seq ?_)
  refine g_region ?_
  refine g_lo [3] rfl rfl rfl rfl (lo_buildSlice0 rfl) (fun b3 hb3 => ?_)
  refine g_pu rfl rfl rfl (pu_move rfl rfl) ?_
  refine g_own 3 (L := []) (J := []) (c := 0) (s := 1) rfl (by simp) (by omega) ?_
  refine g_append1 3 (bs l) rfl rfl rfl rfl rfl rfl rfl rfl rfl (fun w' hm => hr.mem0 hm) (by rw [bs_length, hn]) (oneCell_bs l) (by omega) (by omega) (fun p' c' => ?_)
  refine g_pu rfl rfl rfl (pu_assign rfl rfl) ?_
  refine g_nil ?_
  exact g_ret1 rfl rfl (fun w' hm => ⟨⟨p', c'⟩, trivial, by simp [Ow.sl], hm.grows [3] ⟨rfl, trivial⟩ rfl⟩)

/-! ## Padding -/
def padE (n : Nat) (z : Int) : Int := if z < 0 ∨ z > 16777216 then 1 else if (n : Int) > z then 2 else 0
def padL (l : List (BitVec 8)) (z : Int) : List (BitVec 8) := if padE l.length z = 0 then l ++ List.replicate (z.toNat - l.length) 0#8 else []

end Go.Sx

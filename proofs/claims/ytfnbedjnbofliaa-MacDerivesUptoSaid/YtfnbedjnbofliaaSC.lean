/-
  The tables of SHA-256: of the program and of the reference. No condition.
-/
import Derived.Test.YtfnbedjnbofliaaSK
set_option linter.unusedVariables false
set_option linter.unusedSimpArgs false
namespace Go.Sx
open Go Go.Proofs

theorem Start_b (w : World) : Spec Try.prog 55 #[] w (σ := Unit) (fun _ => True) (fun _ => .agg (ws s0T).toArray) Nob (fun _ => []) := by
  refine enter Try.func55 rfl rfl (Mem.start w) ?_
  (repeat refine g_seq ?_)
  refine g_region ?_
  refine g_lo [0] rfl rfl rfl rfl (lo_alloc rfl) (fun b0 hb0 => ?_)
  refine g_nil ?_
  (repeat refine g_seq ?_)
  refine g_region ?_
  refine g_pu rfl rfl rfl (pu_buildA' (cs := ws s0T) rfl rfl (by kernel_rfl)) ?_
  refine g_storeL 0 (C := ws s0T) rfl rfl rfl rfl rfl rfl (by rw [ws_length]; exact s0T_length) (by simp) (oneCell_ws _) ?_
  refine g_nil ?_
  exact g_retL 0 (L := ws s0T) rfl (by rw [ws_length]; exact s0T_length) rfl rfl (fun w' hm => ⟨(), trivial, rfl, hm.grows [] trivial rfl⟩)
theorem Constants_b (w : World) : Spec Try.prog 65 #[] w (σ := Unit) (fun _ => True) (fun _ => .agg (ws kT).toArray) Nob (fun _ => []) := by
  refine enter Try.func65 rfl rfl (Mem.start w) ?_
  (repeat refine g_seq ?_)
  refine g_region ?_
  refine g_lo [0] rfl rfl rfl rfl (lo_alloc rfl) (fun b0 hb0 => ?_)
  refine g_nil ?_
  (repeat refine g_seq ?_)
  refine g_region ?_
  refine g_pu rfl rfl rfl (pu_buildA' (cs := ws kT) rfl rfl (by kernel_rfl)) ?_
  refine g_storeL 0 (C := ws kT) rfl rfl rfl rfl rfl rfl (by rw [ws_length]; exact kT_length) (by simp) (oneCell_ws _) ?_
  refine g_nil ?_
  exact g_retL 0 (L := ws kT) rfl (by rw [ws_length]; exact kT_length) rfl rfl (fun w' hm => ⟨(), trivial, rfl, hm.grows [] trivial rfl⟩)
theorem Table_b (w : World) : Spec Try.prog 62 #[] w (σ := Unit) (fun _ => True) (fun _ => .agg (ws kT).toArray) Nob (fun _ => []) := by
  refine enter Try.func62 rfl rfl (Mem.start w) ?_
  (repeat refine g_seq ?_)
  refine g_region ?_
  refine g_lo [0] rfl rfl rfl rfl (lo_alloc rfl) (fun b0 hb0 => ?_)
  refine g_nil ?_
  (repeat refine g_seq ?_)
  refine g_region ?_
  refine g_pu rfl rfl rfl (pu_buildA' (cs := ws kT) rfl rfl (by kernel_rfl)) ?_
  refine g_storeL 0 (C := ws kT) rfl rfl rfl rfl rfl rfl (by rw [ws_length]; exact kT_length) (by simp) (oneCell_ws _) ?_
  refine g_nil ?_
  exact g_retL 0 (L := ws kT) rfl (by rw [ws_length]; exact kT_length) rfl rfl (fun w' hm => ⟨(), trivial, rfl, hm.grows [] trivial rfl⟩)
theorem First_b (w : World) : Spec Try.prog 51 #[] w (σ := Unit) (fun _ => True) (fun _ => .agg (ws s0T).toArray) Nob (fun _ => []) := by
  refine enter Try.func51 rfl rfl (Mem.start w) ?_
  (repeat refine g_seq ?_)
  refine g_region ?_
  refine g_lo [0] rfl rfl rfl rfl (lo_alloc rfl) (fun b0 hb0 => ?_)
  refine g_nil ?_
  (repeat refine g_seq ?_)
  refine g_region ?_
  refine g_pu rfl rfl rfl (pu_buildA' (cs := ws s0T) rfl rfl (by kernel_rfl)) ?_
  refine g_storeL 0 (C := ws s0T) rfl rfl rfl rfl rfl rfl (by rw [ws_length]; exact s0T_length) (by simp) (oneCell_ws _) ?_
  refine g_nil ?_
  exact g_retL 0 (L := ws s0T) rfl (by rw [ws_length]; exact s0T_length) rfl rfl (fun w' hm => ⟨(), trivial, rfl, hm.grows [] trivial rfl⟩)
end Go.Sx

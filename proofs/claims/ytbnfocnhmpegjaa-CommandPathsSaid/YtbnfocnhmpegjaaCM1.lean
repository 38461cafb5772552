/-
  Commands: their cells, the check, and their bytes, of the program. The mark has 16 bytes.
-/
import Derived.Test.YtbnfocnhmpegjaaCC
import Derived.Test.YtbnfocnhmpegjaaSxEq
import Derived.Test.YtbnfocnhmpegjaaSxOff
import Derived.Test.YtbnfocnhmpegjaaSxPend
set_option linter.unusedVariables false
set_option linter.unusedSimpArgs false
namespace Go.Sx
open Go Go.Proofs

structure Cmd where
  k : BitVec 8
  f : BitVec 8
  d : BitVec 32
  n : BitVec 64
  m : List (BitVec 8)
def cmdC (x : Cmd) : List Value := [b8 x.k, b8 x.f, b32 x.d, b64 x.n] ++ bs x.m
theorem cmdC_length {x : Cmd} (h : x.m.length = 16) : (cmdC x).length = 20 := by simp [cmdC, bs_length, h]
def zero16 : List (BitVec 8) := List.replicate 16 0#8
def chkE (x : Cmd) : Int :=
  if x.k.toNat < 1 ∨ x.k.toNat > 4 then 1
  else if (x.k.toNat = 1 ∧ x.n.toNat = 0) ∨ (x.k.toNat ≠ 1 ∧ x.n.toNat ≠ 0) ∨ (x.k.toNat ≠ 4 ∧ x.m ≠ zero16) then 3
  else if x.d.toNat > 1000000 then 11 else 0
theorem ext_mark {x : Cmd} (h : x.m.length = 16) : (cmdC x).toArray.extract (0 + 4) (0 + 4 + 16) = (bs x.m).toArray := by
  apply Array.ext'
  simp only [Array.toList_extract, List.extract_eq_take_drop]
  rw [show (cmdC x).drop (0 + 4) = bs x.m from rfl, List.take_of_length_le (by rw [bs_length, h]; omega)]
theorem ev_ext {e : List (Nat × Value)} {y : Operand} {a b : Array Value} (h : ev e y = some (.agg a)) (he : a = b) : ev e y = some (.agg b) := by rw [h, he]

theorem Check_b (w : World) (x : Cmd) (h16 : x.m.length = 16) : Spec Try.prog 19 #[.agg (cmdC x).toArray] w (σ := Unit) (fun _ => True) (fun _ => .int .i64 (chkE x)) Nob (fun _ => []) := by
  refine enter Try.func19 rfl rfl (Mem.start w) ?_
  have hml : (bs x.m).length = 16 := by rw [bs_length, h16]
  have hcl := cmdC_length h16
  (repeat refine g_seq ?_)
  refine g_region ?_
  refine g_lo [1] rfl rfl rfl rfl (lo_box rfl rfl) (fun b1 hb1 => ?_)
  refine g_pu rfl rfl rfl (pu_assign rfl rfl) ?_
  refine g_nil ?_
  by_cases hk : x.k.toNat < 1 ∨ x.k.toNat > 4
  · have hE : chkE x = 1 := by unfold chkE; rw [if_pos hk]
    rw [hE]
    rcases hk with hk | hk
    · (repeat refine g_seq ?_)
      refine g_region ?_
      refine g_pu rfl rfl rfl (pu_fieldAddr (by decide) rfl rfl) ?_
      refine g_pu rfl rfl rfl (pu_load 1 rfl rfl rfl rfl) ?_
      refine g_pu rfl rfl rfl (pu_lss_t rfl rfl rfl (by omega)) ?_
      refine g_pu rfl rfl rfl (pu_move rfl rfl) ?_
      first | refine g_pass rfl rfl rfl ?_ | refine g_pu rfl rfl rfl (pu_fieldAddr (by decide) rfl rfl) ?_
      first | refine g_pass rfl rfl rfl ?_ | refine g_pu rfl rfl rfl (pu_load 1 rfl rfl rfl rfl) ?_
      first | refine g_pass rfl rfl rfl ?_ | refine g_pu rfl rfl rfl (pu_gtr rfl rfl rfl) ?_
      first | refine g_pu rfl rfl rfl (pu_pick_t rfl rfl rfl) ?_ | refine g_pu rfl rfl rfl (pu_pick_f rfl rfl rfl) ?_
      refine g_nil ?_
      (repeat refine g_seq ?_)
      refine g_cond_t rfl ?_
      (repeat refine g_seq ?_)
      refine g_region ?_
      refine g_pu rfl rfl rfl (pu_assign rfl rfl) ?_
      refine g_nil ?_
      exact g_ret1 rfl rfl (fun w' hm => ⟨(), trivial, rfl, hm.grows [] trivial rfl⟩)
    · (repeat refine g_seq ?_)
      refine g_region ?_
      refine g_pu rfl rfl rfl (pu_fieldAddr (by decide) rfl rfl) ?_
      refine g_pu rfl rfl rfl (pu_load 1 rfl rfl rfl rfl) ?_
      refine g_pu rfl rfl rfl (pu_lss_f rfl rfl rfl (by omega)) ?_
      refine g_pu rfl rfl rfl (pu_move rfl rfl) ?_
      first | refine g_pass rfl rfl rfl ?_ | refine g_pu rfl rfl rfl (pu_fieldAddr (by decide) rfl rfl) ?_
      first | refine g_pass rfl rfl rfl ?_ | refine g_pu rfl rfl rfl (pu_load 1 rfl rfl rfl rfl) ?_
      refine g_pu rfl rfl rfl (pu_gtr_t rfl rfl rfl (by omega)) ?_
      first | refine g_pu rfl rfl rfl (pu_pick_t rfl rfl rfl) ?_ | refine g_pu rfl rfl rfl (pu_pick_f rfl rfl rfl) ?_
      refine g_nil ?_
      (repeat refine g_seq ?_)
      refine g_cond_t rfl ?_
      (repeat refine g_seq ?_)
      refine g_region ?_
      refine g_pu rfl rfl rfl (pu_assign rfl rfl) ?_
      refine g_nil ?_
      exact g_ret1 rfl rfl (fun w' hm => ⟨(), trivial, rfl, hm.grows [] trivial rfl⟩)
  · (repeat refine g_seq ?_)
    refine g_region ?_
    refine g_pu rfl rfl rfl (pu_fieldAddr (by decide) rfl rfl) ?_
    refine g_pu rfl rfl rfl (pu_load 1 rfl rfl rfl rfl) ?_
    refine g_pu rfl rfl rfl (pu_lss_f rfl rfl rfl (by omega)) ?_
    refine g_pu rfl rfl rfl (pu_move rfl rfl) ?_
    first | refine g_pass rfl rfl rfl ?_ | refine g_pu rfl rfl rfl (pu_fieldAddr (by decide) rfl rfl) ?_
    first | refine g_pass rfl rfl rfl ?_ | refine g_pu rfl rfl rfl (pu_load 1 rfl rfl rfl rfl) ?_
    refine g_pu rfl rfl rfl (pu_gtr_f rfl rfl rfl (by omega)) ?_
    first | refine g_pu rfl rfl rfl (pu_pick_t rfl rfl rfl) ?_ | refine g_pu rfl rfl rfl (pu_pick_f rfl rfl rfl) ?_
    refine g_nil ?_
    (repeat refine g_seq ?_)
    refine g_cond_f rfl (g_skip ?_)
    by_cases hbad : (x.k.toNat = 1 ∧ x.n.toNat = 0) ∨ (x.k.toNat ≠ 1 ∧ x.n.toNat ≠ 0) ∨ (x.k.toNat ≠ 4 ∧ x.m ≠ zero16)
    · have hE : chkE x = 3 := by unfold chkE; rw [if_neg hk, if_pos hbad]
      rw [hE]
      by_cases h1 : x.k.toNat = 1 <;> by_cases h2 : x.n.toNat = 0 <;> by_cases h4 : x.k.toNat = 4 <;> by_cases hz : x.m = zero16 <;> first | (exfalso; rcases hbad with ⟨a, b⟩ | ⟨a, b⟩ | ⟨a, b⟩ <;> first | omega | exact b hz) | (
        (repeat refine g_seq ?_)
        refine g_region ?_
        refine g_pu rfl rfl rfl (pu_fieldAddr (by decide) rfl rfl) ?_
        refine g_pu rfl rfl rfl (pu_load 1 rfl rfl rfl rfl) ?_
        first | refine g_pu rfl rfl rfl (pu_eql_t rfl rfl rfl (by omega)) ?_ | refine g_pu rfl rfl rfl (pu_eql_f rfl rfl rfl (by omega)) ?_
        refine g_pu rfl rfl rfl (pu_fieldAddr (by decide) rfl rfl) ?_
        refine g_pu rfl rfl rfl (pu_load 1 rfl rfl rfl rfl) ?_
        first | refine g_pu rfl rfl rfl (pu_neq_t rfl rfl rfl (by omega)) ?_ | refine g_pu rfl rfl rfl (pu_neq_f rfl rfl rfl (by omega)) ?_
        refine g_pu rfl rfl rfl (pu_neqB rfl rfl rfl) ?_
        refine g_pu rfl rfl rfl (pu_move rfl rfl) ?_
        first | refine g_pass rfl rfl rfl ?_ | refine g_pu rfl rfl rfl (pu_fieldAddr (by decide) rfl rfl) ?_
        first | refine g_pass rfl rfl rfl ?_ | refine g_pu rfl rfl rfl (pu_load 1 rfl rfl rfl rfl) ?_
        first | refine g_pass rfl rfl rfl ?_ | refine g_pu rfl rfl rfl (pu_neq_t rfl rfl rfl (by omega)) ?_ | refine g_pu rfl rfl rfl (pu_neq_f rfl rfl rfl (by omega)) ?_
        first | refine g_pass rfl rfl rfl ?_ | refine g_pu rfl rfl rfl (pu_move rfl rfl) ?_
        first | refine g_pass rfl rfl rfl ?_ | refine g_pu rfl rfl rfl (pu_fieldAddr (by decide) rfl rfl) ?_
        first | refine g_pass rfl rfl rfl ?_ | refine g_pu rfl rfl rfl (pu_loadA 1 (off := 0 + 4) (s := 16) rfl rfl rfl (show 0 + 4 + 16 ≤ (cmdC x).toArray.size by rw [List.size_toArray]; omega)) ?_
        first | refine g_pass rfl rfl rfl ?_ | refine g_pu rfl rfl rfl (pu_buildA rfl rfl rfl rfl rfl) ?_ | refine g_pu rfl rfl rfl (pu_buildA' rfl rfl rfl) ?_
        first | refine g_pass rfl rfl rfl ?_ | refine g_pu rfl rfl rfl (pu_neqA_t (a := bs x.m) (b := bs zero16) rfl (ev_ext rfl (ext_mark h16)) rfl (fun he => hz (bs_inj he)) (all_bs _) (all_bs _) hml rfl) ?_
        first | refine g_pass rfl rfl rfl ?_ | refine g_pu rfl rfl rfl (pu_pick_t rfl rfl rfl) ?_ | refine g_pu rfl rfl rfl (pu_pick_f rfl rfl rfl) ?_
        first | refine g_pu rfl rfl rfl (pu_pick_t rfl rfl rfl) ?_ | refine g_pu rfl rfl rfl (pu_pick_f rfl rfl rfl) ?_
        refine g_nil ?_
        (repeat refine g_seq ?_)
        refine g_cond_t rfl ?_
        (repeat refine g_seq ?_)
        refine g_region ?_
        refine g_pu rfl rfl rfl (pu_assign rfl rfl) ?_
        refine g_nil ?_
        exact g_ret1 rfl rfl (fun w' hm => ⟨(), trivial, rfl, hm.grows [] trivial rfl⟩))
    · have e1 : x.k.toNat = 1 → x.n.toNat ≠ 0 := fun h h' => hbad (.inl ⟨h, h'⟩)
      have e2 : x.k.toNat ≠ 1 → x.n.toNat = 0 := fun h => Classical.byContradiction fun h' => hbad (.inr (.inl ⟨h, h'⟩))
      have e3 : x.k.toNat ≠ 4 → x.m = zero16 := fun h => Classical.byContradiction fun h' => hbad (.inr (.inr ⟨h, h'⟩))
      by_cases hd : x.d.toNat > 1000000
      · have hE : chkE x = 11 := by unfold chkE; rw [if_neg hk, if_neg hbad, if_pos hd]
        rw [hE]
        by_cases h1 : x.k.toNat = 1 <;> by_cases h2 : x.n.toNat = 0 <;> by_cases h4 : x.k.toNat = 4 <;> first | (exfalso; first | omega | exact e1 h1 h2 | exact h2 (e2 h1)) | (
          (repeat refine g_seq ?_)
          refine g_region ?_
          refine g_pu rfl rfl rfl (pu_fieldAddr (by decide) rfl rfl) ?_
          refine g_pu rfl rfl rfl (pu_load 1 rfl rfl rfl rfl) ?_
          first | refine g_pu rfl rfl rfl (pu_eql_t rfl rfl rfl (by omega)) ?_ | refine g_pu rfl rfl rfl (pu_eql_f rfl rfl rfl (by omega)) ?_
          refine g_pu rfl rfl rfl (pu_fieldAddr (by decide) rfl rfl) ?_
          refine g_pu rfl rfl rfl (pu_load 1 rfl rfl rfl rfl) ?_
          first | refine g_pu rfl rfl rfl (pu_neq_t rfl rfl rfl (by omega)) ?_ | refine g_pu rfl rfl rfl (pu_neq_f rfl rfl rfl (by omega)) ?_
          refine g_pu rfl rfl rfl (pu_neqB rfl rfl rfl) ?_
          refine g_pu rfl rfl rfl (pu_move rfl rfl) ?_
          first | refine g_pass rfl rfl rfl ?_ | refine g_pu rfl rfl rfl (pu_fieldAddr (by decide) rfl rfl) ?_
          first | refine g_pass rfl rfl rfl ?_ | refine g_pu rfl rfl rfl (pu_load 1 rfl rfl rfl rfl) ?_
          first | refine g_pu rfl rfl rfl (pu_neq_t rfl rfl rfl (by omega)) ?_ | refine g_pu rfl rfl rfl (pu_neq_f rfl rfl rfl (by omega)) ?_
          first | refine g_pass rfl rfl rfl ?_ | refine g_pu rfl rfl rfl (pu_move rfl rfl) ?_
          first | refine g_pass rfl rfl rfl ?_ | refine g_pu rfl rfl rfl (pu_fieldAddr (by decide) rfl rfl) ?_
          first | refine g_pass rfl rfl rfl ?_ | refine g_pu rfl rfl rfl (pu_loadA 1 (off := 0 + 4) (s := 16) rfl rfl rfl (show 0 + 4 + 16 ≤ (cmdC x).toArray.size by rw [List.size_toArray]; omega)) ?_
          first | refine g_pass rfl rfl rfl ?_ | refine g_pu rfl rfl rfl (pu_buildA rfl rfl rfl rfl rfl) ?_ | refine g_pu rfl rfl rfl (pu_buildA' rfl rfl rfl) ?_
          first | refine g_pass rfl rfl rfl ?_ | refine g_pu rfl rfl rfl (pu_neqA_f (a := bs x.m) (b := bs zero16) rfl (ev_ext rfl (ext_mark h16)) rfl (congrArg bs (e3 (by omega))) (all_bs _) hml) ?_
          first | refine g_pass rfl rfl rfl ?_ | refine g_pu rfl rfl rfl (pu_pick_t rfl rfl rfl) ?_ | refine g_pu rfl rfl rfl (pu_pick_f rfl rfl rfl) ?_
          first | refine g_pu rfl rfl rfl (pu_pick_t rfl rfl rfl) ?_ | refine g_pu rfl rfl rfl (pu_pick_f rfl rfl rfl) ?_
          refine g_nil ?_
          (repeat refine g_seq ?_)
          refine g_cond_f rfl (g_skip ?_)
          (repeat refine g_seq ?_)
          refine g_region ?_
          refine g_pu rfl rfl rfl (pu_fieldAddr (by decide) rfl rfl) ?_
          refine g_pu rfl rfl rfl (pu_load 1 rfl rfl rfl rfl) ?_
          refine g_pu rfl rfl rfl (pu_gtr_t rfl rfl rfl (by omega)) ?_
          refine g_nil ?_
          (repeat refine g_seq ?_)
          refine g_cond_t rfl ?_
          (repeat refine g_seq ?_)
          refine g_region ?_
          refine g_pu rfl rfl rfl (pu_assign rfl rfl) ?_
          refine g_nil ?_
          exact g_ret1 rfl rfl (fun w' hm => ⟨(), trivial, rfl, hm.grows [] trivial rfl⟩))
      · have hE : chkE x = 0 := by unfold chkE; rw [if_neg hk, if_neg hbad, if_neg hd]
        rw [hE]
        by_cases h1 : x.k.toNat = 1 <;> by_cases h2 : x.n.toNat = 0 <;> by_cases h4 : x.k.toNat = 4 <;> first | (exfalso; first | omega | exact e1 h1 h2 | exact h2 (e2 h1)) | (
          (repeat refine g_seq ?_)
          refine g_region ?_
          refine g_pu rfl rfl rfl (pu_fieldAddr (by decide) rfl rfl) ?_
          refine g_pu rfl rfl rfl (pu_load 1 rfl rfl rfl rfl) ?_
          first | refine g_pu rfl rfl rfl (pu_eql_t rfl rfl rfl (by omega)) ?_ | refine g_pu rfl rfl rfl (pu_eql_f rfl rfl rfl (by omega)) ?_
          refine g_pu rfl rfl rfl (pu_fieldAddr (by decide) rfl rfl) ?_
          refine g_pu rfl rfl rfl (pu_load 1 rfl rfl rfl rfl) ?_
          first | refine g_pu rfl rfl rfl (pu_neq_t rfl rfl rfl (by omega)) ?_ | refine g_pu rfl rfl rfl (pu_neq_f rfl rfl rfl (by omega)) ?_
          refine g_pu rfl rfl rfl (pu_neqB rfl rfl rfl) ?_
          refine g_pu rfl rfl rfl (pu_move rfl rfl) ?_
          first | refine g_pass rfl rfl rfl ?_ | refine g_pu rfl rfl rfl (pu_fieldAddr (by decide) rfl rfl) ?_
          first | refine g_pass rfl rfl rfl ?_ | refine g_pu rfl rfl rfl (pu_load 1 rfl rfl rfl rfl) ?_
          first | refine g_pu rfl rfl rfl (pu_neq_t rfl rfl rfl (by omega)) ?_ | refine g_pu rfl rfl rfl (pu_neq_f rfl rfl rfl (by omega)) ?_
          first | refine g_pass rfl rfl rfl ?_ | refine g_pu rfl rfl rfl (pu_move rfl rfl) ?_
          first | refine g_pass rfl rfl rfl ?_ | refine g_pu rfl rfl rfl (pu_fieldAddr (by decide) rfl rfl) ?_
          first | refine g_pass rfl rfl rfl ?_ | refine g_pu rfl rfl rfl (pu_loadA 1 (off := 0 + 4) (s := 16) rfl rfl rfl (show 0 + 4 + 16 ≤ (cmdC x).toArray.size by rw [List.size_toArray]; omega)) ?_
          first | refine g_pass rfl rfl rfl ?_ | refine g_pu rfl rfl rfl (pu_buildA rfl rfl rfl rfl rfl) ?_ | refine g_pu rfl rfl rfl (pu_buildA' rfl rfl rfl) ?_
          first | refine g_pass rfl rfl rfl ?_ | refine g_pu rfl rfl rfl (pu_neqA_f (a := bs x.m) (b := bs zero16) rfl (ev_ext rfl (ext_mark h16)) rfl (congrArg bs (e3 (by omega))) (all_bs _) hml) ?_
          first | refine g_pass rfl rfl rfl ?_ | refine g_pu rfl rfl rfl (pu_pick_t rfl rfl rfl) ?_ | refine g_pu rfl rfl rfl (pu_pick_f rfl rfl rfl) ?_
          first | refine g_pu rfl rfl rfl (pu_pick_t rfl rfl rfl) ?_ | refine g_pu rfl rfl rfl (pu_pick_f rfl rfl rfl) ?_
          refine g_nil ?_
          (repeat refine g_seq ?_)
          refine g_cond_f rfl (g_skip ?_)
          (repeat refine g_seq ?_)
          refine g_region ?_
          refine g_pu rfl rfl rfl (pu_fieldAddr (by decide) rfl rfl) ?_
          refine g_pu rfl rfl rfl (pu_load 1 rfl rfl rfl rfl) ?_
          refine g_pu rfl rfl rfl (pu_gtr_f rfl rfl rfl (by omega)) ?_
          refine g_nil ?_
          (repeat refine g_seq ?_)
          refine g_cond_f rfl (g_skip ?_)
          (repeat refine g_seq ?_)
          refine g_region ?_
          refine g_pu rfl rfl rfl (pu_assign rfl rfl) ?_
          refine g_nil ?_
          exact g_ret1 rfl rfl (fun w' hm => ⟨(), trivial, rfl, hm.grows [] trivial rfl⟩))
end Go.Sx

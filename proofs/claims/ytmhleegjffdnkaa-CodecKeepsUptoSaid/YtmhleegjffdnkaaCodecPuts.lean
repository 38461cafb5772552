/-
  CodecPuts: every number that is written as bytes is read back as the same number. No condition. (And 'awake', the fixed fact of this layer.)
-/
import Derived.Test.YtmhleegjffdnkaaC9
import Derived.Test.YtmhleegjffdnkaaC10
import Derived.Test.YtmhleegjffdnkaaCodecPads
set_option linter.unusedVariables false
set_option linter.unusedSimpArgs false
namespace Go.Sx
open Go Go.Proofs

theorem IsB.nil (w : World) : IsB Any w (.slice none 0 0) [] := ⟨none, 0, 0, rfl, By.nil w none, fun _ _ => trivial⟩

theorem awake_b (w : World) : Spec Try.prog 31 #[] w (σ := Unit) (fun _ => True) (fun _ => .bool true) Nob (fun _ => []) := by
  refine enter (l := []) Try.func31 rfl rfl (Mem.start w) ?_
  (repeat refine g_seq ?_)
  refine g_region ?_
  refine g_pu rfl rfl rfl (pu_assign rfl rfl) ?_
  refine g_nil ?_
  (repeat refine g_seq ?_)
  refine g_region ?_
  refine g_call [4] rfl rfl rfl rfl rfl rfl (fun w' hm => Put_b w' 2 2 258#64) (fun x4 _ => ?_)
  rw [show putL 2 2 258#64 = [1#8, 2#8] from by decide, show putE 2 2 258#64 = 0 from by decide]
  refine g_pu rfl rfl rfl (pu_move rfl rfl) ?_
  refine g_pu rfl rfl rfl (pu_extract rfl rfl rfl) ?_
  refine g_pu rfl rfl rfl (pu_extract rfl rfl rfl) ?_
  refine g_pu rfl rfl rfl (pu_assign rfl rfl) ?_
  refine g_pu rfl rfl rfl (pu_assign rfl rfl) ?_
  refine g_nil ?_
  (repeat refine g_seq ?_)
  refine g_region ?_
  refine g_pu rfl rfl rfl (pu_move rfl rfl) ?_
  first | refine g_pu rfl rfl rfl (pu_eql_t rfl rfl rfl (by omega)) ?_ | refine g_pu rfl rfl rfl (pu_eql_f rfl rfl rfl (by omega)) ?_ | refine g_pu rfl rfl rfl (pu_eql rfl rfl rfl) ?_
  refine g_pu rfl rfl rfl (pu_move rfl rfl) ?_
  first | refine g_pass rfl rfl rfl ?_ | refine g_pu rfl rfl rfl (pu_move rfl rfl) ?_
  first | (refine g_pass rfl rfl rfl ?_) | (refine g_lo [11] rfl rfl rfl rfl (lo_buildSlice rfl rfl (by decide) (by decide) rfl rfl) (fun b11 hb11 => ?_))
  refine g_call [] rfl rfl rfl rfl rfl rfl (fun w' hm => Equal_b w' _ _ (a := [1#8, 2#8]) (b := [1#8, 2#8]) (By.ow 4 rfl hm rfl (by decide)) (By.full 11 rfl hm rfl (by decide))) (fun _ _ => ?_)
  first | refine g_pu rfl rfl rfl (pu_pick_t rfl rfl rfl) ?_ | refine g_pu rfl rfl rfl (pu_pick_f rfl rfl rfl) ?_
  refine g_pu rfl rfl rfl (pu_move rfl rfl) ?_
  first | (refine g_pass rfl rfl rfl ?_) | (refine g_lo [15] rfl rfl rfl rfl (lo_buildSlice rfl rfl (by decide) (by decide) rfl rfl) (fun b15 hb15 => ?_))
  first | (refine g_pass rfl rfl rfl ?_) | (refine g_lo [16] rfl rfl rfl rfl (lo_buildSlice rfl rfl (by decide) (by decide) rfl rfl) (fun b16 hb16 => ?_))
  first | (refine g_pass rfl rfl rfl ?_) | (refine g_lo [17] rfl rfl rfl rfl (lo_buildSlice rfl rfl (by decide) (by decide) rfl rfl) (fun b17 hb17 => ?_))
  refine g_call [18] rfl rfl rfl rfl rfl rfl (fun w' hm => Join_b w' _ (L := [.slice (some ⟨b15, 0, none⟩) 1 1, .slice none 0 0, .slice (some ⟨b16, 0, none⟩) 2 2]) (ls := [[7#8], [], [8#8, 9#8]]) ⟨hm.rowA 17 rfl, rfl, All2.cons (IsB.full 15 rfl hm rfl (by omega)) (All2.cons (IsB.nil _) (All2.cons (IsB.full 16 rfl hm rfl (by omega)) All2.nil)), by omega⟩ (by omega) (by decide)) (fun x18 _ => ?_)
  first | (refine g_pass rfl rfl rfl ?_) | (refine g_lo [19] rfl rfl rfl rfl (lo_buildSlice rfl rfl (by decide) (by decide) rfl rfl) (fun b19 hb19 => ?_))
  refine g_call [] rfl rfl rfl rfl rfl rfl (fun w' hm => Equal_b w' _ _ (a := [7#8, 8#8, 9#8]) (b := [7#8, 8#8, 9#8]) (By.ow 18 rfl hm rfl (by decide)) (By.full 19 rfl hm rfl (by decide))) (fun _ _ => ?_)
  first | refine g_pu rfl rfl rfl (pu_pick_t rfl rfl rfl) ?_ | refine g_pu rfl rfl rfl (pu_pick_f rfl rfl rfl) ?_
  refine g_pu rfl rfl rfl (pu_assign rfl rfl) ?_
  refine g_nil ?_
  exact g_ret1 rfl rfl (fun w' hm => ⟨(), trivial, by simp, hm.grows [] trivial rfl⟩)

theorem CodecPuts_spec (w : World) (o z : Int) (n : BitVec 64) :
    Spec Try.prog 8 #[.int .i64 o, .int .i64 z, b64 n] w (σ := Unit) (fun _ => True) (fun _ => .bool true) Nob (fun _ => []) := by
  refine enter Try.func8 rfl rfl (Mem.start w) ?_
  have hl : (putL o z n).length ≤ 140737488355328 := by
    unfold putL
    split
    · rename_i h
      have hs : ShapeOk o z := by
        by_cases hs : ShapeOk o z
        · exact hs
        · unfold putE at h; rw [if_pos hs] at h; omega
      have := hs.2
      split <;> simp [putW_length] <;> omega
    · simp
  (repeat refine g_seq ?_)
  refine g_region ?_
  refine g_pu rfl rfl rfl (pu_assign rfl rfl) ?_
  refine g_nil ?_
  (repeat refine g_seq ?_)
  refine g_region ?_
  refine g_call [] rfl rfl rfl rfl rfl rfl (fun w' hm => awake_b w') (fun _ _ => ?_)
  refine g_pu rfl rfl rfl (pu_not rfl rfl) ?_
  refine g_nil ?_
  (repeat refine g_seq ?_)
  refine g_cond_f rfl (g_skip ?_)
  (repeat refine g_seq ?_)
  refine g_region ?_
  refine g_pu rfl rfl rfl (pu_move rfl rfl) ?_
  refine g_pu rfl rfl rfl (pu_move rfl rfl) ?_
  refine g_pu rfl rfl rfl (pu_move rfl rfl) ?_
  refine g_call [18] rfl rfl rfl rfl rfl rfl (fun w' hm => Put_b w' o z n) (fun x18 _ => ?_)
  refine g_pu rfl rfl rfl (pu_move rfl rfl) ?_
  refine g_pu rfl rfl rfl (pu_extract rfl rfl rfl) ?_
  refine g_pu rfl rfl rfl (pu_extract rfl rfl rfl) ?_
  refine g_pu rfl rfl rfl (pu_assign rfl rfl) ?_
  refine g_pu rfl rfl rfl (pu_assign rfl rfl) ?_
  refine g_nil ?_
  (repeat refine g_seq ?_)
  refine g_region ?_
  refine g_pu rfl rfl rfl (pu_move rfl rfl) ?_
  refine g_pu rfl rfl rfl (pu_move rfl rfl) ?_
  refine g_pu rfl rfl rfl (pu_move rfl rfl) ?_
  refine g_call [25] rfl rfl rfl rfl rfl rfl (fun w' hm => RPut_b w' o z n) (fun x25 _ => ?_)
  refine g_pu rfl rfl rfl (pu_move rfl rfl) ?_
  refine g_pu rfl rfl rfl (pu_extract rfl rfl rfl) ?_
  refine g_pu rfl rfl rfl (pu_extract rfl rfl rfl) ?_
  refine g_pu rfl rfl rfl (pu_assign rfl rfl) ?_
  refine g_pu rfl rfl rfl (pu_assign rfl rfl) ?_
  refine g_nil ?_
  (repeat refine g_seq ?_)
  refine g_region ?_
  refine g_pu rfl rfl rfl (pu_move rfl rfl) ?_
  refine g_pu rfl rfl rfl (pu_move rfl rfl) ?_
  refine g_pu rfl rfl rfl (pu_move rfl rfl) ?_
  refine g_pu rfl rfl rfl (pu_move rfl rfl) ?_
  refine g_call [] rfl rfl rfl rfl rfl rfl (fun w' hm => told_spec w' _ _ _ _ _ _ _ _ (putL o z n) (putL o z n) (Ow.rd (t := 18) rfl hm) rfl (Ow.rd (t := 25) rfl hm) rfl hl hl) (fun _ _ => ?_)
  refine g_as (t := 32) (u := .bool true) rfl (by simp) rfl ?_
  refine g_pu rfl rfl rfl (pu_not rfl rfl) ?_
  refine g_nil ?_
  (repeat refine g_seq ?_)
  refine g_cond_f rfl (g_skip ?_)
  by_cases hE : putE o z n = 0
  · obtain ⟨h1, h2⟩ := put_get hE
    rw [hE]
    (repeat refine g_seq ?_)
    refine g_region ?_
    refine g_pu rfl rfl rfl (pu_move rfl rfl) ?_
    first | refine g_pu rfl rfl rfl (pu_neq_t rfl rfl rfl (by omega)) ?_ | refine g_pu rfl rfl rfl (pu_neq_f rfl rfl rfl (by omega)) ?_ | refine g_pu rfl rfl rfl (pu_neq rfl rfl rfl) ?_
    refine g_nil ?_
    (repeat refine g_seq ?_)
    refine g_cond_f rfl (g_skip ?_)
    (repeat refine g_seq ?_)
    refine g_region ?_
    refine g_pu rfl rfl rfl (pu_move rfl rfl) ?_
    refine g_pu rfl rfl rfl (pu_move rfl rfl) ?_
    refine g_pu rfl rfl rfl (pu_move rfl rfl) ?_
    refine g_call [] rfl rfl rfl rfl rfl rfl (fun w' hm => Get_b w' o _ 0 z (By.ow 18 rfl hm rfl hl)) (fun _ _ => ?_)
    rw [h1, h2]
    refine g_pu rfl rfl rfl (pu_move rfl rfl) ?_
    refine g_pu rfl rfl rfl (pu_extract rfl rfl rfl) ?_
    refine g_pu rfl rfl rfl (pu_extract rfl rfl rfl) ?_
    refine g_pu rfl rfl rfl (pu_assign rfl rfl) ?_
    refine g_pu rfl rfl rfl (pu_assign rfl rfl) ?_
    refine g_nil ?_
    (repeat refine g_seq ?_)
    refine g_region ?_
    refine g_pu rfl rfl rfl (pu_move rfl rfl) ?_
    first | refine g_pu rfl rfl rfl (pu_eql_t rfl rfl rfl (by omega)) ?_ | refine g_pu rfl rfl rfl (pu_eql_f rfl rfl rfl (by omega)) ?_ | refine g_pu rfl rfl rfl (pu_eql rfl rfl rfl) ?_
    refine g_pu rfl rfl rfl (pu_move rfl rfl) ?_
    first | refine g_pass rfl rfl rfl ?_ | refine g_pu rfl rfl rfl (pu_move rfl rfl) ?_
    first | refine g_pass rfl rfl rfl ?_ | refine g_pu rfl rfl rfl (pu_move rfl rfl) ?_
    first | refine g_pass rfl rfl rfl ?_ | refine g_pu rfl rfl rfl (pu_eql64_t rfl rfl rfl (by first | rfl | assumption | decide)) ?_ | refine g_pu rfl rfl rfl (pu_eql64_f rfl rfl rfl (by first | assumption | decide)) ?_ | refine g_pu rfl rfl rfl (pu_eql64 rfl rfl rfl) ?_
    first | refine g_pu rfl rfl rfl (pu_pick_t rfl rfl rfl) ?_ | refine g_pu rfl rfl rfl (pu_pick_f rfl rfl rfl) ?_
    refine g_pu rfl rfl rfl (pu_assign rfl rfl) ?_
    refine g_nil ?_
    exact g_ret1 rfl rfl (fun w' hm => ⟨(), trivial, by simp, hm.grows [] trivial rfl⟩)
  · (repeat refine g_seq ?_)
    refine g_region ?_
    refine g_pu rfl rfl rfl (pu_move rfl rfl) ?_
    first | refine g_pu rfl rfl rfl (pu_neq_t rfl rfl rfl (by omega)) ?_ | refine g_pu rfl rfl rfl (pu_neq_f rfl rfl rfl (by omega)) ?_ | refine g_pu rfl rfl rfl (pu_neq rfl rfl rfl) ?_
    refine g_nil ?_
    (repeat refine g_seq ?_)
    refine g_cond_t rfl ?_
    (repeat refine g_seq ?_)
    refine g_region ?_
    refine g_pu rfl rfl rfl (pu_assign rfl rfl) ?_
    refine g_nil ?_
    exact g_ret1 rfl rfl (fun w' hm => ⟨(), trivial, by simp, hm.grows [] trivial rfl⟩)
end Go.Sx

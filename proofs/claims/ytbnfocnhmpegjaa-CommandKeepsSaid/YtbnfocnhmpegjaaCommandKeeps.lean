/-
  CommandKeeps: no call of command changes or keeps what it is handed. The mark has 16 bytes.
-/
import Derived.Test.YtbnfocnhmpegjaaCM4
set_option linter.unusedVariables false
set_option linter.unusedSimpArgs false
namespace Go.Sx
open Go Go.Proofs

theorem CommandKeeps_spec (w : World) {p : Option Addr} {n : Nat} (c : Nat) {b : List (BitVec 8)} (x : Cmd) (ha : By w p n b) (h16 : x.m.length = 16) (hnb : n ≤ 140737488351232) :
    Spec Try.prog 7 #[.slice p n c, .agg (cmdC x).toArray] w (σ := Unit) (fun _ => True) (fun _ => .bool true) Nob (fun _ => []) := by
  refine enter Try.func7 rfl rfl (Mem.start w) ?_
  have hal := ha.len
  have hsa := spareL_length b 40
  have hcl := cmdC_length h16
  have hel := encL_length h16
  have hol : (bs (spareL b 40)).length = n + 40 := by rw [bs_length, hsa, hal]
  (repeat refine g_seq ?_)
  refine g_region ?_
  refine g_lo [3] rfl rfl rfl rfl (lo_box rfl rfl) (fun b3 hb3 => ?_)
  refine g_pu rfl rfl rfl (pu_assign rfl rfl) ?_
  refine g_nil ?_
  (repeat refine g_seq ?_)
  refine g_region ?_
  refine g_call [] rfl rfl rfl rfl rfl rfl (fun w' hm => awake10_b w') (fun _ _ => ?_)
  refine g_pu rfl rfl rfl (pu_not rfl rfl) ?_
  refine g_nil ?_
  (repeat refine g_seq ?_)
  refine g_cond_f rfl (g_skip ?_)
  (repeat refine g_seq ?_)
  refine g_region ?_
  refine g_pu rfl rfl rfl (pu_move rfl rfl) ?_
  refine g_call [15] rfl rfl rfl rfl rfl rfl (fun w' hm => Spare_b w' c (ha.m hm)) (fun x15 _ => ?_)
  refine g_pu rfl rfl rfl (pu_move rfl rfl) ?_
  refine g_pu rfl rfl rfl (pu_extract rfl rfl rfl) ?_
  refine g_pu rfl rfl rfl (pu_extract rfl rfl rfl) ?_
  refine g_pu rfl rfl rfl (pu_assign rfl rfl) ?_
  refine g_pu rfl rfl rfl (pu_assign rfl rfl) ?_
  refine g_nil ?_
  (repeat refine g_seq ?_)
  refine g_region ?_
  refine g_pu rfl rfl rfl (pu_move rfl rfl) ?_
  refine g_call [] rfl rfl rfl rfl rfl rfl (fun w' hm => Decode_b w' _ (By.spare 15 rfl hm hal (by omega)) (by omega)) (fun _ _ => ?_)
  refine g_nil ?_
  by_cases he : chkE x = 0
  · (repeat refine g_seq ?_)
    refine g_region ?_
    refine g_pu rfl rfl rfl (pu_loadW 3 (L := cmdC x) rfl rfl rfl hcl) ?_
    refine g_call [22] rfl rfl rfl rfl rfl rfl (fun w' hm => Encode_b w' x h16 he) (fun x22 _ => ?_)
    refine g_pu rfl rfl rfl (pu_move rfl rfl) ?_
    refine g_pu rfl rfl rfl (pu_extract rfl rfl rfl) ?_
    refine g_pu rfl rfl rfl (pu_extract rfl rfl rfl) ?_
    refine g_pu rfl rfl rfl (pu_assign rfl rfl) ?_
    refine g_pu rfl rfl rfl (pu_assign rfl rfl) ?_
    refine g_nil ?_
    (repeat refine g_seq ?_)
    refine g_region ?_
    refine g_pu rfl rfl rfl (pu_loadW 3 (L := cmdC x) rfl rfl rfl hcl) ?_
    refine g_call [27] rfl rfl rfl rfl rfl rfl (fun w' hm => Encode_b w' x h16 he) (fun x27 _ => ?_)
    refine g_pu rfl rfl rfl (pu_move rfl rfl) ?_
    refine g_pu rfl rfl rfl (pu_extract rfl rfl rfl) ?_
    refine g_pu rfl rfl rfl (pu_extract rfl rfl rfl) ?_
    refine g_pu rfl rfl rfl (pu_assign rfl rfl) ?_
    refine g_pu rfl rfl rfl (pu_assign rfl rfl) ?_
    refine g_nil ?_
    refine g_know (φ := 32 ≤ x22.c ∧ 32 ≤ x27.c) (fun w' hm => by have h1 := Own.le (hm.holds 22 _ rfl); have h2 := Own.le (hm.holds 27 _ rfl); rw [bs_length, hel] at h1 h2; exact ⟨h1, h2⟩) (fun hcap => ?_)
    (repeat refine g_seq ?_)
    refine g_region ?_
    refine g_pu rfl rfl rfl (pu_move rfl rfl) ?_
    refine g_pu rfl rfl rfl (pu_move rfl rfl) ?_
    refine g_call [] rfl rfl rfl rfl rfl rfl (fun w' hm => Kept_b w' _ c (By.full 15 rfl hm (by rw [hsa, hal]) (by omega)) (ha.m hm)) (fun _ _ => ?_)
    refine g_pu rfl rfl rfl (pu_move rfl rfl) ?_
    first | refine g_pass rfl rfl rfl ?_ | refine g_pu rfl rfl rfl (pu_move rfl rfl) ?_
    first | refine g_pass rfl rfl rfl ?_ | refine g_pu rfl rfl rfl (pu_move rfl rfl) ?_
    refine g_call [] rfl rfl rfl rfl rfl rfl (fun w' hm => Equal_b w' _ _ (By.ow 22 rfl hm hel (by omega)) (By.ow 27 rfl hm hel (by omega))) (fun _ _ => ?_)
    rw [decide_eq_true (rfl : encL x = encL x)]
    first | refine g_pu rfl rfl rfl (pu_pick_t rfl rfl rfl) ?_ | refine g_pu rfl rfl rfl (pu_pick_f rfl rfl rfl) ?_
    refine g_pu rfl rfl rfl (pu_move rfl rfl) ?_
    first | refine g_pass rfl rfl rfl ?_ | refine g_pu rfl rfl rfl (pu_move rfl rfl) ?_
    first | refine g_pass rfl rfl rfl ?_ | refine g_pu rfl rfl rfl (pu_move rfl rfl) ?_
    first | refine g_pass rfl rfl rfl ?_ | refine g_pu rfl rfl rfl (pu_move rfl rfl) ?_
    refine g_lo [42] rfl rfl rfl rfl (lo_buildSlice rfl rfl (by decide) (by decide) rfl rfl) (fun b42 hb42 => ?_)
    refine g_own 42 (L := [.slice (some ⟨x15, 0, none⟩) (n + 40) (n + 40), x22.sl 32, x27.sl 32]) (J := []) (c := 3) (s := 1) rfl (by simp) (by omega) ?_
    refine g_callW [15, 22, 27] [] rfl rfl rfl rfl rfl rfl (TgL.ch (TgL.row 15 0 (n + 40) rfl (Nat.le_of_eq hol.symm) (by omega) rfl (TgL.own 22 1 rfl rfl (TgL.own 27 2 rfl rfl TgL.nil)))) (fun w' hm => Apart_o hm (TgL.row 15 0 (n + 40) rfl (Nat.le_of_eq hol.symm) (by omega) rfl (TgL.own 22 1 rfl rfl (TgL.own 27 2 rfl rfl TgL.nil))) 42 _ (ns := [n + 40, 32, 32]) rfl rfl ⟨⟨rfl, rfl, rfl, Nat.le_refl _, by omega⟩, ⟨rfl, rfl, rfl, hcap.1, by omega⟩, ⟨rfl, rfl, rfl, hcap.2, by omega⟩, trivial⟩ rfl (by omega)) (fun _ _ => ?_)
    first | refine g_pu rfl rfl rfl (pu_pick_t rfl rfl rfl) ?_ | refine g_pu rfl rfl rfl (pu_pick_f rfl rfl rfl) ?_
    refine g_pu rfl rfl rfl (pu_assign rfl rfl) ?_
    refine g_nil ?_
    exact g_ret1 rfl rfl (fun w' hm => ⟨(), trivial, rfl, hm.grows [] trivial rfl⟩)
  · (repeat refine g_seq ?_)
    refine g_region ?_
    refine g_pu rfl rfl rfl (pu_loadW 3 (L := cmdC x) rfl rfl rfl hcl) ?_
    refine g_call [] rfl rfl rfl rfl rfl rfl (fun w' hm => Encode_e w' x h16 he) (fun _ _ => ?_)
    refine g_pu rfl rfl rfl (pu_move rfl rfl) ?_
    refine g_pu rfl rfl rfl (pu_extract rfl rfl rfl) ?_
    refine g_pu rfl rfl rfl (pu_extract rfl rfl rfl) ?_
    refine g_pu rfl rfl rfl (pu_assign rfl rfl) ?_
    refine g_pu rfl rfl rfl (pu_assign rfl rfl) ?_
    refine g_nil ?_
    (repeat refine g_seq ?_)
    refine g_region ?_
    refine g_pu rfl rfl rfl (pu_loadW 3 (L := cmdC x) rfl rfl rfl hcl) ?_
    refine g_call [] rfl rfl rfl rfl rfl rfl (fun w' hm => Encode_e w' x h16 he) (fun _ _ => ?_)
    refine g_pu rfl rfl rfl (pu_move rfl rfl) ?_
    refine g_pu rfl rfl rfl (pu_extract rfl rfl rfl) ?_
    refine g_pu rfl rfl rfl (pu_extract rfl rfl rfl) ?_
    refine g_pu rfl rfl rfl (pu_assign rfl rfl) ?_
    refine g_pu rfl rfl rfl (pu_assign rfl rfl) ?_
    refine g_nil ?_
    refine g_nilOwn 22 5 1 rfl ?_
    refine g_nilOwn 27 5 1 rfl ?_
    (repeat refine g_seq ?_)
    refine g_region ?_
    refine g_pu rfl rfl rfl (pu_move rfl rfl) ?_
    refine g_pu rfl rfl rfl (pu_move rfl rfl) ?_
    refine g_call [] rfl rfl rfl rfl rfl rfl (fun w' hm => Kept_b w' _ c (By.full 15 rfl hm (by rw [hsa, hal]) (by omega)) (ha.m hm)) (fun _ _ => ?_)
    refine g_pu rfl rfl rfl (pu_move rfl rfl) ?_
    first | refine g_pass rfl rfl rfl ?_ | refine g_pu rfl rfl rfl (pu_move rfl rfl) ?_
    first | refine g_pass rfl rfl rfl ?_ | refine g_pu rfl rfl rfl (pu_move rfl rfl) ?_
    refine g_call [] rfl rfl rfl rfl rfl rfl (fun w' hm => Equal_b w' _ _ (By.nil w' none) (By.nil w' none)) (fun _ _ => ?_)
    rw [decide_eq_true (rfl : ([] : List (BitVec 8)) = [])]
    first | refine g_pu rfl rfl rfl (pu_pick_t rfl rfl rfl) ?_ | refine g_pu rfl rfl rfl (pu_pick_f rfl rfl rfl) ?_
    refine g_pu rfl rfl rfl (pu_move rfl rfl) ?_
    first | refine g_pass rfl rfl rfl ?_ | refine g_pu rfl rfl rfl (pu_move rfl rfl) ?_
    first | refine g_pass rfl rfl rfl ?_ | refine g_pu rfl rfl rfl (pu_move rfl rfl) ?_
    first | refine g_pass rfl rfl rfl ?_ | refine g_pu rfl rfl rfl (pu_move rfl rfl) ?_
    refine g_lo [42] rfl rfl rfl rfl (lo_buildSlice rfl rfl (by decide) (by decide) rfl rfl) (fun b42 hb42 => ?_)
    refine g_own 42 (L := [.slice (some ⟨x15, 0, none⟩) (n + 40) (n + 40), .slice none 0 0, .slice none 0 0]) (J := []) (c := 3) (s := 1) rfl (by simp) (by omega) ?_
    refine g_callW [15, 22, 27] [] rfl rfl rfl rfl rfl rfl (TgL.ch (TgL.row 15 0 (n + 40) rfl (Nat.le_of_eq hol.symm) (by omega) rfl (TgL.own 22 1 (x := ⟨none, 0⟩) (L := []) rfl rfl (TgL.own 27 2 (x := ⟨none, 0⟩) (L := []) rfl rfl TgL.nil)))) (fun w' hm => Apart_o hm (TgL.row 15 0 (n + 40) rfl (Nat.le_of_eq hol.symm) (by omega) rfl (TgL.own 22 1 (x := ⟨none, 0⟩) (L := []) rfl rfl (TgL.own 27 2 (x := ⟨none, 0⟩) (L := []) rfl rfl TgL.nil))) 42 _ (ns := [n + 40, 0, 0]) rfl rfl ⟨⟨rfl, rfl, rfl, Nat.le_refl _, by omega⟩, ⟨rfl, rfl, rfl, Nat.le_refl _, by omega⟩, ⟨rfl, rfl, rfl, Nat.le_refl _, by omega⟩, trivial⟩ rfl (by omega)) (fun _ _ => ?_)
    first | refine g_pu rfl rfl rfl (pu_pick_t rfl rfl rfl) ?_ | refine g_pu rfl rfl rfl (pu_pick_f rfl rfl rfl) ?_
    refine g_pu rfl rfl rfl (pu_assign rfl rfl) ?_
    refine g_nil ?_
    exact g_ret1 rfl rfl (fun w' hm => ⟨(), trivial, rfl, hm.grows [] trivial rfl⟩)
end Go.Sx

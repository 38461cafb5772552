/-
  CommandEncodes: every command in form has its 32 bytes, and they are read back as the same command. The mark has 16 bytes.
-/
import Derived.Test.YtbnfocnhmpegjaaCM5
set_option linter.unusedVariables false
set_option linter.unusedSimpArgs false
namespace Go.Sx
open Go Go.Proofs

theorem enc_wins {x : Cmd} (h16 : x.m.length = 16) : win (encL x) 2 4 = putL 2 4 (x.d.setWidth 64) ∧ win (encL x) 6 8 = putL 2 8 x.n ∧ win (encL x) 14 16 = x.m ∧ win (encL x) 30 2 = [0#8, 0#8] := by
  have h4 := put4_len x.d
  have h8 := put8_len x.n
  have e : encL x = [x.k, x.f] ++ (putL 2 4 (x.d.setWidth 64) ++ (putL 2 8 x.n ++ (x.m ++ [0#8, 0#8]))) := by simp [encL, encP]
  have d2 : (encL x).drop 2 = putL 2 4 (x.d.setWidth 64) ++ (putL 2 8 x.n ++ (x.m ++ [0#8, 0#8])) := by rw [e]; rfl
  have d6 : (encL x).drop 6 = putL 2 8 x.n ++ (x.m ++ [0#8, 0#8]) := by
    rw [show 6 = 2 + 4 from rfl, ← List.drop_drop, d2, List.drop_left' h4]
  have d14 : (encL x).drop 14 = x.m ++ [0#8, 0#8] := by
    rw [show 14 = 6 + 8 from rfl, ← List.drop_drop, d6, List.drop_left' h8]
  have d30 : (encL x).drop 30 = [0#8, 0#8] := by
    rw [show 30 = 14 + 16 from rfl, ← List.drop_drop, d14, List.drop_left' h16]
  unfold win
  exact ⟨by rw [d2, List.take_left' h4], by rw [d6, List.take_left' h8], by rw [d14, List.take_left' h16], by rw [d30]; rfl⟩
theorem set_back (d : BitVec 32) : (d.setWidth 64).setWidth 32 = d := by
  apply BitVec.eq_of_toNat_eq
  have := d.isLt
  simp only [BitVec.toNat_setWidth]
  omega
theorem dec_enc {x : Cmd} (h16 : x.m.length = 16) (he : chkE x = 0) : decE (encL x) = 0 ∧ decC (encL x) = x := by
  obtain ⟨w1, w2, w3, w4⟩ := enc_wins h16
  have hX : decX (encL x) = x := by
    unfold decX
    rw [w1, w2, w3, (put_get (putE_4 x.d)).2, (put_get (putE_8 x.n)).2, set_back]
    rfl
  have hE : decE (encL x) = 0 := by
    unfold decE
    rw [if_neg (by rw [encL_length h16]; omega), hX, w4, if_neg (fun h => h.1 rfl), he]
  exact ⟨hE, by unfold decC; rw [if_pos hE, hX]⟩

theorem CommandEncodes_spec (w : World) (x : Cmd) (h16 : x.m.length = 16) : Spec Try.prog 5 #[.agg (cmdC x).toArray] w (σ := Unit) (fun _ => True) (fun _ => .bool true) Nob (fun _ => []) := by
  refine enter Try.func5 rfl rfl (Mem.start w) ?_
  have hcl := cmdC_length h16
  have hel := encL_length h16
  (repeat refine g_seq ?_)
  refine g_region ?_
  refine g_lo [1] rfl rfl rfl rfl (lo_box rfl rfl) (fun b1 hb1 => ?_)
  refine g_pu rfl rfl rfl (pu_assign rfl rfl) ?_
  refine g_nil ?_
  (repeat refine g_seq ?_)
  refine g_region ?_
  refine g_call [] rfl rfl rfl rfl rfl rfl (fun w' hm => awake10_b w') (fun _ _ => ?_)
  refine g_pu rfl rfl rfl (pu_not rfl rfl) ?_
  refine g_nil ?_
  (repeat refine g_seq ?_)
  refine g_cond_f rfl (g_skip ?_)
  by_cases he : chkE x = 0
  · have hd := dec_enc h16 he
    (repeat refine g_seq ?_)
    refine g_region ?_
    refine g_pu rfl rfl rfl (pu_loadW 1 (L := cmdC x) rfl rfl rfl hcl) ?_
    refine g_call [12] rfl rfl rfl rfl rfl rfl (fun w' hm => Encode_b w' x h16 he) (fun x12 _ => ?_)
    refine g_pu rfl rfl rfl (pu_move rfl rfl) ?_
    refine g_pu rfl rfl rfl (pu_extract rfl rfl rfl) ?_
    refine g_pu rfl rfl rfl (pu_extract rfl rfl rfl) ?_
    refine g_pu rfl rfl rfl (pu_assign rfl rfl) ?_
    refine g_pu rfl rfl rfl (pu_assign rfl rfl) ?_
    refine g_nil ?_
    (repeat refine g_seq ?_)
    refine g_region ?_
    refine g_pu rfl rfl rfl (pu_loadW 1 (L := cmdC x) rfl rfl rfl hcl) ?_
    refine g_call [17] rfl rfl rfl rfl rfl rfl (fun w' hm => REncode_b w' x h16 he) (fun x17 _ => ?_)
    refine g_pu rfl rfl rfl (pu_move rfl rfl) ?_
    refine g_pu rfl rfl rfl (pu_extract rfl rfl rfl) ?_
    refine g_pu rfl rfl rfl (pu_extract rfl rfl rfl) ?_
    refine g_pu rfl rfl rfl (pu_assign rfl rfl) ?_
    refine g_pu rfl rfl rfl (pu_assign rfl rfl) ?_
    refine g_nil ?_
    refine g_know (φ := 32 ≤ x12.c) (fun w' hm => by have := Own.le (hm.holds 12 _ rfl); rwa [bs_length, hel] at this) (fun hxc => ?_)
    (repeat refine g_seq ?_)
    refine g_any (13, []) ?_
    refine a_pu 0 rfl rfl rfl rfl (pu_move rfl rfl) rfl rfl (by kernel_rfl) ?_
    refine a_pu 1 rfl rfl rfl rfl (pu_move rfl rfl) rfl rfl (by kernel_rfl) ?_
    refine a_do 2 22 [] (does_call rfl rfl rfl rfl rfl (fun w' hm => Equal_b w' _ _ (By.ow 12 rfl hm hel (by omega)) (By.ow 17 rfl hm hel (by omega)))) rfl rfl (by kernel_rfl) rfl rfl (by kernel_rfl) (by kernel_rfl) (by kernel_rfl) rfl (fun p hp => by cases hp) ?_; rintro v_ cs_ ⟨_, _, rfl, rfl⟩
    rw [decide_eq_true (rfl : encL x = encL x)]
    refine a_pu 3 rfl rfl rfl rfl (pu_not rfl rfl) rfl rfl (by kernel_rfl) ?_
    refine a_pu 4 rfl rfl rfl rfl (pu_move rfl rfl) rfl rfl (by kernel_rfl) ?_
    first | refine a_pass 5 rfl rfl rfl rfl rfl rfl (by kernel_rfl) ?_ | refine a_pu 5 rfl rfl rfl rfl (pu_move rfl rfl) rfl rfl (by kernel_rfl) ?_
    first | refine a_pass 6 rfl rfl rfl rfl rfl rfl (by kernel_rfl) ?_ | refine a_pu 6 rfl rfl rfl rfl (pu_move rfl rfl) rfl rfl (by kernel_rfl) ?_
    refine a_pu 7 rfl rfl rfl rfl (pu_neq_f rfl rfl rfl (by omega)) rfl rfl (by kernel_rfl) ?_
    first | refine a_pu 8 rfl rfl rfl rfl (pu_pick_t rfl rfl rfl) rfl rfl (by kernel_rfl) ?_ | refine a_pu 8 rfl rfl rfl rfl (pu_pick_f rfl rfl rfl) rfl rfl (by kernel_rfl) ?_
    refine a_pu 9 rfl rfl rfl rfl (pu_move rfl rfl) rfl rfl (by kernel_rfl) ?_
    refine a_pu 10 rfl rfl rfl rfl (pu_loadW 1 (L := cmdC x) rfl rfl rfl hcl) rfl rfl (by kernel_rfl) ?_
    refine a_pu 12 rfl rfl rfl rfl (pu_loadW 1 (L := cmdC x) rfl rfl rfl hcl) rfl rfl (by kernel_rfl) ?_
    refine a_do 11 31 [] (does_call rfl rfl rfl rfl rfl (fun w' hm => Check_b w' x h16)) rfl rfl (by kernel_rfl) rfl rfl (by kernel_rfl) (by kernel_rfl) (by kernel_rfl) rfl (fun p hp => by cases hp) ?_; rintro v_ cs_ ⟨_, _, rfl, rfl⟩
    refine a_tail [13, 14, 15] (by kernel_rfl) rfl rfl (by kernel_rfl) ?_
    refine g_call [] rfl rfl rfl rfl rfl rfl (fun w' hm => RCheck_b w' x h16) (fun _ _ => ?_)
    refine g_pu rfl rfl rfl (pu_neq_f rfl rfl rfl (by omega)) ?_
    first | refine g_pu rfl rfl rfl (pu_pick_t rfl rfl rfl) ?_ | refine g_pu rfl rfl rfl (pu_pick_f rfl rfl rfl) ?_
    refine g_nil ?_
    (repeat refine g_seq ?_)
    refine g_cond_f rfl (g_skip ?_)
    (repeat refine g_seq ?_)
    refine g_region ?_
    refine g_pu rfl rfl rfl (pu_move rfl rfl) ?_
    refine g_pu rfl rfl rfl (pu_neq_f rfl rfl rfl (by omega)) ?_
    refine g_nil ?_
    (repeat refine g_seq ?_)
    refine g_cond_f rfl (g_skip ?_)
    (repeat refine g_seq ?_)
    refine g_region ?_
    refine g_pu rfl rfl rfl (pu_move rfl rfl) ?_
    refine g_call [] rfl rfl rfl rfl rfl rfl (fun w' hm => Decode_b w' _ (l := encL x) (By.ow 12 rfl hm hel (by omega)) hxc) (fun _ _ => ?_)
    rw [hd.1, hd.2]
    refine g_pu rfl rfl rfl (pu_move rfl rfl) ?_
    refine g_pu rfl rfl rfl (pu_extract rfl rfl rfl) ?_
    refine g_pu rfl rfl rfl (pu_extract rfl rfl rfl) ?_
    refine g_lo [7] rfl rfl rfl rfl (lo_alloc rfl) (fun b7 hb7 => ?_)
    refine g_storeL 7 (s := 20) (C := cmdC x) rfl rfl rfl rfl rfl rfl hcl rfl (oneCell_cmd _) ?_
    refine g_pu rfl rfl rfl (pu_assign rfl rfl) ?_
    refine g_nil ?_
    (repeat refine g_seq ?_)
    refine g_region ?_
    refine g_pu rfl rfl rfl (pu_move rfl rfl) ?_
    refine g_pu rfl rfl rfl (pu_eql_t rfl rfl rfl (by omega)) ?_
    refine g_pu rfl rfl rfl (pu_move rfl rfl) ?_
    refine g_pu rfl rfl rfl (pu_loadW 7 (L := cmdC x) rfl rfl rfl hcl) ?_
    refine g_pu rfl rfl rfl (pu_loadW 1 (L := cmdC x) rfl rfl rfl hcl) ?_
    refine g_pu rfl rfl rfl (pu_eqlR (cmd_refl x h16) rfl rfl rfl) ?_
    first | refine g_pu rfl rfl rfl (pu_pick_t rfl rfl rfl) ?_ | refine g_pu rfl rfl rfl (pu_pick_f rfl rfl rfl) ?_
    refine g_pu rfl rfl rfl (pu_assign rfl rfl) ?_
    refine g_nil ?_
    exact g_ret1 rfl rfl (fun w' hm => ⟨(), trivial, rfl, hm.grows [] trivial rfl⟩)
  · (repeat refine g_seq ?_)
    refine g_region ?_
    refine g_pu rfl rfl rfl (pu_loadW 1 (L := cmdC x) rfl rfl rfl hcl) ?_
    refine g_call [] rfl rfl rfl rfl rfl rfl (fun w' hm => Encode_e w' x h16 he) (fun _ _ => ?_)
    refine g_pu rfl rfl rfl (pu_move rfl rfl) ?_
    refine g_pu rfl rfl rfl (pu_extract rfl rfl rfl) ?_
    refine g_pu rfl rfl rfl (pu_extract rfl rfl rfl) ?_
    refine g_pu rfl rfl rfl (pu_assign rfl rfl) ?_
    refine g_pu rfl rfl rfl (pu_assign rfl rfl) ?_
    refine g_nil ?_
    (repeat refine g_seq ?_)
    refine g_region ?_
    refine g_pu rfl rfl rfl (pu_loadW 1 (L := cmdC x) rfl rfl rfl hcl) ?_
    refine g_call [] rfl rfl rfl rfl rfl rfl (fun w' hm => REncode_e w' x h16 he) (fun _ _ => ?_)
    refine g_pu rfl rfl rfl (pu_move rfl rfl) ?_
    refine g_pu rfl rfl rfl (pu_extract rfl rfl rfl) ?_
    refine g_pu rfl rfl rfl (pu_extract rfl rfl rfl) ?_
    refine g_pu rfl rfl rfl (pu_assign rfl rfl) ?_
    refine g_pu rfl rfl rfl (pu_assign rfl rfl) ?_
    refine g_nil ?_
    (repeat refine g_seq ?_)
    refine g_any (13, []) ?_
    refine a_pu 0 rfl rfl rfl rfl (pu_move rfl rfl) rfl rfl (by kernel_rfl) ?_
    refine a_pu 1 rfl rfl rfl rfl (pu_move rfl rfl) rfl rfl (by kernel_rfl) ?_
    refine a_do 2 22 [] (does_call rfl rfl rfl rfl rfl (fun w' hm => Equal_b w' _ _ (By.nil w' none) (By.nil w' none))) rfl rfl (by kernel_rfl) rfl rfl (by kernel_rfl) (by kernel_rfl) (by kernel_rfl) rfl (fun p hp => by cases hp) ?_; rintro v_ cs_ ⟨_, _, rfl, rfl⟩
    rw [decide_eq_true (rfl : ([] : List (BitVec 8)) = [])]
    refine a_pu 3 rfl rfl rfl rfl (pu_not rfl rfl) rfl rfl (by kernel_rfl) ?_
    refine a_pu 4 rfl rfl rfl rfl (pu_move rfl rfl) rfl rfl (by kernel_rfl) ?_
    first | refine a_pass 5 rfl rfl rfl rfl rfl rfl (by kernel_rfl) ?_ | refine a_pu 5 rfl rfl rfl rfl (pu_move rfl rfl) rfl rfl (by kernel_rfl) ?_
    first | refine a_pass 6 rfl rfl rfl rfl rfl rfl (by kernel_rfl) ?_ | refine a_pu 6 rfl rfl rfl rfl (pu_move rfl rfl) rfl rfl (by kernel_rfl) ?_
    refine a_pu 7 rfl rfl rfl rfl (pu_neq_f rfl rfl rfl (by omega)) rfl rfl (by kernel_rfl) ?_
    first | refine a_pu 8 rfl rfl rfl rfl (pu_pick_t rfl rfl rfl) rfl rfl (by kernel_rfl) ?_ | refine a_pu 8 rfl rfl rfl rfl (pu_pick_f rfl rfl rfl) rfl rfl (by kernel_rfl) ?_
    refine a_pu 9 rfl rfl rfl rfl (pu_move rfl rfl) rfl rfl (by kernel_rfl) ?_
    refine a_pu 10 rfl rfl rfl rfl (pu_loadW 1 (L := cmdC x) rfl rfl rfl hcl) rfl rfl (by kernel_rfl) ?_
    refine a_pu 12 rfl rfl rfl rfl (pu_loadW 1 (L := cmdC x) rfl rfl rfl hcl) rfl rfl (by kernel_rfl) ?_
    refine a_do 11 31 [] (does_call rfl rfl rfl rfl rfl (fun w' hm => Check_b w' x h16)) rfl rfl (by kernel_rfl) rfl rfl (by kernel_rfl) (by kernel_rfl) (by kernel_rfl) rfl (fun p hp => by cases hp) ?_; rintro v_ cs_ ⟨_, _, rfl, rfl⟩
    refine a_tail [13, 14, 15] (by kernel_rfl) rfl rfl (by kernel_rfl) ?_
    refine g_call [] rfl rfl rfl rfl rfl rfl (fun w' hm => RCheck_b w' x h16) (fun _ _ => ?_)
    refine g_pu rfl rfl rfl (pu_neq_f rfl rfl rfl (by omega)) ?_
    first | refine g_pu rfl rfl rfl (pu_pick_t rfl rfl rfl) ?_ | refine g_pu rfl rfl rfl (pu_pick_f rfl rfl rfl) ?_
    refine g_nil ?_
    (repeat refine g_seq ?_)
    refine g_cond_f rfl (g_skip ?_)
    (repeat refine g_seq ?_)
    refine g_region ?_
    refine g_pu rfl rfl rfl (pu_move rfl rfl) ?_
    refine g_pu rfl rfl rfl (pu_neq_t rfl rfl rfl (by omega)) ?_
    refine g_nil ?_
    (repeat refine g_seq ?_)
    refine g_cond_t rfl ?_
    (repeat refine g_seq ?_)
    refine g_region ?_
    refine g_pu rfl rfl rfl (pu_assign rfl rfl) ?_
    refine g_nil ?_
    exact g_ret1 rfl rfl (fun w' hm => ⟨(), trivial, rfl, hm.grows [] trivial rfl⟩)
end Go.Sx

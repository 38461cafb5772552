/-
  CommandTells: what was told answers whether it is the last and how long to wait, and has the command's own fields. Each mark has 16 bytes.
-/
import Derived.Test.YtbnfocnhmpegjaaCM3
set_option linter.unusedVariables false
set_option linter.unusedSimpArgs false
namespace Go.Sx
open Go Go.Proofs

theorem CommandTells_spec (w : World) {q : Option Addr} {m : Nat} (d : Nat) {cs : List Cmd} (hq : RdV w q (cmdsC cs)) (hn : cs.length = m) (h16 : ∀ x ∈ cs, x.m.length = 16) (hmb : m ≤ 4398046511000) :
    Spec Try.prog 3 #[.slice q m d] w (σ := Unit) (fun _ => True) (fun _ => .bool true) Nob (fun _ => []) := by
  refine enter Try.func3 rfl rfl (Mem.start w) ?_
  have hcl := cmdsC_length h16
  (repeat refine g_seq ?_)
  refine g_region ?_
  refine g_pu rfl rfl rfl (pu_assign rfl rfl) ?_
  refine g_nil ?_
  (repeat refine g_seq ?_)
  refine g_region ?_
  refine g_call [] rfl rfl rfl rfl rfl rfl (fun w' hm => awake10_b w') (fun _ _ => ?_)
  refine g_pu rfl rfl rfl (pu_not rfl rfl) ?_
  refine g_pu rfl rfl rfl (pu_move rfl rfl) ?_
  refine g_pu rfl rfl rfl (pu_buildS (cs := cmdC ⟨2#8, 0#8, 0#32, 0#64, zero16⟩) rfl rfl rfl) ?_
  refine g_pu rfl rfl rfl (pu_buildS (cs := cmdC ⟨2#8, 0#8, 0#32, 0#64, zero16⟩) rfl rfl (fill_cmd rfl _ rfl)) ?_
  refine g_call [] rfl rfl rfl rfl rfl rfl (fun w' hm => Last_b w' ⟨2#8, 0#8, 0#32, 0#64, zero16⟩) (fun _ _ => ?_)
  first | refine g_pass rfl rfl rfl ?_ | refine g_pu rfl rfl rfl (pu_not rfl rfl) ?_
  first | refine g_pu rfl rfl rfl (pu_pick_t rfl rfl rfl) ?_ | refine g_pu rfl rfl rfl (pu_pick_f rfl rfl rfl) ?_
  refine g_nil ?_
  (repeat refine g_seq ?_)
  refine g_cond_f rfl (g_skip ?_)
  (repeat refine g_seq ?_)
  refine g_region ?_
  refine g_lo [14] rfl rfl rfl rfl (lo_buildSlice0 rfl) (fun b14 hb14 => ?_)
  refine g_own 14 (L := []) (J := []) (c := 0) (s := 20) rfl (by simp) (by omega) ?_
  refine g_pu rfl rfl rfl (pu_move rfl rfl) ?_
  refine g_append 14 (s := 20) (cmdsC cs) rfl rfl rfl (by omega) rfl rfl rfl rfl rfl rfl (fun w' hm => hq.mem0 hm) (by rw [hcl, hn]) (oneCell_cmds cs) (by omega) (by omega) (fun p1 c1 => ?_)
  rw [Nat.zero_add, List.nil_append]
  refine g_call [17] rfl rfl rfl rfl rfl rfl (fun w' hm => Tell_b w' _ (cs := cs) (Own.rd (hm.holds 14 _ rfl)) hn h16 (by omega)) (fun x17 _ => ?_)
  refine g_pu rfl rfl rfl (pu_assign rfl rfl) ?_
  refine g_nil ?_
  (repeat refine g_seq ?_)
  refine g_region ?_
  refine g_pu rfl rfl rfl (pu_move rfl rfl) ?_
  first | refine g_pu rfl rfl rfl (pu_len rfl rfl) ?_ | refine g_pu rfl rfl rfl (pu_lenS rfl rfl) ?_
  refine g_pu rfl rfl rfl (pu_move rfl rfl) ?_
  first | refine g_pu rfl rfl rfl (pu_len rfl rfl) ?_ | refine g_pu rfl rfl rfl (pu_lenS rfl rfl) ?_
  refine g_pu rfl rfl rfl (pu_neq_f rfl rfl rfl (by omega)) ?_
  refine g_nil ?_
  (repeat refine g_seq ?_)
  refine g_cond_f rfl (g_skip ?_)
  (repeat refine g_seq ?_)
  refine g_region ?_
  refine g_pu rfl rfl rfl (pu_move rfl rfl) ?_
  first | refine g_pu rfl rfl rfl (pu_len rfl rfl) ?_ | refine g_pu rfl rfl rfl (pu_lenS rfl rfl) ?_
  refine g_pu rfl rfl rfl (pu_move rfl rfl) ?_
  refine g_nil ?_
  refine g_block (g_loop (σ := Nat) (fun (i : Nat) => [(0, .slice q m d), (3, .slice x17.p m x17.c), (23, .slice q m d), (24, .int .i64 (m : Int)), (25, .int .i64 (i : Int))]) (fun i => [(17, x17.ck 30 20 (cmdsC cs))]) (fun i => i ≤ m) (fun i => m - i) 0 ⟨rfl, rfl, rfl, rfl, rfl, trivial⟩ ⟨rfl, trivial⟩ (by omega) ?_)
  intro i hi
  by_cases hlt : i < m
  · (repeat refine g_seq ?_)
    refine g_region ?_
    first | refine g_pu rfl rfl rfl (pu_lss_t rfl rfl rfl (by omega)) ?_ | refine g_pu rfl rfl rfl (pu_lss_f rfl rfl rfl (by omega)) ?_ | refine g_pu rfl rfl rfl (pu_lss rfl rfl rfl) ?_
    refine g_nil ?_
    (repeat refine g_seq ?_)
    refine g_cond_t rfl (g_skip ?_)
    have h1 : cs[i]? = some cs[i] := List.getElem?_eq_getElem (by omega)
    have hx16 := h16 cs[i] (List.getElem_mem (by omega))
    generalize cs[i] = y at h1 hx16
    have hyl := cmdC_length hx16
    have hg := cmdsC_get h16 h1
    obtain ⟨xp, xc⟩ := x17
    (repeat refine g_seq ?_); refine g_block ?_
    (repeat refine g_seq ?_)
    refine g_region ?_
    refine g_pu rfl rfl rfl (pu_move rfl rfl) ?_
    refine g_pu rfl rfl rfl (pu_atM i (s := 20) (L := cmdsC cs) (fun w' hm => hq.mem0 hm) rfl rfl rfl rfl hlt (by omega)) ?_
    refine g_pu rfl rfl rfl (pu_rdMA (L := cmdsC cs) (j := i * 20) (s := 20) (fun w' hm => hq.mem0 hm) rfl rfl (by omega) (by omega)) ?_
    rw [hg]
    refine g_lo [5] rfl rfl rfl rfl (lo_alloc rfl) (fun b5 hb5 => ?_)
    refine g_pu rfl rfl rfl (pu_assign rfl rfl) ?_
    refine g_storeL 5 (s := 20) (C := cmdC y) rfl rfl rfl rfl rfl rfl hyl rfl (oneCell_cmd y) ?_
    refine g_nil ?_
    (repeat refine g_seq ?_)
    refine g_row 17 rfl (by omega) (fun bb J hp hJ hcap => ?_)
    simp only at hp
    subst hp
    have hext := cmdsC_ext J h16 h1
    have hmk := cmdsC_mark J h16 h1
    have hsz : (cmdsC cs ++ J).toArray.size = m * 20 + J.length := by rw [List.size_toArray, List.length_append, hcl, hn]
    (repeat refine g_seq ?_)
    refine g_any (51, []) ?_
    refine a_pu 0 rfl rfl rfl rfl (pu_move rfl rfl) rfl rfl (by kernel_rfl) ?_
    refine a_pu 1 rfl rfl rfl rfl (pu_move rfl rfl) rfl rfl (by kernel_rfl) ?_
    refine a_pu 2 rfl rfl rfl rfl (pu_at i (s := 20) rfl rfl rfl rfl hlt) rfl rfl (by kernel_rfl) ?_
    refine a_pu 3 rfl rfl rfl rfl (pu_fieldAddr (by decide) rfl rfl) rfl rfl (by kernel_rfl) ?_
    refine a_pu 4 rfl rfl rfl rfl (pu_loadE 17 (cmdC y).toArray rfl rfl rfl (by omega) hext) rfl rfl (by kernel_rfl) ?_
    refine a_pu 5 rfl rfl rfl rfl (pu_loadW 5 (L := cmdC y) rfl rfl rfl hyl) rfl rfl (by kernel_rfl) ?_
    refine a_pu 6 rfl rfl rfl rfl (pu_neqR (cmd_refl y hx16) rfl rfl rfl) rfl rfl (by kernel_rfl) ?_
    refine a_pu 7 rfl rfl rfl rfl (pu_move rfl rfl) rfl rfl (by kernel_rfl) ?_
    first | refine a_pass 8 rfl rfl rfl rfl rfl rfl (by kernel_rfl) ?_ | refine a_pu 8 rfl rfl rfl rfl (pu_move rfl rfl) rfl rfl (by kernel_rfl) ?_
    first | refine a_pass 9 rfl rfl rfl rfl rfl rfl (by kernel_rfl) ?_ | refine a_pu 9 rfl rfl rfl rfl (pu_move rfl rfl) rfl rfl (by kernel_rfl) ?_
    refine a_pu 10 rfl rfl rfl rfl (pu_at i (s := 20) rfl rfl rfl rfl hlt) rfl rfl (by kernel_rfl) ?_
    refine a_pu 11 rfl rfl rfl rfl (pu_loadE 17 (cmdC y).toArray rfl rfl rfl (by omega) hext) rfl rfl (by kernel_rfl) ?_
    first | refine a_pass 13 rfl rfl rfl rfl rfl rfl (by kernel_rfl) ?_ | refine a_pu 13 rfl rfl rfl rfl (pu_fieldAddr (by decide) rfl rfl) rfl rfl (by kernel_rfl) ?_
    refine a_pu 14 rfl rfl rfl rfl (pu_load 5 (v := b8 y.k) rfl rfl rfl rfl) rfl rfl (by kernel_rfl) ?_
    first | refine a_pass 15 rfl rfl rfl rfl rfl rfl (by kernel_rfl) ?_ | refine a_pu 15 rfl rfl rfl rfl (pu_neq8_t (b := 1#8) rfl rfl rfl (by first | assumption | decide)) rfl rfl (by kernel_rfl) ?_ | refine a_pu 15 rfl rfl rfl rfl (pu_neq8_f (b := 1#8) rfl rfl rfl (by first | rfl | assumption | decide)) rfl rfl (by kernel_rfl) ?_ | refine a_pu 15 rfl rfl rfl rfl (pu_neq8 (b := 1#8) rfl rfl rfl) rfl rfl (by kernel_rfl) ?_
    refine a_do 12 42 [] (does_call rfl rfl rfl rfl rfl (fun w' hm => Last_b w' y)) rfl rfl (by kernel_rfl) rfl rfl (by kernel_rfl) (by kernel_rfl) (by kernel_rfl) rfl (fun p hp => by cases hp) ?_; rintro v_ cs_ ⟨_, _, rfl, rfl⟩
    refine a_pu 16 rfl rfl rfl rfl (pu_neqB rfl rfl rfl) rfl rfl (by kernel_rfl) ?_
    rw [decide_eq_false (show ¬ (decide (y.k ≠ 1#8) ≠ decide (y.k ≠ 1#8)) from fun h => h rfl)]
    first | refine a_pu 17 rfl rfl rfl rfl (pu_pick_t rfl rfl rfl) rfl rfl (by kernel_rfl) ?_ | refine a_pu 17 rfl rfl rfl rfl (pu_pick_f rfl rfl rfl) rfl rfl (by kernel_rfl) ?_
    refine a_pu 18 rfl rfl rfl rfl (pu_move rfl rfl) rfl rfl (by kernel_rfl) ?_
    first | refine a_pass 19 rfl rfl rfl rfl rfl rfl (by kernel_rfl) ?_ | refine a_pu 19 rfl rfl rfl rfl (pu_move rfl rfl) rfl rfl (by kernel_rfl) ?_
    first | refine a_pass 20 rfl rfl rfl rfl rfl rfl (by kernel_rfl) ?_ | refine a_pu 20 rfl rfl rfl rfl (pu_move rfl rfl) rfl rfl (by kernel_rfl) ?_
    refine a_pu 21 rfl rfl rfl rfl (pu_at i (s := 20) rfl rfl rfl rfl hlt) rfl rfl (by kernel_rfl) ?_
    refine a_pu 22 rfl rfl rfl rfl (pu_loadE 17 (cmdC y).toArray rfl rfl rfl (by omega) hext) rfl rfl (by kernel_rfl) ?_
    first | refine a_pass 24 rfl rfl rfl rfl rfl rfl (by kernel_rfl) ?_ | refine a_pu 24 rfl rfl rfl rfl (pu_fieldAddr (by decide) rfl rfl) rfl rfl (by kernel_rfl) ?_
    refine a_pu 25 rfl rfl rfl rfl (pu_load 5 (v := b32 y.d) rfl rfl rfl rfl) rfl rfl (by kernel_rfl) ?_
    first | refine a_pass 26 rfl rfl rfl rfl rfl rfl (by kernel_rfl) ?_ | refine a_pu 26 rfl rfl rfl rfl (pu_conv32_I rfl rfl) rfl rfl (by kernel_rfl) ?_
    refine a_do 23 53 [] (does_call rfl rfl rfl rfl rfl (fun w' hm => Wait_b w' y)) rfl rfl (by kernel_rfl) rfl rfl (by kernel_rfl) (by kernel_rfl) (by kernel_rfl) rfl (fun p hp => by cases hp) ?_; rintro v_ cs_ ⟨_, _, rfl, rfl⟩
    refine a_pu 27 rfl rfl rfl rfl (pu_neq_f rfl rfl rfl (by omega)) rfl rfl (by kernel_rfl) ?_
    first | refine a_pu 28 rfl rfl rfl rfl (pu_pick_t rfl rfl rfl) rfl rfl (by kernel_rfl) ?_ | refine a_pu 28 rfl rfl rfl rfl (pu_pick_f rfl rfl rfl) rfl rfl (by kernel_rfl) ?_
    refine a_pu 29 rfl rfl rfl rfl (pu_move rfl rfl) rfl rfl (by kernel_rfl) ?_
    first | refine a_pass 30 rfl rfl rfl rfl rfl rfl (by kernel_rfl) ?_ | refine a_pu 30 rfl rfl rfl rfl (pu_move rfl rfl) rfl rfl (by kernel_rfl) ?_
    first | refine a_pass 31 rfl rfl rfl rfl rfl rfl (by kernel_rfl) ?_ | refine a_pu 31 rfl rfl rfl rfl (pu_move rfl rfl) rfl rfl (by kernel_rfl) ?_
    refine a_pu 32 rfl rfl rfl rfl (pu_at i (s := 20) rfl rfl rfl rfl hlt) rfl rfl (by kernel_rfl) ?_
    first | refine a_pass 33 rfl rfl rfl rfl rfl rfl (by kernel_rfl) ?_ | refine a_pu 33 rfl rfl rfl rfl (pu_fieldAddr (by decide) rfl rfl) rfl rfl (by kernel_rfl) ?_
    first | refine a_pass 34 rfl rfl rfl rfl rfl rfl (by kernel_rfl) ?_ | refine a_pu 34 rfl rfl rfl rfl (pu_fieldAddr (by decide) rfl rfl) rfl rfl (by kernel_rfl) ?_
    refine a_pu 35 rfl rfl rfl rfl (pu_load 17 (v := b64 y.n) rfl rfl rfl (cmdsC_cell J h16 h1 (j := 3) rfl)) rfl rfl (by kernel_rfl) ?_
    first | refine a_pass 36 rfl rfl rfl rfl rfl rfl (by kernel_rfl) ?_ | refine a_pu 36 rfl rfl rfl rfl (pu_fieldAddr (by decide) rfl rfl) rfl rfl (by kernel_rfl) ?_
    refine a_pu 37 rfl rfl rfl rfl (pu_load 5 (v := b64 y.n) rfl rfl rfl rfl) rfl rfl (by kernel_rfl) ?_
    refine a_pu 38 rfl rfl rfl rfl (pu_neq_f rfl rfl rfl (by omega)) rfl rfl (by kernel_rfl) ?_
    first | refine a_pu 39 rfl rfl rfl rfl (pu_pick_t rfl rfl rfl) rfl rfl (by kernel_rfl) ?_ | refine a_pu 39 rfl rfl rfl rfl (pu_pick_f rfl rfl rfl) rfl rfl (by kernel_rfl) ?_
    refine a_pu 40 rfl rfl rfl rfl (pu_move rfl rfl) rfl rfl (by kernel_rfl) ?_
    first | refine a_pass 41 rfl rfl rfl rfl rfl rfl (by kernel_rfl) ?_ | refine a_pu 41 rfl rfl rfl rfl (pu_move rfl rfl) rfl rfl (by kernel_rfl) ?_
    first | refine a_pass 42 rfl rfl rfl rfl rfl rfl (by kernel_rfl) ?_ | refine a_pu 42 rfl rfl rfl rfl (pu_move rfl rfl) rfl rfl (by kernel_rfl) ?_
    refine a_pu 43 rfl rfl rfl rfl (pu_at i (s := 20) rfl rfl rfl rfl hlt) rfl rfl (by kernel_rfl) ?_
    first | refine a_pass 44 rfl rfl rfl rfl rfl rfl (by kernel_rfl) ?_ | refine a_pu 44 rfl rfl rfl rfl (pu_fieldAddr (by decide) rfl rfl) rfl rfl (by kernel_rfl) ?_
    first | refine a_pass 45 rfl rfl rfl rfl rfl rfl (by kernel_rfl) ?_ | refine a_pu 45 rfl rfl rfl rfl (pu_fieldAddr (by decide) rfl rfl) rfl rfl (by kernel_rfl) ?_
    refine a_pu 46 rfl rfl rfl rfl (pu_loadE 17 (bs y.m).toArray rfl rfl rfl (by omega) hmk) rfl rfl (by kernel_rfl) ?_
    first | refine a_pass 47 rfl rfl rfl rfl rfl rfl (by kernel_rfl) ?_ | refine a_pu 47 rfl rfl rfl rfl (pu_fieldAddr (by decide) rfl rfl) rfl rfl (by kernel_rfl) ?_
    refine a_pu 48 rfl rfl rfl rfl (pu_loadE 5 (bs y.m).toArray rfl rfl rfl (by rw [List.size_toArray]; omega) (ext_mark hx16)) rfl rfl (by kernel_rfl) ?_
    refine a_pu 49 rfl rfl rfl rfl (pu_neqA_f rfl rfl rfl rfl (all_bs _) (by rw [bs_length, hx16])) rfl rfl (by kernel_rfl) ?_
    first | refine a_pu 50 rfl rfl rfl rfl (pu_pick_t rfl rfl rfl) rfl rfl (by kernel_rfl) ?_ | refine a_pu 50 rfl rfl rfl rfl (pu_pick_f rfl rfl rfl) rfl rfl (by kernel_rfl) ?_
    refine a_done (by kernel_rfl) ?_
    (repeat refine g_seq ?_)
    refine g_cond_f rfl (g_skip ?_)
    refine g_own 17 (L := cmdsC cs) (J := J) (c := xc) (s := 20) rfl hJ hcap ?_
    refine g_blk ?_
    (repeat refine g_seq ?_)
    refine g_region ?_
    refine g_pu rfl rfl rfl (pu_addI rfl rfl rfl (by omega)) ?_
    refine g_pu rfl rfl rfl (pu_move rfl rfl) ?_
    refine g_nil ?_
    exact g_round (i + 1) (by omega) (by omega) ⟨rfl, rfl, rfl, rfl, rfl, trivial⟩ ⟨rfl, trivial⟩
  · (repeat refine g_seq ?_)
    refine g_region ?_
    first | refine g_pu rfl rfl rfl (pu_lss_t rfl rfl rfl (by omega)) ?_ | refine g_pu rfl rfl rfl (pu_lss_f rfl rfl rfl (by omega)) ?_ | refine g_pu rfl rfl rfl (pu_lss rfl rfl rfl) ?_
    refine g_nil ?_
    (repeat refine g_seq ?_)
    refine g_cond_f rfl (g_exit rfl ?_)
    (repeat refine g_seq ?_)
    refine g_region ?_
    refine g_pu rfl rfl rfl (pu_assign rfl rfl) ?_
    refine g_nil ?_
    exact g_ret1 rfl rfl (fun w' hm => ⟨(), trivial, rfl, hm.grows [] trivial rfl⟩)
end Go.Sx

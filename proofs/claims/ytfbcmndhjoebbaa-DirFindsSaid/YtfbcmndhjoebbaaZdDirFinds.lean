import Derived.Test.YtfbcmndhjoebbaaZdD6
set_option linter.unusedVariables false
set_option linter.unusedSimpArgs false
/-
  DirFinds: a node is found by its name or its number, just if it is there. No condition.
-/
namespace Go.Sx
open Go Go.Proofs

theorem find_empty {hs : List Hop} (h : chkN hs = 0) : hs.find? (isName ⟨#[]⟩) = none := by
  rw [List.find?_eq_none]
  intro x hx
  have h1 := (chkN_ok h).2.1 x hx
  intro h2
  unfold isName at h2
  have h3 : x.name = ⟨#[]⟩ := of_decide_eq_true h2
  unfold okN at h1
  rw [h3] at h1
  simp [nameOk, bytesOf] at h1

theorem DirFinds_spec (w : World) {p : Option Addr} {n : Nat} (c : Nat) (s : ByteArray) (z : BitVec 64) {hs : List Hop} (hp : RdV w p (nodsC hs)) (hn : hs.length = n) (ho : ∀ x ∈ hs, x.ok) (hb : n ≤ 1599289640401) : Spec Try.prog 5 #[.slice p n c, .string s, b64 z] w (σ := Unit) (fun _ => True) (fun _ => .bool true) Nob (fun _ => []) := by
  refine enter Try.func5 rfl rfl (Mem.start w) ?_
  have hr1 := findR_ok (pr := isId z) ho
  have hl1 := nodeC_length hr1
  have hr2 := findR_ok (pr := isName s) ho
  have hl2 := nodeC_length hr2
  (repeat refine g_seq ?_)
  refine g_region ?_
  refine g_pu rfl rfl rfl (pu_assign rfl rfl) ?_
  refine g_nil ?_
  (repeat refine g_seq ?_)
  refine g_region ?_
  refine g_call [] rfl rfl rfl rfl rfl rfl (fun w' hm => awake09_b w') (fun _ _ => ?_)
  refine g_pu rfl rfl rfl (pu_not rfl rfl) ?_
  refine g_nil ?_
  (repeat refine g_seq ?_)
  refine g_cond_f rfl (g_skip ?_)
  (repeat refine g_seq ?_)
  refine g_region ?_
  refine g_pu rfl rfl rfl (pu_move rfl rfl) ?_
  refine g_call [16] rfl rfl rfl rfl rfl rfl (fun w' hm => twin_b w' c (hp.mem0 hm) hn ho hb) (fun x16 _ => ?_)
  refine g_pu rfl rfl rfl (pu_move rfl rfl) ?_
  refine g_call [] rfl rfl rfl rfl rfl rfl (fun w' hm => DAt_b w' x16.c z (hs := hs) (Ow.rd (t := 16) rfl hm) hn ho) (fun _ _ => ?_)
  refine g_pu rfl rfl rfl (pu_move rfl rfl) ?_
  refine g_pu rfl rfl rfl (pu_extract rfl rfl rfl) ?_
  refine g_pu rfl rfl rfl (pu_extract rfl rfl rfl) ?_
  refine g_lo [7] rfl rfl rfl rfl (lo_alloc rfl) (fun b7 hb7 => ?_)
  refine g_storeL 7 (s := 66) (C := nodeC (findR hs (isId z)).1) rfl rfl rfl rfl rfl rfl hl1 rfl (oneCell_node _) ?_
  refine g_pu rfl rfl rfl (pu_assign rfl rfl) ?_
  refine g_nil ?_
  (repeat refine g_seq ?_)
  refine g_region ?_
  refine g_pu rfl rfl rfl (pu_move rfl rfl) ?_
  refine g_pu rfl rfl rfl (pu_move rfl rfl) ?_
  refine g_call [] rfl rfl rfl rfl rfl rfl (fun w' hm => RDFind_b w' c ⟨#[]⟩ z (hs := hs) (hp.mem0 hm) hn ho) (fun _ _ => ?_)
  rw [isOne_e]
  refine g_pu rfl rfl rfl (pu_move rfl rfl) ?_
  refine g_pu rfl rfl rfl (pu_extract rfl rfl rfl) ?_
  refine g_pu rfl rfl rfl (pu_extract rfl rfl rfl) ?_
  refine g_lo [9] rfl rfl rfl rfl (lo_alloc rfl) (fun b9 hb9 => ?_)
  refine g_storeL 9 (s := 66) (C := nodeC (findR hs (isId z)).1) rfl rfl rfl rfl rfl rfl hl1 rfl (oneCell_node _) ?_
  refine g_pu rfl rfl rfl (pu_assign rfl rfl) ?_
  refine g_nil ?_
  (repeat refine g_seq ?_)
  refine g_region ?_
  refine g_pu rfl rfl rfl (pu_fieldAddr (by decide) rfl rfl) ?_
  refine g_pu rfl rfl rfl (pu_loadW 7 (L := nodeC (findR hs (isId z)).1) rfl rfl rfl hl1) ?_
  refine g_pu rfl rfl rfl (pu_loadW 9 (L := nodeC (findR hs (isId z)).1) rfl rfl rfl hl1) ?_
  refine g_pu rfl rfl rfl (pu_neqR (node_refl _ hr1) rfl rfl rfl) ?_
  refine g_pu rfl rfl rfl (pu_move rfl rfl) ?_
  first | refine g_pass rfl rfl rfl ?_ | refine g_pu rfl rfl rfl (pu_move rfl rfl) ?_
  first | refine g_pass rfl rfl rfl ?_ | refine g_pu rfl rfl rfl (pu_move rfl rfl) ?_
  refine g_pu rfl rfl rfl (pu_neq_f rfl rfl rfl (fun h => h rfl)) ?_
  first | refine g_pu rfl rfl rfl (pu_pick_t rfl rfl rfl) ?_ | refine g_pu rfl rfl rfl (pu_pick_f rfl rfl rfl) ?_
  refine g_nil ?_
  (repeat refine g_seq ?_)
  refine g_cond_f rfl (g_skip ?_)
  (repeat refine g_seq ?_)
  refine g_region ?_
  refine g_pu rfl rfl rfl (pu_move rfl rfl) ?_
  refine g_call [38] rfl rfl rfl rfl rfl rfl (fun w' hm => twin_b w' c (hp.mem0 hm) hn ho hb) (fun x38 _ => ?_)
  refine g_pu rfl rfl rfl (pu_move rfl rfl) ?_
  refine g_call [] rfl rfl rfl rfl rfl rfl (fun w' hm => DFind_b w' x38.c s (hs := hs) (Ow.rd (t := 38) rfl hm) hn ho) (fun _ _ => ?_)
  refine g_pu rfl rfl rfl (pu_move rfl rfl) ?_
  refine g_pu rfl rfl rfl (pu_extract rfl rfl rfl) ?_
  refine g_pu rfl rfl rfl (pu_extract rfl rfl rfl) ?_
  refine g_storeL 7 (s := 66) (C := nodeC (findR hs (isName s)).1) rfl rfl rfl rfl rfl rfl hl2 hl1 (oneCell_node _) ?_
  refine g_pu rfl rfl rfl (pu_assign rfl rfl) ?_
  refine g_nil ?_
  by_cases hse : s = ⟨#[]⟩
  · subst hse
    have hzl := nodeC_length zN_ok
    (repeat refine g_seq ?_)
    refine g_region ?_
    refine g_pu rfl rfl rfl (pu_move rfl rfl) ?_
    refine g_pu rfl rfl rfl (pu_eqlS_t rfl rfl rfl rfl) ?_
    refine g_nil ?_
    (repeat refine g_seq ?_)
    refine g_cond_t rfl ?_
    by_cases h0 : chkN hs = 0
    · rw [findR_none h0 (find_empty h0)]
      (repeat refine g_seq ?_)
      refine g_region ?_
      refine g_pu rfl rfl rfl (pu_move rfl rfl) ?_
      refine g_call [] rfl rfl rfl rfl rfl rfl (fun w' hm => RDCheck_b w' c (hp.mem0 hm) hn ho) (fun _ _ => ?_)
      rw [h0]
      refine g_pu rfl rfl rfl (pu_assign rfl rfl) ?_
      refine g_nil ?_
      (repeat refine g_seq ?_)
      refine g_region ?_
      refine g_pu rfl rfl rfl (pu_move rfl rfl) ?_
      refine g_pu rfl rfl rfl (pu_eql_t rfl rfl rfl rfl) ?_
      refine g_nil ?_
      (repeat refine g_seq ?_)
      refine g_cond_t rfl ?_
      (repeat refine g_seq ?_)
      refine g_region ?_
      refine g_pu rfl rfl rfl (pu_assign rfl rfl) ?_
      refine g_nil ?_
      (repeat refine g_seq ?_)
      refine g_region ?_
      refine g_pu rfl rfl rfl (pu_loadW 7 (L := nodeC zN) rfl rfl rfl hzl) ?_
      refine g_pu rfl rfl rfl (pu_buildS (cs := nodeC zN) rfl rfl rfl) ?_
      refine g_pu rfl rfl rfl (pu_eqlR (dnode_refl zN zN_ok) rfl rfl rfl) ?_
      refine g_pu rfl rfl rfl (pu_move rfl rfl) ?_
      first | refine g_pass rfl rfl rfl ?_ | refine g_pu rfl rfl rfl (pu_move rfl rfl) ?_
      first | refine g_pass rfl rfl rfl ?_ | refine g_pu rfl rfl rfl (pu_move rfl rfl) ?_
      refine g_pu rfl rfl rfl (pu_eql_t rfl rfl rfl rfl) ?_
      first | refine g_pu rfl rfl rfl (pu_pick_t rfl rfl rfl) ?_ | refine g_pu rfl rfl rfl (pu_pick_f rfl rfl rfl) ?_
      refine g_pu rfl rfl rfl (pu_assign rfl rfl) ?_
      refine g_nil ?_
      exact g_ret1 rfl rfl (fun w' hm => ⟨(), trivial, rfl, hm.grows [] trivial rfl⟩)
    · rw [findR_bad h0]
      (repeat refine g_seq ?_)
      refine g_region ?_
      refine g_pu rfl rfl rfl (pu_move rfl rfl) ?_
      refine g_call [] rfl rfl rfl rfl rfl rfl (fun w' hm => RDCheck_b w' c (hp.mem0 hm) hn ho) (fun _ _ => ?_)
      refine g_pu rfl rfl rfl (pu_assign rfl rfl) ?_
      refine g_nil ?_
      (repeat refine g_seq ?_)
      refine g_region ?_
      refine g_pu rfl rfl rfl (pu_move rfl rfl) ?_
      refine g_pu rfl rfl rfl (pu_eql_f rfl rfl rfl h0) ?_
      refine g_nil ?_
      (repeat refine g_seq ?_)
      refine g_cond_f rfl (g_skip ?_)
      (repeat refine g_seq ?_)
      refine g_region ?_
      refine g_pu rfl rfl rfl (pu_loadW 7 (L := nodeC zN) rfl rfl rfl hzl) ?_
      refine g_pu rfl rfl rfl (pu_buildS (cs := nodeC zN) rfl rfl rfl) ?_
      refine g_pu rfl rfl rfl (pu_eqlR (dnode_refl zN zN_ok) rfl rfl rfl) ?_
      refine g_pu rfl rfl rfl (pu_move rfl rfl) ?_
      first | refine g_pass rfl rfl rfl ?_ | refine g_pu rfl rfl rfl (pu_move rfl rfl) ?_
      first | refine g_pass rfl rfl rfl ?_ | refine g_pu rfl rfl rfl (pu_move rfl rfl) ?_
      refine g_pu rfl rfl rfl (pu_eql_t rfl rfl rfl rfl) ?_
      first | refine g_pu rfl rfl rfl (pu_pick_t rfl rfl rfl) ?_ | refine g_pu rfl rfl rfl (pu_pick_f rfl rfl rfl) ?_
      refine g_pu rfl rfl rfl (pu_assign rfl rfl) ?_
      refine g_nil ?_
      exact g_ret1 rfl rfl (fun w' hm => ⟨(), trivial, rfl, hm.grows [] trivial rfl⟩)
  · (repeat refine g_seq ?_)
    refine g_region ?_
    refine g_pu rfl rfl rfl (pu_move rfl rfl) ?_
    refine g_pu rfl rfl rfl (pu_eqlS rfl rfl rfl) ?_
    rw [decide_eq_false hse]
    refine g_nil ?_
    (repeat refine g_seq ?_)
    refine g_cond_f rfl (g_skip ?_)
    (repeat refine g_seq ?_)
    refine g_region ?_
    refine g_pu rfl rfl rfl (pu_move rfl rfl) ?_
    refine g_pu rfl rfl rfl (pu_move rfl rfl) ?_
    refine g_call [] rfl rfl rfl rfl rfl rfl (fun w' hm => RDFind_b w' c s 0#64 (hs := hs) (hp.mem0 hm) hn ho) (fun _ _ => ?_)
    rw [isOne_n 0#64 hse]
    refine g_pu rfl rfl rfl (pu_move rfl rfl) ?_
    refine g_pu rfl rfl rfl (pu_extract rfl rfl rfl) ?_
    refine g_pu rfl rfl rfl (pu_extract rfl rfl rfl) ?_
    refine g_storeL 9 (s := 66) (C := nodeC (findR hs (isName s)).1) rfl rfl rfl rfl rfl rfl hl2 hl1 (oneCell_node _) ?_
    refine g_pu rfl rfl rfl (pu_assign rfl rfl) ?_
    refine g_nil ?_
    generalize findR hs (isName s) = r at hr2 hl2
    (repeat refine g_seq ?_)
    refine g_any (18, [19, 20]) ?_
    refine a_pu 0 rfl rfl rfl rfl (pu_fieldAddr (by decide) rfl rfl) rfl rfl (by kernel_rfl) ?_
    refine a_pu 1 rfl rfl rfl rfl (pu_loadW 7 (L := nodeC r.1) rfl rfl rfl hl2) rfl rfl (by kernel_rfl) ?_
    refine a_pu 2 rfl rfl rfl rfl (pu_loadW 9 (L := nodeC r.1) rfl rfl rfl hl2) rfl rfl (by kernel_rfl) ?_
    refine a_pu 3 rfl rfl rfl rfl (pu_eqlR (node_refl _ hr2) rfl rfl rfl) rfl rfl (by kernel_rfl) ?_
    refine a_pu 4 rfl rfl rfl rfl (pu_move rfl rfl) rfl rfl (by kernel_rfl) ?_
    first | refine a_pass 5 rfl rfl rfl rfl rfl rfl (by kernel_rfl) ?_ | refine a_pu 5 rfl rfl rfl rfl (pu_move rfl rfl) rfl rfl (by kernel_rfl) ?_
    first | refine a_pass 6 rfl rfl rfl rfl rfl rfl (by kernel_rfl) ?_ | refine a_pu 6 rfl rfl rfl rfl (pu_move rfl rfl) rfl rfl (by kernel_rfl) ?_
    refine a_pu 7 rfl rfl rfl rfl (pu_eql_t rfl rfl rfl rfl) rfl rfl (by kernel_rfl) ?_
    first | refine a_pu 8 rfl rfl rfl rfl (pu_pick_t rfl rfl rfl) rfl rfl (by kernel_rfl) ?_ | refine a_pu 8 rfl rfl rfl rfl (pu_pick_f rfl rfl rfl) rfl rfl (by kernel_rfl) ?_
    refine a_pu 9 rfl rfl rfl rfl (pu_move rfl rfl) rfl rfl (by kernel_rfl) ?_
    refine a_pu 10 rfl rfl rfl rfl (pu_loadW 7 (L := nodeC r.1) rfl rfl rfl hl2) rfl rfl (by kernel_rfl) ?_
    first | refine a_pass 12 rfl rfl rfl rfl rfl rfl (by kernel_rfl) ?_ | refine a_pu 12 rfl rfl rfl rfl (pu_fieldAddr (by decide) rfl rfl) rfl rfl (by kernel_rfl) ?_
    refine a_pu 13 rfl rfl rfl rfl (pu_sliceA rfl rfl) rfl rfl (by kernel_rfl) ?_
    refine a_do 11 74 [74] (does_call rfl rfl rfl rfl rfl (fun w' hm => NPublic_b w' (x := r.1) hr2)) rfl rfl (by kernel_rfl) rfl rfl (by kernel_rfl) (by kernel_rfl) (by kernel_rfl) rfl (fun p hp => by cases hp) ?_; rintro v_ cs_ ⟨x74, _, rfl, rfl⟩
    refine a_do 14 77 [] (does_call rfl rfl rfl rfl rfl (fun w' hm => Equal_b w' x74.c 32 (By.ow 74 (l := r.1.pb) rfl hm hr2.2 (by omega)) (By.nodB 9 rfl hm hr2))) rfl rfl (by kernel_rfl) rfl rfl (by kernel_rfl) (by kernel_rfl) (by kernel_rfl) rfl (fun p hp => by cases hp) ?_; rintro v_ cs_ ⟨_, _, rfl, rfl⟩
    rw [decide_eq_true (rfl : r.1.pb = r.1.pb)]
    first | refine a_pu 15 rfl rfl rfl rfl (pu_pick_t rfl rfl rfl) rfl rfl (by kernel_rfl) ?_ | refine a_pu 15 rfl rfl rfl rfl (pu_pick_f rfl rfl rfl) rfl rfl (by kernel_rfl) ?_
    refine a_pu 16 rfl rfl rfl rfl (pu_move rfl rfl) rfl rfl (by kernel_rfl) ?_
    refine a_pu 17 rfl rfl rfl rfl (pu_loadW 7 (L := nodeC r.1) rfl rfl rfl hl2) rfl rfl (by kernel_rfl) ?_
    first | refine a_mv 19 rfl rfl rfl rfl (fun _ => (pu_fieldAddr (by decide) rfl rfl)) rfl rfl rfl (by kernel_rfl) (by kernel_rfl) (by kernel_rfl) rfl ?_
    refine a_mv 20 rfl rfl rfl rfl (fun _ => pu_sliceA rfl rfl) rfl rfl rfl (by kernel_rfl) (by kernel_rfl) (by kernel_rfl) rfl ?_
    refine a_tail [18, 21, 22, 23] (by kernel_rfl) rfl rfl (by kernel_rfl) ?_
    refine g_call [81] rfl rfl rfl rfl rfl rfl (fun w' hm => NPrivate_b w' (x := r.1) hr2) (fun x81 _ => ?_)
    refine g_call [] rfl rfl rfl rfl rfl rfl (fun w' hm => Equal_b w' x81.c 32 (By.ow 81 (l := r.1.pv) rfl hm hr2.1 (by omega)) (By.nodT 9 rfl hm hr2)) (fun _ _ => ?_)
    rw [decide_eq_true (rfl : r.1.pv = r.1.pv)]
    first | refine g_pu rfl rfl rfl (pu_pick_t rfl rfl rfl) ?_ | refine g_pu rfl rfl rfl (pu_pick_f rfl rfl rfl) ?_
    refine g_pu rfl rfl rfl (pu_assign rfl rfl) ?_
    refine g_nil ?_
    exact g_ret1 rfl rfl (fun w' hm => ⟨(), trivial, rfl, hm.grows [] trivial rfl⟩)
end Go.Sx

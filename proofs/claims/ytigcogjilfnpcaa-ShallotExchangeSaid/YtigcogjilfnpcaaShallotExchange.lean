import Derived.Test.YtigcogjilfnpcaaTX
import Derived.Test.YtigcogjilfnpcaaGFC
set_option linter.unusedVariables false
set_option linter.unusedSimpArgs false
/-
  ShallotExchange: a point multiplied by scalars is the same point in whatever order they come. No condition.
-/
namespace Go.Sx
open Go Go.Proofs

theorem nine_row : [9#8] ++ List.replicate 31 0#8 = nine := by decide +kernel
theorem chP_nine : chP nine [] = (nine, 0) := by
  have h1 : chP nine [] = chR [] (leB 32 (readN nine)) := if_pos ⟨nine_length, rfl⟩
  rw [h1, readN_nine]
  rfl
theorem nine_0 : nine[0]? = some 9#8 := by decide +kernel

theorem ShallotExchange_spec (w : World) {p q r : Option Addr} {n m k : Nat} (c d f : Nat) {u : List (BitVec 8)} {L : List Value} {ks : List (List (BitVec 8))} {ns : List Int} (hu : By w p n u) (ha : ByL w q m L ks) (hr : RdV w r (is ns)) (hk : ns.length = k) (hk2 : k ≤ 9223372036854775807) (hmd : m ≤ d) : Spec Try.prog 8 #[.slice p n c, .slice q m d, .slice r k f] w (σ := Unit) (fun _ => True) (fun _ => .bool true) Nob (fun _ => []) := by
  refine enter Try.func8 rfl rfl (Mem.start w) ?_
  have hul := hu.len
  have hub := hu.big
  have hmb := ha.big
  have h9 : (bs nine).length = 32 := by rw [bs_length, nine_length]
  (repeat refine g_seq ?_)
  refine g_region ?_
  refine g_pu rfl rfl rfl (pu_assign rfl rfl) ?_
  refine g_nil ?_
  (repeat refine g_seq ?_)
  refine g_region ?_
  refine g_lo [18] rfl rfl rfl rfl (lo_buildSlice rfl rfl (by decide) (by decide) rfl rfl) (fun b18 hb18 => ?_)
  refine g_lo [19] rfl rfl rfl rfl (lo_appendZ (l := [9#8]) (n := 31) 18 rfl rfl rfl rfl rfl rfl (by omega) (by omega) (by omega)) (fun x19 _ => ?_)
  rw [nine_row]
  refine g_call [] rfl rfl rfl rfl rfl rfl (fun w' hm => Chain_b w' x19.c 0 (u := nine) (L := []) (ks := []) (By.ow 19 rfl hm nine_length (by omega)) ⟨RdV.nil _ _, rfl, All2.nil, by omega⟩) (fun _ _ => ?_)
  rw [chP_nine]
  refine g_pu rfl rfl rfl (pu_move rfl rfl) ?_
  refine g_pu rfl rfl rfl (pu_extract rfl rfl rfl) ?_
  refine g_pu rfl rfl rfl (pu_extract rfl rfl rfl) ?_
  refine g_lo [7] rfl rfl rfl rfl (lo_alloc rfl) (fun b7 hb7 => ?_)
  refine g_storeL 7 (s := 32) (C := bs nine) rfl rfl rfl rfl rfl rfl h9 rfl (oneCell_bs _) ?_
  refine g_pu rfl rfl rfl (pu_assign rfl rfl) ?_
  refine g_nil ?_
  (repeat refine g_seq ?_)
  refine g_region ?_
  refine g_pu rfl rfl rfl (pu_move rfl rfl) ?_
  refine g_pu rfl rfl rfl (pu_neq_f rfl rfl rfl (fun h => h rfl)) ?_
  refine g_pu rfl rfl rfl (pu_move rfl rfl) ?_
  refine g_pu rfl rfl rfl (pu_atA1 0 rfl rfl rfl rfl (by omega)) ?_
  refine g_pu rfl rfl rfl (pu_load 7 (v := b8 9#8) rfl rfl rfl (by rw [Nat.zero_add, List.getElem?_toArray]; exact bs_get nine_0)) ?_
  first | refine g_pass rfl rfl rfl ?_ | refine g_pu rfl rfl rfl (pu_neq8_t (b := 9#8) rfl rfl rfl (by first | assumption | decide)) ?_ | refine g_pu rfl rfl rfl (pu_neq8_f (b := 9#8) rfl rfl rfl (by first | rfl | assumption | decide)) ?_ | refine g_pu rfl rfl rfl (pu_neq8 (b := 9#8) rfl rfl rfl) ?_
  first | refine g_pu rfl rfl rfl (pu_pick_t rfl rfl rfl) ?_ | refine g_pu rfl rfl rfl (pu_pick_f rfl rfl rfl) ?_
  refine g_nil ?_
  (repeat refine g_seq ?_)
  refine g_cond_f rfl (g_skip ?_)
  (repeat refine g_seq ?_)
  refine g_region ?_
  refine g_pu rfl rfl rfl (pu_move rfl rfl) ?_
  refine g_call [31] rfl rfl rfl rfl rfl rfl (fun w' hm => few_b w' d 3 (ha.m hm) (by omega) hmd) (fun x31 _ => ?_)
  refine g_pu rfl rfl rfl (pu_assign rfl rfl) ?_
  refine g_nil ?_
  have hx := ha.preT (j := Nat.min m 3) (Nat.min_le_left _ _)
  have hN3 : Nat.min m 3 ≤ 3 := Nat.min_le_right _ _
  generalize Nat.min m 3 = K at hx hN3
  generalize L.take K = L1 at hx
  generalize ks.take K = ls at hx
  have hxl := hx.lenL
  have hxn := hx.len
  (repeat refine g_seq ?_)
  refine g_region ?_
  refine g_pu rfl rfl rfl (pu_move rfl rfl) ?_
  first | refine g_pu rfl rfl rfl (pu_len rfl rfl) ?_ | refine g_pu rfl rfl rfl (pu_lenS rfl rfl) ?_
  refine g_pu rfl rfl rfl (pu_move rfl rfl) ?_
  refine g_nil ?_
  (repeat refine g_seq ?_)
  refine g_block (g_loop (σ := Nat) (fun (i : Nat) => [(0, .slice p n c), (2, .slice r k f), (9, x31.sl K), (32, x31.sl K), (33, .int .i64 (K : Int)), (34, .int .i64 (i : Int))]) (fun i => [(31, x31.ck 26 1 L1)]) (fun i => i ≤ K ∧ ∀ x ∈ ls.take i, x.length = 32) (fun i => K - i) 0 ⟨rfl, rfl, rfl, rfl, rfl, rfl, trivial⟩ ⟨rfl, trivial⟩ ⟨by omega, fun _ h => by simp at h⟩ ?_)
  intro i ⟨hi, h32⟩
  by_cases hlt : i < K
  · (repeat refine g_seq ?_)
    refine g_region ?_
    first | refine g_pu rfl rfl rfl (pu_lss_t rfl rfl rfl (by omega)) ?_ | refine g_pu rfl rfl rfl (pu_lss_f rfl rfl rfl (by omega)) ?_ | refine g_pu rfl rfl rfl (pu_lss rfl rfl rfl) ?_
    refine g_nil ?_
    (repeat refine g_seq ?_)
    refine g_cond_t rfl (g_skip ?_)
    have hl : ls[i]? = some ls[i] := List.getElem?_eq_getElem (by omega)
    generalize ls[i] = pk at hl
    obtain ⟨kq, km, kc, hL, hkq⟩ := hx.at hl
    have hpl := hkq.len
    (repeat refine g_seq ?_); refine g_block ?_
    (repeat refine g_seq ?_)
    refine g_region ?_
    refine g_pu rfl rfl rfl (pu_atM1 i (L := L1) (fun w' hm => Ow.rd (t := 31) rfl hm) rfl rfl rfl rfl hlt (by omega)) ?_
    refine g_pu rfl rfl rfl (pu_rdM (L := L1) (fun w' hm => Ow.rd (t := 31) rfl hm) rfl rfl hL) ?_
    refine g_pu rfl rfl rfl (pu_assign rfl rfl) ?_
    refine g_nil ?_
    by_cases hpk32 : pk.length = 32
    · (repeat refine g_seq ?_)
      refine g_region ?_
      refine g_pu rfl rfl rfl (pu_move rfl rfl) ?_
      first | refine g_pu rfl rfl rfl (pu_len rfl rfl) ?_ | refine g_pu rfl rfl rfl (pu_lenS rfl rfl) ?_
      refine g_pu rfl rfl rfl (pu_neq_f rfl rfl rfl (by omega)) ?_
      refine g_nil ?_
      (repeat refine g_seq ?_)
      refine g_cond_f rfl (g_skip ?_)
      refine g_blk ?_
      (repeat refine g_seq ?_)
      refine g_region ?_
      refine g_pu rfl rfl rfl (pu_addI rfl rfl rfl (by omega)) ?_
      refine g_pu rfl rfl rfl (pu_move rfl rfl) ?_
      refine g_nil ?_
      exact g_round (i + 1) ⟨by omega, fun x hx' => by
        rw [List.take_add_one, hl] at hx'
        rcases List.mem_append.1 hx' with h1 | h1
        · exact h32 x h1
        · rw [List.mem_singleton.1 h1]; exact hpk32⟩ (by omega) ⟨rfl, rfl, rfl, rfl, rfl, rfl, trivial⟩ ⟨rfl, trivial⟩
    · (repeat refine g_seq ?_)
      refine g_region ?_
      refine g_pu rfl rfl rfl (pu_move rfl rfl) ?_
      first | refine g_pu rfl rfl rfl (pu_len rfl rfl) ?_ | refine g_pu rfl rfl rfl (pu_lenS rfl rfl) ?_
      refine g_pu rfl rfl rfl (pu_neq_t rfl rfl rfl (by omega)) ?_
      refine g_nil ?_
      (repeat refine g_seq ?_)
      refine g_cond_t rfl ?_
      (repeat refine g_seq ?_)
      refine g_region ?_
      refine g_pu rfl rfl rfl (pu_assign rfl rfl) ?_
      refine g_nil ?_
      exact g_ret1 rfl rfl (fun w' hm => ⟨(), trivial, rfl, hm.grows [] trivial rfl⟩)
  · (repeat refine g_seq ?_)
    refine g_region ?_
    first | refine g_pu rfl rfl rfl (pu_lss_t rfl rfl rfl (by omega)) ?_ | refine g_pu rfl rfl rfl (pu_lss_f rfl rfl rfl (by omega)) ?_ | refine g_pu rfl rfl rfl (pu_lss rfl rfl rfl) ?_
    refine g_nil ?_
    (repeat refine g_seq ?_)
    refine g_cond_f rfl (g_exit rfl ?_)
    have e1 : i = K := by omega
    subst e1
    rw [List.take_of_length_le (by omega)] at h32
    have hcl := chP_length u ls
    have hcb : (bs (chP u ls).1).length = 32 := by rw [bs_length, hcl]
    have hcases := fun hu32 => chP_cases (u := u) hu32 h32
    have hbad : u.length ≠ 32 → chP u ls = (zero32, 2) := fun h => if_neg fun h2 => h h2.1
    have hlz : L1.length = ls.length := by omega
    (repeat refine g_seq ?_)
    refine g_region ?_
    refine g_pu rfl rfl rfl (pu_move rfl rfl) ?_
    refine g_pu rfl rfl rfl (pu_move rfl rfl) ?_
    refine g_call [] rfl rfl rfl rfl rfl rfl (fun w' hm => Chain_b w' c x31.c (u := u) (L := L1) (ks := ls) (hu.m hm) ⟨Ow.rd (t := 31) rfl hm, hxn, (hx.m hm).els, by omega⟩) (fun _ _ => ?_)
    refine g_pu rfl rfl rfl (pu_move rfl rfl) ?_
    refine g_pu rfl rfl rfl (pu_extract rfl rfl rfl) ?_
    refine g_pu rfl rfl rfl (pu_extract rfl rfl rfl) ?_
    refine g_lo [12] rfl rfl rfl rfl (lo_alloc rfl) (fun b12 hb12 => ?_)
    refine g_storeL 12 (s := 32) (C := bs (chP u ls).1) rfl rfl rfl rfl rfl rfl hcb rfl (oneCell_bs _) ?_
    refine g_pu rfl rfl rfl (pu_assign rfl rfl) ?_
    refine g_nil ?_
    (repeat refine g_seq ?_)
    refine g_region ?_
    refine g_pu rfl rfl rfl (pu_move rfl rfl) ?_
    refine g_pu rfl rfl rfl (pu_move rfl rfl) ?_
    refine g_pu rfl rfl rfl (pu_move rfl rfl) ?_
    refine g_call [52] rfl rfl rfl rfl rfl rfl (fun w' hm => swapped_b w' x31.c f (L := L1) (ls := ls) ⟨Ow.rd (t := 31) rfl hm, hxn, (hx.m hm).els, by omega⟩ (hr.mem0 hm) hk hk2 (by omega)) (fun x52 h52 => ?_)
    refine g_call [] rfl rfl rfl rfl rfl rfl (fun w' hm => Chain_b w' c x52.1.c (u := u) (q := x52.1.p) (m := i) (L := x52.2.map (fun y : Value × List (BitVec 8) => y.1)) (ks := x52.2.map (fun y : Value × List (BitVec 8) => y.2)) (hu.m hm) ⟨Ow.rd (t := 52) rfl hm, by rw [List.length_map, List.Perm.length_eq h52, List.length_zip, hxn, hxl, Nat.min_self], els_perm (hx.m hm).els h52, by omega⟩) (fun _ _ => ?_)
    rw [chP_perm (zip_snd hlz h52)]
    refine g_pu rfl rfl rfl (pu_move rfl rfl) ?_
    refine g_pu rfl rfl rfl (pu_extract rfl rfl rfl) ?_
    refine g_pu rfl rfl rfl (pu_extract rfl rfl rfl) ?_
    refine g_lo [13] rfl rfl rfl rfl (lo_alloc rfl) (fun b13 hb13 => ?_)
    refine g_storeL 13 (s := 32) (C := bs (chP u ls).1) rfl rfl rfl rfl rfl rfl hcb rfl (oneCell_bs _) ?_
    refine g_pu rfl rfl rfl (pu_assign rfl rfl) ?_
    refine g_nil ?_
    (repeat refine g_seq ?_)
    refine g_region ?_
    refine g_pu rfl rfl rfl (pu_move rfl rfl) ?_
    refine g_pu rfl rfl rfl (pu_move rfl rfl) ?_
    refine g_pu rfl rfl rfl (pu_neq_f rfl rfl rfl (fun h => h rfl)) ?_
    refine g_pu rfl rfl rfl (pu_move rfl rfl) ?_
    refine g_pu rfl rfl rfl (pu_loadW 12 (L := bs (chP u ls).1) rfl rfl rfl hcb) ?_
    refine g_pu rfl rfl rfl (pu_loadW 13 (L := bs (chP u ls).1) rfl rfl rfl hcb) ?_
    refine g_pu rfl rfl rfl (pu_neqA_f (a := bs (chP u ls).1) (b := bs (chP u ls).1) rfl rfl rfl rfl (all_bs _) hcb) ?_
    first | refine g_pu rfl rfl rfl (pu_pick_t rfl rfl rfl) ?_ | refine g_pu rfl rfl rfl (pu_pick_f rfl rfl rfl) ?_
    refine g_nil ?_
    (repeat refine g_seq ?_)
    refine g_cond_f rfl (g_skip ?_)
    have hz : (bs zero32).length = 32 := by rw [bs_length]; exact List.length_replicate
    by_cases hu32 : u.length = 32
    · rcases hcases hu32 with ⟨v, hv, hc, hlow⟩ | hc
      · rw [hc]
        have hvl : (leB 32 v).length = 32 := leB_length 32 v
        have hvb : (bs (leB 32 v)).length = 32 := by rw [bs_length, hvl]
        have hrN : readN (leB 32 v) = v := readN_leB hv
        have hrE : readE (leB 32 v) = 0 := if_pos hvl
        have hlz0 : xmE zero32 u ≠ 2 := by
          have hz32 : zero32.length = 32 := List.length_replicate
          by_cases h0 : xmN zero32 u = 0
          · rw [xmE_z hz32 hu32 h0]; omega
          · rw [xmE_nz hz32 hu32 h0]; omega
        (repeat refine g_seq ?_)
        refine g_region ?_
        refine g_pu rfl rfl rfl (pu_move rfl rfl) ?_
        refine g_pu rfl rfl rfl (pu_neq_f rfl rfl rfl (fun h => h rfl)) ?_
        refine g_nil ?_
        (repeat refine g_seq ?_)
        refine g_cond_f rfl (g_skip ?_)
        (repeat refine g_seq ?_)
        refine g_region ?_
        refine g_pu rfl rfl rfl (pu_sliceA rfl rfl) ?_
        refine g_call [] rfl rfl rfl rfl rfl rfl (fun w' hm => Read_b w' 32 (l := leB 32 v) (By.full 12 rfl hm hvl (by omega))) (fun _ _ => ?_)
        rw [hrN, hrE]
        refine g_pu rfl rfl rfl (pu_move rfl rfl) ?_
        refine g_pu rfl rfl rfl (pu_extract rfl rfl rfl) ?_
        refine g_pu rfl rfl rfl (pu_extract rfl rfl rfl) ?_
        refine g_lo [15] rfl rfl rfl rfl (lo_alloc rfl) (fun b15 hb15 => ?_)
        refine g_storeL 15 (s := 4) (C := el v) rfl rfl rfl rfl rfl rfl rfl rfl (oneCell_el _) ?_
        refine g_pu rfl rfl rfl (pu_assign rfl rfl) ?_
        refine g_nil ?_
        (repeat refine g_seq ?_)
        refine g_any (14, []) ?_
        refine a_pu 0 rfl rfl rfl rfl (pu_move rfl rfl) rfl rfl (by kernel_rfl) ?_
        refine a_pu 1 rfl rfl rfl rfl (pu_neq_f rfl rfl rfl (fun h => h rfl)) rfl rfl (by kernel_rfl) ?_
        refine a_pu 2 rfl rfl rfl rfl (pu_move rfl rfl) rfl rfl (by kernel_rfl) ?_
        refine a_pu 3 rfl rfl rfl rfl (pu_loadW 15 (L := el v) rfl rfl rfl rfl) rfl rfl (by kernel_rfl) ?_
        refine a_pu 5 rfl rfl rfl rfl (pu_loadW 12 (L := bs (leB 32 v)) rfl rfl rfl hvb) rfl rfl (by kernel_rfl) ?_
        refine a_do 4 86 [] (does_call rfl rfl rfl rfl rfl (fun w' hm => Bytes_n w' v hv)) rfl rfl (by kernel_rfl) rfl rfl (by kernel_rfl) (by kernel_rfl) (by kernel_rfl) rfl (fun p hp => by cases hp) ?_; rintro v_ cs_ ⟨_, _, rfl, rfl⟩
        refine a_pu 6 rfl rfl rfl rfl (pu_neqA_f (a := bs (leB 32 v)) (b := bs (leB 32 v)) rfl rfl rfl rfl (all_bs _) hvb) rfl rfl (by kernel_rfl) ?_
        first | refine a_pu 7 rfl rfl rfl rfl (pu_pick_t rfl rfl rfl) rfl rfl (by kernel_rfl) ?_ | refine a_pu 7 rfl rfl rfl rfl (pu_pick_f rfl rfl rfl) rfl rfl (by kernel_rfl) ?_
        refine a_pu 8 rfl rfl rfl rfl (pu_move rfl rfl) rfl rfl (by kernel_rfl) ?_
        refine a_pu 9 rfl rfl rfl rfl (pu_loadW 15 (L := el v) rfl rfl rfl rfl) rfl rfl (by kernel_rfl) ?_
        refine a_pu 11 rfl rfl rfl rfl (pu_loadW 15 (L := el v) rfl rfl rfl rfl) rfl rfl (by kernel_rfl) ?_
        refine a_do 10 92 [] (does_call rfl rfl rfl rfl rfl (fun w' hm => Norm_b w' v (by omega))) rfl rfl (by kernel_rfl) rfl rfl (by kernel_rfl) (by kernel_rfl) (by kernel_rfl) rfl (fun p hp => by cases hp) ?_; rintro v_ cs_ ⟨_, _, rfl, rfl⟩
        rw [Nat.mod_eq_of_lt hv]
        refine a_pu 12 rfl rfl rfl rfl (pu_neqA_f (a := el v) (b := el v) rfl rfl rfl rfl (all_el _) (el_length _)) rfl rfl (by kernel_rfl) ?_
        first | refine a_pu 13 rfl rfl rfl rfl (pu_pick_t rfl rfl rfl) rfl rfl (by kernel_rfl) ?_ | refine a_pu 13 rfl rfl rfl rfl (pu_pick_f rfl rfl rfl) rfl rfl (by kernel_rfl) ?_
        refine a_done (by kernel_rfl) ?_
        (repeat refine g_seq ?_)
        refine g_cond_f rfl (g_skip ?_)
        (repeat refine g_seq ?_)
        refine g_region ?_
        refine g_pu rfl rfl rfl (pu_move rfl rfl) ?_
        refine g_call [] rfl rfl rfl rfl rfl rfl (fun w' hm => Low_b w' c (hu.m hm)) (fun _ _ => ?_)
        rw [if_neg hlz0]
        refine g_pu rfl rfl rfl (pu_move rfl rfl) ?_
        refine g_pu rfl rfl rfl (pu_extract rfl rfl rfl) ?_
        refine g_pu rfl rfl rfl (pu_extract rfl rfl rfl) ?_
        refine g_pu rfl rfl rfl (pu_assign rfl rfl) ?_
        refine g_pu rfl rfl rfl (pu_assign rfl rfl) ?_
        refine g_nil ?_
        by_cases hK0 : i = 0
        · (repeat refine g_seq ?_)
          refine g_region ?_
          refine g_pu rfl rfl rfl (pu_move rfl rfl) ?_
          refine g_pu rfl rfl rfl (pu_eql_t rfl rfl rfl rfl) ?_
          refine g_pu rfl rfl rfl (pu_move rfl rfl) ?_
          first | refine g_pass rfl rfl rfl ?_ | refine g_pu rfl rfl rfl (pu_move rfl rfl) ?_
          first | refine g_pass rfl rfl rfl ?_ | refine g_pu rfl rfl rfl (pu_len rfl rfl) ?_ | refine g_pu rfl rfl rfl (pu_lenS rfl rfl) ?_
          refine g_pu rfl rfl rfl (pu_eql_t rfl rfl rfl (by omega)) ?_
          first | refine g_pass rfl rfl rfl ?_ | refine g_pu rfl rfl rfl (pu_move rfl rfl) ?_
          first | refine g_pass rfl rfl rfl ?_ | refine g_pu rfl rfl rfl (pu_move rfl rfl) ?_
          first | refine g_pass rfl rfl rfl ?_ | refine g_pu rfl rfl rfl (pu_not rfl rfl) ?_
          first | refine g_pass rfl rfl rfl ?_ | refine g_pu rfl rfl rfl (pu_pick_t rfl rfl rfl) ?_ | refine g_pu rfl rfl rfl (pu_pick_f rfl rfl rfl) ?_
          first | refine g_pu rfl rfl rfl (pu_pick_t rfl rfl rfl) ?_ | refine g_pu rfl rfl rfl (pu_pick_f rfl rfl rfl) ?_
          refine g_pu rfl rfl rfl (pu_assign rfl rfl) ?_
          refine g_nil ?_
          exact g_ret1 rfl rfl (fun w' hm => ⟨(), trivial, rfl, hm.grows [] trivial rfl⟩)
        · have hl0 : xmE zero32 u = 0 := hlow fun e => hK0 (by rw [← hxl, e]; rfl)
          rw [hl0, decide_eq_false (show ¬ (0 : Int) = 5 by decide)]
          (repeat refine g_seq ?_)
          refine g_region ?_
          refine g_pu rfl rfl rfl (pu_move rfl rfl) ?_
          refine g_pu rfl rfl rfl (pu_eql_t rfl rfl rfl rfl) ?_
          refine g_pu rfl rfl rfl (pu_move rfl rfl) ?_
          first | refine g_pass rfl rfl rfl ?_ | refine g_pu rfl rfl rfl (pu_move rfl rfl) ?_
          first | refine g_pass rfl rfl rfl ?_ | refine g_pu rfl rfl rfl (pu_len rfl rfl) ?_ | refine g_pu rfl rfl rfl (pu_lenS rfl rfl) ?_
          refine g_pu rfl rfl rfl (pu_eql_f rfl rfl rfl (by omega)) ?_
          first | refine g_pass rfl rfl rfl ?_ | refine g_pu rfl rfl rfl (pu_move rfl rfl) ?_
          first | refine g_pass rfl rfl rfl ?_ | refine g_pu rfl rfl rfl (pu_move rfl rfl) ?_
          first | refine g_pass rfl rfl rfl ?_ | refine g_pu rfl rfl rfl (pu_not rfl rfl) ?_
          first | refine g_pass rfl rfl rfl ?_ | refine g_pu rfl rfl rfl (pu_pick_t rfl rfl rfl) ?_ | refine g_pu rfl rfl rfl (pu_pick_f rfl rfl rfl) ?_
          first | refine g_pu rfl rfl rfl (pu_pick_t rfl rfl rfl) ?_ | refine g_pu rfl rfl rfl (pu_pick_f rfl rfl rfl) ?_
          refine g_pu rfl rfl rfl (pu_assign rfl rfl) ?_
          refine g_nil ?_
          exact g_ret1 rfl rfl (fun w' hm => ⟨(), trivial, rfl, hm.grows [] trivial rfl⟩)
      · rw [hc]
        (repeat refine g_seq ?_)
        refine g_region ?_
        refine g_pu rfl rfl rfl (pu_move rfl rfl) ?_
        refine g_pu rfl rfl rfl (pu_neq_t rfl rfl rfl (by decide)) ?_
        refine g_nil ?_
        (repeat refine g_seq ?_)
        refine g_cond_t rfl ?_
        (repeat refine g_seq ?_)
        refine g_region ?_
        refine g_pu rfl rfl rfl (pu_loadW 12 (L := bs zero32) rfl rfl rfl hz) ?_
        refine g_pu rfl rfl rfl (pu_buildA' (cs := bs zero32) rfl rfl rfl) ?_
        refine g_pu rfl rfl rfl (pu_eqlA_t (a := bs zero32) (b := bs zero32) rfl rfl rfl rfl (all_bs _) hz) ?_
        refine g_pu rfl rfl rfl (pu_move rfl rfl) ?_
        first | refine g_pass rfl rfl rfl ?_ | refine g_pu rfl rfl rfl (pu_move rfl rfl) ?_
        first | refine g_pass rfl rfl rfl ?_ | refine g_pu rfl rfl rfl (pu_len rfl rfl) ?_ | refine g_pu rfl rfl rfl (pu_lenS rfl rfl) ?_
        refine g_pu rfl rfl rfl (pu_neq_f rfl rfl rfl (by omega)) ?_
        first | refine g_pass rfl rfl rfl ?_ | refine g_pu rfl rfl rfl (pu_move rfl rfl) ?_
        refine g_pu rfl rfl rfl (pu_eql_f rfl rfl rfl (by decide)) ?_
        refine g_pu rfl rfl rfl (pu_eqlB_t rfl rfl rfl rfl) ?_
        first | refine g_pu rfl rfl rfl (pu_pick_t rfl rfl rfl) ?_ | refine g_pu rfl rfl rfl (pu_pick_f rfl rfl rfl) ?_
        refine g_pu rfl rfl rfl (pu_assign rfl rfl) ?_
        refine g_nil ?_
        exact g_ret1 rfl rfl (fun w' hm => ⟨(), trivial, rfl, hm.grows [] trivial rfl⟩)
    · rw [hbad hu32]
      (repeat refine g_seq ?_)
      refine g_region ?_
      refine g_pu rfl rfl rfl (pu_move rfl rfl) ?_
      refine g_pu rfl rfl rfl (pu_neq_t rfl rfl rfl (by decide)) ?_
      refine g_nil ?_
      (repeat refine g_seq ?_)
      refine g_cond_t rfl ?_
      (repeat refine g_seq ?_)
      refine g_region ?_
      refine g_pu rfl rfl rfl (pu_loadW 12 (L := bs zero32) rfl rfl rfl hz) ?_
      refine g_pu rfl rfl rfl (pu_buildA' (cs := bs zero32) rfl rfl rfl) ?_
      refine g_pu rfl rfl rfl (pu_eqlA_t (a := bs zero32) (b := bs zero32) rfl rfl rfl rfl (all_bs _) hz) ?_
      refine g_pu rfl rfl rfl (pu_move rfl rfl) ?_
      first | refine g_pass rfl rfl rfl ?_ | refine g_pu rfl rfl rfl (pu_move rfl rfl) ?_
      first | refine g_pass rfl rfl rfl ?_ | refine g_pu rfl rfl rfl (pu_len rfl rfl) ?_ | refine g_pu rfl rfl rfl (pu_lenS rfl rfl) ?_
      refine g_pu rfl rfl rfl (pu_neq_t rfl rfl rfl (by omega)) ?_
      first | refine g_pass rfl rfl rfl ?_ | refine g_pu rfl rfl rfl (pu_move rfl rfl) ?_
      refine g_pu rfl rfl rfl (pu_eql_t rfl rfl rfl rfl) ?_
      refine g_pu rfl rfl rfl (pu_eqlB_t rfl rfl rfl rfl) ?_
      first | refine g_pu rfl rfl rfl (pu_pick_t rfl rfl rfl) ?_ | refine g_pu rfl rfl rfl (pu_pick_f rfl rfl rfl) ?_
      refine g_pu rfl rfl rfl (pu_assign rfl rfl) ?_
      refine g_nil ?_
      exact g_ret1 rfl rfl (fun w' hm => ⟨(), trivial, rfl, hm.grows [] trivial rfl⟩)
end Go.Sx

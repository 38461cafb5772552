/-
  Compressing a block, of the reference. The state has 8 words, the block 64 bytes.
-/
import Derived.Test.YtfnbedjnbofliaaS3
set_option linter.unusedVariables false
set_option linter.unusedSimpArgs false
namespace Go.Sx
open Go Go.Proofs

theorem schedL_pre (b : List (BitVec 8)) {j n : Nat} (h : j < n) : ∀ m, (schedL b (n + m)).getD j 0#32 = (schedL b n).getD j 0#32
  | 0 => rfl
  | m + 1 => by
    rw [← schedL_pre b h m]
    show (schedL b ((n + m) + 1)).getD j 0#32 = _
    rw [schedL]
    simp only [List.getD]
    rw [List.getElem?_append_left (by rw [schedL_length]; omega)]
def accH (l : List (BitVec 8)) (t : Nat) : Nat → BitVec 32
  | 0 => 0#32
  | i + 1 => accH l t i * 256#32 + byt l (4 * t + i)
theorem mul256_add (x : BitVec 32) (y : BitVec 8) : x * 256#32 + y.setWidth 32 = x <<< 8 ||| y.setWidth 32 := by
  have h1 : x * 256#32 = x <<< 8 := by
    apply BitVec.eq_of_toNat_eq
    rw [BitVec.toNat_mul, BitVec.toNat_shiftLeft, Nat.shiftLeft_eq]
    rfl
  rw [h1]
  apply BitVec.add_eq_or_of_and_eq_zero
  apply BitVec.eq_of_getLsbD_eq
  intro i hi
  simp only [BitVec.getLsbD_and, BitVec.getLsbD_shiftLeft, BitVec.getLsbD_setWidth, BitVec.getLsbD_zero]
  by_cases h : i < 8
  · simp [h]
  · simp [BitVec.getLsbD_of_ge y i (by omega)]
theorem accH_end (l : List (BitVec 8)) (t : Nat) : accH l t 4 = be4 l t := by
  have hz : (0#32 : BitVec 32) <<< 8 = 0#32 := BitVec.zero_shiftLeft 8
  show (((0#32 * 256#32 + byt l (4 * t + 0)) * 256#32 + byt l (4 * t + 1)) * 256#32 + byt l (4 * t + 2)) * 256#32 + byt l (4 * t + 3) = _
  unfold be4 byt
  rw [mul256_add, mul256_add, mul256_add, mul256_add, hz, BitVec.zero_or, word4_horner, Nat.add_zero]
  generalize BitVec.setWidth 32 (l.getD (4 * t) 0#8) <<< 24 = a
  generalize BitVec.setWidth 32 (l.getD (4 * t + 1) 0#8) <<< 16 = b
  generalize BitVec.setWidth 32 (l.getD (4 * t + 2) 0#8) <<< 8 = c
  generalize BitVec.setWidth 32 (l.getD (4 * t + 3) 0#8) = d
  ac_rfl
theorem schA_set0 (b : List (BitVec 8)) {n : Nat} (h : n < 64) : (schA b n).set n 0#32 = schA b n := by
  rw [schA, List.set_append_right _ _ (by rw [schedL_length]; exact Nat.le_refl _), schedL_length, Nat.sub_self]
  congr 1
  rw [show 64 - n = (64 - (n + 1)) + 1 by omega, List.replicate_succ]
  rfl

/-- All places above i have their lower neighbour's word. -/
def shV (l : List (BitVec 32)) (i : Nat) : List (BitVec 32) := l.take (i + 1) ++ (l.drop i).take (7 - i)
theorem shV_set {a b c d e f g h : BitVec 32} {i : Nat} (hi : i < 7) : ∃ x, (shV [a, b, c, d, e, f, g, h] (i + 1))[i]? = some x ∧ (shV [a, b, c, d, e, f, g, h] (i + 1)).set (i + 1) x = shV [a, b, c, d, e, f, g, h] i ∧ (shV [a, b, c, d, e, f, g, h] (i + 1)).length = 8 := by
  match i, hi with
  | 0, _ => exact ⟨_, rfl, rfl, rfl⟩
  | 1, _ => exact ⟨_, rfl, rfl, rfl⟩
  | 2, _ => exact ⟨_, rfl, rfl, rfl⟩
  | 3, _ => exact ⟨_, rfl, rfl, rfl⟩
  | 4, _ => exact ⟨_, rfl, rfl, rfl⟩
  | 5, _ => exact ⟨_, rfl, rfl, rfl⟩
  | 6, _ => exact ⟨_, rfl, rfl, rfl⟩

theorem RCompress_b (w : World) {p : Option Addr} (c : Nat) {s : List (BitVec 32)} {l : List (BitVec 8)} (ha : By w p 64 l) (hs : s.length = 8) : Spec Try.prog 52 #[.agg (ws s).toArray, .slice p 64 c] w (σ := Unit) (fun _ => True) (fun _ => .agg (ws (cmp s l)).toArray) Nob (fun _ => []) := by
  refine enter Try.func52 rfl rfl (Mem.start w) ?_
  have hl := ha.len
  obtain ⟨pb, po, hp, _⟩ := ha.rd.place (by rw [bs_length]; omega)
  subst hp
  have hcl := cmp_length l hs
  have hcg := fun i (h : i < 8) => cmp_get (s := s) (l := l) (i := i) hs h
  have hof := V8.of_l hs
  (repeat refine g_seq ?_)
  refine g_region ?_
  refine g_lo [2] rfl rfl rfl rfl (lo_box rfl rfl) (fun b2 hb2 => ?_)
  refine g_lo [4] rfl rfl rfl rfl (lo_alloc rfl) (fun b4 hb4 => ?_)
  refine g_nil ?_
  (repeat refine g_seq ?_)
  refine g_region ?_
  refine g_lo [5] rfl rfl rfl rfl (lo_alloc rfl) (fun b5 hb5 => ?_)
  refine g_nil ?_
  (repeat refine g_seq ?_)
  refine g_region ?_
  refine g_call [] rfl rfl rfl rfl rfl rfl (fun w' hm => Table_b w') (fun _ _ => ?_)
  refine g_lo [6] rfl rfl rfl rfl (lo_alloc rfl) (fun b6 hb6 => ?_)
  refine g_storeL 6 (C := ws kT) rfl rfl rfl rfl rfl rfl (by rw [ws_length, kT_length]) (by simp) (oneCell_ws _) ?_
  refine g_nil ?_
  (repeat refine g_seq ?_)
  refine g_region ?_
  refine g_pu rfl rfl rfl (pu_loadW 2 (L := ws s) rfl rfl rfl (by rw [ws_length, hs])) ?_
  refine g_lo [7] rfl rfl rfl rfl (lo_alloc rfl) (fun b7 hb7 => ?_)
  refine g_storeL 7 (C := ws s) rfl rfl rfl rfl rfl rfl (by rw [ws_length, hs]) (by simp) (oneCell_ws _) ?_
  refine g_nil ?_
  (repeat refine g_seq ?_)
  refine g_region ?_
  refine g_pu rfl rfl rfl (pu_assign rfl rfl) ?_
  refine g_nil ?_
  unfold endV at hcg
  generalize cmp s l = full at hcl hcg
  (repeat refine g_seq ?_)
  refine g_block (g_loop2 (fun (t : Nat) (v : V8) => [(1, .slice (some ⟨pb, po, none⟩) 64 c), (2, .pointer (some ⟨b2, 0, none⟩)), (4, .pointer (some ⟨b4, 0, none⟩)), (5, .pointer (some ⟨b5, 0, none⟩)), (6, .pointer (some ⟨b6, 0, none⟩)), (7, .pointer (some ⟨b7, 0, none⟩)), (8, .int .i64 (t : Int))]) (fun t v => [(2, .pt b2 (.cells (ws s).toArray 44 (0, 0))), (4, .pt b4 (.cells (ws (List.replicate 8 0#32)).toArray 44 (0, 0))), (5, .pt b5 (.cells (ws (schA l t)).toArray 90 (0, 0))), (6, .pt b6 (.cells (ws kT).toArray 90 (0, 0))), (7, .pt b7 (.cells (ws v.l).toArray 44 (0, 0)))]) (fun t v => t ≤ 64 ∧ v = rndN (schedL l 64) (V8.of s) t) (fun t _ => 64 - t) 0 (V8.of s) ⟨rfl, rfl, rfl, rfl, rfl, rfl, rfl, trivial⟩ ⟨rfl, rfl, rfl, rfl, by rw [hof]; rfl, trivial⟩ ⟨by omega, rfl⟩ ?_)
  intro t v ⟨ht, hv⟩
  by_cases hlt : t < 64
  · (repeat refine g_seq ?_)
    refine g_region ?_
    refine g_pu rfl rfl rfl (pu_move rfl rfl) ?_
    first | refine g_pu rfl rfl rfl (pu_lss_t rfl rfl rfl (by omega)) ?_ | refine g_pu rfl rfl rfl (pu_lss_f rfl rfl rfl (by omega)) ?_ | refine g_pu rfl rfl rfl (pu_lss rfl rfl rfl) ?_
    refine g_nil ?_
    (repeat refine g_seq ?_)
    refine g_cond_t rfl (g_skip ?_)
    have hk : kT[t]? = some (kT.getD t 0#32) := getD_some (by rw [kT_length]; omega)
    have hw := schA_get l (n := t + 1) (j := t) (by omega)
    have hpre := schedL_pre l (j := t) (n := t + 1) (by omega) (64 - (t + 1))
    rw [show t + 1 + (64 - (t + 1)) = 64 by omega] at hpre
    have hst : rnd (kT.getD t 0#32) ((schedL l 64).getD t 0#32) v = rndN (schedL l 64) (V8.of s) (t + 1) := by rw [hv]; rfl
    rw [hpre] at hst
    generalize kT.getD t 0#32 = kt at hk hst
    generalize (schedL l (t + 1)).getD t 0#32 = wd at hw hst
    clear hpre hv
    obtain ⟨a, b, cc, d, e, f, g, h⟩ := v
    (repeat refine g_seq ?_); refine g_block ?_
    (repeat refine g_seq ?_)
    refine g_region ?_
    refine g_pu rfl rfl rfl (pu_move rfl rfl) ?_
    refine g_pu rfl rfl rfl (pu_lss rfl rfl rfl) ?_
    refine g_nil ?_
    refine g_join (σ := Unit) (fun _ => [(1, .slice (some ⟨pb, po, none⟩) 64 c), (2, .pointer (some ⟨b2, 0, none⟩)), (4, .pointer (some ⟨b4, 0, none⟩)), (5, .pointer (some ⟨b5, 0, none⟩)), (6, .pointer (some ⟨b6, 0, none⟩)), (7, .pointer (some ⟨b7, 0, none⟩)), (8, .int .i64 (t : Int))]) (fun _ => [(2, .pt b2 (.cells (ws s).toArray 44 (0, 0))), (4, .pt b4 (.cells (ws (List.replicate 8 0#32)).toArray 44 (0, 0))), (5, .pt b5 (.cells (ws (schA l (t + 1))).toArray 90 (0, 0))), (6, .pt b6 (.cells (ws kT).toArray 90 (0, 0))), (7, .pt b7 (.cells (ws (V8.l ⟨a, b, cc, d, e, f, g, h⟩)).toArray 44 (0, 0)))]) (fun _ => True) ?_ (fun _ _ => ?_)
    · refine g_if rfl (fun h16 => ?_) (fun h16 => ?_)
      · have h16 : t < 16 := by omega
        have hwt : wt l (schedL l t) t = be4 l t := by simp [wt, h16]
        (repeat refine g_seq ?_)
        refine g_region ?_
        refine g_pu rfl rfl rfl (pu_assign rfl rfl) ?_
        refine g_nil ?_
        (repeat refine g_seq ?_)
        refine g_block (g_loop (σ := Nat) (fun i => [(1, .slice (some ⟨pb, po, none⟩) 64 c), (2, .pointer (some ⟨b2, 0, none⟩)), (4, .pointer (some ⟨b4, 0, none⟩)), (5, .pointer (some ⟨b5, 0, none⟩)), (6, .pointer (some ⟨b6, 0, none⟩)), (7, .pointer (some ⟨b7, 0, none⟩)), (8, .int .i64 (t : Int)), (9, .int .i64 (i : Int))]) (fun i => [(2, .pt b2 (.cells (ws s).toArray 44 (0, 0))), (4, .pt b4 (.cells (ws (List.replicate 8 0#32)).toArray 44 (0, 0))), (5, .pt b5 (.cells (ws ((schA l t).set t (accH l t i))).toArray 90 (0, 0))), (6, .pt b6 (.cells (ws kT).toArray 90 (0, 0))), (7, .pt b7 (.cells (ws (V8.l ⟨a, b, cc, d, e, f, g, h⟩)).toArray 44 (0, 0)))]) (fun i => i ≤ 4) (fun i => 4 - i) 0 ⟨rfl, rfl, rfl, rfl, rfl, rfl, rfl, rfl, trivial⟩ ⟨rfl, rfl, by rw [show accH l t 0 = 0#32 from rfl, schA_set0 l (by omega)]; rfl, rfl, rfl, trivial⟩ (by omega) ?_)
        intro i hi
        by_cases hi4 : i < 4
        · have hg : ((schA l t).set t (accH l t i))[t]? = some (accH l t i) := by
            rw [List.getElem?_set_self (by rw [schA_length _ (by omega)]; omega)]
          (repeat refine g_seq ?_)
          refine g_region ?_
          refine g_pu rfl rfl rfl (pu_move rfl rfl) ?_
          first | refine g_pu rfl rfl rfl (pu_lss_t rfl rfl rfl (by omega)) ?_ | refine g_pu rfl rfl rfl (pu_lss_f rfl rfl rfl (by omega)) ?_ | refine g_pu rfl rfl rfl (pu_lss rfl rfl rfl) ?_
          refine g_nil ?_
          (repeat refine g_seq ?_)
          refine g_cond_t rfl (g_skip ?_)
          (repeat refine g_seq ?_); refine g_block ?_
          (repeat refine g_seq ?_)
          refine g_any (15, []) ?_
          refine a_pu 0 rfl rfl rfl rfl (pu_move rfl rfl) rfl rfl (by kernel_rfl) ?_
          refine a_pu 1 rfl rfl rfl rfl (pu_move rfl rfl) rfl rfl (by kernel_rfl) ?_
          refine a_pu 2 rfl rfl rfl rfl (pu_atA1 t rfl rfl rfl rfl (by omega)) rfl rfl (by kernel_rfl) ?_
          refine a_pu 3 rfl rfl rfl rfl (pu_load 5 rfl rfl rfl (ws_load hg)) rfl rfl (by kernel_rfl) ?_
          refine a_pu 4 rfl rfl rfl rfl (pu_mul32 (b := 256#32) rfl rfl rfl) rfl rfl (by kernel_rfl) ?_
          refine a_pu 5 rfl rfl rfl rfl (pu_move rfl rfl) rfl rfl (by kernel_rfl) ?_
          refine a_pu 6 rfl rfl rfl rfl (pu_move rfl rfl) rfl rfl (by kernel_rfl) ?_
          refine a_pu 7 rfl rfl rfl rfl (pu_mulI rfl rfl rfl (by omega)) rfl rfl (by kernel_rfl) ?_
          refine a_pu 8 rfl rfl rfl rfl (pu_move rfl rfl) rfl rfl (by kernel_rfl) ?_
          refine a_pu 9 rfl rfl rfl rfl (pu_addI rfl rfl rfl (by omega)) rfl rfl (by kernel_rfl) ?_
          refine a_pu 10 rfl rfl rfl rfl (pu_at1 (4 * t + i) rfl rfl rfl (by omega) (by omega)) rfl rfl (by kernel_rfl) ?_
          refine a_pu 11 rfl rfl rfl rfl (pu_rdB (j := 4 * t + i) (fun w' hm => ha.m hm) rfl rfl (byt_get (by omega))) rfl rfl (by kernel_rfl) ?_
          refine a_pu 12 rfl rfl rfl rfl (pu_conv8_32 rfl rfl) rfl rfl (by kernel_rfl) ?_
          refine a_pu 13 rfl rfl rfl rfl (pu_add32 rfl rfl rfl) rfl rfl (by kernel_rfl) ?_
          refine a_pu 14 rfl rfl rfl rfl (pu_atA1 t rfl rfl rfl rfl (by omega)) rfl rfl (by kernel_rfl) ?_
          refine a_tail [15] (by kernel_rfl) rfl rfl (by kernel_rfl) ?_
          refine g_store 5 (v := b32 (accH l t (i + 1))) rfl rfl rfl rfl rfl rfl rfl (by rw [ws_length, List.length_set, schA_length _ (by omega)]; omega) ?_
          rw [ws_set, List.set_set]
          refine g_nil ?_
          refine g_blk ?_
          (repeat refine g_seq ?_)
          refine g_region ?_
          refine g_pu rfl rfl rfl (pu_move rfl rfl) ?_
          refine g_pu rfl rfl rfl (pu_addI rfl rfl rfl (by omega)) ?_
          refine g_pu rfl rfl rfl (pu_assign rfl rfl) ?_
          refine g_nil ?_
          exact g_round (i + 1) (by omega) (by omega) ⟨rfl, rfl, rfl, rfl, rfl, rfl, rfl, rfl, trivial⟩ ⟨rfl, rfl, rfl, rfl, rfl, trivial⟩
        · (repeat refine g_seq ?_)
          refine g_region ?_
          refine g_pu rfl rfl rfl (pu_move rfl rfl) ?_
          first | refine g_pu rfl rfl rfl (pu_lss_t rfl rfl rfl (by omega)) ?_ | refine g_pu rfl rfl rfl (pu_lss_f rfl rfl rfl (by omega)) ?_ | refine g_pu rfl rfl rfl (pu_lss rfl rfl rfl) ?_
          refine g_nil ?_
          (repeat refine g_seq ?_)
          refine g_cond_f rfl (g_exit rfl ?_)
          have e4 : i = 4 := by omega
          subst e4
          refine g_meet () trivial ⟨rfl, rfl, rfl, rfl, rfl, rfl, rfl, trivial⟩ ⟨rfl, rfl, ?_, rfl, rfl, trivial⟩
          rw [accH_end, ← hwt, schA_set l (by omega)]
          rfl
      · have h16 : ¬ t < 16 := by omega
        have hwt : wt l (schedL l t) t = sg1 ((schedL l t).getD (t - 2) 0#32) + (schedL l t).getD (t - 7) 0#32 + sg0 ((schedL l t).getD (t - 15) 0#32) + (schedL l t).getD (t - 16) 0#32 := by unfold wt; rw [if_neg (by omega)]
        (repeat refine g_seq ?_)
        refine g_any (10, []) ?_
        refine a_pu 0 rfl rfl rfl rfl (pu_move rfl rfl) rfl rfl (by kernel_rfl) ?_
        refine a_pu 1 rfl rfl rfl rfl (pu_subI rfl rfl rfl (by omega)) rfl rfl (by kernel_rfl) ?_
        refine a_pu 2 rfl rfl rfl rfl (pu_atA1 (t - 15) rfl rfl rfl (by omega) (by omega)) rfl rfl (by kernel_rfl) ?_
        refine a_pu 3 rfl rfl rfl rfl (pu_load 5 rfl rfl rfl (ws_load (schA_get l (j := t - 15) (by omega)))) rfl rfl (by kernel_rfl) ?_
        refine a_pu 4 rfl rfl rfl rfl (pu_move rfl rfl) rfl rfl (by kernel_rfl) ?_
        refine a_pu 5 rfl rfl rfl rfl (pu_subI rfl rfl rfl (by omega)) rfl rfl (by kernel_rfl) ?_
        refine a_pu 6 rfl rfl rfl rfl (pu_atA1 (t - 2) rfl rfl rfl (by omega) (by omega)) rfl rfl (by kernel_rfl) ?_
        refine a_pu 7 rfl rfl rfl rfl (pu_load 5 rfl rfl rfl (ws_load (schA_get l (j := t - 2) (by omega)))) rfl rfl (by kernel_rfl) ?_
        refine a_pu 8 rfl rfl rfl rfl (pu_assign rfl rfl) rfl rfl (by kernel_rfl) ?_
        refine a_pu 9 rfl rfl rfl rfl (pu_assign rfl rfl) rfl rfl (by kernel_rfl) ?_
        refine a_done (by kernel_rfl) ?_
        (repeat refine g_seq ?_)
        refine g_any (29, []) ?_
        refine a_pu 0 rfl rfl rfl rfl (pu_move rfl rfl) rfl rfl (by kernel_rfl) ?_
        refine a_pu 1 rfl rfl rfl rfl (pu_move rfl rfl) rfl rfl (by kernel_rfl) ?_
        refine a_pu 3 rfl rfl rfl rfl (pu_move rfl rfl) rfl rfl (by kernel_rfl) ?_
        refine a_pu 6 rfl rfl rfl rfl (pu_move rfl rfl) rfl rfl (by kernel_rfl) ?_
        refine a_pu 7 rfl rfl rfl rfl (pu_shr32 rfl rfl rfl (by omega)) rfl rfl (by kernel_rfl) ?_
        refine a_pu 9 rfl rfl rfl rfl (pu_move rfl rfl) rfl rfl (by kernel_rfl) ?_
        refine a_pu 10 rfl rfl rfl rfl (pu_subI rfl rfl rfl (by omega)) rfl rfl (by kernel_rfl) ?_
        refine a_pu 11 rfl rfl rfl rfl (pu_atA1 (t - 7) rfl rfl rfl (by omega) (by omega)) rfl rfl (by kernel_rfl) ?_
        refine a_pu 12 rfl rfl rfl rfl (pu_load 5 rfl rfl rfl (ws_load (schA_get l (j := t - 7) (by omega)))) rfl rfl (by kernel_rfl) ?_
        refine a_pu 14 rfl rfl rfl rfl (pu_move rfl rfl) rfl rfl (by kernel_rfl) ?_
        refine a_pu 16 rfl rfl rfl rfl (pu_move rfl rfl) rfl rfl (by kernel_rfl) ?_
        refine a_pu 19 rfl rfl rfl rfl (pu_move rfl rfl) rfl rfl (by kernel_rfl) ?_
        refine a_pu 20 rfl rfl rfl rfl (pu_shr32 rfl rfl rfl (by omega)) rfl rfl (by kernel_rfl) ?_
        refine a_pu 23 rfl rfl rfl rfl (pu_move rfl rfl) rfl rfl (by kernel_rfl) ?_
        refine a_pu 24 rfl rfl rfl rfl (pu_subI rfl rfl rfl (by omega)) rfl rfl (by kernel_rfl) ?_
        refine a_pu 25 rfl rfl rfl rfl (pu_atA1 (t - 16) rfl rfl rfl (by omega) (by omega)) rfl rfl (by kernel_rfl) ?_
        refine a_pu 26 rfl rfl rfl rfl (pu_load 5 rfl rfl rfl (ws_load (schA_get l (j := t - 16) (by omega)))) rfl rfl (by kernel_rfl) ?_
        refine a_do 2 55 [] (does_call rfl rfl rfl rfl rfl (fun w' hm => right_b w' _ 17 (by omega) (by omega))) rfl rfl (by kernel_rfl) rfl rfl (by kernel_rfl) (by kernel_rfl) (by kernel_rfl) rfl (fun p hp => by cases hp) ?_; rintro v_ cs_ ⟨_, _, rfl, rfl⟩
        refine a_do 4 57 [] (does_call rfl rfl rfl rfl rfl (fun w' hm => right_b w' _ 19 (by omega) (by omega))) rfl rfl (by kernel_rfl) rfl rfl (by kernel_rfl) (by kernel_rfl) (by kernel_rfl) rfl (fun p hp => by cases hp) ?_; rintro v_ cs_ ⟨_, _, rfl, rfl⟩
        refine a_pu 5 rfl rfl rfl rfl (pu_xor32 rfl rfl rfl) rfl rfl (by kernel_rfl) ?_
        refine a_pu 8 rfl rfl rfl rfl (pu_xor32 rfl rfl rfl) rfl rfl (by kernel_rfl) ?_
        refine a_pu 13 rfl rfl rfl rfl (pu_add32 rfl rfl rfl) rfl rfl (by kernel_rfl) ?_
        refine a_do 15 68 [] (does_call rfl rfl rfl rfl rfl (fun w' hm => right_b w' _ 7 (by omega) (by omega))) rfl rfl (by kernel_rfl) rfl rfl (by kernel_rfl) (by kernel_rfl) (by kernel_rfl) rfl (fun p hp => by cases hp) ?_; rintro v_ cs_ ⟨_, _, rfl, rfl⟩
        refine a_do 17 70 [] (does_call rfl rfl rfl rfl rfl (fun w' hm => right_b w' _ 18 (by omega) (by omega))) rfl rfl (by kernel_rfl) rfl rfl (by kernel_rfl) (by kernel_rfl) (by kernel_rfl) rfl (fun p hp => by cases hp) ?_; rintro v_ cs_ ⟨_, _, rfl, rfl⟩
        refine a_pu 18 rfl rfl rfl rfl (pu_xor32 rfl rfl rfl) rfl rfl (by kernel_rfl) ?_
        refine a_pu 21 rfl rfl rfl rfl (pu_xor32 rfl rfl rfl) rfl rfl (by kernel_rfl) ?_
        refine a_pu 22 rfl rfl rfl rfl (pu_add32 rfl rfl rfl) rfl rfl (by kernel_rfl) ?_
        refine a_pu 27 rfl rfl rfl rfl (pu_add32 rfl rfl rfl) rfl rfl (by kernel_rfl) ?_
        refine a_pu 28 rfl rfl rfl rfl (pu_atA1 t rfl rfl rfl rfl (by omega)) rfl rfl (by kernel_rfl) ?_
        refine a_tail [29] (by kernel_rfl) rfl rfl (by kernel_rfl) ?_
        refine g_store 5 (v := b32 (wt l (schedL l t) t)) rfl rfl rfl rfl (by rw [hwt]; rfl) rfl rfl (by rw [ws_length, schA_length _ (by omega)]; omega) ?_
        rw [ws_set, schA_set _ (by omega)]
        refine g_nil ?_
        exact g_meet () trivial ⟨rfl, rfl, rfl, rfl, rfl, rfl, rfl, trivial⟩ ⟨rfl, rfl, rfl, rfl, rfl, trivial⟩
    · (repeat refine g_seq ?_)
      refine g_region ?_
      refine g_pu rfl rfl rfl (pu_atA1 4 rfl rfl rfl rfl (by omega)) ?_
      refine g_pu rfl rfl rfl (pu_load 7 rfl rfl rfl rfl) ?_
      refine g_pu rfl rfl rfl (pu_atA1 5 rfl rfl rfl rfl (by omega)) ?_
      refine g_pu rfl rfl rfl (pu_load 7 rfl rfl rfl rfl) ?_
      refine g_pu rfl rfl rfl (pu_and32 rfl rfl rfl) ?_
      refine g_pu rfl rfl rfl (pu_atA1 4 rfl rfl rfl rfl (by omega)) ?_
      refine g_pu rfl rfl rfl (pu_load 7 rfl rfl rfl rfl) ?_
      refine g_pu rfl rfl rfl (pu_com32 rfl rfl) ?_
      refine g_pu rfl rfl rfl (pu_atA1 6 rfl rfl rfl rfl (by omega)) ?_
      refine g_pu rfl rfl rfl (pu_load 7 rfl rfl rfl rfl) ?_
      refine g_pu rfl rfl rfl (pu_and32 rfl rfl rfl) ?_
      refine g_pu rfl rfl rfl (pu_xor32 rfl rfl rfl) ?_
      refine g_pu rfl rfl rfl (pu_assign rfl rfl) ?_
      refine g_nil ?_
      (repeat refine g_seq ?_)
      refine g_region ?_
      refine g_pu rfl rfl rfl (pu_atA1 0 rfl rfl rfl rfl (by omega)) ?_
      refine g_pu rfl rfl rfl (pu_load 7 rfl rfl rfl rfl) ?_
      refine g_pu rfl rfl rfl (pu_atA1 1 rfl rfl rfl rfl (by omega)) ?_
      refine g_pu rfl rfl rfl (pu_load 7 rfl rfl rfl rfl) ?_
      refine g_pu rfl rfl rfl (pu_and32 rfl rfl rfl) ?_
      refine g_pu rfl rfl rfl (pu_atA1 0 rfl rfl rfl rfl (by omega)) ?_
      refine g_pu rfl rfl rfl (pu_load 7 rfl rfl rfl rfl) ?_
      refine g_pu rfl rfl rfl (pu_atA1 2 rfl rfl rfl rfl (by omega)) ?_
      refine g_pu rfl rfl rfl (pu_load 7 rfl rfl rfl rfl) ?_
      refine g_pu rfl rfl rfl (pu_and32 rfl rfl rfl) ?_
      refine g_pu rfl rfl rfl (pu_xor32 rfl rfl rfl) ?_
      refine g_pu rfl rfl rfl (pu_atA1 1 rfl rfl rfl rfl (by omega)) ?_
      refine g_pu rfl rfl rfl (pu_load 7 rfl rfl rfl rfl) ?_
      refine g_pu rfl rfl rfl (pu_atA1 2 rfl rfl rfl rfl (by omega)) ?_
      refine g_pu rfl rfl rfl (pu_load 7 rfl rfl rfl rfl) ?_
      refine g_pu rfl rfl rfl (pu_and32 rfl rfl rfl) ?_
      refine g_pu rfl rfl rfl (pu_xor32 rfl rfl rfl) ?_
      refine g_pu rfl rfl rfl (pu_assign rfl rfl) ?_
      refine g_nil ?_
      (repeat refine g_seq ?_)
      refine g_any (25, []) ?_
      refine a_pu 0 rfl rfl rfl rfl (pu_atA1 7 rfl rfl rfl rfl (by omega)) rfl rfl (by kernel_rfl) ?_
      refine a_pu 1 rfl rfl rfl rfl (pu_load 7 rfl rfl rfl rfl) rfl rfl (by kernel_rfl) ?_
      refine a_pu 2 rfl rfl rfl rfl (pu_atA1 4 rfl rfl rfl rfl (by omega)) rfl rfl (by kernel_rfl) ?_
      refine a_pu 3 rfl rfl rfl rfl (pu_load 7 rfl rfl rfl rfl) rfl rfl (by kernel_rfl) ?_
      refine a_pu 5 rfl rfl rfl rfl (pu_atA1 4 rfl rfl rfl rfl (by omega)) rfl rfl (by kernel_rfl) ?_
      refine a_pu 6 rfl rfl rfl rfl (pu_load 7 rfl rfl rfl rfl) rfl rfl (by kernel_rfl) ?_
      refine a_pu 9 rfl rfl rfl rfl (pu_atA1 4 rfl rfl rfl rfl (by omega)) rfl rfl (by kernel_rfl) ?_
      refine a_pu 10 rfl rfl rfl rfl (pu_load 7 rfl rfl rfl rfl) rfl rfl (by kernel_rfl) ?_
      refine a_pu 14 rfl rfl rfl rfl (pu_move rfl rfl) rfl rfl (by kernel_rfl) ?_
      refine a_pu 16 rfl rfl rfl rfl (pu_move rfl rfl) rfl rfl (by kernel_rfl) ?_
      refine a_pu 17 rfl rfl rfl rfl (pu_atA1 t rfl rfl rfl rfl (by omega)) rfl rfl (by kernel_rfl) ?_
      refine a_pu 18 rfl rfl rfl rfl (pu_load 6 rfl rfl rfl (ws_load hk)) rfl rfl (by kernel_rfl) ?_
      refine a_pu 20 rfl rfl rfl rfl (pu_move rfl rfl) rfl rfl (by kernel_rfl) ?_
      refine a_pu 21 rfl rfl rfl rfl (pu_atA1 t rfl rfl rfl rfl (by omega)) rfl rfl (by kernel_rfl) ?_
      refine a_pu 22 rfl rfl rfl rfl (pu_load 5 rfl rfl rfl (ws_load hw)) rfl rfl (by kernel_rfl) ?_
      refine a_do 4 115 [] (does_call rfl rfl rfl rfl rfl (fun w' hm => right_b w' _ 6 (by omega) (by omega))) rfl rfl (by kernel_rfl) rfl rfl (by kernel_rfl) (by kernel_rfl) (by kernel_rfl) rfl (fun p hp => by cases hp) ?_; rintro v_ cs_ ⟨_, _, rfl, rfl⟩
      refine a_do 7 118 [] (does_call rfl rfl rfl rfl rfl (fun w' hm => right_b w' _ 11 (by omega) (by omega))) rfl rfl (by kernel_rfl) rfl rfl (by kernel_rfl) (by kernel_rfl) (by kernel_rfl) rfl (fun p hp => by cases hp) ?_; rintro v_ cs_ ⟨_, _, rfl, rfl⟩
      refine a_pu 8 rfl rfl rfl rfl (pu_xor32 rfl rfl rfl) rfl rfl (by kernel_rfl) ?_
      refine a_do 11 122 [] (does_call rfl rfl rfl rfl rfl (fun w' hm => right_b w' _ 25 (by omega) (by omega))) rfl rfl (by kernel_rfl) rfl rfl (by kernel_rfl) (by kernel_rfl) (by kernel_rfl) rfl (fun p hp => by cases hp) ?_; rintro v_ cs_ ⟨_, _, rfl, rfl⟩
      refine a_pu 12 rfl rfl rfl rfl (pu_xor32 rfl rfl rfl) rfl rfl (by kernel_rfl) ?_
      refine a_pu 13 rfl rfl rfl rfl (pu_add32 rfl rfl rfl) rfl rfl (by kernel_rfl) ?_
      refine a_pu 15 rfl rfl rfl rfl (pu_add32 rfl rfl rfl) rfl rfl (by kernel_rfl) ?_
      refine a_pu 19 rfl rfl rfl rfl (pu_add32 rfl rfl rfl) rfl rfl (by kernel_rfl) ?_
      refine a_pu 23 rfl rfl rfl rfl (pu_add32 rfl rfl rfl) rfl rfl (by kernel_rfl) ?_
      refine a_pu 24 rfl rfl rfl rfl (pu_assign rfl rfl) rfl rfl (by kernel_rfl) ?_
      refine a_done (by kernel_rfl) ?_
      (repeat refine g_seq ?_)
      refine g_any (9, [6, 11]) ?_
      refine a_pu 0 rfl rfl rfl rfl (pu_atA1 0 rfl rfl rfl rfl (by omega)) rfl rfl (by kernel_rfl) ?_
      refine a_pu 1 rfl rfl rfl rfl (pu_load 7 rfl rfl rfl rfl) rfl rfl (by kernel_rfl) ?_
      refine a_pu 3 rfl rfl rfl rfl (pu_atA1 0 rfl rfl rfl rfl (by omega)) rfl rfl (by kernel_rfl) ?_
      refine a_pu 4 rfl rfl rfl rfl (pu_load 7 rfl rfl rfl rfl) rfl rfl (by kernel_rfl) ?_
      refine a_pu 7 rfl rfl rfl rfl (pu_atA1 0 rfl rfl rfl rfl (by omega)) rfl rfl (by kernel_rfl) ?_
      refine a_pu 8 rfl rfl rfl rfl (pu_load 7 rfl rfl rfl rfl) rfl rfl (by kernel_rfl) ?_
      first | refine a_mv 11 rfl rfl rfl rfl (fun _ => (pu_move rfl rfl)) rfl rfl rfl (by kernel_rfl) (by kernel_rfl) (by kernel_rfl) rfl ?_
      refine a_do 2 137 [] (does_call rfl rfl rfl rfl rfl (fun w' hm => right_b w' _ 2 (by omega) (by omega))) rfl rfl (by kernel_rfl) rfl rfl (by kernel_rfl) (by kernel_rfl) (by kernel_rfl) rfl (fun p hp => by cases hp) ?_; rintro v_ cs_ ⟨_, _, rfl, rfl⟩
      refine a_do 5 140 [] (does_call rfl rfl rfl rfl rfl (fun w' hm => right_b w' _ 13 (by omega) (by omega))) rfl rfl (by kernel_rfl) rfl rfl (by kernel_rfl) (by kernel_rfl) (by kernel_rfl) rfl (fun p hp => by cases hp) ?_; rintro v_ cs_ ⟨_, _, rfl, rfl⟩
      first | refine a_mv 6 rfl rfl rfl rfl (fun _ => (pu_xor32 rfl rfl rfl)) rfl rfl rfl (by kernel_rfl) (by kernel_rfl) (by kernel_rfl) rfl ?_
      refine a_tail [9, 10, 12, 13] (by kernel_rfl) rfl rfl (by kernel_rfl) ?_
      refine g_call [] rfl rfl rfl rfl rfl rfl (fun w' hm => right_b w' _ 22 (by omega) (by omega)) (fun _ _ => ?_)
      refine g_pu rfl rfl rfl (pu_xor32 rfl rfl rfl) ?_
      refine g_pu rfl rfl rfl (pu_add32 rfl rfl rfl) ?_
      refine g_pu rfl rfl rfl (pu_assign rfl rfl) ?_
      refine g_nil ?_
      (repeat refine g_seq ?_)
      refine g_region ?_
      refine g_pu rfl rfl rfl (pu_assign rfl rfl) ?_
      refine g_nil ?_
      (repeat refine g_seq ?_)
      refine g_block (g_loop (σ := Nat) (fun i => [(1, .slice (some ⟨pb, po, none⟩) 64 c), (2, .pointer (some ⟨b2, 0, none⟩)), (4, .pointer (some ⟨b4, 0, none⟩)), (5, .pointer (some ⟨b5, 0, none⟩)), (6, .pointer (some ⟨b6, 0, none⟩)), (7, .pointer (some ⟨b7, 0, none⟩)), (8, .int .i64 (t : Int)), (14, b32 (rt1 kt wd ⟨a, b, cc, d, e, f, g, h⟩)), (15, b32 (rt2 ⟨a, b, cc, d, e, f, g, h⟩)), (16, .int .i64 (i : Int))]) (fun i => [(2, .pt b2 (.cells (ws s).toArray 44 (0, 0))), (4, .pt b4 (.cells (ws (List.replicate 8 0#32)).toArray 44 (0, 0))), (5, .pt b5 (.cells (ws (schA l (t + 1))).toArray 90 (0, 0))), (6, .pt b6 (.cells (ws kT).toArray 90 (0, 0))), (7, .pt b7 (.cells (ws (shV [a, b, cc, d, e, f, g, h] i)).toArray 44 (0, 0)))]) (fun i => i ≤ 7) (fun i => i) 7 ⟨rfl, rfl, rfl, rfl, rfl, rfl, rfl, rfl, rfl, rfl, trivial⟩ ⟨rfl, rfl, rfl, rfl, rfl, trivial⟩ (by omega) ?_)
      intro i hi
      match i, hi with
      | i + 1, hi =>
        obtain ⟨x, hx1, hx2, hx3⟩ := shV_set (a := a) (b := b) (c := cc) (d := d) (e := e) (f := f) (g := g) (h := h) (i := i) (by omega)
        (repeat refine g_seq ?_)
        refine g_region ?_
        refine g_pu rfl rfl rfl (pu_move rfl rfl) ?_
        first | refine g_pu rfl rfl rfl (pu_gtr_t rfl rfl rfl (by omega)) ?_ | refine g_pu rfl rfl rfl (pu_gtr_f rfl rfl rfl (by omega)) ?_ | refine g_pu rfl rfl rfl (pu_gtr rfl rfl rfl) ?_
        refine g_nil ?_
        (repeat refine g_seq ?_)
        refine g_cond_t rfl (g_skip ?_)
        (repeat refine g_seq ?_); refine g_block ?_
        (repeat refine g_seq ?_)
        refine g_region ?_
        refine g_pu rfl rfl rfl (pu_move rfl rfl) ?_
        refine g_pu rfl rfl rfl (pu_move rfl rfl) ?_
        refine g_pu rfl rfl rfl (pu_subI rfl rfl rfl (by omega)) ?_
        refine g_pu rfl rfl rfl (pu_atA1 i rfl rfl rfl (by omega) (by omega)) ?_
        refine g_pu rfl rfl rfl (pu_load 7 rfl rfl rfl (ws_load hx1)) ?_
        refine g_pu rfl rfl rfl (pu_atA1 (i + 1) rfl rfl rfl rfl (by omega)) ?_
        refine g_store 7 (v := b32 x) rfl rfl rfl rfl rfl rfl rfl (by rw [ws_length, hx3]; omega) ?_
        rw [ws_set, hx2]
        refine g_nil ?_
        refine g_blk ?_
        (repeat refine g_seq ?_)
        refine g_region ?_
        refine g_pu rfl rfl rfl (pu_move rfl rfl) ?_
        refine g_pu rfl rfl rfl (pu_subI rfl rfl rfl (by omega)) ?_
        refine g_pu rfl rfl rfl (pu_assign rfl rfl) ?_
        refine g_nil ?_
        exact g_round i (by omega) (by omega) ⟨rfl, rfl, rfl, rfl, rfl, rfl, rfl, rfl, rfl, congrArg (fun z => some (Value.int .i64 z)) (by omega), trivial⟩ ⟨rfl, rfl, rfl, rfl, rfl, trivial⟩
      | 0, _ =>
        (repeat refine g_seq ?_)
        refine g_region ?_
        refine g_pu rfl rfl rfl (pu_move rfl rfl) ?_
        first | refine g_pu rfl rfl rfl (pu_gtr_t rfl rfl rfl (by omega)) ?_ | refine g_pu rfl rfl rfl (pu_gtr_f rfl rfl rfl (by omega)) ?_ | refine g_pu rfl rfl rfl (pu_gtr rfl rfl rfl) ?_
        refine g_nil ?_
        (repeat refine g_seq ?_)
        refine g_cond_f rfl (g_exit rfl ?_)
        (repeat refine g_seq ?_)
        refine g_region ?_
        refine g_pu rfl rfl rfl (pu_atA1 4 rfl rfl rfl rfl (by omega)) ?_
        refine g_pu rfl rfl rfl (pu_load 7 rfl rfl rfl rfl) ?_
        refine g_pu rfl rfl rfl (pu_move rfl rfl) ?_
        refine g_pu rfl rfl rfl (pu_add32 rfl rfl rfl) ?_
        refine g_pu rfl rfl rfl (pu_atA1 4 rfl rfl rfl rfl (by omega)) ?_
        refine g_store 7 rfl rfl rfl rfl rfl rfl rfl (by simp [shV, ws]) ?_
        refine g_nil ?_
        (repeat refine g_seq ?_)
        refine g_region ?_
        refine g_pu rfl rfl rfl (pu_move rfl rfl) ?_
        refine g_pu rfl rfl rfl (pu_move rfl rfl) ?_
        refine g_pu rfl rfl rfl (pu_add32 rfl rfl rfl) ?_
        refine g_pu rfl rfl rfl (pu_atA1 0 rfl rfl rfl rfl (by omega)) ?_
        refine g_store 7 rfl rfl rfl rfl rfl rfl rfl (by simp [shV, ws]) ?_
        refine g_nil ?_
        refine g_blk ?_
        (repeat refine g_seq ?_)
        refine g_region ?_
        refine g_pu rfl rfl rfl (pu_move rfl rfl) ?_
        refine g_pu rfl rfl rfl (pu_addI rfl rfl rfl (by omega)) ?_
        refine g_pu rfl rfl rfl (pu_assign rfl rfl) ?_
        refine g_nil ?_
        exact g_round2 (t + 1) (rnd kt wd ⟨a, b, cc, d, e, f, g, h⟩) ⟨by omega, hst⟩ (by omega) ⟨rfl, rfl, rfl, rfl, rfl, rfl, rfl, trivial⟩ ⟨rfl, rfl, rfl, rfl, rfl, trivial⟩
  · (repeat refine g_seq ?_)
    refine g_region ?_
    refine g_pu rfl rfl rfl (pu_move rfl rfl) ?_
    first | refine g_pu rfl rfl rfl (pu_lss_t rfl rfl rfl (by omega)) ?_ | refine g_pu rfl rfl rfl (pu_lss_f rfl rfl rfl (by omega)) ?_ | refine g_pu rfl rfl rfl (pu_lss rfl rfl rfl) ?_
    refine g_nil ?_
    (repeat refine g_seq ?_)
    refine g_cond_f rfl (g_exit rfl ?_)
    have e : t = 64 := by omega
    subst e
    rw [← hv] at hcg
    (repeat refine g_seq ?_)
    refine g_region ?_
    refine g_pu rfl rfl rfl (pu_assign rfl rfl) ?_
    refine g_nil ?_
    (repeat refine g_seq ?_)
    refine g_block (g_loop (σ := Nat) (fun i => [(2, .pointer (some ⟨b2, 0, none⟩)), (4, .pointer (some ⟨b4, 0, none⟩)), (7, .pointer (some ⟨b7, 0, none⟩)), (17, .int .i64 (i : Int))]) (fun i => [(2, .pt b2 (.cells (ws (mixL full s i)).toArray 44 (0, 0))), (4, .pt b4 (.cells (ws (List.replicate 8 0#32)).toArray 44 (0, 0))), (7, .pt b7 (.cells (ws v.l).toArray 44 (0, 0)))]) (fun i => i ≤ 8) (fun i => 8 - i) 0 ⟨rfl, rfl, rfl, rfl, trivial⟩ ⟨rfl, rfl, rfl, trivial⟩ (by omega) ?_)
    intro i hi
    by_cases hlt : i < 8
    · (repeat refine g_seq ?_)
      refine g_region ?_
      refine g_pu rfl rfl rfl (pu_move rfl rfl) ?_
      first | refine g_pu rfl rfl rfl (pu_lss_t rfl rfl rfl (by omega)) ?_ | refine g_pu rfl rfl rfl (pu_lss_f rfl rfl rfl (by omega)) ?_ | refine g_pu rfl rfl rfl (pu_lss rfl rfl rfl) ?_
      refine g_nil ?_
      (repeat refine g_seq ?_)
      refine g_cond_t rfl (g_skip ?_)
      have hm1 := mixL_get (full := full) (s := s) (i := i) (by omega) (by omega)
      have hm2 := mixL_set (full := full) (s := s) (i := i) (by omega) (hcg i hlt)
      have hvl : v.l[i]? = some (v.l.getD i 0#32) := getD_some (by simp only [V8.l, List.length_cons, List.length_nil]; omega)
      (repeat refine g_seq ?_); refine g_block ?_
      (repeat refine g_seq ?_)
      refine g_any (9, []) ?_
      refine a_pu 0 rfl rfl rfl rfl (pu_move rfl rfl) rfl rfl (by kernel_rfl) ?_
      refine a_pu 1 rfl rfl rfl rfl (pu_move rfl rfl) rfl rfl (by kernel_rfl) ?_
      refine a_pu 2 rfl rfl rfl rfl (pu_atA1 i rfl rfl rfl rfl hlt) rfl rfl (by kernel_rfl) ?_
      refine a_pu 3 rfl rfl rfl rfl (pu_load 2 rfl rfl rfl (ws_load hm1)) rfl rfl (by kernel_rfl) ?_
      refine a_pu 4 rfl rfl rfl rfl (pu_move rfl rfl) rfl rfl (by kernel_rfl) ?_
      refine a_pu 5 rfl rfl rfl rfl (pu_atA1 i rfl rfl rfl rfl hlt) rfl rfl (by kernel_rfl) ?_
      refine a_pu 6 rfl rfl rfl rfl (pu_load 7 rfl rfl rfl (ws_load hvl)) rfl rfl (by kernel_rfl) ?_
      refine a_pu 7 rfl rfl rfl rfl (pu_add32 rfl rfl rfl) rfl rfl (by kernel_rfl) ?_
      refine a_pu 8 rfl rfl rfl rfl (pu_atA1 i rfl rfl rfl rfl hlt) rfl rfl (by kernel_rfl) ?_
      refine a_tail [9] (by kernel_rfl) rfl rfl (by kernel_rfl) ?_
      refine g_store 2 (v := b32 (s.getD i 0#32 + v.l.getD i 0#32)) rfl rfl rfl rfl rfl rfl rfl (by rw [ws_length, mixL_length (by omega)]; omega) ?_
      rw [ws_set, hm2]
      refine g_nil ?_
      refine g_blk ?_
      (repeat refine g_seq ?_)
      refine g_region ?_
      refine g_pu rfl rfl rfl (pu_move rfl rfl) ?_
      refine g_pu rfl rfl rfl (pu_addI rfl rfl rfl (by omega)) ?_
      refine g_pu rfl rfl rfl (pu_assign rfl rfl) ?_
      refine g_nil ?_
      exact g_round (i + 1) (by omega) (by omega) ⟨rfl, rfl, rfl, rfl, trivial⟩ ⟨rfl, rfl, rfl, trivial⟩
    · (repeat refine g_seq ?_)
      refine g_region ?_
      refine g_pu rfl rfl rfl (pu_move rfl rfl) ?_
      first | refine g_pu rfl rfl rfl (pu_lss_t rfl rfl rfl (by omega)) ?_ | refine g_pu rfl rfl rfl (pu_lss_f rfl rfl rfl (by omega)) ?_ | refine g_pu rfl rfl rfl (pu_lss rfl rfl rfl) ?_
      refine g_nil ?_
      (repeat refine g_seq ?_)
      refine g_cond_f rfl (g_exit rfl ?_)
      have e : i = 8 := by omega
      subst e
      have hf : mixL full s 8 = full := by
        unfold mixL
        rw [List.take_of_length_le (by omega), List.drop_eq_nil_of_le (by omega), List.append_nil]
      rw [hf]
      (repeat refine g_seq ?_)
      refine g_region ?_
      refine g_pu rfl rfl rfl (pu_loadW 2 (L := ws full) rfl rfl rfl (by rw [ws_length, hcl])) ?_
      refine g_storeL 4 (C := ws full) rfl rfl rfl rfl rfl rfl (by rw [ws_length, hcl]) (by simp [ws]) (oneCell_ws _) ?_
      refine g_nil ?_
      exact g_retL 4 (L := ws full) rfl (by rw [ws_length, hcl]) rfl rfl (fun w' hm => ⟨(), trivial, rfl, hm.grows [] trivial rfl⟩)
end Go.Sx

/-
  The words of a block ahead of all rounds, and one round at four places. The key has 32 bytes, the nonce 12.
-/
import Derived.Test.YtnphghomcnpllaaH2
set_option linter.unusedVariables false
set_option linter.unusedSimpArgs false
namespace Go.Sx
open Go Go.Proofs

theorem wordsL_length (l : List (BitVec 8)) : (wordsL l).length = l.length / 4 := by simp [wordsL]
theorem wordsL_get {l : List (BitVec 8)} {i : Nat} (h : i < l.length / 4) : (wordsL l)[i]? = some (word4 (l.drop (4 * i))) := by simp [wordsL, h]
theorem stateL_length {key nonce : List (BitVec 8)} {ctr : BitVec 32} (hk : key.length = 32) (hn : nonce.length = 12) : (stateL key nonce ctr).length = 16 := by simp [stateL, sigma, wordsL_length, hk, hn]
theorem stateL_key {key nonce : List (BitVec 8)} {ctr : BitVec 32} (hk : key.length = 32) {i : Nat} (h : i < 8) : (stateL key nonce ctr)[4 + i]? = some (word4 (key.drop (4 * i))) := by
  have h1 : (wordsL key).length = 8 := by rw [wordsL_length, hk]
  unfold stateL
  rw [List.append_assoc, List.append_assoc, List.getElem?_append_right (by simp [sigma]), List.getElem?_append_left (by simp [sigma, h1]; try omega)]
  rw [show 4 + i - sigma.length = i by simp [sigma], wordsL_get (by omega)]
theorem stateL_ctr {key nonce : List (BitVec 8)} {ctr : BitVec 32} (hk : key.length = 32) : (stateL key nonce ctr)[12]? = some ctr := by
  have h1 : (wordsL key).length = 8 := by rw [wordsL_length, hk]
  unfold stateL
  rw [List.append_assoc, List.getElem?_append_right (by simp [sigma, h1])]
  simp [sigma, h1]
theorem stateL_nonce {key nonce : List (BitVec 8)} {ctr : BitVec 32} (hk : key.length = 32) (hn : nonce.length = 12) {i : Nat} (h : i < 3) : (stateL key nonce ctr)[13 + i]? = some (word4 (nonce.drop (4 * i))) := by
  have h1 : (wordsL key).length = 8 := by rw [wordsL_length, hk]
  unfold stateL
  rw [List.getElem?_append_right (by simp [sigma, h1])]
  rw [show 13 + i - (sigma ++ wordsL key ++ [ctr]).length = i by simp [sigma, h1], wordsL_get (by omega)]
theorem stateL_start {key nonce : List (BitVec 8)} {ctr : BitVec 32} (hk : key.length = 32) (hn : nonce.length = 12) : sigma ++ List.replicate 12 0#32 = fillW 0#32 (stateL key nonce ctr) 4 := by
  unfold fillW
  rw [stateL_length hk hn]
  congr 1

theorem state_b (w : World) {p q : Option Addr} (c d : Nat) {key nonce : List (BitVec 8)} (ctr : BitVec 32) (ha : By w p 32 key) (hb : By w q 12 nonce) (hc : 32 ≤ c) (hd : 12 ≤ d) :
    Spec Try.prog 37 #[.slice p 32 c, .slice q 12 d, b32 ctr] w (σ := Unit) (fun _ => True) (fun _ => .agg (ws (stateL key nonce ctr)).toArray) Nob (fun _ => []) := by
  refine enter Try.func37 rfl rfl (Mem.start w) ?_
  have hk := ha.len
  have hn := hb.len
  have hl := stateL_length (ctr := ctr) hk hn
  generalize hfull : stateL key nonce ctr = full at hl
  (repeat refine g_seq ?_)
  refine g_region ?_
  refine g_lo [6] rfl rfl rfl rfl (lo_alloc rfl) (fun b6 hb6 => ?_)
  refine g_nil ?_
  (repeat refine g_seq ?_)
  refine g_region ?_
  refine g_pu rfl rfl rfl (pu_buildA' (cs := ws (sigma ++ List.replicate 12 0#32)) rfl rfl rfl) ?_
  refine g_lo [7] rfl rfl rfl rfl (lo_alloc rfl) (fun b7 hb7 => ?_)
  refine g_storeL 7 (C := ws (sigma ++ List.replicate 12 0#32)) rfl rfl rfl rfl rfl rfl rfl rfl (oneCell_ws _) ?_
  rw [stateL_start (ctr := ctr) hk hn, hfull]
  refine g_nil ?_
  (repeat refine g_seq ?_)
  refine g_region ?_
  refine g_pu rfl rfl rfl (pu_move rfl rfl) ?_
  refine g_nil ?_
  (repeat refine g_seq ?_)
  refine g_block (g_loop (σ := Nat) (fun i => [(0, .slice p 32 c), (1, .slice q 12 d), (2, b32 ctr), (6, .pointer (some ⟨b6, 0, none⟩)), (7, .pointer (some ⟨b7, 0, none⟩)), (11, .int .i64 (i : Int))]) (fun i => [(6, .pt b6 (.cells (ws (List.replicate 16 0#32)).toArray 74 (0, 0))), (7, .pt b7 (.cells (ws (fillW 0#32 full (4 + i))).toArray 74 (0, 0)))]) (fun i => i ≤ 8) (fun i => 8 - i) 0 ⟨rfl, rfl, rfl, rfl, rfl, rfl, trivial⟩ ⟨rfl, rfl, trivial⟩ (by omega) ?_)
  intro i hi
  by_cases hlt : i < 8
  · (repeat refine g_seq ?_)
    refine g_region ?_
    first | refine g_pu rfl rfl rfl (pu_lss_t rfl rfl rfl (by omega)) ?_ | refine g_pu rfl rfl rfl (pu_lss_f rfl rfl rfl (by omega)) ?_ | refine g_pu rfl rfl rfl (pu_lss rfl rfl rfl) ?_
    refine g_nil ?_
    (repeat refine g_seq ?_)
    refine g_cond_t rfl (g_skip ?_)
    have hg := stateL_key (nonce := nonce) (ctr := ctr) hk hlt
    rw [hfull] at hg
    (repeat refine g_seq ?_); refine g_block ?_
    (repeat refine g_seq ?_)
    refine g_region ?_
    refine g_pu rfl rfl rfl (pu_move rfl rfl) ?_
    refine g_pu rfl rfl rfl (pu_assign rfl rfl) ?_
    refine g_nil ?_
    (repeat refine g_seq ?_)
    refine g_region ?_
    refine g_pu rfl rfl rfl (pu_move rfl rfl) ?_
    refine g_pu rfl rfl rfl (pu_addI rfl rfl rfl (by omega)) ?_
    refine g_pu rfl rfl rfl (pu_move rfl rfl) ?_
    refine g_pu rfl rfl rfl (pu_move rfl rfl) ?_
    refine g_pu rfl rfl rfl (pu_mulI rfl rfl rfl (by omega)) ?_
    refine g_pu rfl rfl rfl (pu_slice_l (4 * i) rfl rfl rfl (by omega) (by omega)) ?_
    refine g_call [] rfl rfl rfl rfl rfl rfl (fun w' hm => word_b w' _ ((ha.cut hc (4 * i)).m hm) (by omega)) (fun _ _ => ?_)
    refine g_pu rfl rfl rfl (pu_atA1 (4 + i) rfl rfl rfl (by omega) (by omega)) ?_
    refine g_store 7 (v := b32 (word4 (key.drop (4 * i)))) rfl rfl rfl rfl rfl rfl rfl (by rw [ws_length, fillW_length]; omega) ?_
    rw [ws_set, fillW_set hg]
    refine g_nil ?_
    refine g_blk ?_
    (repeat refine g_seq ?_)
    refine g_region ?_
    refine g_pu rfl rfl rfl (pu_addI rfl rfl rfl (by omega)) ?_
    refine g_pu rfl rfl rfl (pu_move rfl rfl) ?_
    refine g_nil ?_
    exact g_round (i + 1) (by omega) (by omega) ⟨rfl, rfl, rfl, rfl, rfl, rfl, trivial⟩ ⟨rfl, rfl, trivial⟩
  · (repeat refine g_seq ?_)
    refine g_region ?_
    first | refine g_pu rfl rfl rfl (pu_lss_t rfl rfl rfl (by omega)) ?_ | refine g_pu rfl rfl rfl (pu_lss_f rfl rfl rfl (by omega)) ?_ | refine g_pu rfl rfl rfl (pu_lss rfl rfl rfl) ?_
    refine g_nil ?_
    (repeat refine g_seq ?_)
    refine g_cond_f rfl (g_exit rfl ?_)
    have e : i = 8 := by omega
    subst e
    have hg := stateL_ctr (nonce := nonce) (ctr := ctr) hk
    rw [hfull] at hg
    (repeat refine g_seq ?_)
    refine g_region ?_
    refine g_pu rfl rfl rfl (pu_move rfl rfl) ?_
    refine g_pu rfl rfl rfl (pu_atA1 12 rfl rfl rfl rfl (by omega)) ?_
    refine g_store 7 (v := b32 ctr) rfl rfl rfl rfl rfl rfl rfl (by rw [ws_length, fillW_length]; omega) ?_
    rw [ws_set, fillW_set hg]
    refine g_nil ?_
    (repeat refine g_seq ?_)
    refine g_region ?_
    refine g_pu rfl rfl rfl (pu_move rfl rfl) ?_
    refine g_nil ?_
    (repeat refine g_seq ?_)
    refine g_block (g_loop (σ := Nat) (fun i => [(1, .slice q 12 d), (6, .pointer (some ⟨b6, 0, none⟩)), (7, .pointer (some ⟨b7, 0, none⟩)), (25, .int .i64 (i : Int))]) (fun i => [(6, .pt b6 (.cells (ws (List.replicate 16 0#32)).toArray 74 (0, 0))), (7, .pt b7 (.cells (ws (fillW 0#32 full (13 + i))).toArray 74 (0, 0)))]) (fun i => i ≤ 3) (fun i => 3 - i) 0 ⟨rfl, rfl, rfl, rfl, trivial⟩ ⟨rfl, rfl, trivial⟩ (by omega) ?_)
    intro i hi
    by_cases hlt : i < 3
    · (repeat refine g_seq ?_)
      refine g_region ?_
      first | refine g_pu rfl rfl rfl (pu_lss_t rfl rfl rfl (by omega)) ?_ | refine g_pu rfl rfl rfl (pu_lss_f rfl rfl rfl (by omega)) ?_ | refine g_pu rfl rfl rfl (pu_lss rfl rfl rfl) ?_
      refine g_nil ?_
      (repeat refine g_seq ?_)
      refine g_cond_t rfl (g_skip ?_)
      have hg := stateL_nonce (ctr := ctr) hk hn hlt
      rw [hfull] at hg
      (repeat refine g_seq ?_); refine g_block ?_
      (repeat refine g_seq ?_)
      refine g_region ?_
      refine g_pu rfl rfl rfl (pu_move rfl rfl) ?_
      refine g_pu rfl rfl rfl (pu_assign rfl rfl) ?_
      refine g_nil ?_
      (repeat refine g_seq ?_)
      refine g_region ?_
      refine g_pu rfl rfl rfl (pu_move rfl rfl) ?_
      refine g_pu rfl rfl rfl (pu_addI rfl rfl rfl (by omega)) ?_
      refine g_pu rfl rfl rfl (pu_move rfl rfl) ?_
      refine g_pu rfl rfl rfl (pu_move rfl rfl) ?_
      refine g_pu rfl rfl rfl (pu_mulI rfl rfl rfl (by omega)) ?_
      refine g_pu rfl rfl rfl (pu_slice_l (4 * i) rfl rfl rfl (by omega) (by omega)) ?_
      refine g_call [] rfl rfl rfl rfl rfl rfl (fun w' hm => word_b w' _ ((hb.cut hd (4 * i)).m hm) (by omega)) (fun _ _ => ?_)
      refine g_pu rfl rfl rfl (pu_atA1 (13 + i) rfl rfl rfl (by omega) (by omega)) ?_
      refine g_store 7 (v := b32 (word4 (nonce.drop (4 * i)))) rfl rfl rfl rfl rfl rfl rfl (by rw [ws_length, fillW_length]; omega) ?_
      rw [ws_set, fillW_set hg]
      refine g_nil ?_
      refine g_blk ?_
      (repeat refine g_seq ?_)
      refine g_region ?_
      refine g_pu rfl rfl rfl (pu_addI rfl rfl rfl (by omega)) ?_
      refine g_pu rfl rfl rfl (pu_move rfl rfl) ?_
      refine g_nil ?_
      exact g_round (i + 1) (by omega) (by omega) ⟨rfl, rfl, rfl, rfl, trivial⟩ ⟨rfl, rfl, trivial⟩
    · (repeat refine g_seq ?_)
      refine g_region ?_
      first | refine g_pu rfl rfl rfl (pu_lss_t rfl rfl rfl (by omega)) ?_ | refine g_pu rfl rfl rfl (pu_lss_f rfl rfl rfl (by omega)) ?_ | refine g_pu rfl rfl rfl (pu_lss rfl rfl rfl) ?_
      refine g_nil ?_
      (repeat refine g_seq ?_)
      refine g_cond_f rfl (g_exit rfl ?_)
      have e : i = 3 := by omega
      subst e
      have hfe : fillW 0#32 full (13 + 3) = full := by have := fillW_end 0#32 full; rwa [hl] at this
      rw [hfe]
      (repeat refine g_seq ?_)
      refine g_region ?_
      refine g_pu rfl rfl rfl (pu_loadW 7 rfl rfl rfl (by rw [ws_length, hl])) ?_
      refine g_storeL 6 (C := ws full) rfl rfl rfl rfl rfl rfl (by rw [ws_length, hl]) (by simp [ws]) (oneCell_ws _) ?_
      refine g_nil ?_
      exact g_retL 6 (L := ws full) rfl (by rw [ws_length, hl]) rfl rfl (fun w' hm => ⟨(), trivial, rfl, hm.grows [] trivial rfl⟩)

def qrAt (s : List (BitVec 32)) (a b c d : Nat) : List (BitVec 32) :=
  (((s.set a (quarter (s.getD a 0#32, s.getD b 0#32, s.getD c 0#32, s.getD d 0#32)).1).set b (quarter (s.getD a 0#32, s.getD b 0#32, s.getD c 0#32, s.getD d 0#32)).2.1).set c (quarter (s.getD a 0#32, s.getD b 0#32, s.getD c 0#32, s.getD d 0#32)).2.2.1).set d (quarter (s.getD a 0#32, s.getD b 0#32, s.getD c 0#32, s.getD d 0#32)).2.2.2
theorem qrAt_length (s : List (BitVec 32)) (a b c d : Nat) : (qrAt s a b c d).length = s.length := by simp [qrAt]

theorem round_b (w : World) (bb : Nat) {s : List (BitVec 32)} (h : w.heap[bb]? = some (.cells (ws s).toArray 74 (0, 0))) (hs : s.length = 16) (a b c d : Nat) (ha : a < 16) (hb : b < 16) (hc : c < 16) (hd : d < 16) :
    Spec Try.prog 38 #[.pointer (some ⟨bb, 0, none⟩), .int .i64 (a : Int), .int .i64 (b : Int), .int .i64 (c : Int), .int .i64 (d : Int)] w (σ := Unit) (fun _ => True) (fun _ => .tuple #[]) (fun j => j = bb) (fun _ => [.pt bb (.cells (ws (qrAt s a b c d)).toArray 74 (0, 0))]) := by
  refine enter Try.func38 rfl rfl (Mem.start1 (.pt bb (.cells (ws s).toArray 74 (0, 0))) h trivial (fun j hj => by rw [show j = bb from hj]; exact lt_of_some h)) ?_
  have g : ∀ j, j < 16 → s[j]? = some (s.getD j 0#32) := fun j hj => by
    have : s[j]? = some s[j] := List.getElem?_eq_getElem (by omega)
    simp [List.getD, this]
  (repeat refine g_seq ?_)
  refine g_any (36, [2, 3, 4, 5, 6, 7, 31, 32, 33, 37, 40, 43]) ?_
  refine a_pu 0 rfl rfl rfl rfl (pu_move rfl rfl) rfl rfl (by kernel_rfl) ?_
  refine a_pu 1 rfl rfl rfl rfl (pu_move rfl rfl) rfl rfl (by kernel_rfl) ?_
  first | refine a_mv 2 rfl rfl rfl rfl (fun _ => (pu_move rfl rfl)) rfl rfl rfl (by kernel_rfl) (by kernel_rfl) (by kernel_rfl) rfl ?_
  first | refine a_mv 3 rfl rfl rfl rfl (fun _ => (pu_move rfl rfl)) rfl rfl rfl (by kernel_rfl) (by kernel_rfl) (by kernel_rfl) rfl ?_
  first | refine a_mv 4 rfl rfl rfl rfl (fun _ => (pu_move rfl rfl)) rfl rfl rfl (by kernel_rfl) (by kernel_rfl) (by kernel_rfl) rfl ?_
  first | refine a_mv 5 rfl rfl rfl rfl (fun _ => (pu_move rfl rfl)) rfl rfl rfl (by kernel_rfl) (by kernel_rfl) (by kernel_rfl) rfl ?_
  first | refine a_mv 6 rfl rfl rfl rfl (fun _ => (pu_move rfl rfl)) rfl rfl rfl (by kernel_rfl) (by kernel_rfl) (by kernel_rfl) rfl ?_
  first | refine a_mv 7 rfl rfl rfl rfl (fun _ => (pu_move rfl rfl)) rfl rfl rfl (by kernel_rfl) (by kernel_rfl) (by kernel_rfl) rfl ?_
  refine a_pu 8 rfl rfl rfl rfl (pu_move rfl rfl) rfl rfl (by kernel_rfl) ?_
  refine a_pu 9 rfl rfl rfl rfl (pu_move rfl rfl) rfl rfl (by kernel_rfl) ?_
  refine a_pu 10 rfl rfl rfl rfl (pu_nil rfl rfl) rfl rfl (by kernel_rfl) ?_
  refine a_pu 11 rfl rfl rfl rfl (pu_atA1 a rfl rfl rfl rfl ha) rfl rfl (by kernel_rfl) ?_
  refine a_pu 12 rfl rfl rfl rfl (pu_load 0 rfl rfl rfl (ws_load (g a ha))) rfl rfl (by kernel_rfl) ?_
  refine a_pu 13 rfl rfl rfl rfl (pu_move rfl rfl) rfl rfl (by kernel_rfl) ?_
  refine a_pu 14 rfl rfl rfl rfl (pu_move rfl rfl) rfl rfl (by kernel_rfl) ?_
  refine a_pu 15 rfl rfl rfl rfl (pu_nil rfl rfl) rfl rfl (by kernel_rfl) ?_
  refine a_pu 16 rfl rfl rfl rfl (pu_atA1 b rfl rfl rfl rfl hb) rfl rfl (by kernel_rfl) ?_
  refine a_pu 17 rfl rfl rfl rfl (pu_load 0 rfl rfl rfl (ws_load (g b hb))) rfl rfl (by kernel_rfl) ?_
  refine a_pu 18 rfl rfl rfl rfl (pu_move rfl rfl) rfl rfl (by kernel_rfl) ?_
  refine a_pu 19 rfl rfl rfl rfl (pu_move rfl rfl) rfl rfl (by kernel_rfl) ?_
  refine a_pu 20 rfl rfl rfl rfl (pu_nil rfl rfl) rfl rfl (by kernel_rfl) ?_
  refine a_pu 21 rfl rfl rfl rfl (pu_atA1 c rfl rfl rfl rfl hc) rfl rfl (by kernel_rfl) ?_
  refine a_pu 22 rfl rfl rfl rfl (pu_load 0 rfl rfl rfl (ws_load (g c hc))) rfl rfl (by kernel_rfl) ?_
  refine a_pu 23 rfl rfl rfl rfl (pu_move rfl rfl) rfl rfl (by kernel_rfl) ?_
  refine a_pu 24 rfl rfl rfl rfl (pu_move rfl rfl) rfl rfl (by kernel_rfl) ?_
  refine a_pu 25 rfl rfl rfl rfl (pu_nil rfl rfl) rfl rfl (by kernel_rfl) ?_
  refine a_pu 26 rfl rfl rfl rfl (pu_atA1 d rfl rfl rfl rfl hd) rfl rfl (by kernel_rfl) ?_
  refine a_pu 27 rfl rfl rfl rfl (pu_load 0 rfl rfl rfl (ws_load (g d hd))) rfl rfl (by kernel_rfl) ?_
  refine a_pu 34 rfl rfl rfl rfl (pu_nil rfl rfl) rfl rfl (by kernel_rfl) ?_
  first | refine a_mv 37 rfl rfl rfl rfl (fun _ => (pu_nil rfl rfl)) rfl rfl rfl (by kernel_rfl) (by kernel_rfl) (by kernel_rfl) rfl ?_
  first | refine a_mv 40 rfl rfl rfl rfl (fun _ => (pu_nil rfl rfl)) rfl rfl rfl (by kernel_rfl) (by kernel_rfl) (by kernel_rfl) rfl ?_
  first | refine a_mv 43 rfl rfl rfl rfl (fun _ => (pu_nil rfl rfl)) rfl rfl rfl (by kernel_rfl) (by kernel_rfl) (by kernel_rfl) rfl ?_
  refine a_do 28 39 [] (does_call rfl rfl rfl rfl rfl (fun w' hm => Quarter_b w' _ _ _ _)) rfl rfl (by kernel_rfl) rfl rfl (by kernel_rfl) (by kernel_rfl) (by kernel_rfl) rfl (fun p hp => by cases hp) ?_; rintro v_ cs_ ⟨_, _, rfl, rfl⟩
  refine a_pu 29 rfl rfl rfl rfl (pu_move rfl rfl) rfl rfl (by kernel_rfl) ?_
  refine a_pu 30 rfl rfl rfl rfl (pu_extract rfl rfl rfl) rfl rfl (by kernel_rfl) ?_
  first | refine a_mv 31 rfl rfl rfl rfl (fun _ => (pu_extract rfl rfl rfl)) rfl rfl rfl (by kernel_rfl) (by kernel_rfl) (by kernel_rfl) rfl ?_
  first | refine a_mv 32 rfl rfl rfl rfl (fun _ => (pu_extract rfl rfl rfl)) rfl rfl rfl (by kernel_rfl) (by kernel_rfl) (by kernel_rfl) rfl ?_
  first | refine a_mv 33 rfl rfl rfl rfl (fun _ => (pu_extract rfl rfl rfl)) rfl rfl rfl (by kernel_rfl) (by kernel_rfl) (by kernel_rfl) rfl ?_
  refine a_pu 35 rfl rfl rfl rfl (pu_atA1 a rfl rfl rfl rfl ha) rfl rfl (by kernel_rfl) ?_
  refine a_tail [36, 38, 39, 41, 42, 44, 45] (by kernel_rfl) rfl rfl (by kernel_rfl) ?_
  refine g_store 0 (v := b32 (quarter (s.getD a 0#32, s.getD b 0#32, s.getD c 0#32, s.getD d 0#32)).1) rfl rfl rfl rfl rfl rfl rfl (by rw [ws_length]; omega) ?_
  rw [ws_set]
  refine g_pu rfl rfl rfl (pu_atA1 b rfl rfl rfl rfl hb) ?_
  refine g_store 0 (v := b32 (quarter (s.getD a 0#32, s.getD b 0#32, s.getD c 0#32, s.getD d 0#32)).2.1) rfl rfl rfl rfl rfl rfl rfl (by simp [ws_length]; omega) ?_
  rw [ws_set]
  refine g_pu rfl rfl rfl (pu_atA1 c rfl rfl rfl rfl hc) ?_
  refine g_store 0 (v := b32 (quarter (s.getD a 0#32, s.getD b 0#32, s.getD c 0#32, s.getD d 0#32)).2.2.1) rfl rfl rfl rfl rfl rfl rfl (by simp [ws_length]; omega) ?_
  rw [ws_set]
  refine g_pu rfl rfl rfl (pu_atA1 d rfl rfl rfl rfl hd) ?_
  refine g_store 0 (v := b32 (quarter (s.getD a 0#32, s.getD b 0#32, s.getD c 0#32, s.getD d 0#32)).2.2.2) rfl rfl rfl rfl rfl rfl rfl (by simp [ws_length]; omega) ?_
  rw [ws_set]
  refine g_nil ?_
  exact g_end0 rfl (fun w' hm => ⟨(), trivial, rfl, hm.grows [0] ⟨rfl, trivial⟩ rfl⟩)
end Go.Sx

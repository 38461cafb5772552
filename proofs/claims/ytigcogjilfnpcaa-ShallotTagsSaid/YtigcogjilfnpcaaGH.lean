import Derived.Test.YtigcogjilfnpcaaYB
import Derived.Test.YtigcogjilfnpcaaYA
import Derived.Test.YtigcogjilfnpcaaXE
set_option linter.unusedVariables false
set_option linter.unusedSimpArgs false
/-
  The quarter round of the stream and of its reference. No condition.
-/
namespace Go.Sx
open Go Go.Proofs

/-- One of the four steps. -/
def tq : Nat → Nat
  | 0 => 16
  | 1 => 12
  | 2 => 8
  | _ => 7
abbrev W4 := BitVec 32 × BitVec 32 × BitVec 32 × BitVec 32
def qstep (i : Nat) (v : W4) : W4 :=
  if i % 2 = 0 then (v.1 + v.2.1, v.2.1, v.2.2.1, rotL (v.2.2.2 ^^^ (v.1 + v.2.1)) (tq i))
  else (v.1, rotL (v.2.1 ^^^ (v.2.2.1 + v.2.2.2)) (tq i), v.2.2.1 + v.2.2.2, v.2.2.2)
def qit (v : W4) : Nat → W4
  | 0 => v
  | i + 1 => qstep i (qit v i)
def quarter (v : W4) : W4 := qit v 4
def cells4 (v : W4) : List Value := [b32 v.1, b32 v.2.1, b32 v.2.2.1, b32 v.2.2.2]

theorem Quarter_b (w : World) (a b c d : BitVec 32) : Spec Try.prog 158 #[b32 a, b32 b, b32 c, b32 d] w (σ := Unit) (fun _ => True) (fun _ => .tuple (cells4 (quarter (a, b, c, d))).toArray) Nob (fun _ => []) := by
  refine enter Try.func158 rfl rfl (Mem.start w) ?_
  (repeat refine g_seq ?_)
  refine g_region ?_
  refine g_pu rfl rfl rfl (pu_assign (v := b32 0#32) rfl rfl) ?_
  refine g_pu rfl rfl rfl (pu_assign (v := b32 0#32) rfl rfl) ?_
  refine g_pu rfl rfl rfl (pu_assign (v := b32 0#32) rfl rfl) ?_
  refine g_pu rfl rfl rfl (pu_assign (v := b32 0#32) rfl rfl) ?_
  refine g_nil ?_
  (repeat refine g_seq ?_)
  refine g_region ?_
  refine g_pu rfl rfl rfl (pu_move rfl rfl) ?_
  refine g_pu rfl rfl rfl (pu_move rfl rfl) ?_
  refine g_pu rfl rfl rfl (pu_add32 rfl rfl rfl) ?_
  refine g_pu rfl rfl rfl (pu_assign rfl rfl) ?_
  refine g_nil ?_
  (repeat refine g_seq ?_)
  refine g_region ?_
  refine g_pu rfl rfl rfl (pu_move rfl rfl) ?_
  refine g_pu rfl rfl rfl (pu_move rfl rfl) ?_
  refine g_pu rfl rfl rfl (pu_xor32 rfl rfl rfl) ?_
  refine g_call [] rfl rfl rfl rfl rfl rfl (fun w' hm => Rot_b w' _ 16 (by omega) (by omega)) (fun _ _ => ?_)
  refine g_pu rfl rfl rfl (pu_assign rfl rfl) ?_
  refine g_nil ?_
  (repeat refine g_seq ?_)
  refine g_region ?_
  refine g_pu rfl rfl rfl (pu_move rfl rfl) ?_
  refine g_pu rfl rfl rfl (pu_move rfl rfl) ?_
  refine g_pu rfl rfl rfl (pu_add32 rfl rfl rfl) ?_
  refine g_pu rfl rfl rfl (pu_assign rfl rfl) ?_
  refine g_nil ?_
  (repeat refine g_seq ?_)
  refine g_region ?_
  refine g_pu rfl rfl rfl (pu_move rfl rfl) ?_
  refine g_pu rfl rfl rfl (pu_move rfl rfl) ?_
  refine g_pu rfl rfl rfl (pu_xor32 rfl rfl rfl) ?_
  refine g_call [] rfl rfl rfl rfl rfl rfl (fun w' hm => Rot_b w' _ 12 (by omega) (by omega)) (fun _ _ => ?_)
  refine g_pu rfl rfl rfl (pu_assign rfl rfl) ?_
  refine g_nil ?_
  (repeat refine g_seq ?_)
  refine g_region ?_
  refine g_pu rfl rfl rfl (pu_move rfl rfl) ?_
  refine g_pu rfl rfl rfl (pu_move rfl rfl) ?_
  refine g_pu rfl rfl rfl (pu_add32 rfl rfl rfl) ?_
  refine g_pu rfl rfl rfl (pu_assign rfl rfl) ?_
  refine g_nil ?_
  (repeat refine g_seq ?_)
  refine g_region ?_
  refine g_pu rfl rfl rfl (pu_move rfl rfl) ?_
  refine g_pu rfl rfl rfl (pu_move rfl rfl) ?_
  refine g_pu rfl rfl rfl (pu_xor32 rfl rfl rfl) ?_
  refine g_call [] rfl rfl rfl rfl rfl rfl (fun w' hm => Rot_b w' _ 8 (by omega) (by omega)) (fun _ _ => ?_)
  refine g_pu rfl rfl rfl (pu_assign rfl rfl) ?_
  refine g_nil ?_
  (repeat refine g_seq ?_)
  refine g_region ?_
  refine g_pu rfl rfl rfl (pu_move rfl rfl) ?_
  refine g_pu rfl rfl rfl (pu_move rfl rfl) ?_
  refine g_pu rfl rfl rfl (pu_add32 rfl rfl rfl) ?_
  refine g_pu rfl rfl rfl (pu_assign rfl rfl) ?_
  refine g_nil ?_
  (repeat refine g_seq ?_)
  refine g_region ?_
  refine g_pu rfl rfl rfl (pu_move rfl rfl) ?_
  refine g_pu rfl rfl rfl (pu_move rfl rfl) ?_
  refine g_pu rfl rfl rfl (pu_xor32 rfl rfl rfl) ?_
  refine g_call [] rfl rfl rfl rfl rfl rfl (fun w' hm => Rot_b w' _ 7 (by omega) (by omega)) (fun _ _ => ?_)
  refine g_pu rfl rfl rfl (pu_assign rfl rfl) ?_
  refine g_nil ?_
  (repeat refine g_seq ?_)
  refine g_region ?_
  refine g_pu rfl rfl rfl (pu_move rfl rfl) ?_
  refine g_pu rfl rfl rfl (pu_move rfl rfl) ?_
  refine g_pu rfl rfl rfl (pu_move rfl rfl) ?_
  refine g_pu rfl rfl rfl (pu_move rfl rfl) ?_
  refine g_pu rfl rfl rfl (pu_assign rfl rfl) ?_
  refine g_pu rfl rfl rfl (pu_assign rfl rfl) ?_
  refine g_pu rfl rfl rfl (pu_assign rfl rfl) ?_
  refine g_pu rfl rfl rfl (pu_assign rfl rfl) ?_
  refine g_nil ?_
  exact g_ret4 rfl rfl rfl rfl rfl (fun w' hm => ⟨(), trivial, rfl, hm.grows [] trivial rfl⟩)

end Go.Sx

/-
  A block of the stream. The key has 32 bytes, the nonce 12.
-/
namespace Go.Sx
open Go Go.Proofs

theorem word_b (w : World) {p : Option Addr} {n : Nat} (c : Nat) {l : List (BitVec 8)} (ha : By w p n l) (h4 : 4 ≤ n) :
    Spec Try.prog 157 #[.slice p n c] w (σ := Unit) (fun _ => True) (fun _ => b32 (word4 l)) Nob (fun _ => []) := by
  refine enter Try.func157 rfl rfl (Mem.start w) ?_
  have hn := ha.len
  have g : ∀ j, j < 4 → l[j]? = some (l.getD j 0#8) := fun j hj => by
    have : l[j]? = some l[j] := List.getElem?_eq_getElem (by omega)
    simp [List.getD, this]
  (repeat refine g_seq ?_)
  refine g_region ?_
  refine g_pu rfl rfl rfl (pu_assign (v := b32 0#32) rfl rfl) ?_
  refine g_nil ?_
  (repeat refine g_seq ?_)
  refine g_any (23, []) ?_
  refine a_pu 0 rfl rfl rfl rfl (pu_move rfl rfl) rfl rfl (by kernel_rfl) ?_
  refine a_pu 1 rfl rfl rfl rfl (pu_atB 0 (fun w' hm => ha.m hm) rfl rfl rfl (by omega) (by omega)) rfl rfl (by kernel_rfl) ?_
  refine a_pu 2 rfl rfl rfl rfl (pu_rdB (fun w' hm => ha.m hm) rfl rfl (g 0 (by omega))) rfl rfl (by kernel_rfl) ?_
  refine a_pu 3 rfl rfl rfl rfl (pu_conv8_32 rfl rfl) rfl rfl (by kernel_rfl) ?_
  refine a_pu 4 rfl rfl rfl rfl (pu_move rfl rfl) rfl rfl (by kernel_rfl) ?_
  refine a_pu 5 rfl rfl rfl rfl (pu_atB 1 (fun w' hm => ha.m hm) rfl rfl rfl (by omega) (by omega)) rfl rfl (by kernel_rfl) ?_
  refine a_pu 6 rfl rfl rfl rfl (pu_rdB (fun w' hm => ha.m hm) rfl rfl (g 1 (by omega))) rfl rfl (by kernel_rfl) ?_
  refine a_pu 7 rfl rfl rfl rfl (pu_conv8_32 rfl rfl) rfl rfl (by kernel_rfl) ?_
  refine a_pu 8 rfl rfl rfl rfl (pu_shl32 rfl rfl rfl (by omega)) rfl rfl (by kernel_rfl) ?_
  refine a_pu 9 rfl rfl rfl rfl (pu_or32 rfl rfl rfl) rfl rfl (by kernel_rfl) ?_
  refine a_pu 10 rfl rfl rfl rfl (pu_move rfl rfl) rfl rfl (by kernel_rfl) ?_
  refine a_pu 11 rfl rfl rfl rfl (pu_atB 2 (fun w' hm => ha.m hm) rfl rfl rfl (by omega) (by omega)) rfl rfl (by kernel_rfl) ?_
  refine a_pu 12 rfl rfl rfl rfl (pu_rdB (fun w' hm => ha.m hm) rfl rfl (g 2 (by omega))) rfl rfl (by kernel_rfl) ?_
  refine a_pu 13 rfl rfl rfl rfl (pu_conv8_32 rfl rfl) rfl rfl (by kernel_rfl) ?_
  refine a_pu 14 rfl rfl rfl rfl (pu_shl32 rfl rfl rfl (by omega)) rfl rfl (by kernel_rfl) ?_
  refine a_pu 15 rfl rfl rfl rfl (pu_or32 rfl rfl rfl) rfl rfl (by kernel_rfl) ?_
  refine a_pu 16 rfl rfl rfl rfl (pu_move rfl rfl) rfl rfl (by kernel_rfl) ?_
  refine a_pu 17 rfl rfl rfl rfl (pu_atB 3 (fun w' hm => ha.m hm) rfl rfl rfl (by omega) (by omega)) rfl rfl (by kernel_rfl) ?_
  refine a_pu 18 rfl rfl rfl rfl (pu_rdB (fun w' hm => ha.m hm) rfl rfl (g 3 (by omega))) rfl rfl (by kernel_rfl) ?_
  refine a_pu 19 rfl rfl rfl rfl (pu_conv8_32 rfl rfl) rfl rfl (by kernel_rfl) ?_
  refine a_pu 20 rfl rfl rfl rfl (pu_shl32 rfl rfl rfl (by omega)) rfl rfl (by kernel_rfl) ?_
  refine a_pu 21 rfl rfl rfl rfl (pu_or32 rfl rfl rfl) rfl rfl (by kernel_rfl) ?_
  refine a_pu 22 rfl rfl rfl rfl (pu_assign rfl rfl) rfl rfl (by kernel_rfl) ?_
  refine a_done (by kernel_rfl) ?_
  exact g_ret1 rfl rfl (fun w' hm => ⟨(), trivial, rfl, hm.grows [] trivial rfl⟩)

def sigma : List (BitVec 32) := [1634760805#32, 857760878#32, 2036477234#32, 1797285236#32]
def stateL (key nonce : List (BitVec 8)) (ctr : BitVec 32) : List (BitVec 32) := sigma ++ wordsL key ++ [ctr] ++ wordsL nonce
end Go.Sx

/-
  The words of a block ahead of all rounds, and one round at four places. The key has 32 bytes, the nonce 12.
-/
namespace Go.Sx
open Go Go.Proofs

theorem wordsL_length (l : List (BitVec 8)) : (wordsL l).length = l.length / 4 := by simp [wordsL]
theorem wordsL_get {l : List (BitVec 8)} {i : Nat} (h : i < l.length / 4) : (wordsL l)[i]? = some (word4 (l.drop (4 * i))) := by simp [wordsL, h]
theorem stateL_length {key nonce : List (BitVec 8)} {ctr : BitVec 32} (hk : key.length = 32) (hn : nonce.length = 12) : (stateL key nonce ctr).length = 16 := by simp [stateL, sigma, wordsL_length, hk, hn]
theorem stateL_key {key nonce : List (BitVec 8)} {ctr : BitVec 32} (hk : key.length = 32) {i : Nat} (h : i < 8) : (stateL key nonce ctr)[4 + i]? = some (word4 (key.drop (4 * i))) := by
  have h1 : (wordsL key).length = 8 := by rw [wordsL_length, hk]
  unfold stateL
  rw [List.append_assoc, List.append_assoc, List.getElem?_append_right (by simp [sigma]), List.getElem?_append_left (by simp [sigma, h1]; try omega)]
  rw [show 4 + i - sigma.length = i by simp [sigma], wordsL_get (by omega)]
theorem stateL_ctr {key nonce : List (BitVec 8)} {ctr : BitVec 32} (hk : key.length = 32) : (stateL key nonce ctr)[12]? = some ctr := by
  have h1 : (wordsL key).length = 8 := by rw [wordsL_length, hk]
  unfold stateL
  rw [List.append_assoc, List.getElem?_append_right (by simp [sigma, h1])]
  simp [sigma, h1]
theorem stateL_nonce {key nonce : List (BitVec 8)} {ctr : BitVec 32} (hk : key.length = 32) (hn : nonce.length = 12) {i : Nat} (h : i < 3) : (stateL key nonce ctr)[13 + i]? = some (word4 (nonce.drop (4 * i))) := by
  have h1 : (wordsL key).length = 8 := by rw [wordsL_length, hk]
  unfold stateL
  rw [List.getElem?_append_right (by simp [sigma, h1])]
  rw [show 13 + i - (sigma ++ wordsL key ++ [ctr]).length = i by simp [sigma, h1], wordsL_get (by omega)]
theorem stateL_start {key nonce : List (BitVec 8)} {ctr : BitVec 32} (hk : key.length = 32) (hn : nonce.length = 12) : sigma ++ List.replicate 12 0#32 = fillW 0#32 (stateL key nonce ctr) 4 := by
  unfold fillW
  rw [stateL_length hk hn]
  congr 1

theorem state_b (w : World) {p q : Option Addr} (c d : Nat) {key nonce : List (BitVec 8)} (ctr : BitVec 32) (ha : By w p 32 key) (hb : By w q 12 nonce) (hc : 32 ≤ c) (hd : 12 ≤ d) :
    Spec Try.prog 144 #[.slice p 32 c, .slice q 12 d, b32 ctr] w (σ := Unit) (fun _ => True) (fun _ => .agg (ws (stateL key nonce ctr)).toArray) Nob (fun _ => []) := by
  refine enter Try.func144 rfl rfl (Mem.start w) ?_
  have hk := ha.len
  have hn := hb.len
  have hl := stateL_length (ctr := ctr) hk hn
  generalize hfull : stateL key nonce ctr = full at hl
  (repeat refine g_seq ?_)
  refine g_region ?_
  refine g_lo [6] rfl rfl rfl rfl (lo_alloc rfl) (fun b6 hb6 => ?_)
  refine g_nil ?_
  (repeat refine g_seq ?_)
  refine g_region ?_
  refine g_pu rfl rfl rfl (pu_buildA' (cs := ws (sigma ++ List.replicate 12 0#32)) rfl rfl rfl) ?_
  refine g_lo [7] rfl rfl rfl rfl (lo_alloc rfl) (fun b7 hb7 => ?_)
  refine g_storeL 7 (C := ws (sigma ++ List.replicate 12 0#32)) rfl rfl rfl rfl rfl rfl rfl rfl (oneCell_ws _) ?_
  rw [stateL_start (ctr := ctr) hk hn, hfull]
  refine g_nil ?_
  (repeat refine g_seq ?_)
  refine g_region ?_
  refine g_pu rfl rfl rfl (pu_move rfl rfl) ?_
  refine g_nil ?_
  (repeat refine g_seq ?_)
  refine g_block (g_loop (σ := Nat) (fun i => [(0, .slice p 32 c), (1, .slice q 12 d), (2, b32 ctr), (6, .pointer (some ⟨b6, 0, none⟩)), (7, .pointer (some ⟨b7, 0, none⟩)), (11, .int .i64 (i : Int))]) (fun i => [(6, .pt b6 (.cells (ws (List.replicate 16 0#32)).toArray 233 (0, 0))), (7, .pt b7 (.cells (ws (fillW 0#32 full (4 + i))).toArray 233 (0, 0)))]) (fun i => i ≤ 8) (fun i => 8 - i) 0 ⟨rfl, rfl, rfl, rfl, rfl, rfl, trivial⟩ ⟨rfl, rfl, trivial⟩ (by omega) ?_)
  intro i hi
  by_cases hlt : i < 8
  · (repeat refine g_seq ?_)
    refine g_region ?_
    first | refine g_pu rfl rfl rfl (pu_lss_t rfl rfl rfl (by omega)) ?_ | refine g_pu rfl rfl rfl (pu_lss_f rfl rfl rfl (by omega)) ?_ | refine g_pu rfl rfl rfl (pu_lss rfl rfl rfl) ?_
    refine g_nil ?_
    (repeat refine g_seq ?_)
    refine g_cond_t rfl (g_skip ?_)
    have hg := stateL_key (nonce := nonce) (ctr := ctr) hk hlt
    rw [hfull] at hg
    (repeat refine g_seq ?_); refine g_block ?_
    (repeat refine g_seq ?_)
    refine g_region ?_
    refine g_pu rfl rfl rfl (pu_move rfl rfl) ?_
    refine g_pu rfl rfl rfl (pu_assign rfl rfl) ?_
    refine g_nil ?_
    (repeat refine g_seq ?_)
    refine g_region ?_
    refine g_pu rfl rfl rfl (pu_move rfl rfl) ?_
    refine g_pu rfl rfl rfl (pu_addI rfl rfl rfl (by omega)) ?_
    refine g_pu rfl rfl rfl (pu_move rfl rfl) ?_
    refine g_pu rfl rfl rfl (pu_move rfl rfl) ?_
    refine g_pu rfl rfl rfl (pu_mulI rfl rfl rfl (by omega)) ?_
    refine g_pu rfl rfl rfl (pu_slice_l (4 * i) rfl rfl rfl (by omega) (by omega)) ?_
    refine g_call [] rfl rfl rfl rfl rfl rfl (fun w' hm => word_b w' _ ((ha.cut hc (4 * i)).m hm) (by omega)) (fun _ _ => ?_)
    refine g_pu rfl rfl rfl (pu_atA1 (4 + i) rfl rfl rfl (by omega) (by omega)) ?_
    refine g_store 7 (v := b32 (word4 (key.drop (4 * i)))) rfl rfl rfl rfl rfl rfl rfl (by rw [ws_length, fillW_length]; omega) ?_
    rw [ws_set, fillW_set hg]
    refine g_nil ?_
    refine g_blk ?_
    (repeat refine g_seq ?_)
    refine g_region ?_
    refine g_pu rfl rfl rfl (pu_addI rfl rfl rfl (by omega)) ?_
    refine g_pu rfl rfl rfl (pu_move rfl rfl) ?_
    refine g_nil ?_
    exact g_round (i + 1) (by omega) (by omega) ⟨rfl, rfl, rfl, rfl, rfl, rfl, trivial⟩ ⟨rfl, rfl, trivial⟩
  · (repeat refine g_seq ?_)
    refine g_region ?_
    first | refine g_pu rfl rfl rfl (pu_lss_t rfl rfl rfl (by omega)) ?_ | refine g_pu rfl rfl rfl (pu_lss_f rfl rfl rfl (by omega)) ?_ | refine g_pu rfl rfl rfl (pu_lss rfl rfl rfl) ?_
    refine g_nil ?_
    (repeat refine g_seq ?_)
    refine g_cond_f rfl (g_exit rfl ?_)
    have e : i = 8 := by omega
    subst e
    have hg := stateL_ctr (nonce := nonce) (ctr := ctr) hk
    rw [hfull] at hg
    (repeat refine g_seq ?_)
    refine g_region ?_
    refine g_pu rfl rfl rfl (pu_move rfl rfl) ?_
    refine g_pu rfl rfl rfl (pu_atA1 12 rfl rfl rfl rfl (by omega)) ?_
    refine g_store 7 (v := b32 ctr) rfl rfl rfl rfl rfl rfl rfl (by rw [ws_length, fillW_length]; omega) ?_
    rw [ws_set, fillW_set hg]
    refine g_nil ?_
    (repeat refine g_seq ?_)
    refine g_region ?_
    refine g_pu rfl rfl rfl (pu_move rfl rfl) ?_
    refine g_nil ?_
    (repeat refine g_seq ?_)
    refine g_block (g_loop (σ := Nat) (fun i => [(1, .slice q 12 d), (6, .pointer (some ⟨b6, 0, none⟩)), (7, .pointer (some ⟨b7, 0, none⟩)), (25, .int .i64 (i : Int))]) (fun i => [(6, .pt b6 (.cells (ws (List.replicate 16 0#32)).toArray 233 (0, 0))), (7, .pt b7 (.cells (ws (fillW 0#32 full (13 + i))).toArray 233 (0, 0)))]) (fun i => i ≤ 3) (fun i => 3 - i) 0 ⟨rfl, rfl, rfl, rfl, trivial⟩ ⟨rfl, rfl, trivial⟩ (by omega) ?_)
    intro i hi
    by_cases hlt : i < 3
    · (repeat refine g_seq ?_)
      refine g_region ?_
      first | refine g_pu rfl rfl rfl (pu_lss_t rfl rfl rfl (by omega)) ?_ | refine g_pu rfl rfl rfl (pu_lss_f rfl rfl rfl (by omega)) ?_ | refine g_pu rfl rfl rfl (pu_lss rfl rfl rfl) ?_
      refine g_nil ?_
      (repeat refine g_seq ?_)
      refine g_cond_t rfl (g_skip ?_)
      have hg := stateL_nonce (ctr := ctr) hk hn hlt
      rw [hfull] at hg
      (repeat refine g_seq ?_); refine g_block ?_
      (repeat refine g_seq ?_)
      refine g_region ?_
      refine g_pu rfl rfl rfl (pu_move rfl rfl) ?_
      refine g_pu rfl rfl rfl (pu_assign rfl rfl) ?_
      refine g_nil ?_
      (repeat refine g_seq ?_)
      refine g_region ?_
      refine g_pu rfl rfl rfl (pu_move rfl rfl) ?_
      refine g_pu rfl rfl rfl (pu_addI rfl rfl rfl (by omega)) ?_
      refine g_pu rfl rfl rfl (pu_move rfl rfl) ?_
      refine g_pu rfl rfl rfl (pu_move rfl rfl) ?_
      refine g_pu rfl rfl rfl (pu_mulI rfl rfl rfl (by omega)) ?_
      refine g_pu rfl rfl rfl (pu_slice_l (4 * i) rfl rfl rfl (by omega) (by omega)) ?_
      refine g_call [] rfl rfl rfl rfl rfl rfl (fun w' hm => word_b w' _ ((hb.cut hd (4 * i)).m hm) (by omega)) (fun _ _ => ?_)
      refine g_pu rfl rfl rfl (pu_atA1 (13 + i) rfl rfl rfl (by omega) (by omega)) ?_
      refine g_store 7 (v := b32 (word4 (nonce.drop (4 * i)))) rfl rfl rfl rfl rfl rfl rfl (by rw [ws_length, fillW_length]; omega) ?_
      rw [ws_set, fillW_set hg]
      refine g_nil ?_
      refine g_blk ?_
      (repeat refine g_seq ?_)
      refine g_region ?_
      refine g_pu rfl rfl rfl (pu_addI rfl rfl rfl (by omega)) ?_
      refine g_pu rfl rfl rfl (pu_move rfl rfl) ?_
      refine g_nil ?_
      exact g_round (i + 1) (by omega) (by omega) ⟨rfl, rfl, rfl, rfl, trivial⟩ ⟨rfl, rfl, trivial⟩
    · (repeat refine g_seq ?_)
      refine g_region ?_
      first | refine g_pu rfl rfl rfl (pu_lss_t rfl rfl rfl (by omega)) ?_ | refine g_pu rfl rfl rfl (pu_lss_f rfl rfl rfl (by omega)) ?_ | refine g_pu rfl rfl rfl (pu_lss rfl rfl rfl) ?_
      refine g_nil ?_
      (repeat refine g_seq ?_)
      refine g_cond_f rfl (g_exit rfl ?_)
      have e : i = 3 := by omega
      subst e
      have hfe : fillW 0#32 full (13 + 3) = full := by have := fillW_end 0#32 full; rwa [hl] at this
      rw [hfe]
      (repeat refine g_seq ?_)
      refine g_region ?_
      refine g_pu rfl rfl rfl (pu_loadW 7 rfl rfl rfl (by rw [ws_length, hl])) ?_
      refine g_storeL 6 (C := ws full) rfl rfl rfl rfl rfl rfl (by rw [ws_length, hl]) (by simp [ws]) (oneCell_ws _) ?_
      refine g_nil ?_
      exact g_retL 6 (L := ws full) rfl (by rw [ws_length, hl]) rfl rfl (fun w' hm => ⟨(), trivial, rfl, hm.grows [] trivial rfl⟩)

def qrAt (s : List (BitVec 32)) (a b c d : Nat) : List (BitVec 32) :=
  (((s.set a (quarter (s.getD a 0#32, s.getD b 0#32, s.getD c 0#32, s.getD d 0#32)).1).set b (quarter (s.getD a 0#32, s.getD b 0#32, s.getD c 0#32, s.getD d 0#32)).2.1).set c (quarter (s.getD a 0#32, s.getD b 0#32, s.getD c 0#32, s.getD d 0#32)).2.2.1).set d (quarter (s.getD a 0#32, s.getD b 0#32, s.getD c 0#32, s.getD d 0#32)).2.2.2
theorem qrAt_length (s : List (BitVec 32)) (a b c d : Nat) : (qrAt s a b c d).length = s.length := by simp [qrAt]

theorem round_b (w : World) (bb : Nat) {s : List (BitVec 32)} (h : w.heap[bb]? = some (.cells (ws s).toArray 233 (0, 0))) (hs : s.length = 16) (a b c d : Nat) (ha : a < 16) (hb : b < 16) (hc : c < 16) (hd : d < 16) :
    Spec Try.prog 145 #[.pointer (some ⟨bb, 0, none⟩), .int .i64 (a : Int), .int .i64 (b : Int), .int .i64 (c : Int), .int .i64 (d : Int)] w (σ := Unit) (fun _ => True) (fun _ => .tuple #[]) (fun j => j = bb) (fun _ => [.pt bb (.cells (ws (qrAt s a b c d)).toArray 233 (0, 0))]) := by
  refine enter Try.func145 rfl rfl (Mem.start1 (.pt bb (.cells (ws s).toArray 233 (0, 0))) h trivial (fun j hj => by rw [show j = bb from hj]; exact lt_of_some h)) ?_
  have g : ∀ j, j < 16 → s[j]? = some (s.getD j 0#32) := fun j hj => by
    have : s[j]? = some s[j] := List.getElem?_eq_getElem (by omega)
    simp [List.getD, this]
  (repeat refine g_seq ?_)
  refine g_any (36, [2, 3, 4, 5, 6, 7, 31, 32, 33, 37, 40, 43]) ?_
  refine a_pu 0 rfl rfl rfl rfl (pu_move rfl rfl) rfl rfl (by kernel_rfl) ?_
  refine a_pu 1 rfl rfl rfl rfl (pu_move rfl rfl) rfl rfl (by kernel_rfl) ?_
  first | refine a_mv 2 rfl rfl rfl rfl (fun _ => (pu_move rfl rfl)) rfl rfl rfl (by kernel_rfl) (by kernel_rfl) (by kernel_rfl) rfl ?_
  first | refine a_mv 3 rfl rfl rfl rfl (fun _ => (pu_move rfl rfl)) rfl rfl rfl (by kernel_rfl) (by kernel_rfl) (by kernel_rfl) rfl ?_
  first | refine a_mv 4 rfl rfl rfl rfl (fun _ => (pu_move rfl rfl)) rfl rfl rfl (by kernel_rfl) (by kernel_rfl) (by kernel_rfl) rfl ?_
  first | refine a_mv 5 rfl rfl rfl rfl (fun _ => (pu_move rfl rfl)) rfl rfl rfl (by kernel_rfl) (by kernel_rfl) (by kernel_rfl) rfl ?_
  first | refine a_mv 6 rfl rfl rfl rfl (fun _ => (pu_move rfl rfl)) rfl rfl rfl (by kernel_rfl) (by kernel_rfl) (by kernel_rfl) rfl ?_
  first | refine a_mv 7 rfl rfl rfl rfl (fun _ => (pu_move rfl rfl)) rfl rfl rfl (by kernel_rfl) (by kernel_rfl) (by kernel_rfl) rfl ?_
  refine a_pu 8 rfl rfl rfl rfl (pu_move rfl rfl) rfl rfl (by kernel_rfl) ?_
  refine a_pu 9 rfl rfl rfl rfl (pu_move rfl rfl) rfl rfl (by kernel_rfl) ?_
  refine a_pu 10 rfl rfl rfl rfl (pu_nil rfl rfl) rfl rfl (by kernel_rfl) ?_
  refine a_pu 11 rfl rfl rfl rfl (pu_atA1 a rfl rfl rfl rfl ha) rfl rfl (by kernel_rfl) ?_
  refine a_pu 12 rfl rfl rfl rfl (pu_load 0 rfl rfl rfl (ws_load (g a ha))) rfl rfl (by kernel_rfl) ?_
  refine a_pu 13 rfl rfl rfl rfl (pu_move rfl rfl) rfl rfl (by kernel_rfl) ?_
  refine a_pu 14 rfl rfl rfl rfl (pu_move rfl rfl) rfl rfl (by kernel_rfl) ?_
  refine a_pu 15 rfl rfl rfl rfl (pu_nil rfl rfl) rfl rfl (by kernel_rfl) ?_
  refine a_pu 16 rfl rfl rfl rfl (pu_atA1 b rfl rfl rfl rfl hb) rfl rfl (by kernel_rfl) ?_
  refine a_pu 17 rfl rfl rfl rfl (pu_load 0 rfl rfl rfl (ws_load (g b hb))) rfl rfl (by kernel_rfl) ?_
  refine a_pu 18 rfl rfl rfl rfl (pu_move rfl rfl) rfl rfl (by kernel_rfl) ?_
  refine a_pu 19 rfl rfl rfl rfl (pu_move rfl rfl) rfl rfl (by kernel_rfl) ?_
  refine a_pu 20 rfl rfl rfl rfl (pu_nil rfl rfl) rfl rfl (by kernel_rfl) ?_
  refine a_pu 21 rfl rfl rfl rfl (pu_atA1 c rfl rfl rfl rfl hc) rfl rfl (by kernel_rfl) ?_
  refine a_pu 22 rfl rfl rfl rfl (pu_load 0 rfl rfl rfl (ws_load (g c hc))) rfl rfl (by kernel_rfl) ?_
  refine a_pu 23 rfl rfl rfl rfl (pu_move rfl rfl) rfl rfl (by kernel_rfl) ?_
  refine a_pu 24 rfl rfl rfl rfl (pu_move rfl rfl) rfl rfl (by kernel_rfl) ?_
  refine a_pu 25 rfl rfl rfl rfl (pu_nil rfl rfl) rfl rfl (by kernel_rfl) ?_
  refine a_pu 26 rfl rfl rfl rfl (pu_atA1 d rfl rfl rfl rfl hd) rfl rfl (by kernel_rfl) ?_
  refine a_pu 27 rfl rfl rfl rfl (pu_load 0 rfl rfl rfl (ws_load (g d hd))) rfl rfl (by kernel_rfl) ?_
  refine a_pu 34 rfl rfl rfl rfl (pu_nil rfl rfl) rfl rfl (by kernel_rfl) ?_
  first | refine a_mv 37 rfl rfl rfl rfl (fun _ => (pu_nil rfl rfl)) rfl rfl rfl (by kernel_rfl) (by kernel_rfl) (by kernel_rfl) rfl ?_
  first | refine a_mv 40 rfl rfl rfl rfl (fun _ => (pu_nil rfl rfl)) rfl rfl rfl (by kernel_rfl) (by kernel_rfl) (by kernel_rfl) rfl ?_
  first | refine a_mv 43 rfl rfl rfl rfl (fun _ => (pu_nil rfl rfl)) rfl rfl rfl (by kernel_rfl) (by kernel_rfl) (by kernel_rfl) rfl ?_
  refine a_do 28 39 [] (does_call rfl rfl rfl rfl rfl (fun w' hm => Quarter_b w' _ _ _ _)) rfl rfl (by kernel_rfl) rfl rfl (by kernel_rfl) (by kernel_rfl) (by kernel_rfl) rfl (fun p hp => by cases hp) ?_; rintro v_ cs_ ⟨_, _, rfl, rfl⟩
  refine a_pu 29 rfl rfl rfl rfl (pu_move rfl rfl) rfl rfl (by kernel_rfl) ?_
  refine a_pu 30 rfl rfl rfl rfl (pu_extract rfl rfl rfl) rfl rfl (by kernel_rfl) ?_
  first | refine a_mv 31 rfl rfl rfl rfl (fun _ => (pu_extract rfl rfl rfl)) rfl rfl rfl (by kernel_rfl) (by kernel_rfl) (by kernel_rfl) rfl ?_
  first | refine a_mv 32 rfl rfl rfl rfl (fun _ => (pu_extract rfl rfl rfl)) rfl rfl rfl (by kernel_rfl) (by kernel_rfl) (by kernel_rfl) rfl ?_
  first | refine a_mv 33 rfl rfl rfl rfl (fun _ => (pu_extract rfl rfl rfl)) rfl rfl rfl (by kernel_rfl) (by kernel_rfl) (by kernel_rfl) rfl ?_
  refine a_pu 35 rfl rfl rfl rfl (pu_atA1 a rfl rfl rfl rfl ha) rfl rfl (by kernel_rfl) ?_
  refine a_tail [36, 38, 39, 41, 42, 44, 45] (by kernel_rfl) rfl rfl (by kernel_rfl) ?_
  refine g_store 0 (v := b32 (quarter (s.getD a 0#32, s.getD b 0#32, s.getD c 0#32, s.getD d 0#32)).1) rfl rfl rfl rfl rfl rfl rfl (by rw [ws_length]; omega) ?_
  rw [ws_set]
  refine g_pu rfl rfl rfl (pu_atA1 b rfl rfl rfl rfl hb) ?_
  refine g_store 0 (v := b32 (quarter (s.getD a 0#32, s.getD b 0#32, s.getD c 0#32, s.getD d 0#32)).2.1) rfl rfl rfl rfl rfl rfl rfl (by simp [ws_length]; omega) ?_
  rw [ws_set]
  refine g_pu rfl rfl rfl (pu_atA1 c rfl rfl rfl rfl hc) ?_
  refine g_store 0 (v := b32 (quarter (s.getD a 0#32, s.getD b 0#32, s.getD c 0#32, s.getD d 0#32)).2.2.1) rfl rfl rfl rfl rfl rfl rfl (by simp [ws_length]; omega) ?_
  rw [ws_set]
  refine g_pu rfl rfl rfl (pu_atA1 d rfl rfl rfl rfl hd) ?_
  refine g_store 0 (v := b32 (quarter (s.getD a 0#32, s.getD b 0#32, s.getD c 0#32, s.getD d 0#32)).2.2.2) rfl rfl rfl rfl rfl rfl rfl (by simp [ws_length]; omega) ?_
  rw [ws_set]
  refine g_nil ?_
  exact g_end0 rfl (fun w' hm => ⟨(), trivial, rfl, hm.grows [0] ⟨rfl, trivial⟩ rfl⟩)
end Go.Sx

/-
  A block of the stream: all rounds, and its bytes. The key has 32 bytes, the nonce 12.
-/
namespace Go.Sx
open Go Go.Proofs

/-- The four places of round i. -/
def pl (i : Nat) : Nat × Nat × Nat × Nat := if i < 4 then (i, 4 + i, 8 + i, 12 + i) else (i - 4, 4 + (i - 4 + 1) % 4, 8 + (i - 4 + 2) % 4, 12 + (i - 4 + 3) % 4)
def rnds (s : List (BitVec 32)) : Nat → List (BitVec 32)
  | 0 => s
  | k + 1 => qrAt (rnds s k) (pl (k % 8)).1 (pl (k % 8)).2.1 (pl (k % 8)).2.2.1 (pl (k % 8)).2.2.2
theorem rnds_length (s : List (BitVec 32)) : ∀ k, (rnds s k).length = s.length
  | 0 => rfl
  | k + 1 => by rw [rnds, qrAt_length, rnds_length s k]
theorem rnds_col {s : List (BitVec 32)} {r i : Nat} (h : i < 4) : rnds s (8 * r + (i + 1)) = qrAt (rnds s (8 * r + i)) i (4 + i) (8 + i) (12 + i) := by
  rw [show 8 * r + (i + 1) = (8 * r + i) + 1 by omega, rnds]
  have e : (8 * r + i) % 8 = i := by omega
  rw [e]
  unfold pl
  rw [if_pos h]
theorem rnds_diag {s : List (BitVec 32)} {r i : Nat} (h : i < 4) : rnds s (8 * r + 4 + (i + 1)) = qrAt (rnds s (8 * r + 4 + i)) i (4 + (i + 1) % 4) (8 + (i + 2) % 4) (12 + (i + 3) % 4) := by
  rw [show 8 * r + 4 + (i + 1) = (8 * r + 4 + i) + 1 by omega, rnds]
  have e : (8 * r + 4 + i) % 8 = 4 + i := by omega
  rw [e]
  unfold pl
  rw [if_neg (by omega), show 4 + i - 4 = i by omega]
/-- The bytes of words, the least first. -/
def bytesOfW (f : Nat → BitVec 32) (n : Nat) : List (BitVec 8) := (List.range (4 * n)).map fun k => ((f (k / 4)) >>> (8 * (k % 4))).setWidth 8
theorem bytesOfW_get {f : Nat → BitVec 32} {n i r : Nat} (hi : i < n) (hr : r < 4) : (bytesOfW f n)[4 * i + r]? = some (((f i) >>> (8 * r)).setWidth 8) := by
  unfold bytesOfW
  rw [List.getElem?_map, List.getElem?_range (by omega)]
  simp only [Option.map_some, Option.some.injEq]
  rw [show (4 * i + r) / 4 = i by omega, show (4 * i + r) % 4 = r by omega]
theorem bytesOfW_length (f : Nat → BitVec 32) (n : Nat) : (bytesOfW f n).length = 4 * n := by simp [bytesOfW]
def sumW (a b : List (BitVec 32)) (i : Nat) : BitVec 32 := a.getD i 0#32 + b.getD i 0#32
def blockB (key nonce : List (BitVec 8)) (ctr : BitVec 32) : List (BitVec 8) := bytesOfW (sumW (rnds (stateL key nonce ctr) 80) (stateL key nonce ctr)) 16
theorem blockB_length (key nonce : List (BitVec 8)) (ctr : BitVec 32) : (blockB key nonce ctr).length = 64 := bytesOfW_length _ _

theorem block_b (w : World) {p q : Option Addr} (c d : Nat) {key nonce : List (BitVec 8)} (ctr : BitVec 32) (ha : By w p 32 key) (hb : By w q 12 nonce) (hc : 32 ≤ c) (hd : 12 ≤ d) :
    Spec Try.prog 123 #[.slice p 32 c, .slice q 12 d, b32 ctr] w (σ := Unit) (fun _ => True) (fun _ => .agg (bs (blockB key nonce ctr)).toArray) Nob (fun _ => []) := by
  refine enter Try.func123 rfl rfl (Mem.start w) ?_
  have hl := stateL_length (ctr := ctr) ha.len hb.len
  have hbl := blockB_length key nonce ctr
  unfold blockB at hbl ⊢
  generalize hfull : stateL key nonce ctr = full at hl hbl
  (repeat refine g_seq ?_)
  refine g_region ?_
  refine g_lo [6] rfl rfl rfl rfl (lo_alloc rfl) (fun b6 hb6 => ?_)
  refine g_nil ?_
  (repeat refine g_seq ?_)
  refine g_region ?_
  refine g_pu rfl rfl rfl (pu_move rfl rfl) ?_
  refine g_pu rfl rfl rfl (pu_move rfl rfl) ?_
  refine g_pu rfl rfl rfl (pu_move rfl rfl) ?_
  refine g_call [] rfl rfl rfl rfl rfl rfl (fun w' hm => state_b w' c d ctr (ha.m hm) (hb.m hm) hc hd) (fun _ _ => ?_)
  rw [hfull]
  refine g_lo [7] rfl rfl rfl rfl (lo_alloc rfl) (fun b7 hb7 => ?_)
  refine g_storeL 7 (C := ws full) rfl rfl rfl rfl rfl rfl (by rw [ws_length, hl]) (by simp) (oneCell_ws _) ?_
  refine g_nil ?_
  (repeat refine g_seq ?_)
  refine g_region ?_
  refine g_pu rfl rfl rfl (pu_loadW 7 (L := ws full) rfl rfl rfl (by rw [ws_length, hl])) ?_
  refine g_lo [8] rfl rfl rfl rfl (lo_alloc rfl) (fun q8 hb8 => ?_)
  refine g_storeL 8 (C := ws full) rfl rfl rfl rfl rfl rfl (by rw [ws_length, hl]) (by simp) (oneCell_ws _) ?_
  refine g_nil ?_
  (repeat refine g_seq ?_)
  refine g_region ?_
  refine g_pu rfl rfl rfl (pu_move rfl rfl) ?_
  refine g_nil ?_
  (repeat refine g_seq ?_)
  refine g_block (g_loop (σ := Nat) (fun r => [(6, .pointer (some ⟨b6, 0, none⟩)), (7, .pointer (some ⟨b7, 0, none⟩)), (8, .pointer (some ⟨q8, 0, none⟩)), (19, .int .i64 (r : Int))]) (fun r => [(6, .pt b6 (.cells (bs (List.replicate 64 0#8)).toArray 211 (0, 0))), (7, .pt b7 (.cells (ws full).toArray 233 (0, 0))), (8, .pt q8 (.cells (ws (rnds full (8 * r))).toArray 233 (0, 0)))]) (fun r => r ≤ 10) (fun r => 10 - r) 0 ⟨rfl, rfl, rfl, rfl, trivial⟩ ⟨rfl, rfl, rfl, trivial⟩ (by omega) ?_)
  intro r hr
  by_cases hlt : r < 10
  · (repeat refine g_seq ?_)
    refine g_region ?_
    first | refine g_pu rfl rfl rfl (pu_lss_t rfl rfl rfl (by omega)) ?_ | refine g_pu rfl rfl rfl (pu_lss_f rfl rfl rfl (by omega)) ?_ | refine g_pu rfl rfl rfl (pu_lss rfl rfl rfl) ?_
    refine g_nil ?_
    (repeat refine g_seq ?_)
    refine g_cond_t rfl (g_skip ?_)
    (repeat refine g_seq ?_); refine g_block ?_
    (repeat refine g_seq ?_)
    refine g_region ?_
    refine g_pu rfl rfl rfl (pu_move rfl rfl) ?_
    refine g_nil ?_
    (repeat refine g_seq ?_)
    refine g_block (g_loop (σ := Nat) (fun i => [(6, .pointer (some ⟨b6, 0, none⟩)), (7, .pointer (some ⟨b7, 0, none⟩)), (8, .pointer (some ⟨q8, 0, none⟩)), (19, .int .i64 (r : Int)), (21, .int .i64 (i : Int))]) (fun i => [(6, .pt b6 (.cells (bs (List.replicate 64 0#8)).toArray 211 (0, 0))), (7, .pt b7 (.cells (ws full).toArray 233 (0, 0))), (8, .pt q8 (.cells (ws (rnds full (8 * r + i))).toArray 233 (0, 0)))]) (fun i => i ≤ 4) (fun i => 4 - i) 0 ⟨rfl, rfl, rfl, rfl, rfl, trivial⟩ ⟨rfl, rfl, rfl, trivial⟩ (by omega) ?_)
    intro i hi
    by_cases hlti : i < 4
    · (repeat refine g_seq ?_)
      refine g_region ?_
      first | refine g_pu rfl rfl rfl (pu_lss_t rfl rfl rfl (by omega)) ?_ | refine g_pu rfl rfl rfl (pu_lss_f rfl rfl rfl (by omega)) ?_ | refine g_pu rfl rfl rfl (pu_lss rfl rfl rfl) ?_
      refine g_nil ?_
      (repeat refine g_seq ?_)
      refine g_cond_t rfl (g_skip ?_)
      (repeat refine g_seq ?_); refine g_block ?_
      (repeat refine g_seq ?_)
      refine g_region ?_
      refine g_pu rfl rfl rfl (pu_move rfl rfl) ?_
      refine g_pu rfl rfl rfl (pu_assign rfl rfl) ?_
      refine g_nil ?_
      (repeat refine g_seq ?_)
      refine g_region ?_
      refine g_pu rfl rfl rfl (pu_move rfl rfl) ?_
      refine g_pu rfl rfl rfl (pu_move rfl rfl) ?_
      refine g_pu rfl rfl rfl (pu_addI rfl rfl rfl (by omega)) ?_
      refine g_pu rfl rfl rfl (pu_move rfl rfl) ?_
      refine g_pu rfl rfl rfl (pu_addI rfl rfl rfl (by omega)) ?_
      refine g_pu rfl rfl rfl (pu_move rfl rfl) ?_
      refine g_pu rfl rfl rfl (pu_addI rfl rfl rfl (by omega)) ?_
      refine g_callW [8] [8] rfl rfl rfl rfl rfl rfl (fun j hj => ⟨8, by simp, _, rfl, hj⟩) (fun w' hm => round_b w' q8 (hm.holds 8 _ rfl) (by rw [rnds_length, hl]) i (4 + i) (8 + i) (12 + i) (by omega) (by omega) (by omega) (by omega)) (fun _ _ => ?_)
      rw [← rnds_col hlti]
      refine g_nil ?_
      refine g_blk ?_
      (repeat refine g_seq ?_)
      refine g_region ?_
      refine g_pu rfl rfl rfl (pu_addI rfl rfl rfl (by omega)) ?_
      refine g_pu rfl rfl rfl (pu_move rfl rfl) ?_
      refine g_nil ?_
      exact g_round (i + 1) (by omega) (by omega) ⟨rfl, rfl, rfl, rfl, rfl, trivial⟩ ⟨rfl, rfl, rfl, trivial⟩
    · (repeat refine g_seq ?_)
      refine g_region ?_
      first | refine g_pu rfl rfl rfl (pu_lss_t rfl rfl rfl (by omega)) ?_ | refine g_pu rfl rfl rfl (pu_lss_f rfl rfl rfl (by omega)) ?_ | refine g_pu rfl rfl rfl (pu_lss rfl rfl rfl) ?_
      refine g_nil ?_
      (repeat refine g_seq ?_)
      refine g_cond_f rfl (g_exit rfl ?_)
      have e : i = 4 := by omega
      subst e
      (repeat refine g_seq ?_)
      refine g_region ?_
      refine g_pu rfl rfl rfl (pu_move rfl rfl) ?_
      refine g_nil ?_
      (repeat refine g_seq ?_)
      refine g_block (g_loop (σ := Nat) (fun i => [(6, .pointer (some ⟨b6, 0, none⟩)), (7, .pointer (some ⟨b7, 0, none⟩)), (8, .pointer (some ⟨q8, 0, none⟩)), (19, .int .i64 (r : Int)), (33, .int .i64 (i : Int))]) (fun i => [(6, .pt b6 (.cells (bs (List.replicate 64 0#8)).toArray 211 (0, 0))), (7, .pt b7 (.cells (ws full).toArray 233 (0, 0))), (8, .pt q8 (.cells (ws (rnds full (8 * r + 4 + i))).toArray 233 (0, 0)))]) (fun i => i ≤ 4) (fun i => 4 - i) 0 ⟨rfl, rfl, rfl, rfl, rfl, trivial⟩ ⟨rfl, rfl, rfl, trivial⟩ (by omega) ?_)
      intro i hi
      by_cases hlti : i < 4
      · (repeat refine g_seq ?_)
        refine g_region ?_
        first | refine g_pu rfl rfl rfl (pu_lss_t rfl rfl rfl (by omega)) ?_ | refine g_pu rfl rfl rfl (pu_lss_f rfl rfl rfl (by omega)) ?_ | refine g_pu rfl rfl rfl (pu_lss rfl rfl rfl) ?_
        refine g_nil ?_
        (repeat refine g_seq ?_)
        refine g_cond_t rfl (g_skip ?_)
        (repeat refine g_seq ?_); refine g_block ?_
        (repeat refine g_seq ?_)
        refine g_region ?_
        refine g_pu rfl rfl rfl (pu_move rfl rfl) ?_
        refine g_pu rfl rfl rfl (pu_assign rfl rfl) ?_
        refine g_nil ?_
        (repeat refine g_seq ?_)
        refine g_region ?_
        refine g_pu rfl rfl rfl (pu_move rfl rfl) ?_
        refine g_pu rfl rfl rfl (pu_move rfl rfl) ?_
        refine g_pu rfl rfl rfl (pu_addI rfl rfl rfl (by omega)) ?_
        refine g_pu rfl rfl rfl (pu_remI rfl rfl rfl (by omega)) ?_
        refine g_pu rfl rfl rfl (pu_addI rfl rfl rfl (by omega)) ?_
        refine g_pu rfl rfl rfl (pu_move rfl rfl) ?_
        refine g_pu rfl rfl rfl (pu_addI rfl rfl rfl (by omega)) ?_
        refine g_pu rfl rfl rfl (pu_remI rfl rfl rfl (by omega)) ?_
        refine g_pu rfl rfl rfl (pu_addI rfl rfl rfl (by omega)) ?_
        refine g_pu rfl rfl rfl (pu_move rfl rfl) ?_
        refine g_pu rfl rfl rfl (pu_addI rfl rfl rfl (by omega)) ?_
        refine g_pu rfl rfl rfl (pu_remI rfl rfl rfl (by omega)) ?_
        refine g_pu rfl rfl rfl (pu_addI rfl rfl rfl (by omega)) ?_
        refine g_callW [8] [8] rfl rfl rfl rfl rfl rfl (fun j hj => ⟨8, by simp, _, rfl, hj⟩) (fun w' hm => round_b w' q8 (hm.holds 8 _ rfl) (by rw [rnds_length, hl]) i (4 + (i + 1) % 4) (8 + (i + 2) % 4) (12 + (i + 3) % 4) (by omega) (by omega) (by omega) (by omega)) (fun _ _ => ?_)
        rw [← rnds_diag hlti]
        refine g_nil ?_
        refine g_blk ?_
        (repeat refine g_seq ?_)
        refine g_region ?_
        refine g_pu rfl rfl rfl (pu_addI rfl rfl rfl (by omega)) ?_
        refine g_pu rfl rfl rfl (pu_move rfl rfl) ?_
        refine g_nil ?_
        exact g_round (i + 1) (by omega) (by omega) ⟨rfl, rfl, rfl, rfl, rfl, trivial⟩ ⟨rfl, rfl, rfl, trivial⟩
      · (repeat refine g_seq ?_)
        refine g_region ?_
        first | refine g_pu rfl rfl rfl (pu_lss_t rfl rfl rfl (by omega)) ?_ | refine g_pu rfl rfl rfl (pu_lss_f rfl rfl rfl (by omega)) ?_ | refine g_pu rfl rfl rfl (pu_lss rfl rfl rfl) ?_
        refine g_nil ?_
        (repeat refine g_seq ?_)
        refine g_cond_f rfl (g_exit rfl ?_)
        have e : i = 4 := by omega
        subst e
        refine g_blk ?_
        (repeat refine g_seq ?_)
        refine g_region ?_
        refine g_pu rfl rfl rfl (pu_addI rfl rfl rfl (by omega)) ?_
        refine g_pu rfl rfl rfl (pu_move rfl rfl) ?_
        refine g_nil ?_
        refine g_round (r + 1) (by omega) (by omega) ⟨rfl, rfl, rfl, rfl, trivial⟩ ⟨rfl, rfl, by rw [show 8 * (r + 1) = 8 * r + 4 + 4 by omega]; rfl, trivial⟩
  · (repeat refine g_seq ?_)
    refine g_region ?_
    first | refine g_pu rfl rfl rfl (pu_lss_t rfl rfl rfl (by omega)) ?_ | refine g_pu rfl rfl rfl (pu_lss_f rfl rfl rfl (by omega)) ?_ | refine g_pu rfl rfl rfl (pu_lss rfl rfl rfl) ?_
    refine g_nil ?_
    (repeat refine g_seq ?_)
    refine g_cond_f rfl (g_exit rfl ?_)
    have e : r = 10 := by omega
    subst e
    have hrl : (rnds full 80).length = 16 := by rw [rnds_length, hl]
    change G _ _ _ _ _ _ _ [(6, .pt b6 (.cells (bs (List.replicate 64 0#8)).toArray 211 (0, 0))), (7, .pt b7 (.cells (ws full).toArray 233 (0, 0))), (8, .pt q8 (.cells (ws (rnds full 80)).toArray 233 (0, 0)))] _
    generalize rnds full 80 = sL at hrl hbl
    (repeat refine g_seq ?_)
    refine g_region ?_
    refine g_lo [11] rfl rfl rfl rfl (lo_alloc rfl) (fun b11 hb11 => ?_)
    refine g_nil ?_
    (repeat refine g_seq ?_)
    refine g_region ?_
    refine g_pu rfl rfl rfl (pu_move rfl rfl) ?_
    refine g_nil ?_
    (repeat refine g_seq ?_)
    refine g_block (g_loop (σ := Nat) (fun i => [(6, .pointer (some ⟨b6, 0, none⟩)), (7, .pointer (some ⟨b7, 0, none⟩)), (8, .pointer (some ⟨q8, 0, none⟩)), (11, .pointer (some ⟨b11, 0, none⟩)), (52, .int .i64 (i : Int))]) (fun i => [(6, .pt b6 (.cells (bs (List.replicate 64 0#8)).toArray 211 (0, 0))), (7, .pt b7 (.cells (ws full).toArray 233 (0, 0))), (8, .pt q8 (.cells (ws sL).toArray 233 (0, 0))), (11, .pt b11 (.cells (bs (fillW 0#8 (bytesOfW (sumW sL full) 16) (4 * i))).toArray 211 (0, 0)))]) (fun i => i ≤ 16) (fun i => 16 - i) 0 ⟨rfl, rfl, rfl, rfl, rfl, trivial⟩ ⟨rfl, rfl, rfl, by rw [show fillW 0#8 (bytesOfW (sumW sL full) 16) (4 * 0) = List.replicate 64 0#8 by simp [fillW, hbl]]; rfl, trivial⟩ (by omega) ?_)
    intro i hi
    by_cases hlt : i < 16
    · (repeat refine g_seq ?_)
      refine g_region ?_
      first | refine g_pu rfl rfl rfl (pu_lss_t rfl rfl rfl (by omega)) ?_ | refine g_pu rfl rfl rfl (pu_lss_f rfl rfl rfl (by omega)) ?_ | refine g_pu rfl rfl rfl (pu_lss rfl rfl rfl) ?_
      refine g_nil ?_
      (repeat refine g_seq ?_)
      refine g_cond_t rfl (g_skip ?_)
      have g1 : sL[i]? = some (sL.getD i 0#32) := by
        have : sL[i]? = some sL[i] := List.getElem?_eq_getElem (by omega)
        simp [List.getD, this]
      have g2 : full[i]? = some (full.getD i 0#32) := by
        have : full[i]? = some full[i] := List.getElem?_eq_getElem (by omega)
        simp [List.getD, this]
      have h0 := bytesOfW_get (f := sumW sL full) (n := 16) (i := i) (r := 0) hlt (by omega)
      have h1 := bytesOfW_get (f := sumW sL full) (n := 16) (i := i) (r := 1) hlt (by omega)
      have h2 := bytesOfW_get (f := sumW sL full) (n := 16) (i := i) (r := 2) hlt (by omega)
      have h3 := bytesOfW_get (f := sumW sL full) (n := 16) (i := i) (r := 3) hlt (by omega)
      generalize bytesOfW (sumW sL full) 16 = oL at hbl h0 h1 h2 h3
      rw [Nat.mul_zero, BitVec.ushiftRight_zero, Nat.add_zero] at h0
      (repeat refine g_seq ?_); refine g_block ?_
      (repeat refine g_seq ?_)
      refine g_region ?_
      refine g_pu rfl rfl rfl (pu_move rfl rfl) ?_
      refine g_pu rfl rfl rfl (pu_assign rfl rfl) ?_
      refine g_nil ?_
      (repeat refine g_seq ?_)
      refine g_any (8, []) ?_
      refine a_pu 0 rfl rfl rfl rfl (pu_move rfl rfl) rfl rfl (by kernel_rfl) ?_
      refine a_pu 1 rfl rfl rfl rfl (pu_atA1 i rfl rfl rfl rfl hlt) rfl rfl (by kernel_rfl) ?_
      refine a_pu 2 rfl rfl rfl rfl (pu_load 8 rfl rfl rfl (ws_load g1)) rfl rfl (by kernel_rfl) ?_
      refine a_pu 3 rfl rfl rfl rfl (pu_move rfl rfl) rfl rfl (by kernel_rfl) ?_
      refine a_pu 4 rfl rfl rfl rfl (pu_atA1 i rfl rfl rfl rfl hlt) rfl rfl (by kernel_rfl) ?_
      refine a_pu 5 rfl rfl rfl rfl (pu_load 7 rfl rfl rfl (ws_load g2)) rfl rfl (by kernel_rfl) ?_
      refine a_pu 6 rfl rfl rfl rfl (pu_add32 rfl rfl rfl) rfl rfl (by kernel_rfl) ?_
      refine a_pu 7 rfl rfl rfl rfl (pu_assign rfl rfl) rfl rfl (by kernel_rfl) ?_
      refine a_done (by kernel_rfl) ?_
      (repeat refine g_seq ?_)
      refine g_region ?_
      refine g_pu rfl rfl rfl (pu_move rfl rfl) ?_
      refine g_pu rfl rfl rfl (pu_mulI rfl rfl rfl (by omega)) ?_
      refine g_pu rfl rfl rfl (pu_move rfl rfl) ?_
      refine g_pu rfl rfl rfl (pu_mulI rfl rfl rfl (by omega)) ?_
      refine g_pu rfl rfl rfl (pu_addI rfl rfl rfl (by omega)) ?_
      refine g_pu rfl rfl rfl (pu_move rfl rfl) ?_
      refine g_pu rfl rfl rfl (pu_mulI rfl rfl rfl (by omega)) ?_
      refine g_pu rfl rfl rfl (pu_addI rfl rfl rfl (by omega)) ?_
      refine g_pu rfl rfl rfl (pu_move rfl rfl) ?_
      refine g_pu rfl rfl rfl (pu_mulI rfl rfl rfl (by omega)) ?_
      refine g_pu rfl rfl rfl (pu_addI rfl rfl rfl (by omega)) ?_
      refine g_pu rfl rfl rfl (pu_move rfl rfl) ?_
      refine g_pu rfl rfl rfl (pu_conv32_8 rfl rfl) ?_
      refine g_pu rfl rfl rfl (pu_move rfl rfl) ?_
      refine g_pu rfl rfl rfl (pu_shr32 rfl rfl rfl (by omega)) ?_
      refine g_pu rfl rfl rfl (pu_conv32_8 rfl rfl) ?_
      refine g_pu rfl rfl rfl (pu_move rfl rfl) ?_
      refine g_pu rfl rfl rfl (pu_shr32 rfl rfl rfl (by omega)) ?_
      refine g_pu rfl rfl rfl (pu_conv32_8 rfl rfl) ?_
      refine g_pu rfl rfl rfl (pu_move rfl rfl) ?_
      refine g_pu rfl rfl rfl (pu_shr32 rfl rfl rfl (by omega)) ?_
      refine g_pu rfl rfl rfl (pu_conv32_8 rfl rfl) ?_
      refine g_pu rfl rfl rfl (pu_atA1 (4 * i) rfl rfl rfl (by omega) (by omega)) ?_
      refine g_store 11 (v := b8 ((sumW sL full i).setWidth 8)) rfl rfl rfl rfl rfl rfl rfl (by rw [bs_length, fillW_length]; omega) ?_
      rw [bs_setW, fillW_set h0]
      refine g_pu rfl rfl rfl (pu_atA1 (4 * i + 1) rfl rfl rfl (by omega) (by omega)) ?_
      refine g_store 11 (v := b8 ((sumW sL full i >>> (8 * 1)).setWidth 8)) rfl rfl rfl rfl rfl rfl rfl (by rw [bs_length, fillW_length]; omega) ?_
      rw [bs_setW, fillW_set h1]
      refine g_pu rfl rfl rfl (pu_atA1 (4 * i + 2) rfl rfl rfl (by omega) (by omega)) ?_
      refine g_store 11 (v := b8 ((sumW sL full i >>> (8 * 2)).setWidth 8)) rfl rfl rfl rfl rfl rfl rfl (by rw [bs_length, fillW_length]; omega) ?_
      rw [bs_setW, fillW_set h2]
      refine g_pu rfl rfl rfl (pu_atA1 (4 * i + 3) rfl rfl rfl (by omega) (by omega)) ?_
      refine g_store 11 (v := b8 ((sumW sL full i >>> (8 * 3)).setWidth 8)) rfl rfl rfl rfl rfl rfl rfl (by rw [bs_length, fillW_length]; omega) ?_
      rw [bs_setW, fillW_set h3]
      refine g_nil ?_
      refine g_blk ?_
      (repeat refine g_seq ?_)
      refine g_region ?_
      refine g_pu rfl rfl rfl (pu_addI rfl rfl rfl (by omega)) ?_
      refine g_pu rfl rfl rfl (pu_move rfl rfl) ?_
      refine g_nil ?_
      exact g_round (i + 1) (by omega) (by omega) ⟨rfl, rfl, rfl, rfl, rfl, trivial⟩ ⟨rfl, rfl, rfl, rfl, trivial⟩
    · (repeat refine g_seq ?_)
      refine g_region ?_
      first | refine g_pu rfl rfl rfl (pu_lss_t rfl rfl rfl (by omega)) ?_ | refine g_pu rfl rfl rfl (pu_lss_f rfl rfl rfl (by omega)) ?_ | refine g_pu rfl rfl rfl (pu_lss rfl rfl rfl) ?_
      refine g_nil ?_
      (repeat refine g_seq ?_)
      refine g_cond_f rfl (g_exit rfl ?_)
      have e : i = 16 := by omega
      subst e
      have hfe : fillW 0#8 (bytesOfW (sumW sL full) 16) (4 * 16) = bytesOfW (sumW sL full) 16 := by have := fillW_end 0#8 (bytesOfW (sumW sL full) 16); rwa [hbl] at this
      rw [hfe]
      (repeat refine g_seq ?_)
      refine g_region ?_
      refine g_pu rfl rfl rfl (pu_loadW 11 (L := bs (bytesOfW (sumW sL full) 16)) rfl rfl rfl (by rw [bs_length, hbl])) ?_
      refine g_storeL 6 (C := bs (bytesOfW (sumW sL full) 16)) rfl rfl rfl rfl rfl rfl (by rw [bs_length, hbl]) (by simp [bs]) (oneCell_bs _) ?_
      refine g_nil ?_
      exact g_retL 6 (L := bs (bytesOfW (sumW sL full) 16)) rfl (by rw [bs_length, hbl]) rfl rfl (fun w' hm => ⟨(), trivial, rfl, hm.grows [] trivial rfl⟩)
end Go.Sx

/-
  The reference's words, and its block. The key has 32 bytes, the nonce 12.
-/
namespace Go.Sx
open Go Go.Proofs

end Go.Sx

/-
  Streams: of the program and of its reference. At most 65536 bytes.
-/
namespace Go.Sx
open Go Go.Proofs

def nonce0 : List (BitVec 8) := List.replicate 12 0#8
def ctrN (t : Nat) : BitVec 32 := BitVec.ofInt 32 ((t / 64 : Nat) : Int)
def strB (key : List (BitVec 8)) (i : Nat) : BitVec 8 := (blockB key nonce0 (ctrN i)).getD (i % 64) 0#8
def streamL (key : List (BitVec 8)) (at_ n : Nat) : List (BitVec 8) := (List.range n).map fun k => strB key (at_ + k)
theorem streamL_length (key : List (BitVec 8)) (t n : Nat) : (streamL key t n).length = n := by simp [streamL]
/-- A piece out of the block at t is the stream's next piece. -/
theorem streamL_add {key : List (BitVec 8)} {t k m : Nat} (h : (t + k) % 64 + m ≤ 64) : streamL key t (k + m) = streamL key t k ++ ((blockB key nonce0 (ctrN (t + k))).drop ((t + k) % 64)).take m := by
  have hbl := blockB_length key nonce0 (ctrN (t + k))
  apply List.ext_getElem?
  intro j
  by_cases h1 : j < k
  · rw [List.getElem?_append_left (by rw [streamL_length]; exact h1)]
    simp [streamL, h1, show j < k + m by omega]
  · rw [List.getElem?_append_right (by rw [streamL_length]; omega), streamL_length]
    by_cases h2 : j < k + m
    · rw [List.getElem?_take, if_pos (by omega), List.getElem?_drop]
      have e1 : (streamL key t (k + m))[j]? = some (strB key (t + j)) := by simp [streamL, h2]
      rw [e1]
      have e3 : ctrN (t + j) = ctrN (t + k) := by unfold ctrN; rw [show (t + j) / 64 = (t + k) / 64 by omega]
      unfold strB
      rw [e3, show (t + j) % 64 = (t + k) % 64 + (j - k) by omega]
      have e2 : (t + k) % 64 + (j - k) < (blockB key nonce0 (ctrN (t + k))).length := by rw [hbl]; omega
      show some ((blockB key nonce0 (ctrN (t + k))).getD _ _) = _
      simp [List.getD, List.getElem?_eq_getElem e2]
    · rw [List.getElem?_eq_none (by rw [streamL_length]; omega), List.getElem?_eq_none (by simp [hbl]; omega)]

/-- A flow, as cells. -/
def cflowC (key : List (BitVec 8)) (t : Nat) : List Value := bs key ++ [.int .i64 (t : Int)]

theorem New_b (w : World) {p : Option Addr} (c : Nat) {key : List (BitVec 8)} (ha : By w p 32 key) :
    Spec Try.prog 30 #[.slice p 32 c] w (σ := Nat) (fun _ => True) (fun b => .tuple #[.pointer (some ⟨b, 0, none⟩), .int .i64 0]) Nob (fun b => [.pt b (.cells (cflowC key 0).toArray 173 (0, 0))]) := by
  refine enter Try.func30 rfl rfl (Mem.start w) ?_
  have hk := ha.len
  (repeat refine g_seq ?_)
  refine g_region ?_
  refine g_pu rfl rfl rfl (pu_assign rfl rfl) ?_
  refine g_pu rfl rfl rfl (pu_assign rfl rfl) ?_
  refine g_nil ?_
  (repeat refine g_seq ?_)
  refine g_region ?_
  refine g_pu rfl rfl rfl (pu_move rfl rfl) ?_
  first | refine g_pu rfl rfl rfl (pu_len rfl rfl) ?_ | refine g_pu rfl rfl rfl (pu_lenS rfl rfl) ?_
  first | refine g_pu rfl rfl rfl (pu_neq_t rfl rfl rfl (by omega)) ?_ | refine g_pu rfl rfl rfl (pu_neq_f rfl rfl rfl (by omega)) ?_ | refine g_pu rfl rfl rfl (pu_neq rfl rfl rfl) ?_
  refine g_nil ?_
  (repeat refine g_seq ?_)
  refine g_cond_f rfl (g_skip ?_)
  (repeat refine g_seq ?_)
  refine g_region ?_
  refine g_pu rfl rfl rfl (pu_move rfl rfl) ?_
  refine g_pu rfl rfl rfl (pu_s2a (fun w' hm => ha.m hm) rfl rfl (by omega) (by omega)) ?_
  refine g_pu rfl rfl rfl (pu_rdMA (fun w' hm => (ha.m hm).rd) rfl rfl (by omega) (by rw [bs_length, hk]; omega)) ?_
  rw [show ((bs key).drop 0).take 32 = bs key by rw [List.drop_zero, List.take_of_length_le (by rw [bs_length, hk]; exact Nat.le_refl _)]]
  refine g_pu rfl rfl rfl (pu_buildS (cs := cflowC key 0) rfl rfl ((fill_one (C := bs key) rfl (by rw [bs_length, hk]) (by decide)).trans rfl)) ?_
  refine g_lo [11] rfl rfl rfl rfl (lo_box rfl rfl) (fun b11 hb11 => ?_)
  refine g_pu rfl rfl rfl (pu_assign rfl rfl) ?_
  refine g_pu rfl rfl rfl (pu_assign rfl rfl) ?_
  refine g_nil ?_
  exact g_ret2 rfl rfl rfl (fun w' hm => ⟨b11, trivial, rfl, hm.grows [11] ⟨rfl, trivial⟩ rfl⟩)
theorem New_e (w : World) {p : Option Addr} {n : Nat} (c : Nat) (hn : n ≠ 32) :
    Spec Try.prog 30 #[.slice p n c] w (σ := Unit) (fun _ => True) (fun _ => .tuple #[.pointer none, .int .i64 2]) Nob (fun _ => []) := by
  refine enter Try.func30 rfl rfl (Mem.start w) ?_
  (repeat refine g_seq ?_)
  refine g_region ?_
  refine g_pu rfl rfl rfl (pu_assign rfl rfl) ?_
  refine g_pu rfl rfl rfl (pu_assign rfl rfl) ?_
  refine g_nil ?_
  (repeat refine g_seq ?_)
  refine g_region ?_
  refine g_pu rfl rfl rfl (pu_move rfl rfl) ?_
  first | refine g_pu rfl rfl rfl (pu_len rfl rfl) ?_ | refine g_pu rfl rfl rfl (pu_lenS rfl rfl) ?_
  first | refine g_pu rfl rfl rfl (pu_neq_t rfl rfl rfl (by omega)) ?_ | refine g_pu rfl rfl rfl (pu_neq_f rfl rfl rfl (by omega)) ?_ | refine g_pu rfl rfl rfl (pu_neq rfl rfl rfl) ?_
  refine g_nil ?_
  (repeat refine g_seq ?_)
  refine g_cond_t rfl ?_
  (repeat refine g_seq ?_)
  refine g_region ?_
  refine g_pu rfl rfl rfl (pu_assign rfl rfl) ?_
  refine g_pu rfl rfl rfl (pu_assign rfl rfl) ?_
  refine g_nil ?_
  exact g_ret2 rfl rfl rfl (fun w' hm => ⟨(), trivial, rfl, hm.grows [] trivial rfl⟩)

theorem Next_b (w : World) (bb : Nat) {key : List (BitVec 8)} (t n : Nat) (h : w.heap[bb]? = some (.cells (cflowC key t).toArray 173 (0, 0))) (hk : key.length = 32) (hn : t + n ≤ 65536) :
    Spec Try.prog 86 #[.pointer (some ⟨bb, 0, none⟩), .int .i64 (n : Int)] w (σ := Ow) (fun _ => True) (fun x => .tuple #[x.sl n, .int .i64 0]) (fun j => j = bb) (fun x => [x.ck 5 1 (bs (streamL key t n)), .pt bb (.cells (cflowC key (t + n)).toArray 173 (0, 0))]) := by
  refine enter Try.func86 rfl rfl (Mem.start1 (.pt bb (.cells (cflowC key t).toArray 173 (0, 0))) h trivial (fun j hj => by rw [show j = bb from hj]; exact lt_of_some h)) ?_
  have hload : ∀ u, (cflowC key u).toArray[0 + 32]? = some (.int .i64 (u : Int)) := fun u => by simp [cflowC, bs_length, hk]
  have hset : ∀ u u' : Nat, (cflowC key u).set (0 + 32) (.int .i64 (u' : Int)) = cflowC key u' := fun u u' => by
    unfold cflowC
    rw [List.set_append_right _ _ (by rw [bs_length, hk]; omega), bs_length, hk]
    rfl
  (repeat refine g_seq ?_)
  refine g_region ?_
  refine g_pu rfl rfl rfl (pu_assign rfl rfl) ?_
  refine g_pu rfl rfl rfl (pu_assign rfl rfl) ?_
  refine g_nil ?_
  (repeat refine g_seq ?_)
  refine g_region ?_
  refine g_pu rfl rfl rfl (pu_move rfl rfl) ?_
  first | refine g_pu rfl rfl rfl (pu_lss_t rfl rfl rfl (by omega)) ?_ | refine g_pu rfl rfl rfl (pu_lss_f rfl rfl rfl (by omega)) ?_ | refine g_pu rfl rfl rfl (pu_lss rfl rfl rfl) ?_
  refine g_pu rfl rfl rfl (pu_move rfl rfl) ?_
  first | refine g_pass rfl rfl rfl ?_ | refine g_pu rfl rfl rfl (pu_move rfl rfl) ?_
  first | refine g_pass rfl rfl rfl ?_ | refine g_pu rfl rfl rfl (pu_gtr_t rfl rfl rfl (by omega)) ?_ | refine g_pu rfl rfl rfl (pu_gtr_f rfl rfl rfl (by omega)) ?_ | refine g_pu rfl rfl rfl (pu_gtr rfl rfl rfl) ?_
  first | refine g_pu rfl rfl rfl (pu_pick_t rfl rfl rfl) ?_ | refine g_pu rfl rfl rfl (pu_pick_f rfl rfl rfl) ?_
  refine g_nil ?_
  (repeat refine g_seq ?_)
  refine g_cond_f rfl (g_skip ?_)
  (repeat refine g_seq ?_)
  refine g_region ?_
  refine g_pu rfl rfl rfl (pu_move rfl rfl) ?_
  refine g_pu rfl rfl rfl (pu_move rfl rfl) ?_
  refine g_pu rfl rfl rfl (pu_nil rfl rfl) ?_
  refine g_pu rfl rfl rfl (pu_fieldAddr (by decide) rfl rfl) ?_
  refine g_pu rfl rfl rfl (pu_load 0 rfl rfl rfl (hload t)) ?_
  refine g_pu rfl rfl rfl (pu_subI rfl rfl rfl (by omega)) ?_
  first | refine g_pu rfl rfl rfl (pu_gtr_t rfl rfl rfl (by omega)) ?_ | refine g_pu rfl rfl rfl (pu_gtr_f rfl rfl rfl (by omega)) ?_ | refine g_pu rfl rfl rfl (pu_gtr rfl rfl rfl) ?_
  refine g_nil ?_
  (repeat refine g_seq ?_)
  refine g_cond_f rfl (g_skip ?_)
  (repeat refine g_seq ?_)
  refine g_region ?_
  refine g_lo [6] rfl rfl rfl rfl (lo_alloc rfl) (fun b6 hb6 => ?_)
  refine g_nil ?_
  (repeat refine g_seq ?_)
  refine g_region ?_
  refine g_pu rfl rfl rfl (pu_move rfl rfl) ?_
  refine g_lo [24] rfl rfl rfl rfl (lo_make (n := 0) (c := n) rfl rfl rfl (by omega) (by omega) (by omega) rfl) (fun b24 hb24 => ?_)
  refine g_own 24 (L := []) (J := List.replicate n (b8 0#8)) (c := n) (s := 1) rfl (by simp) (by omega) ?_
  refine g_pu rfl rfl rfl (pu_assign rfl rfl) ?_
  refine g_nil ?_
  (repeat refine g_seq ?_)
  refine g_block (g_loop2 (fun (k : Nat) (x : Ow) => [(0, .pointer (some ⟨bb, 0, none⟩)), (1, .int .i64 (n : Int)), (6, .pointer (some ⟨b6, 0, none⟩)), (7, x.sl k)]) (fun k x => [(0, .pt bb (.cells (cflowC key (t + k)).toArray 173 (0, 0))), (6, .pt b6 (.cells (bs nonce0).toArray 210 (0, 0))), (24, x.ck 5 1 (bs (streamL key t k)))]) (fun k _ => k ≤ n) (fun k _ => n - k) 0 ⟨some ⟨b24, 0, none⟩, n⟩ ⟨rfl, rfl, rfl, rfl, trivial⟩ ⟨rfl, rfl, rfl, trivial⟩ (by omega) ?_)
  intro k x hkn
  by_cases hlt : k < n
  · (repeat refine g_seq ?_)
    refine g_region ?_
    refine g_pu rfl rfl rfl (pu_move rfl rfl) ?_
    first | refine g_pu rfl rfl rfl (pu_len rfl rfl) ?_ | refine g_pu rfl rfl rfl (pu_lenS rfl rfl) ?_
    refine g_pu rfl rfl rfl (pu_move rfl rfl) ?_
    first | refine g_pu rfl rfl rfl (pu_lss_t rfl rfl rfl (by omega)) ?_ | refine g_pu rfl rfl rfl (pu_lss_f rfl rfl rfl (by omega)) ?_ | refine g_pu rfl rfl rfl (pu_lss rfl rfl rfl) ?_
    refine g_nil ?_
    (repeat refine g_seq ?_)
    refine g_cond_t rfl (g_skip ?_)
    have hbl := blockB_length key nonce0 (ctrN (t + k))
    have hadd := fun m hm => streamL_add (key := key) (t := t) (k := k) (m := m) hm
    have hctr : BitVec.ofInt 32 (((t + k : Nat) : Int) / 64) = ctrN (t + k) := by unfold ctrN; rw [Int.natCast_ediv]; rfl
    (repeat refine g_seq ?_); refine g_block ?_
    (repeat refine g_seq ?_)
    refine g_any (13, []) ?_
    refine a_pu 0 rfl rfl rfl rfl (pu_move rfl rfl) rfl rfl (by kernel_rfl) ?_
    refine a_pu 1 rfl rfl rfl rfl (pu_nil rfl rfl) rfl rfl (by kernel_rfl) ?_
    refine a_pu 2 rfl rfl rfl rfl (pu_fieldAddr (by decide) rfl rfl) rfl rfl (by kernel_rfl) ?_
    refine a_pu 3 rfl rfl rfl rfl (pu_sliceA rfl rfl) rfl rfl (by kernel_rfl) ?_
    refine a_pu 4 rfl rfl rfl rfl (pu_sliceA rfl rfl) rfl rfl (by kernel_rfl) ?_
    refine a_pu 5 rfl rfl rfl rfl (pu_move rfl rfl) rfl rfl (by kernel_rfl) ?_
    refine a_pu 6 rfl rfl rfl rfl (pu_nil rfl rfl) rfl rfl (by kernel_rfl) ?_
    refine a_pu 7 rfl rfl rfl rfl (pu_fieldAddr (by decide) rfl rfl) rfl rfl (by kernel_rfl) ?_
    refine a_pu 8 rfl rfl rfl rfl (pu_load 0 rfl rfl rfl (hload (t + k))) rfl rfl (by kernel_rfl) ?_
    refine a_pu 9 rfl rfl rfl rfl (pu_quoI rfl rfl rfl (by omega)) rfl rfl (by kernel_rfl) ?_
    refine a_pu 10 rfl rfl rfl rfl (pu_convI_32 rfl rfl) rfl rfl (by kernel_rfl) ?_
    refine a_pendA 12 8 8 211 ?_
    refine a_do 11 40 [] (does_call rfl rfl rfl rfl rfl (fun w' hm => block_b w' 32 12 (key := key) (nonce := nonce0) (ctrN (t + k)) ⟨hm.row (L := bs key) (J := [.int .i64 ((t + k : Nat) : Int)]) 0 rfl, hk, by omega⟩ (By.full 6 rfl hm rfl (by omega)) (by omega) (by omega))) rfl rfl (by kernel_rfl) rfl rfl (by kernel_rfl) (by kernel_rfl) (by kernel_rfl) rfl (fun p hp => by simp only [List.mem_cons, List.not_mem_nil, or_false] at hp; subst hp; first | exact does_PA rfl rfl rfl rfl | exact does_PB rfl rfl rfl rfl rfl (by decide) (by decide) rfl rfl) ?_; rintro v_ cs_ ⟨_, _, rfl, rfl⟩
    refine a_force _ (by kernel_rfl) rfl rfl rfl (by kernel_rfl) (by kernel_rfl) (by kernel_rfl) rfl (fun p hp => by simp only [List.mem_cons, List.not_mem_nil, or_false] at hp; subst hp; first | exact does_PA rfl rfl rfl rfl | exact does_PB rfl rfl rfl rfl rfl (by decide) (by decide) rfl rfl) ?_; rintro v_ cs_ ⟨q8, hb8, rfl, rfl⟩
    refine a_tail [13] (by kernel_rfl) rfl rfl (by kernel_rfl) ?_
    refine g_storeL 8 (C := bs (blockB key nonce0 (ctrN (t + k)))) rfl rfl rfl rfl rfl rfl (by rw [bs_length, hbl]) (by simp) (oneCell_bs _) ?_
    refine g_nil ?_
    generalize blockB key nonce0 (ctrN (t + k)) = B at hbl hadd
    obtain ⟨r, hr⟩ : ∃ r, r = (t + k) % 64 := ⟨_, rfl⟩
    rw [← hr] at hadd
    (repeat refine g_seq ?_)
    refine g_region ?_
    refine g_pu rfl rfl rfl (pu_move rfl rfl) ?_
    refine g_pu rfl rfl rfl (pu_nil rfl rfl) ?_
    refine g_pu rfl rfl rfl (pu_fieldAddr (by decide) rfl rfl) ?_
    refine g_pu rfl rfl rfl (pu_load 0 rfl rfl rfl (hload (t + k))) ?_
    refine g_pu rfl rfl rfl (pu_remI rfl rfl rfl (by omega)) ?_
    refine g_pu rfl rfl rfl (pu_sliceA_l r rfl rfl rfl (by omega) (by omega)) ?_
    refine g_pu rfl rfl rfl (pu_assign rfl rfl) ?_
    refine g_nil ?_
    obtain ⟨m, hm2⟩ : ∃ m, m = min (64 - r) (n - k) := ⟨_, rfl⟩
    have hmin : (if (n : Int) - (k : Int) < ((64 - r : Nat) : Int) then (n : Int) - (k : Int) else ((64 - r : Nat) : Int)) = (m : Int) := by split <;> omega
    have hcut : By w none 0 [] := By.nil w none
    (repeat refine g_seq ?_)
    refine g_region ?_
    refine g_pu rfl rfl rfl (pu_move rfl rfl) ?_
    refine g_pu rfl rfl rfl (pu_move rfl rfl) ?_
    first | refine g_pu rfl rfl rfl (pu_len rfl rfl) ?_ | refine g_pu rfl rfl rfl (pu_lenS rfl rfl) ?_
    refine g_pu rfl rfl rfl (pu_move rfl rfl) ?_
    refine g_pu rfl rfl rfl (pu_move rfl rfl) ?_
    first | refine g_pu rfl rfl rfl (pu_len rfl rfl) ?_ | refine g_pu rfl rfl rfl (pu_lenS rfl rfl) ?_
    refine g_pu rfl rfl rfl (pu_subI rfl rfl rfl (by omega)) ?_
    refine g_pu rfl rfl rfl (pu_min rfl rfl rfl) ?_
    rw [hmin]
    refine g_pu rfl rfl rfl (pu_slice_h m rfl rfl rfl rfl (by omega)) ?_
    refine g_pu rfl rfl rfl (pu_assign rfl rfl) ?_
    refine g_nil ?_
    have hpl : ((B.drop r).take m).length = m := by simp [hbl]; omega
    (repeat refine g_seq ?_)
    refine g_region ?_
    refine g_pu rfl rfl rfl (pu_move rfl rfl) ?_
    refine g_pu rfl rfl rfl (pu_move rfl rfl) ?_
    refine g_append1 24 (m := m) (bs ((B.drop r).take m)) rfl rfl rfl rfl rfl rfl rfl rfl (by rw [bs_length, streamL_length]) (fun w' hm => by have h1 : RdV w' (some ⟨q8, 0, none⟩) (bs B) := hm.rowA 8 rfl; have h2 := (h1.cut (l := r) (c := 64) (by rw [bs_length, hbl]; omega)).fst (n := m); rwa [bs_drop, bs_take] at h2) (by rw [bs_length, hpl]) (oneCell_bs _) (by omega) (by omega) (fun p' c' => ?_)
    rw [← bs_append, ← hadd m (by omega)]
    refine g_pu rfl rfl rfl (pu_assign rfl rfl) ?_
    refine g_nil ?_
    (repeat refine g_seq ?_)
    refine g_region ?_
    refine g_pu rfl rfl rfl (pu_move rfl rfl) ?_
    refine g_pu rfl rfl rfl (pu_nil rfl rfl) ?_
    refine g_pu rfl rfl rfl (pu_fieldAddr (by decide) rfl rfl) ?_
    refine g_pu rfl rfl rfl (pu_load 0 rfl rfl rfl (hload (t + k))) ?_
    refine g_pu rfl rfl rfl (pu_move rfl rfl) ?_
    first | refine g_pu rfl rfl rfl (pu_len rfl rfl) ?_ | refine g_pu rfl rfl rfl (pu_lenS rfl rfl) ?_
    refine g_pu rfl rfl rfl (pu_addI rfl rfl rfl (by omega)) ?_
    refine g_pu rfl rfl rfl (pu_nil rfl rfl) ?_
    refine g_pu rfl rfl rfl (pu_fieldAddr (by decide) rfl rfl) ?_
    refine g_store 0 (v := .int .i64 ((t + (k + m) : Nat) : Int)) rfl rfl rfl rfl (congrArg (fun z => some (Value.int .i64 z)) (by omega)) rfl rfl (by simp [cflowC, bs_length, hk]) ?_
    rw [hset]
    refine g_nil ?_
    refine g_blk ?_
    refine g_round2 (k + m) (⟨p', c'⟩ : Ow) (by omega) (by omega) ⟨rfl, rfl, rfl, rfl, trivial⟩ ⟨rfl, rfl, rfl, trivial⟩
  · (repeat refine g_seq ?_)
    refine g_region ?_
    refine g_pu rfl rfl rfl (pu_move rfl rfl) ?_
    first | refine g_pu rfl rfl rfl (pu_len rfl rfl) ?_ | refine g_pu rfl rfl rfl (pu_lenS rfl rfl) ?_
    refine g_pu rfl rfl rfl (pu_move rfl rfl) ?_
    first | refine g_pu rfl rfl rfl (pu_lss_t rfl rfl rfl (by omega)) ?_ | refine g_pu rfl rfl rfl (pu_lss_f rfl rfl rfl (by omega)) ?_ | refine g_pu rfl rfl rfl (pu_lss rfl rfl rfl) ?_
    refine g_nil ?_
    (repeat refine g_seq ?_)
    refine g_cond_f rfl (g_exit rfl ?_)
    have e : k = n := by omega
    subst e
    (repeat refine g_seq ?_)
    refine g_region ?_
    refine g_pu rfl rfl rfl (pu_move rfl rfl) ?_
    refine g_pu rfl rfl rfl (pu_assign rfl rfl) ?_
    refine g_pu rfl rfl rfl (pu_assign rfl rfl) ?_
    refine g_nil ?_
    exact g_ret2 rfl rfl rfl (fun w' hm => ⟨x, trivial, rfl, hm.grows [24, 0] ⟨rfl, rfl, trivial⟩ rfl⟩)
end Go.Sx

/-
  Streams whole: of the program and of its reference.
-/
namespace Go.Sx
open Go Go.Proofs

def stE (key : List (BitVec 8)) (z : Int) : Int := if z < 0 ∨ z > 65536 then 1 else if key.length ≠ 32 then 2 else 0
def stL (key : List (BitVec 8)) (z : Int) : List (BitVec 8) := if stE key z = 0 then streamL key 0 z.toNat else []
theorem stL_length (key : List (BitVec 8)) (z : Int) : (stL key z).length ≤ 65536 := by
  by_cases h : z < 0 ∨ z > 65536
  · have : stE key z = 1 := by simp [stE, h]
    simp [stL, this]
  · unfold stL
    split
    · rw [streamL_length]; omega
    · simp

theorem streamL_block {key : List (BitVec 8)} (a j : Nat) : streamL key (64 * a) (64 * (j + 1)) = streamL key (64 * a) (64 * j) ++ blockB key nonce0 (BitVec.ofInt 32 ((a + j : Nat) : Int)) := by
  have h := streamL_add (key := key) (t := 64 * a) (k := 64 * j) (m := 64) (by omega)
  have e1 : (64 * a + 64 * j) % 64 = 0 := by omega
  have e2 : ctrN (64 * a + 64 * j) = BitVec.ofInt 32 ((a + j : Nat) : Int) := by unfold ctrN; rw [show (64 * a + 64 * j) / 64 = a + j by omega]
  rw [e1, e2, List.drop_zero, List.take_of_length_le (by rw [blockB_length]; exact Nat.le_refl _)] at h
  rw [show 64 * (j + 1) = 64 * j + 64 by omega, h]
theorem streamL_cut {key : List (BitVec 8)} {t r n N : Nat} (h : r + n ≤ N) : ((streamL key t N).drop r).take n = streamL key (t + r) n := by
  apply List.ext_getElem?
  intro j
  by_cases hj : j < n
  · rw [List.getElem?_take, if_pos hj, List.getElem?_drop]
    simp [streamL, hj, show r + j < N by omega, Nat.add_assoc]
  · rw [List.getElem?_take, if_neg hj, List.getElem?_eq_none (by rw [streamL_length]; omega)]

end Go.Sx

/-
  Bytes turned by the stream: of the program and of its reference. All bytes together are at most 2^46.
-/
namespace Go.Sx
open Go Go.Proofs

def turnE (key : List (BitVec 8)) (n : Nat) : Int := if key.length ≠ 32 then 2 else if n > 65536 then 11 else 0
def turnL (key all : List (BitVec 8)) : List (BitVec 8) := if turnE key all.length = 0 then xorL all (streamL key 0 all.length) else []
theorem turnL_length {key all : List (BitVec 8)} : (turnL key all).length ≤ all.length := by
  unfold turnL
  split
  · rw [xorL_length (by rw [streamL_length])]; omega
  · simp
theorem xorV_two {a b : List (BitVec 8)} (h : b.length = a.length) : xorV [a, b] = xorL a b ∧ xorE [a, b] = 0 := by
  have h1 : xorOk [a, b] = true := by simp [xorOk, h]
  exact ⟨by simp [xorV, h1], by simp [xorE, h1]⟩
theorem xorL_comm (a b : List (BitVec 8)) : xorL a b = xorL b a := by
  unfold xorL
  exact List.zipWith_comm_of_comm (fun x y => BitVec.xor_comm x y)
theorem xorL_back {a b : List (BitVec 8)} (h : b.length = a.length) : xorL (xorL a b) b = a := by
  apply List.ext_getElem?
  intro i
  unfold xorL
  by_cases hi : i < a.length
  · rw [List.getElem?_zipWith, List.getElem?_zipWith, List.getElem?_eq_getElem hi, List.getElem?_eq_getElem (show i < b.length by omega)]
    simp [BitVec.xor_assoc]
  · rw [List.getElem?_eq_none (by simp; omega), List.getElem?_eq_none (by omega)]

theorem FTurn_b (w : World) (bb : Nat) {key : List (BitVec 8)} (t : Nat) {p : Option Addr} {n : Nat} (c : Nat) {L : List Value} {ls : List (List (BitVec 8))} (h : w.heap[bb]? = some (.cells (cflowC key t).toArray 173 (0, 0))) (hk : key.length = 32) (ha : ByL w p n L ls) (hc : n ≤ c) (hlen : ls.flatten.length ≤ 281474976710656) (hD : 0 < n → ∀ b o, p = some ⟨b, o, none⟩ → ¬ b = bb) (hE : ∀ q m c, Value.slice q m c ∈ L → 0 < m → ∀ j, At q j → ¬ j = bb) (hn : t + ls.flatten.length ≤ 65536) :
    Spec Try.prog 31 #[.pointer (some ⟨bb, 0, none⟩), .slice p n c] w (σ := Ow) (fun _ => True) (fun x => .tuple #[x.sl ls.flatten.length, .int .i64 0]) (fun j => j = bb) (fun x => [x.ck 5 1 (bs (xorL ls.flatten (streamL key t ls.flatten.length))), .pt bb (.cells (cflowC key (t + ls.flatten.length)).toArray 173 (0, 0))]) := by
  refine enter Try.func31 rfl rfl (Mem.start1 (.pt bb (.cells (cflowC key t).toArray 173 (0, 0))) h trivial (fun j hj => by rw [show j = bb from hj]; exact lt_of_some h)) ?_
  have hload : ∀ u, (cflowC key u).toArray[0 + 32]? = some (.int .i64 (u : Int)) := fun u => by simp [cflowC, bs_length, hk]
  have hx := xorV_two (a := ls.flatten) (b := streamL key t ls.flatten.length) (by rw [streamL_length])
  have hxl := xorL_length (a := ls.flatten) (b := streamL key t ls.flatten.length) (by rw [streamL_length])
  (repeat refine g_seq ?_)
  refine g_region ?_
  refine g_pu rfl rfl rfl (pu_assign rfl rfl) ?_
  refine g_pu rfl rfl rfl (pu_assign rfl rfl) ?_
  refine g_nil ?_
  (repeat refine g_seq ?_)
  refine g_region ?_
  refine g_pu rfl rfl rfl (pu_move rfl rfl) ?_
  refine g_call [10] rfl rfl rfl rfl rfl rfl (fun w' hm => Join_b w' c (ha.mD hm hD hE) hc hlen) (fun x10 _ => ?_)
  refine g_pu rfl rfl rfl (pu_assign rfl rfl) ?_
  refine g_nil ?_
  (repeat refine g_seq ?_)
  refine g_region ?_
  refine g_pu rfl rfl rfl (pu_move rfl rfl) ?_
  first | refine g_pu rfl rfl rfl (pu_len rfl rfl) ?_ | refine g_pu rfl rfl rfl (pu_lenS rfl rfl) ?_
  refine g_pu rfl rfl rfl (pu_move rfl rfl) ?_
  refine g_pu rfl rfl rfl (pu_nil rfl rfl) ?_
  refine g_pu rfl rfl rfl (pu_fieldAddr (by decide) rfl rfl) ?_
  refine g_pu rfl rfl rfl (pu_load 0 rfl rfl rfl (hload t)) ?_
  refine g_pu rfl rfl rfl (pu_subI rfl rfl rfl (by omega)) ?_
  first | refine g_pu rfl rfl rfl (pu_gtr_t rfl rfl rfl (by omega)) ?_ | refine g_pu rfl rfl rfl (pu_gtr_f rfl rfl rfl (by omega)) ?_ | refine g_pu rfl rfl rfl (pu_gtr rfl rfl rfl) ?_
  refine g_nil ?_
  (repeat refine g_seq ?_)
  refine g_cond_f rfl (g_skip ?_)
  (repeat refine g_seq ?_)
  refine g_region ?_
  refine g_pu rfl rfl rfl (pu_move rfl rfl) ?_
  refine g_pu rfl rfl rfl (pu_move rfl rfl) ?_
  first | refine g_pu rfl rfl rfl (pu_len rfl rfl) ?_ | refine g_pu rfl rfl rfl (pu_lenS rfl rfl) ?_
  refine g_callW [0] [23, 0] rfl rfl rfl rfl rfl rfl (fun j hj => ⟨0, by simp, _, rfl, hj⟩) (fun w' hm => Next_b w' bb t ls.flatten.length (hm.holds 0 _ rfl) hk hn) (fun x23 _ => ?_)
  refine g_pu rfl rfl rfl (pu_move rfl rfl) ?_
  refine g_pu rfl rfl rfl (pu_extract rfl rfl rfl) ?_
  refine g_pu rfl rfl rfl (pu_extract rfl rfl rfl) ?_
  refine g_pu rfl rfl rfl (pu_assign rfl rfl) ?_
  refine g_pu rfl rfl rfl (pu_assign rfl rfl) ?_
  refine g_nil ?_
  (repeat refine g_seq ?_)
  refine g_region ?_
  refine g_pu rfl rfl rfl (pu_move rfl rfl) ?_
  refine g_pu rfl rfl rfl (pu_move rfl rfl) ?_
  refine g_lo [28] rfl rfl rfl rfl (lo_buildSlice rfl rfl (by decide) (by decide) rfl rfl) (fun b28 hb28 => ?_)
  refine g_call [29] rfl rfl rfl rfl rfl rfl (fun w' hm => Xor_b w' 2 (L := [x10.sl ls.flatten.length, x23.sl ls.flatten.length]) (ls := [ls.flatten, streamL key t ls.flatten.length]) ⟨hm.rowA 28 rfl, rfl, All2.cons (IsB.own 10 rfl hm rfl (by omega)) (All2.cons (IsB.own 23 rfl hm (by rw [streamL_length]) (by omega)) All2.nil), by omega⟩ (by omega)) (fun x29 _ => ?_)
  rw [hx.1, hx.2, hxl]
  refine g_pu rfl rfl rfl (pu_extract rfl rfl rfl) ?_
  refine g_pu rfl rfl rfl (pu_extract rfl rfl rfl) ?_
  refine g_pu rfl rfl rfl (pu_assign rfl rfl) ?_
  refine g_pu rfl rfl rfl (pu_assign rfl rfl) ?_
  refine g_nil ?_
  exact g_ret2 rfl rfl rfl (fun w' hm => ⟨x29, trivial, rfl, hm.grows [29, 0] ⟨rfl, rfl, trivial⟩ rfl⟩)
theorem FTurn_e (w : World) (bb : Nat) {key : List (BitVec 8)} (t : Nat) {p : Option Addr} {n : Nat} (c : Nat) {L : List Value} {ls : List (List (BitVec 8))} (h : w.heap[bb]? = some (.cells (cflowC key t).toArray 173 (0, 0))) (hk : key.length = 32) (ha : ByL w p n L ls) (hc : n ≤ c) (hlen : ls.flatten.length ≤ 281474976710656) (hD : 0 < n → ∀ b o, p = some ⟨b, o, none⟩ → ¬ b = bb) (hE : ∀ q m c, Value.slice q m c ∈ L → 0 < m → ∀ j, At q j → ¬ j = bb) (ht : t ≤ 65536) (hn : ¬ t + ls.flatten.length ≤ 65536) :
    Spec Try.prog 31 #[.pointer (some ⟨bb, 0, none⟩), .slice p n c] w (σ := Unit) (fun _ => True) (fun _ => .tuple #[.slice none 0 0, .int .i64 11]) (fun j => j = bb) (fun _ => [.pt bb (.cells (cflowC key t).toArray 173 (0, 0))]) := by
  refine enter Try.func31 rfl rfl (Mem.start1 (.pt bb (.cells (cflowC key t).toArray 173 (0, 0))) h trivial (fun j hj => by rw [show j = bb from hj]; exact lt_of_some h)) ?_
  have hload : ∀ u, (cflowC key u).toArray[0 + 32]? = some (.int .i64 (u : Int)) := fun u => by simp [cflowC, bs_length, hk]
  (repeat refine g_seq ?_)
  refine g_region ?_
  refine g_pu rfl rfl rfl (pu_assign rfl rfl) ?_
  refine g_pu rfl rfl rfl (pu_assign rfl rfl) ?_
  refine g_nil ?_
  (repeat refine g_seq ?_)
  refine g_region ?_
  refine g_pu rfl rfl rfl (pu_move rfl rfl) ?_
  refine g_call [10] rfl rfl rfl rfl rfl rfl (fun w' hm => Join_b w' c (ha.mD hm hD hE) hc hlen) (fun x10 _ => ?_)
  refine g_pu rfl rfl rfl (pu_assign rfl rfl) ?_
  refine g_nil ?_
  (repeat refine g_seq ?_)
  refine g_region ?_
  refine g_pu rfl rfl rfl (pu_move rfl rfl) ?_
  first | refine g_pu rfl rfl rfl (pu_len rfl rfl) ?_ | refine g_pu rfl rfl rfl (pu_lenS rfl rfl) ?_
  refine g_pu rfl rfl rfl (pu_move rfl rfl) ?_
  refine g_pu rfl rfl rfl (pu_nil rfl rfl) ?_
  refine g_pu rfl rfl rfl (pu_fieldAddr (by decide) rfl rfl) ?_
  refine g_pu rfl rfl rfl (pu_load 0 rfl rfl rfl (hload t)) ?_
  refine g_pu rfl rfl rfl (pu_subI rfl rfl rfl (by omega)) ?_
  first | refine g_pu rfl rfl rfl (pu_gtr_t rfl rfl rfl (by omega)) ?_ | refine g_pu rfl rfl rfl (pu_gtr_f rfl rfl rfl (by omega)) ?_ | refine g_pu rfl rfl rfl (pu_gtr rfl rfl rfl) ?_
  refine g_nil ?_
  (repeat refine g_seq ?_)
  refine g_cond_t rfl ?_
  (repeat refine g_seq ?_)
  refine g_region ?_
  refine g_pu rfl rfl rfl (pu_assign rfl rfl) ?_
  refine g_pu rfl rfl rfl (pu_assign rfl rfl) ?_
  refine g_nil ?_
  exact g_ret2 rfl rfl rfl (fun w' hm => ⟨(), trivial, rfl, hm.grows [0] ⟨rfl, trivial⟩ rfl⟩)

theorem Turn_b (w : World) {q : Option Addr} {m : Nat} (d : Nat) {key : List (BitVec 8)} {p : Option Addr} {n : Nat} (c : Nat) {L : List Value} {ls : List (List (BitVec 8))} (hb : By w q m key) (ha : ByL w p n L ls) (hc : n ≤ c) (hlen : ls.flatten.length ≤ 281474976710656) :
    Spec Try.prog 26 #[.slice q m d, .slice p n c] w (σ := Ow) (fun _ => True) (fun x => .tuple #[x.sl (turnL key ls.flatten).length, .int .i64 (turnE key ls.flatten.length)]) Nob (fun x => [x.ck 5 1 (bs (turnL key ls.flatten))]) := by
  refine enter Try.func26 rfl rfl (Mem.start w) ?_
  have hkl := hb.len
  (repeat refine g_seq ?_)
  refine g_region ?_
  refine g_pu rfl rfl rfl (pu_assign rfl rfl) ?_
  refine g_pu rfl rfl rfl (pu_assign rfl rfl) ?_
  refine g_nil ?_
  by_cases h32 : m = 32
  · subst h32
    (repeat refine g_seq ?_)
    refine g_region ?_
    refine g_pu rfl rfl rfl (pu_move rfl rfl) ?_
    refine g_call [10] rfl rfl rfl rfl rfl rfl (fun w' hm => New_b w' d (hb.m hm)) (fun x10 _ => ?_)
    refine g_pu rfl rfl rfl (pu_move rfl rfl) ?_
    refine g_pu rfl rfl rfl (pu_extract rfl rfl rfl) ?_
    refine g_pu rfl rfl rfl (pu_extract rfl rfl rfl) ?_
    refine g_pu rfl rfl rfl (pu_assign rfl rfl) ?_
    refine g_pu rfl rfl rfl (pu_assign rfl rfl) ?_
    refine g_nil ?_
    refine g_know (φ := w.heap.size ≤ x10) (fun w' hm => (hm.above 10 _ rfl x10 rfl).resolve_right (fun h => h)) (fun hx10 => ?_)
    (repeat refine g_seq ?_)
    refine g_region ?_
    refine g_pu rfl rfl rfl (pu_move rfl rfl) ?_
    first | refine g_pu rfl rfl rfl (pu_neq_t rfl rfl rfl (by omega)) ?_ | refine g_pu rfl rfl rfl (pu_neq_f rfl rfl rfl (by omega)) ?_ | refine g_pu rfl rfl rfl (pu_neq rfl rfl rfl) ?_
    refine g_nil ?_
    (repeat refine g_seq ?_)
    refine g_cond_f rfl (g_skip ?_)
    by_cases hn : ls.flatten.length ≤ 65536
    · have hE0 : turnE key ls.flatten.length = 0 := by unfold turnE; rw [if_neg (by omega), if_neg (by omega)]
      have hL0 : turnL key ls.flatten = xorL ls.flatten (streamL key 0 ls.flatten.length) := by unfold turnL; rw [if_pos hE0]
      rw [hE0, hL0, xorL_length (by rw [streamL_length])]
      (repeat refine g_seq ?_)
      refine g_region ?_
      refine g_pu rfl rfl rfl (pu_move rfl rfl) ?_
      refine g_pu rfl rfl rfl (pu_move rfl rfl) ?_
      refine g_callW [10] [18, 10] rfl rfl rfl rfl rfl rfl (fun j hj => ⟨10, by simp, _, rfl, hj⟩) (fun w' hm => FTurn_b w' x10 0 c (hm.holds 10 _ rfl) hkl (ha.m hm) hc hlen (fun h0 b o e h => by have := ha.lt1 h0 b o e; omega) (fun q m c hv h0 j hj h => by have := ha.lt2 q m c hv h0 j hj; omega) (by omega)) (fun x18 _ => ?_)
      refine g_pu rfl rfl rfl (pu_extract rfl rfl rfl) ?_
      refine g_pu rfl rfl rfl (pu_extract rfl rfl rfl) ?_
      refine g_pu rfl rfl rfl (pu_assign rfl rfl) ?_
      refine g_pu rfl rfl rfl (pu_assign rfl rfl) ?_
      refine g_nil ?_
      exact g_ret2 rfl rfl rfl (fun w' hm => ⟨x18, trivial, rfl, hm.grows [18] ⟨rfl, trivial⟩ rfl⟩)
    · have hE0 : turnE key ls.flatten.length = 11 := by unfold turnE; rw [if_neg (by omega), if_pos (by omega)]
      have hL0 : turnL key ls.flatten = [] := by unfold turnL; rw [if_neg (by omega)]
      rw [hE0, hL0]
      (repeat refine g_seq ?_)
      refine g_region ?_
      refine g_pu rfl rfl rfl (pu_move rfl rfl) ?_
      refine g_pu rfl rfl rfl (pu_move rfl rfl) ?_
      refine g_callW [10] [10] rfl rfl rfl rfl rfl rfl (fun j hj => ⟨10, by simp, _, rfl, hj⟩) (fun w' hm => FTurn_e w' x10 0 c (hm.holds 10 _ rfl) hkl (ha.m hm) hc hlen (fun h0 b o e h => by have := ha.lt1 h0 b o e; omega) (fun q m c hv h0 j hj h => by have := ha.lt2 q m c hv h0 j hj; omega) (by omega) (by omega)) (fun _ _ => ?_)
      refine g_pu rfl rfl rfl (pu_extract rfl rfl rfl) ?_
      refine g_pu rfl rfl rfl (pu_extract rfl rfl rfl) ?_
      refine g_pu rfl rfl rfl (pu_assign rfl rfl) ?_
      refine g_pu rfl rfl rfl (pu_assign rfl rfl) ?_
      refine g_nil ?_
      exact g_nilOwn 90 5 1 rfl (g_ret2 rfl rfl rfl (fun w' hm => ⟨⟨none, 0⟩, trivial, rfl, hm.grows [90] ⟨rfl, trivial⟩ rfl⟩))
  · have hE0 : turnE key ls.flatten.length = 2 := by unfold turnE; rw [if_pos (by omega)]
    have hL0 : turnL key ls.flatten = [] := by unfold turnL; rw [if_neg (by omega)]
    rw [hE0, hL0]
    (repeat refine g_seq ?_)
    refine g_region ?_
    refine g_pu rfl rfl rfl (pu_move rfl rfl) ?_
    refine g_call [] rfl rfl rfl rfl rfl rfl (fun w' hm => New_e w' d h32) (fun _ _ => ?_)
    refine g_pu rfl rfl rfl (pu_move rfl rfl) ?_
    refine g_pu rfl rfl rfl (pu_extract rfl rfl rfl) ?_
    refine g_pu rfl rfl rfl (pu_extract rfl rfl rfl) ?_
    refine g_pu rfl rfl rfl (pu_assign rfl rfl) ?_
    refine g_pu rfl rfl rfl (pu_assign rfl rfl) ?_
    refine g_nil ?_
    (repeat refine g_seq ?_)
    refine g_region ?_
    refine g_pu rfl rfl rfl (pu_move rfl rfl) ?_
    first | refine g_pu rfl rfl rfl (pu_neq_t rfl rfl rfl (by omega)) ?_ | refine g_pu rfl rfl rfl (pu_neq_f rfl rfl rfl (by omega)) ?_ | refine g_pu rfl rfl rfl (pu_neq rfl rfl rfl) ?_
    refine g_nil ?_
    (repeat refine g_seq ?_)
    refine g_cond_t rfl ?_
    (repeat refine g_seq ?_)
    refine g_region ?_
    refine g_pu rfl rfl rfl (pu_move rfl rfl) ?_
    refine g_pu rfl rfl rfl (pu_assign rfl rfl) ?_
    refine g_pu rfl rfl rfl (pu_assign rfl rfl) ?_
    refine g_nil ?_
    exact g_nilOwn 90 5 1 rfl (g_ret2 rfl rfl rfl (fun w' hm => ⟨⟨none, 0⟩, trivial, rfl, hm.grows [90] ⟨rfl, trivial⟩ rfl⟩))

end Go.Sx

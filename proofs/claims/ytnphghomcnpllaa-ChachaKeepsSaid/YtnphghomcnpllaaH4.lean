/-
  A block of the stream: all rounds, and its bytes. The key has 32 bytes, the nonce 12.
-/
import Derived.Test.YtnphghomcnpllaaH3
import Derived.Test.YtnphghomcnpllaaC7
set_option linter.unusedVariables false
set_option linter.unusedSimpArgs false
namespace Go.Sx
open Go Go.Proofs

/-- The four places of round i. -/
def pl (i : Nat) : Nat × Nat × Nat × Nat := if i < 4 then (i, 4 + i, 8 + i, 12 + i) else (i - 4, 4 + (i - 4 + 1) % 4, 8 + (i - 4 + 2) % 4, 12 + (i - 4 + 3) % 4)
def rnds (s : List (BitVec 32)) : Nat → List (BitVec 32)
  | 0 => s
  | k + 1 => qrAt (rnds s k) (pl (k % 8)).1 (pl (k % 8)).2.1 (pl (k % 8)).2.2.1 (pl (k % 8)).2.2.2
theorem rnds_length (s : List (BitVec 32)) : ∀ k, (rnds s k).length = s.length
  | 0 => rfl
  | k + 1 => by rw [rnds, qrAt_length, rnds_length s k]
theorem rnds_col {s : List (BitVec 32)} {r i : Nat} (h : i < 4) : rnds s (8 * r + (i + 1)) = qrAt (rnds s (8 * r + i)) i (4 + i) (8 + i) (12 + i) := by
  rw [show 8 * r + (i + 1) = (8 * r + i) + 1 by omega, rnds]
  have e : (8 * r + i) % 8 = i := by omega
  rw [e]
  unfold pl
  rw [if_pos h]
theorem rnds_diag {s : List (BitVec 32)} {r i : Nat} (h : i < 4) : rnds s (8 * r + 4 + (i + 1)) = qrAt (rnds s (8 * r + 4 + i)) i (4 + (i + 1) % 4) (8 + (i + 2) % 4) (12 + (i + 3) % 4) := by
  rw [show 8 * r + 4 + (i + 1) = (8 * r + 4 + i) + 1 by omega, rnds]
  have e : (8 * r + 4 + i) % 8 = 4 + i := by omega
  rw [e]
  unfold pl
  rw [if_neg (by omega), show 4 + i - 4 = i by omega]
/-- The bytes of words, the least first. -/
def bytesOfW (f : Nat → BitVec 32) (n : Nat) : List (BitVec 8) := (List.range (4 * n)).map fun k => ((f (k / 4)) >>> (8 * (k % 4))).setWidth 8
theorem bytesOfW_get {f : Nat → BitVec 32} {n i r : Nat} (hi : i < n) (hr : r < 4) : (bytesOfW f n)[4 * i + r]? = some (((f i) >>> (8 * r)).setWidth 8) := by
  unfold bytesOfW
  rw [List.getElem?_map, List.getElem?_range (by omega)]
  simp only [Option.map_some, Option.some.injEq]
  rw [show (4 * i + r) / 4 = i by omega, show (4 * i + r) % 4 = r by omega]
theorem bytesOfW_length (f : Nat → BitVec 32) (n : Nat) : (bytesOfW f n).length = 4 * n := by simp [bytesOfW]
def sumW (a b : List (BitVec 32)) (i : Nat) : BitVec 32 := a.getD i 0#32 + b.getD i 0#32
def blockB (key nonce : List (BitVec 8)) (ctr : BitVec 32) : List (BitVec 8) := bytesOfW (sumW (rnds (stateL key nonce ctr) 80) (stateL key nonce ctr)) 16
theorem blockB_length (key nonce : List (BitVec 8)) (ctr : BitVec 32) : (blockB key nonce ctr).length = 64 := bytesOfW_length _ _

theorem block_b (w : World) {p q : Option Addr} (c d : Nat) {key nonce : List (BitVec 8)} (ctr : BitVec 32) (ha : By w p 32 key) (hb : By w q 12 nonce) (hc : 32 ≤ c) (hd : 12 ≤ d) :
    Spec Try.prog 32 #[.slice p 32 c, .slice q 12 d, b32 ctr] w (σ := Unit) (fun _ => True) (fun _ => .agg (bs (blockB key nonce ctr)).toArray) Nob (fun _ => []) := by
  refine enter Try.func32 rfl rfl (Mem.start w) ?_
  have hl := stateL_length (ctr := ctr) ha.len hb.len
  have hbl := blockB_length key nonce ctr
  unfold blockB at hbl ⊢
  generalize hfull : stateL key nonce ctr = full at hl hbl
  (repeat refine g_seq ?_)
  refine g_region ?_
  refine g_lo [6] rfl rfl rfl rfl (lo_alloc rfl) (fun b6 hb6 => ?_)
  refine g_nil ?_
  (repeat refine g_seq ?_)
  refine g_region ?_
  refine g_pu rfl rfl rfl (pu_move rfl rfl) ?_
  refine g_pu rfl rfl rfl (pu_move rfl rfl) ?_
  refine g_pu rfl rfl rfl (pu_move rfl rfl) ?_
  refine g_call [] rfl rfl rfl rfl rfl rfl (fun w' hm => state_b w' c d ctr (ha.m hm) (hb.m hm) hc hd) (fun _ _ => ?_)
  rw [hfull]
  refine g_lo [7] rfl rfl rfl rfl (lo_alloc rfl) (fun b7 hb7 => ?_)
  refine g_storeL 7 (C := ws full) rfl rfl rfl rfl rfl rfl (by rw [ws_length, hl]) (by simp) (oneCell_ws _) ?_
  refine g_nil ?_
  (repeat refine g_seq ?_)
  refine g_region ?_
  refine g_pu rfl rfl rfl (pu_loadW 7 (L := ws full) rfl rfl rfl (by rw [ws_length, hl])) ?_
  refine g_lo [8] rfl rfl rfl rfl (lo_alloc rfl) (fun q8 hb8 => ?_)
  refine g_storeL 8 (C := ws full) rfl rfl rfl rfl rfl rfl (by rw [ws_length, hl]) (by simp) (oneCell_ws _) ?_
  refine g_nil ?_
  (repeat refine g_seq ?_)
  refine g_region ?_
  refine g_pu rfl rfl rfl (pu_move rfl rfl) ?_
  refine g_nil ?_
  (repeat refine g_seq ?_)
  refine g_block (g_loop (σ := Nat) (fun r => [(6, .pointer (some ⟨b6, 0, none⟩)), (7, .pointer (some ⟨b7, 0, none⟩)), (8, .pointer (some ⟨q8, 0, none⟩)), (19, .int .i64 (r : Int))]) (fun r => [(6, .pt b6 (.cells (bs (List.replicate 64 0#8)).toArray 60 (0, 0))), (7, .pt b7 (.cells (ws full).toArray 74 (0, 0))), (8, .pt q8 (.cells (ws (rnds full (8 * r))).toArray 74 (0, 0)))]) (fun r => r ≤ 10) (fun r => 10 - r) 0 ⟨rfl, rfl, rfl, rfl, trivial⟩ ⟨rfl, rfl, rfl, trivial⟩ (by omega) ?_)
  intro r hr
  by_cases hlt : r < 10
  · (repeat refine g_seq ?_)
    refine g_region ?_
    first | refine g_pu rfl rfl rfl (pu_lss_t rfl rfl rfl (by omega)) ?_ | refine g_pu rfl rfl rfl (pu_lss_f rfl rfl rfl (by omega)) ?_ | refine g_pu rfl rfl rfl (pu_lss rfl rfl rfl) ?_
    refine g_nil ?_
    (repeat refine g_seq ?_)
    refine g_cond_t rfl (g_skip ?_)
    (repeat refine g_seq ?_); refine g_block ?_
    (repeat refine g_seq ?_)
    refine g_region ?_
    refine g_pu rfl rfl rfl (pu_move rfl rfl) ?_
    refine g_nil ?_
    (repeat refine g_seq ?_)
    refine g_block (g_loop (σ := Nat) (fun i => [(6, .pointer (some ⟨b6, 0, none⟩)), (7, .pointer (some ⟨b7, 0, none⟩)), (8, .pointer (some ⟨q8, 0, none⟩)), (19, .int .i64 (r : Int)), (21, .int .i64 (i : Int))]) (fun i => [(6, .pt b6 (.cells (bs (List.replicate 64 0#8)).toArray 60 (0, 0))), (7, .pt b7 (.cells (ws full).toArray 74 (0, 0))), (8, .pt q8 (.cells (ws (rnds full (8 * r + i))).toArray 74 (0, 0)))]) (fun i => i ≤ 4) (fun i => 4 - i) 0 ⟨rfl, rfl, rfl, rfl, rfl, trivial⟩ ⟨rfl, rfl, rfl, trivial⟩ (by omega) ?_)
    intro i hi
    by_cases hlti : i < 4
    · (repeat refine g_seq ?_)
      refine g_region ?_
      first | refine g_pu rfl rfl rfl (pu_lss_t rfl rfl rfl (by omega)) ?_ | refine g_pu rfl rfl rfl (pu_lss_f rfl rfl rfl (by omega)) ?_ | refine g_pu rfl rfl rfl (pu_lss rfl rfl rfl) ?_
      refine g_nil ?_
      (repeat refine g_seq ?_)
      refine g_cond_t rfl (g_skip ?_)
      (repeat refine g_seq ?_); refine g_block ?_
      (repeat refine g_seq ?_)
      refine g_region ?_
      refine g_pu rfl rfl rfl (pu_move rfl rfl) ?_
      refine g_pu rfl rfl rfl (pu_assign rfl rfl) ?_
      refine g_nil ?_
      (repeat refine g_seq ?_)
      refine g_region ?_
      refine g_pu rfl rfl rfl (pu_move rfl rfl) ?_
      refine g_pu rfl rfl rfl (pu_move rfl rfl) ?_
      refine g_pu rfl rfl rfl (pu_addI rfl rfl rfl (by omega)) ?_
      refine g_pu rfl rfl rfl (pu_move rfl rfl) ?_
      refine g_pu rfl rfl rfl (pu_addI rfl rfl rfl (by omega)) ?_
      refine g_pu rfl rfl rfl (pu_move rfl rfl) ?_
      refine g_pu rfl rfl rfl (pu_addI rfl rfl rfl (by omega)) ?_
      refine g_callW [8] [8] rfl rfl rfl rfl rfl rfl (fun j hj => ⟨8, by simp, _, rfl, hj⟩) (fun w' hm => round_b w' q8 (hm.holds 8 _ rfl) (by rw [rnds_length, hl]) i (4 + i) (8 + i) (12 + i) (by omega) (by omega) (by omega) (by omega)) (fun _ _ => ?_)
      rw [← rnds_col hlti]
      refine g_nil ?_
      refine g_blk ?_
      (repeat refine g_seq ?_)
      refine g_region ?_
      refine g_pu rfl rfl rfl (pu_addI rfl rfl rfl (by omega)) ?_
      refine g_pu rfl rfl rfl (pu_move rfl rfl) ?_
      refine g_nil ?_
      exact g_round (i + 1) (by omega) (by omega) ⟨rfl, rfl, rfl, rfl, rfl, trivial⟩ ⟨rfl, rfl, rfl, trivial⟩
    · (repeat refine g_seq ?_)
      refine g_region ?_
      first | refine g_pu rfl rfl rfl (pu_lss_t rfl rfl rfl (by omega)) ?_ | refine g_pu rfl rfl rfl (pu_lss_f rfl rfl rfl (by omega)) ?_ | refine g_pu rfl rfl rfl (pu_lss rfl rfl rfl) ?_
      refine g_nil ?_
      (repeat refine g_seq ?_)
      refine g_cond_f rfl (g_exit rfl ?_)
      have e : i = 4 := by omega
      subst e
      (repeat refine g_seq ?_)
      refine g_region ?_
      refine g_pu rfl rfl rfl (pu_move rfl rfl) ?_
      refine g_nil ?_
      (repeat refine g_seq ?_)
      refine g_block (g_loop (σ := Nat) (fun i => [(6, .pointer (some ⟨b6, 0, none⟩)), (7, .pointer (some ⟨b7, 0, none⟩)), (8, .pointer (some ⟨q8, 0, none⟩)), (19, .int .i64 (r : Int)), (33, .int .i64 (i : Int))]) (fun i => [(6, .pt b6 (.cells (bs (List.replicate 64 0#8)).toArray 60 (0, 0))), (7, .pt b7 (.cells (ws full).toArray 74 (0, 0))), (8, .pt q8 (.cells (ws (rnds full (8 * r + 4 + i))).toArray 74 (0, 0)))]) (fun i => i ≤ 4) (fun i => 4 - i) 0 ⟨rfl, rfl, rfl, rfl, rfl, trivial⟩ ⟨rfl, rfl, rfl, trivial⟩ (by omega) ?_)
      intro i hi
      by_cases hlti : i < 4
      · (repeat refine g_seq ?_)
        refine g_region ?_
        first | refine g_pu rfl rfl rfl (pu_lss_t rfl rfl rfl (by omega)) ?_ | refine g_pu rfl rfl rfl (pu_lss_f rfl rfl rfl (by omega)) ?_ | refine g_pu rfl rfl rfl (pu_lss rfl rfl rfl) ?_
        refine g_nil ?_
        (repeat refine g_seq ?_)
        refine g_cond_t rfl (g_skip ?_)
        (repeat refine g_seq ?_); refine g_block ?_
        (repeat refine g_seq ?_)
        refine g_region ?_
        refine g_pu rfl rfl rfl (pu_move rfl rfl) ?_
        refine g_pu rfl rfl rfl (pu_assign rfl rfl) ?_
        refine g_nil ?_
        (repeat refine g_seq ?_)
        refine g_region ?_
        refine g_pu rfl rfl rfl (pu_move rfl rfl) ?_
        refine g_pu rfl rfl rfl (pu_move rfl rfl) ?_
        refine g_pu rfl rfl rfl (pu_addI rfl rfl rfl (by omega)) ?_
        refine g_pu rfl rfl rfl (pu_remI rfl rfl rfl (by omega)) ?_
        refine g_pu rfl rfl rfl (pu_addI rfl rfl rfl (by omega)) ?_
        refine g_pu rfl rfl rfl (pu_move rfl rfl) ?_
        refine g_pu rfl rfl rfl (pu_addI rfl rfl rfl (by omega)) ?_
        refine g_pu rfl rfl rfl (pu_remI rfl rfl rfl (by omega)) ?_
        refine g_pu rfl rfl rfl (pu_addI rfl rfl rfl (by omega)) ?_
        refine g_pu rfl rfl rfl (pu_move rfl rfl) ?_
        refine g_pu rfl rfl rfl (pu_addI rfl rfl rfl (by omega)) ?_
        refine g_pu rfl rfl rfl (pu_remI rfl rfl rfl (by omega)) ?_
        refine g_pu rfl rfl rfl (pu_addI rfl rfl rfl (by omega)) ?_
        refine g_callW [8] [8] rfl rfl rfl rfl rfl rfl (fun j hj => ⟨8, by simp, _, rfl, hj⟩) (fun w' hm => round_b w' q8 (hm.holds 8 _ rfl) (by rw [rnds_length, hl]) i (4 + (i + 1) % 4) (8 + (i + 2) % 4) (12 + (i + 3) % 4) (by omega) (by omega) (by omega) (by omega)) (fun _ _ => ?_)
        rw [← rnds_diag hlti]
        refine g_nil ?_
        refine g_blk ?_
        (repeat refine g_seq ?_)
        refine g_region ?_
        refine g_pu rfl rfl rfl (pu_addI rfl rfl rfl (by omega)) ?_
        refine g_pu rfl rfl rfl (pu_move rfl rfl) ?_
        refine g_nil ?_
        exact g_round (i + 1) (by omega) (by omega) ⟨rfl, rfl, rfl, rfl, rfl, trivial⟩ ⟨rfl, rfl, rfl, trivial⟩
      · (repeat refine g_seq ?_)
        refine g_region ?_
        first | refine g_pu rfl rfl rfl (pu_lss_t rfl rfl rfl (by omega)) ?_ | refine g_pu rfl rfl rfl (pu_lss_f rfl rfl rfl (by omega)) ?_ | refine g_pu rfl rfl rfl (pu_lss rfl rfl rfl) ?_
        refine g_nil ?_
        (repeat refine g_seq ?_)
        refine g_cond_f rfl (g_exit rfl ?_)
        have e : i = 4 := by omega
        subst e
        refine g_blk ?_
        (repeat refine g_seq ?_)
        refine g_region ?_
        refine g_pu rfl rfl rfl (pu_addI rfl rfl rfl (by omega)) ?_
        refine g_pu rfl rfl rfl (pu_move rfl rfl) ?_
        refine g_nil ?_
        refine g_round (r + 1) (by omega) (by omega) ⟨rfl, rfl, rfl, rfl, trivial⟩ ⟨rfl, rfl, by rw [show 8 * (r + 1) = 8 * r + 4 + 4 by omega]; rfl, trivial⟩
  · (repeat refine g_seq ?_)
    refine g_region ?_
    first | refine g_pu rfl rfl rfl (pu_lss_t rfl rfl rfl (by omega)) ?_ | refine g_pu rfl rfl rfl (pu_lss_f rfl rfl rfl (by omega)) ?_ | refine g_pu rfl rfl rfl (pu_lss rfl rfl rfl) ?_
    refine g_nil ?_
    (repeat refine g_seq ?_)
    refine g_cond_f rfl (g_exit rfl ?_)
    have e : r = 10 := by omega
    subst e
    have hrl : (rnds full 80).length = 16 := by rw [rnds_length, hl]
    change G _ _ _ _ _ _ _ [(6, .pt b6 (.cells (bs (List.replicate 64 0#8)).toArray 60 (0, 0))), (7, .pt b7 (.cells (ws full).toArray 74 (0, 0))), (8, .pt q8 (.cells (ws (rnds full 80)).toArray 74 (0, 0)))] _
    generalize rnds full 80 = sL at hrl hbl
    (repeat refine g_seq ?_)
    refine g_region ?_
    refine g_lo [11] rfl rfl rfl rfl (lo_alloc rfl) (fun b11 hb11 => ?_)
    refine g_nil ?_
    (repeat refine g_seq ?_)
    refine g_region ?_
    refine g_pu rfl rfl rfl (pu_move rfl rfl) ?_
    refine g_nil ?_
    (repeat refine g_seq ?_)
    refine g_block (g_loop (σ := Nat) (fun i => [(6, .pointer (some ⟨b6, 0, none⟩)), (7, .pointer (some ⟨b7, 0, none⟩)), (8, .pointer (some ⟨q8, 0, none⟩)), (11, .pointer (some ⟨b11, 0, none⟩)), (52, .int .i64 (i : Int))]) (fun i => [(6, .pt b6 (.cells (bs (List.replicate 64 0#8)).toArray 60 (0, 0))), (7, .pt b7 (.cells (ws full).toArray 74 (0, 0))), (8, .pt q8 (.cells (ws sL).toArray 74 (0, 0))), (11, .pt b11 (.cells (bs (fillW 0#8 (bytesOfW (sumW sL full) 16) (4 * i))).toArray 60 (0, 0)))]) (fun i => i ≤ 16) (fun i => 16 - i) 0 ⟨rfl, rfl, rfl, rfl, rfl, trivial⟩ ⟨rfl, rfl, rfl, by rw [show fillW 0#8 (bytesOfW (sumW sL full) 16) (4 * 0) = List.replicate 64 0#8 by simp [fillW, hbl]]; rfl, trivial⟩ (by omega) ?_)
    intro i hi
    by_cases hlt : i < 16
    · (repeat refine g_seq ?_)
      refine g_region ?_
      first | refine g_pu rfl rfl rfl (pu_lss_t rfl rfl rfl (by omega)) ?_ | refine g_pu rfl rfl rfl (pu_lss_f rfl rfl rfl (by omega)) ?_ | refine g_pu rfl rfl rfl (pu_lss rfl rfl rfl) ?_
      refine g_nil ?_
      (repeat refine g_seq ?_)
      refine g_cond_t rfl (g_skip ?_)
      have g1 : sL[i]? = some (sL.getD i 0#32) := by
        have : sL[i]? = some sL[i] := List.getElem?_eq_getElem (by omega)
        simp [List.getD, this]
      have g2 : full[i]? = some (full.getD i 0#32) := by
        have : full[i]? = some full[i] := List.getElem?_eq_getElem (by omega)
        simp [List.getD, this]
      have h0 := bytesOfW_get (f := sumW sL full) (n := 16) (i := i) (r := 0) hlt (by omega)
      have h1 := bytesOfW_get (f := sumW sL full) (n := 16) (i := i) (r := 1) hlt (by omega)
      have h2 := bytesOfW_get (f := sumW sL full) (n := 16) (i := i) (r := 2) hlt (by omega)
      have h3 := bytesOfW_get (f := sumW sL full) (n := 16) (i := i) (r := 3) hlt (by omega)
      generalize bytesOfW (sumW sL full) 16 = oL at hbl h0 h1 h2 h3
      rw [Nat.mul_zero, BitVec.ushiftRight_zero, Nat.add_zero] at h0
      (repeat refine g_seq ?_); refine g_block ?_
      (repeat refine g_seq ?_)
      refine g_region ?_
      refine g_pu rfl rfl rfl (pu_move rfl rfl) ?_
      refine g_pu rfl rfl rfl (pu_assign rfl rfl) ?_
      refine g_nil ?_
      (repeat refine g_seq ?_)
      refine g_any (8, []) ?_
      refine a_pu 0 rfl rfl rfl rfl (pu_move rfl rfl) rfl rfl (by kernel_rfl) ?_
      refine a_pu 1 rfl rfl rfl rfl (pu_atA1 i rfl rfl rfl rfl hlt) rfl rfl (by kernel_rfl) ?_
      refine a_pu 2 rfl rfl rfl rfl (pu_load 8 rfl rfl rfl (ws_load g1)) rfl rfl (by kernel_rfl) ?_
      refine a_pu 3 rfl rfl rfl rfl (pu_move rfl rfl) rfl rfl (by kernel_rfl) ?_
      refine a_pu 4 rfl rfl rfl rfl (pu_atA1 i rfl rfl rfl rfl hlt) rfl rfl (by kernel_rfl) ?_
      refine a_pu 5 rfl rfl rfl rfl (pu_load 7 rfl rfl rfl (ws_load g2)) rfl rfl (by kernel_rfl) ?_
      refine a_pu 6 rfl rfl rfl rfl (pu_add32 rfl rfl rfl) rfl rfl (by kernel_rfl) ?_
      refine a_pu 7 rfl rfl rfl rfl (pu_assign rfl rfl) rfl rfl (by kernel_rfl) ?_
      refine a_done (by kernel_rfl) ?_
      (repeat refine g_seq ?_)
      refine g_region ?_
      refine g_pu rfl rfl rfl (pu_move rfl rfl) ?_
      refine g_pu rfl rfl rfl (pu_mulI rfl rfl rfl (by omega)) ?_
      refine g_pu rfl rfl rfl (pu_move rfl rfl) ?_
      refine g_pu rfl rfl rfl (pu_mulI rfl rfl rfl (by omega)) ?_
      refine g_pu rfl rfl rfl (pu_addI rfl rfl rfl (by omega)) ?_
      refine g_pu rfl rfl rfl (pu_move rfl rfl) ?_
      refine g_pu rfl rfl rfl (pu_mulI rfl rfl rfl (by omega)) ?_
      refine g_pu rfl rfl rfl (pu_addI rfl rfl rfl (by omega)) ?_
      refine g_pu rfl rfl rfl (pu_move rfl rfl) ?_
      refine g_pu rfl rfl rfl (pu_mulI rfl rfl rfl (by omega)) ?_
      refine g_pu rfl rfl rfl (pu_addI rfl rfl rfl (by omega)) ?_
      refine g_pu rfl rfl rfl (pu_move rfl rfl) ?_
      refine g_pu rfl rfl rfl (pu_conv32_8 rfl rfl) ?_
      refine g_pu rfl rfl rfl (pu_move rfl rfl) ?_
      refine g_pu rfl rfl rfl (pu_shr32 rfl rfl rfl (by omega)) ?_
      refine g_pu rfl rfl rfl (pu_conv32_8 rfl rfl) ?_
      refine g_pu rfl rfl rfl (pu_move rfl rfl) ?_
      refine g_pu rfl rfl rfl (pu_shr32 rfl rfl rfl (by omega)) ?_
      refine g_pu rfl rfl rfl (pu_conv32_8 rfl rfl) ?_
      refine g_pu rfl rfl rfl (pu_move rfl rfl) ?_
      refine g_pu rfl rfl rfl (pu_shr32 rfl rfl rfl (by omega)) ?_
      refine g_pu rfl rfl rfl (pu_conv32_8 rfl rfl) ?_
      refine g_pu rfl rfl rfl (pu_atA1 (4 * i) rfl rfl rfl (by omega) (by omega)) ?_
      refine g_store 11 (v := b8 ((sumW sL full i).setWidth 8)) rfl rfl rfl rfl rfl rfl rfl (by rw [bs_length, fillW_length]; omega) ?_
      rw [bs_setW, fillW_set h0]
      refine g_pu rfl rfl rfl (pu_atA1 (4 * i + 1) rfl rfl rfl (by omega) (by omega)) ?_
      refine g_store 11 (v := b8 ((sumW sL full i >>> (8 * 1)).setWidth 8)) rfl rfl rfl rfl rfl rfl rfl (by rw [bs_length, fillW_length]; omega) ?_
      rw [bs_setW, fillW_set h1]
      refine g_pu rfl rfl rfl (pu_atA1 (4 * i + 2) rfl rfl rfl (by omega) (by omega)) ?_
      refine g_store 11 (v := b8 ((sumW sL full i >>> (8 * 2)).setWidth 8)) rfl rfl rfl rfl rfl rfl rfl (by rw [bs_length, fillW_length]; omega) ?_
      rw [bs_setW, fillW_set h2]
      refine g_pu rfl rfl rfl (pu_atA1 (4 * i + 3) rfl rfl rfl (by omega) (by omega)) ?_
      refine g_store 11 (v := b8 ((sumW sL full i >>> (8 * 3)).setWidth 8)) rfl rfl rfl rfl rfl rfl rfl (by rw [bs_length, fillW_length]; omega) ?_
      rw [bs_setW, fillW_set h3]
      refine g_nil ?_
      refine g_blk ?_
      (repeat refine g_seq ?_)
      refine g_region ?_
      refine g_pu rfl rfl rfl (pu_addI rfl rfl rfl (by omega)) ?_
      refine g_pu rfl rfl rfl (pu_move rfl rfl) ?_
      refine g_nil ?_
      exact g_round (i + 1) (by omega) (by omega) ⟨rfl, rfl, rfl, rfl, rfl, trivial⟩ ⟨rfl, rfl, rfl, rfl, trivial⟩
    · (repeat refine g_seq ?_)
      refine g_region ?_
      first | refine g_pu rfl rfl rfl (pu_lss_t rfl rfl rfl (by omega)) ?_ | refine g_pu rfl rfl rfl (pu_lss_f rfl rfl rfl (by omega)) ?_ | refine g_pu rfl rfl rfl (pu_lss rfl rfl rfl) ?_
      refine g_nil ?_
      (repeat refine g_seq ?_)
      refine g_cond_f rfl (g_exit rfl ?_)
      have e : i = 16 := by omega
      subst e
      have hfe : fillW 0#8 (bytesOfW (sumW sL full) 16) (4 * 16) = bytesOfW (sumW sL full) 16 := by have := fillW_end 0#8 (bytesOfW (sumW sL full) 16); rwa [hbl] at this
      rw [hfe]
      (repeat refine g_seq ?_)
      refine g_region ?_
      refine g_pu rfl rfl rfl (pu_loadW 11 (L := bs (bytesOfW (sumW sL full) 16)) rfl rfl rfl (by rw [bs_length, hbl])) ?_
      refine g_storeL 6 (C := bs (bytesOfW (sumW sL full) 16)) rfl rfl rfl rfl rfl rfl (by rw [bs_length, hbl]) (by simp [bs]) (oneCell_bs _) ?_
      refine g_nil ?_
      exact g_retL 6 (L := bs (bytesOfW (sumW sL full) 16)) rfl (by rw [bs_length, hbl]) rfl rfl (fun w' hm => ⟨(), trivial, rfl, hm.grows [] trivial rfl⟩)
end Go.Sx

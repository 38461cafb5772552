/-
  The words of all rounds, and rotating to the right: of the program and of the reference. The block has 64 bytes.
-/
import Derived.Test.YtfnbedjnbofliaaSC
import Derived.Test.YtfnbedjnbofliaaRot
import Derived.Test.YtfnbedjnbofliaaSxIdx
set_option linter.unusedVariables false
set_option linter.unusedSimpArgs false
namespace Go.Sx
open Go Go.Proofs

theorem RotN_b (w : World) (x : BitVec 32) (k : Nat) (h0 : 0 < k) (h : k < 32) : Spec Try.prog 66 #[b32 x, .int .i64 (-(k : Int))] w (σ := Unit) (fun _ => True) (fun _ => b32 (rotL x (32 - k))) Nob (fun _ => []) := by
  refine enter Try.func66 rfl rfl (Mem.start w) ?_
  have and31n : (BitVec.ofInt 64 (-(k : Int)) &&& 31#64) = BitVec.ofNat 64 (32 - k) := by
    apply BitVec.eq_of_toNat_eq
    have e : (BitVec.ofInt 64 (-(k : Int))).toNat = 18446744073709551616 - k := by rw [BitVec.toNat_ofInt]; omega
    have h5 := Nat.and_two_pow_sub_one_eq_mod (18446744073709551616 - k) 5
    rw [BitVec.toNat_and, e, BitVec.toNat_ofNat]
    show (18446744073709551616 - k) &&& (2 ^ 5 - 1) = (32 - k) % 2 ^ 64
    rw [h5]; omega
  (repeat refine g_seq ?_)
  refine g_region ?_
  refine g_pu rfl rfl rfl (pu_assign (v := b32 0#32) rfl rfl) ?_
  refine g_nil ?_
  (repeat refine g_seq ?_)
  refine g_region ?_
  refine g_pu rfl rfl rfl (pu_move rfl rfl) ?_
  refine g_pu rfl rfl rfl (pu_convI_64 rfl rfl) ?_
  refine g_pu rfl rfl rfl (pu_and64 (b := 31#64) rfl rfl rfl) ?_
  rw [and31n]
  refine g_pu rfl rfl rfl (pu_assign rfl rfl) ?_
  refine g_nil ?_
  have e1 : (BitVec.ofNat 64 (32 - k)).toNat = 32 - k := by rw [BitVec.toNat_ofNat]; omega
  have e2 : (32#64 - BitVec.ofNat 64 (32 - k)).toNat = 32 - (32 - k) := by rw [BitVec.toNat_sub, BitVec.toNat_ofNat]; simp; omega
  (repeat refine g_seq ?_)
  refine g_region ?_
  refine g_pu rfl rfl rfl (pu_move rfl rfl) ?_
  refine g_pu rfl rfl rfl (pu_move rfl rfl) ?_
  refine g_pu rfl rfl rfl (pu_shl32 rfl rfl rfl (by omega)) ?_
  refine g_pu rfl rfl rfl (pu_move rfl rfl) ?_
  refine g_pu rfl rfl rfl (pu_move rfl rfl) ?_
  refine g_pu rfl rfl rfl (pu_sub64 (a := 32#64) rfl rfl rfl) ?_
  refine g_pu rfl rfl rfl (pu_shr32 rfl rfl rfl (by omega)) ?_
  refine g_pu rfl rfl rfl (pu_or32 rfl rfl rfl) ?_
  refine g_pu rfl rfl rfl (pu_assign rfl rfl) ?_
  refine g_nil ?_
  refine g_ret1 rfl rfl (fun w' hm => ⟨(), trivial, ?_, hm.grows [] trivial rfl⟩)
  unfold rotL
  simp only [Int.toNat_natCast, e1, e2]

theorem right_b (w : World) (x : BitVec 32) (k : Nat) (h0 : 0 < k) (h : k < 32) : Spec Try.prog 63 #[b32 x, .int .i64 (k : Int)] w (σ := Unit) (fun _ => True) (fun _ => b32 (rotL x (32 - k))) Nob (fun _ => []) := by
  refine enter Try.func63 rfl rfl (Mem.start w) ?_
  (repeat refine g_seq ?_)
  refine g_region ?_
  refine g_pu rfl rfl rfl (pu_assign (v := b32 0#32) rfl rfl) ?_
  refine g_nil ?_
  (repeat refine g_seq ?_)
  refine g_any (9, []) ?_
  refine a_pu 0 rfl rfl rfl rfl (pu_move rfl rfl) rfl rfl (by kernel_rfl) ?_
  refine a_pu 1 rfl rfl rfl rfl (pu_move rfl rfl) rfl rfl (by kernel_rfl) ?_
  refine a_pu 2 rfl rfl rfl rfl (pu_shr32 rfl rfl rfl (by omega)) rfl rfl (by kernel_rfl) ?_
  refine a_pu 3 rfl rfl rfl rfl (pu_move rfl rfl) rfl rfl (by kernel_rfl) ?_
  refine a_pu 4 rfl rfl rfl rfl (pu_move rfl rfl) rfl rfl (by kernel_rfl) ?_
  refine a_pu 5 rfl rfl rfl rfl (pu_subI rfl rfl rfl (by omega)) rfl rfl (by kernel_rfl) ?_
  refine a_pu 6 rfl rfl rfl rfl (pu_shl32 rfl rfl rfl (by omega)) rfl rfl (by kernel_rfl) ?_
  refine a_pu 7 rfl rfl rfl rfl (pu_or32 rfl rfl rfl) rfl rfl (by kernel_rfl) ?_
  refine a_pu 8 rfl rfl rfl rfl (pu_assign rfl rfl) rfl rfl (by kernel_rfl) ?_
  refine a_done (by kernel_rfl) ?_
  refine g_ret1 rfl rfl (fun w' hm => ⟨(), trivial, ?_, hm.grows [] trivial rfl⟩)
  unfold rotL
  rw [show ((k : Int)).toNat = k by omega, show ((32 : Int) - (k : Int)).toNat = 32 - k by omega, show 32 - (32 - k) = k by omega, BitVec.or_comm]

def sg0 (x : BitVec 32) : BitVec 32 := rotL x 25 ^^^ rotL x 14 ^^^ x >>> 3
def sg1 (y : BitVec 32) : BitVec 32 := rotL y 15 ^^^ rotL y 13 ^^^ y >>> 10
def byt (l : List (BitVec 8)) (i : Nat) : BitVec 32 := (l.getD i 0#8).setWidth 32
def be4 (l : List (BitVec 8)) (t : Nat) : BitVec 32 := byt l (4 * t) <<< 24 ||| byt l (4 * t + 1) <<< 16 ||| byt l (4 * t + 2) <<< 8 ||| byt l (4 * t + 3)
def wt (b : List (BitVec 8)) (l : List (BitVec 32)) (t : Nat) : BitVec 32 :=
  if t < 16 then be4 b t else sg1 (l.getD (t - 2) 0#32) + l.getD (t - 7) 0#32 + sg0 (l.getD (t - 15) 0#32) + l.getD (t - 16) 0#32
def schedL (b : List (BitVec 8)) : Nat → List (BitVec 32)
  | 0 => []
  | n + 1 => schedL b n ++ [wt b (schedL b n) n]
theorem schedL_length (b : List (BitVec 8)) : ∀ n, (schedL b n).length = n
  | 0 => rfl
  | n + 1 => by rw [schedL, List.length_append, schedL_length b n]; rfl
/-- Filled in up to word n. -/
def schA (b : List (BitVec 8)) (n : Nat) : List (BitVec 32) := schedL b n ++ List.replicate (64 - n) 0#32
theorem schA_length (b : List (BitVec 8)) {n : Nat} (h : n ≤ 64) : (schA b n).length = 64 := by rw [schA, List.length_append, schedL_length, List.length_replicate]; omega
theorem schA_get (b : List (BitVec 8)) {n j : Nat} (h : j < n) : (schA b n)[j]? = some ((schedL b n).getD j 0#32) := by
  rw [schA, List.getElem?_append_left (by rw [schedL_length]; exact h)]
  exact getD_some (by rw [schedL_length]; exact h)
theorem schA_set (b : List (BitVec 8)) {n : Nat} (h : n < 64) : (schA b n).set n (wt b (schedL b n) n) = schA b (n + 1) := by
  rw [schA, List.set_append_right _ _ (by rw [schedL_length]; exact Nat.le_refl _), schedL_length, Nat.sub_self, schA, schedL, List.append_assoc]
  congr 1
  rw [show 64 - n = (64 - (n + 1)) + 1 by omega, List.replicate_succ]
  rfl
theorem schA_end (b : List (BitVec 8)) : schA b 64 = schedL b 64 := by simp [schA]
theorem byt_get {l : List (BitVec 8)} {i : Nat} (h : i < l.length) : l[i]? = some (l.getD i 0#8) := getD_some h

theorem schedule_b (w : World) {p : Option Addr} (c : Nat) {l : List (BitVec 8)} (ha : By w p 64 l) : Spec Try.prog 64 #[.slice p 64 c] w (σ := Unit) (fun _ => True) (fun _ => .agg (ws (schedL l 64)).toArray) Nob (fun _ => []) := by
  refine enter Try.func64 rfl rfl (Mem.start w) ?_
  have hl := ha.len
  obtain ⟨pb, po, hp, _⟩ := ha.rd.place (by rw [bs_length]; omega)
  subst hp
  (repeat refine g_seq ?_)
  refine g_region ?_
  refine g_lo [2] rfl rfl rfl rfl (lo_alloc rfl) (fun b2 hb2 => ?_)
  refine g_nil ?_
  (repeat refine g_seq ?_)
  refine g_region ?_
  refine g_lo [3] rfl rfl rfl rfl (lo_alloc rfl) (fun b3 hb3 => ?_)
  refine g_nil ?_
  (repeat refine g_seq ?_)
  refine g_region ?_
  refine g_pu rfl rfl rfl (pu_move rfl rfl) ?_
  refine g_nil ?_
  (repeat refine g_seq ?_)
  refine g_block (g_loop (σ := Nat) (fun t => [(0, .slice (some ⟨pb, po, none⟩) 64 c), (2, .pointer (some ⟨b2, 0, none⟩)), (3, .pointer (some ⟨b3, 0, none⟩)), (10, .int .i64 (t : Int))]) (fun t => [(2, .pt b2 (.cells (ws (List.replicate 64 0#32)).toArray 90 (0, 0))), (3, .pt b3 (.cells (ws (schA l t)).toArray 90 (0, 0)))]) (fun t => t ≤ 16) (fun t => 16 - t) 0 ⟨rfl, rfl, rfl, rfl, trivial⟩ ⟨rfl, rfl, trivial⟩ (by omega) ?_)
  intro t ht
  by_cases hlt : t < 16
  · (repeat refine g_seq ?_)
    refine g_region ?_
    first | refine g_pu rfl rfl rfl (pu_lss_t rfl rfl rfl (by omega)) ?_ | refine g_pu rfl rfl rfl (pu_lss_f rfl rfl rfl (by omega)) ?_ | refine g_pu rfl rfl rfl (pu_lss rfl rfl rfl) ?_
    refine g_nil ?_
    (repeat refine g_seq ?_)
    refine g_cond_t rfl (g_skip ?_)
    have hwt : wt l (schedL l t) t = be4 l t := by simp [wt, hlt]
    (repeat refine g_seq ?_); refine g_block ?_
    (repeat refine g_seq ?_)
    refine g_region ?_
    refine g_pu rfl rfl rfl (pu_move rfl rfl) ?_
    refine g_pu rfl rfl rfl (pu_assign rfl rfl) ?_
    refine g_nil ?_
    (repeat refine g_seq ?_)
    refine g_any (35, []) ?_
    refine a_pu 0 rfl rfl rfl rfl (pu_move rfl rfl) rfl rfl (by kernel_rfl) ?_
    refine a_pu 1 rfl rfl rfl rfl (pu_move rfl rfl) rfl rfl (by kernel_rfl) ?_
    refine a_pu 2 rfl rfl rfl rfl (pu_move rfl rfl) rfl rfl (by kernel_rfl) ?_
    refine a_pu 3 rfl rfl rfl rfl (pu_mulI rfl rfl rfl (by omega)) rfl rfl (by kernel_rfl) ?_
    refine a_pu 4 rfl rfl rfl rfl (pu_at1 (4 * t) rfl rfl rfl (by omega) (by omega)) rfl rfl (by kernel_rfl) ?_
    refine a_pu 5 rfl rfl rfl rfl (pu_rdB (j := 4 * t) (fun w' hm => ha.m hm) rfl rfl (byt_get (by omega))) rfl rfl (by kernel_rfl) ?_
    refine a_pu 6 rfl rfl rfl rfl (pu_conv8_32 rfl rfl) rfl rfl (by kernel_rfl) ?_
    refine a_pu 7 rfl rfl rfl rfl (pu_shl32 rfl rfl rfl (by omega)) rfl rfl (by kernel_rfl) ?_
    refine a_pu 8 rfl rfl rfl rfl (pu_move rfl rfl) rfl rfl (by kernel_rfl) ?_
    refine a_pu 9 rfl rfl rfl rfl (pu_move rfl rfl) rfl rfl (by kernel_rfl) ?_
    refine a_pu 10 rfl rfl rfl rfl (pu_mulI rfl rfl rfl (by omega)) rfl rfl (by kernel_rfl) ?_
    refine a_pu 11 rfl rfl rfl rfl (pu_addI rfl rfl rfl (by omega)) rfl rfl (by kernel_rfl) ?_
    refine a_pu 12 rfl rfl rfl rfl (pu_at1 (4 * t + 1) rfl rfl rfl (by omega) (by omega)) rfl rfl (by kernel_rfl) ?_
    refine a_pu 13 rfl rfl rfl rfl (pu_rdB (j := 4 * t + 1) (fun w' hm => ha.m hm) rfl rfl (byt_get (by omega))) rfl rfl (by kernel_rfl) ?_
    refine a_pu 14 rfl rfl rfl rfl (pu_conv8_32 rfl rfl) rfl rfl (by kernel_rfl) ?_
    refine a_pu 15 rfl rfl rfl rfl (pu_shl32 rfl rfl rfl (by omega)) rfl rfl (by kernel_rfl) ?_
    refine a_pu 16 rfl rfl rfl rfl (pu_or32 rfl rfl rfl) rfl rfl (by kernel_rfl) ?_
    refine a_pu 17 rfl rfl rfl rfl (pu_move rfl rfl) rfl rfl (by kernel_rfl) ?_
    refine a_pu 18 rfl rfl rfl rfl (pu_move rfl rfl) rfl rfl (by kernel_rfl) ?_
    refine a_pu 19 rfl rfl rfl rfl (pu_mulI rfl rfl rfl (by omega)) rfl rfl (by kernel_rfl) ?_
    refine a_pu 20 rfl rfl rfl rfl (pu_addI rfl rfl rfl (by omega)) rfl rfl (by kernel_rfl) ?_
    refine a_pu 21 rfl rfl rfl rfl (pu_at1 (4 * t + 2) rfl rfl rfl (by omega) (by omega)) rfl rfl (by kernel_rfl) ?_
    refine a_pu 22 rfl rfl rfl rfl (pu_rdB (j := 4 * t + 2) (fun w' hm => ha.m hm) rfl rfl (byt_get (by omega))) rfl rfl (by kernel_rfl) ?_
    refine a_pu 23 rfl rfl rfl rfl (pu_conv8_32 rfl rfl) rfl rfl (by kernel_rfl) ?_
    refine a_pu 24 rfl rfl rfl rfl (pu_shl32 rfl rfl rfl (by omega)) rfl rfl (by kernel_rfl) ?_
    refine a_pu 25 rfl rfl rfl rfl (pu_or32 rfl rfl rfl) rfl rfl (by kernel_rfl) ?_
    refine a_pu 26 rfl rfl rfl rfl (pu_move rfl rfl) rfl rfl (by kernel_rfl) ?_
    refine a_pu 27 rfl rfl rfl rfl (pu_move rfl rfl) rfl rfl (by kernel_rfl) ?_
    refine a_pu 28 rfl rfl rfl rfl (pu_mulI rfl rfl rfl (by omega)) rfl rfl (by kernel_rfl) ?_
    refine a_pu 29 rfl rfl rfl rfl (pu_addI rfl rfl rfl (by omega)) rfl rfl (by kernel_rfl) ?_
    refine a_pu 30 rfl rfl rfl rfl (pu_at1 (4 * t + 3) rfl rfl rfl (by omega) (by omega)) rfl rfl (by kernel_rfl) ?_
    refine a_pu 31 rfl rfl rfl rfl (pu_rdB (j := 4 * t + 3) (fun w' hm => ha.m hm) rfl rfl (byt_get (by omega))) rfl rfl (by kernel_rfl) ?_
    refine a_pu 32 rfl rfl rfl rfl (pu_conv8_32 rfl rfl) rfl rfl (by kernel_rfl) ?_
    refine a_pu 33 rfl rfl rfl rfl (pu_or32 rfl rfl rfl) rfl rfl (by kernel_rfl) ?_
    refine a_pu 34 rfl rfl rfl rfl (pu_atA1 t rfl rfl rfl rfl (by omega)) rfl rfl (by kernel_rfl) ?_
    refine a_tail [35] (by kernel_rfl) rfl rfl (by kernel_rfl) ?_
    refine g_store 3 (v := b32 (wt l (schedL l t) t)) rfl rfl rfl rfl (by rw [hwt]; rfl) rfl rfl (by rw [ws_length, schA_length _ (by omega)]; omega) ?_
    rw [ws_set, schA_set _ (by omega)]
    refine g_nil ?_
    refine g_blk ?_
    (repeat refine g_seq ?_)
    refine g_region ?_
    refine g_pu rfl rfl rfl (pu_addI rfl rfl rfl (by omega)) ?_
    refine g_pu rfl rfl rfl (pu_move rfl rfl) ?_
    refine g_nil ?_
    exact g_round (t + 1) (by omega) (by omega) ⟨rfl, rfl, rfl, rfl, trivial⟩ ⟨rfl, rfl, trivial⟩
  · (repeat refine g_seq ?_)
    refine g_region ?_
    first | refine g_pu rfl rfl rfl (pu_lss_t rfl rfl rfl (by omega)) ?_ | refine g_pu rfl rfl rfl (pu_lss_f rfl rfl rfl (by omega)) ?_ | refine g_pu rfl rfl rfl (pu_lss rfl rfl rfl) ?_
    refine g_nil ?_
    (repeat refine g_seq ?_)
    refine g_cond_f rfl (g_exit rfl ?_)
    have e : t = 16 := by omega
    subst e
    (repeat refine g_seq ?_)
    refine g_region ?_
    refine g_pu rfl rfl rfl (pu_assign rfl rfl) ?_
    refine g_nil ?_
    (repeat refine g_seq ?_)
    refine g_block (g_loop (σ := Nat) (fun t => [(2, .pointer (some ⟨b2, 0, none⟩)), (3, .pointer (some ⟨b3, 0, none⟩)), (5, .int .i64 (t : Int))]) (fun t => [(2, .pt b2 (.cells (ws (List.replicate 64 0#32)).toArray 90 (0, 0))), (3, .pt b3 (.cells (ws (schA l t)).toArray 90 (0, 0)))]) (fun t => 16 ≤ t ∧ t ≤ 64) (fun t => 64 - t) 16 ⟨rfl, rfl, rfl, trivial⟩ ⟨rfl, rfl, trivial⟩ (by omega) ?_)
    intro t ⟨ht1, ht2⟩
    by_cases hlt : t < 64
    · (repeat refine g_seq ?_)
      refine g_region ?_
      refine g_pu rfl rfl rfl (pu_move rfl rfl) ?_
      first | refine g_pu rfl rfl rfl (pu_lss_t rfl rfl rfl (by omega)) ?_ | refine g_pu rfl rfl rfl (pu_lss_f rfl rfl rfl (by omega)) ?_ | refine g_pu rfl rfl rfl (pu_lss rfl rfl rfl) ?_
      refine g_nil ?_
      (repeat refine g_seq ?_)
      refine g_cond_t rfl (g_skip ?_)
      have hwt : wt l (schedL l t) t = sg1 ((schedL l t).getD (t - 2) 0#32) + (schedL l t).getD (t - 7) 0#32 + sg0 ((schedL l t).getD (t - 15) 0#32) + (schedL l t).getD (t - 16) 0#32 := by unfold wt; rw [if_neg (by omega)]
      (repeat refine g_seq ?_); refine g_block ?_
      (repeat refine g_seq ?_)
      refine g_any (10, []) ?_
      refine a_pu 0 rfl rfl rfl rfl (pu_move rfl rfl) rfl rfl (by kernel_rfl) ?_
      refine a_pu 1 rfl rfl rfl rfl (pu_subI rfl rfl rfl (by omega)) rfl rfl (by kernel_rfl) ?_
      refine a_pu 2 rfl rfl rfl rfl (pu_atA1 (t - 15) rfl rfl rfl (by omega) (by omega)) rfl rfl (by kernel_rfl) ?_
      refine a_pu 3 rfl rfl rfl rfl (pu_load 3 rfl rfl rfl (ws_load (schA_get l (j := t - 15) (by omega)))) rfl rfl (by kernel_rfl) ?_
      refine a_pu 4 rfl rfl rfl rfl (pu_move rfl rfl) rfl rfl (by kernel_rfl) ?_
      refine a_pu 5 rfl rfl rfl rfl (pu_subI rfl rfl rfl (by omega)) rfl rfl (by kernel_rfl) ?_
      refine a_pu 6 rfl rfl rfl rfl (pu_atA1 (t - 2) rfl rfl rfl (by omega) (by omega)) rfl rfl (by kernel_rfl) ?_
      refine a_pu 7 rfl rfl rfl rfl (pu_load 3 rfl rfl rfl (ws_load (schA_get l (j := t - 2) (by omega)))) rfl rfl (by kernel_rfl) ?_
      refine a_pu 8 rfl rfl rfl rfl (pu_assign rfl rfl) rfl rfl (by kernel_rfl) ?_
      refine a_pu 9 rfl rfl rfl rfl (pu_assign rfl rfl) rfl rfl (by kernel_rfl) ?_
      refine a_done (by kernel_rfl) ?_
      (repeat refine g_seq ?_)
      refine g_region ?_
      refine g_pu rfl rfl rfl (pu_move rfl rfl) ?_
      refine g_call [] rfl rfl rfl rfl rfl rfl (fun w' hm => RotN_b w' _ 7 (by omega) (by omega)) (fun _ _ => ?_)
      refine g_pu rfl rfl rfl (pu_move rfl rfl) ?_
      refine g_call [] rfl rfl rfl rfl rfl rfl (fun w' hm => RotN_b w' _ 18 (by omega) (by omega)) (fun _ _ => ?_)
      refine g_pu rfl rfl rfl (pu_xor32 rfl rfl rfl) ?_
      refine g_pu rfl rfl rfl (pu_move rfl rfl) ?_
      refine g_pu rfl rfl rfl (pu_shr32 rfl rfl rfl (by omega)) ?_
      refine g_pu rfl rfl rfl (pu_xor32 rfl rfl rfl) ?_
      refine g_pu rfl rfl rfl (pu_assign rfl rfl) ?_
      refine g_nil ?_
      (repeat refine g_seq ?_)
      refine g_region ?_
      refine g_pu rfl rfl rfl (pu_move rfl rfl) ?_
      refine g_call [] rfl rfl rfl rfl rfl rfl (fun w' hm => RotN_b w' _ 17 (by omega) (by omega)) (fun _ _ => ?_)
      refine g_pu rfl rfl rfl (pu_move rfl rfl) ?_
      refine g_call [] rfl rfl rfl rfl rfl rfl (fun w' hm => RotN_b w' _ 19 (by omega) (by omega)) (fun _ _ => ?_)
      refine g_pu rfl rfl rfl (pu_xor32 rfl rfl rfl) ?_
      refine g_pu rfl rfl rfl (pu_move rfl rfl) ?_
      refine g_pu rfl rfl rfl (pu_shr32 rfl rfl rfl (by omega)) ?_
      refine g_pu rfl rfl rfl (pu_xor32 rfl rfl rfl) ?_
      refine g_pu rfl rfl rfl (pu_assign rfl rfl) ?_
      refine g_nil ?_
      (repeat refine g_seq ?_)
      refine g_any (15, []) ?_
      refine a_pu 0 rfl rfl rfl rfl (pu_move rfl rfl) rfl rfl (by kernel_rfl) ?_
      refine a_pu 1 rfl rfl rfl rfl (pu_move rfl rfl) rfl rfl (by kernel_rfl) ?_
      refine a_pu 2 rfl rfl rfl rfl (pu_move rfl rfl) rfl rfl (by kernel_rfl) ?_
      refine a_pu 3 rfl rfl rfl rfl (pu_subI rfl rfl rfl (by omega)) rfl rfl (by kernel_rfl) ?_
      refine a_pu 4 rfl rfl rfl rfl (pu_atA1 (t - 7) rfl rfl rfl (by omega) (by omega)) rfl rfl (by kernel_rfl) ?_
      refine a_pu 5 rfl rfl rfl rfl (pu_load 3 rfl rfl rfl (ws_load (schA_get l (j := t - 7) (by omega)))) rfl rfl (by kernel_rfl) ?_
      refine a_pu 6 rfl rfl rfl rfl (pu_add32 rfl rfl rfl) rfl rfl (by kernel_rfl) ?_
      refine a_pu 7 rfl rfl rfl rfl (pu_move rfl rfl) rfl rfl (by kernel_rfl) ?_
      refine a_pu 8 rfl rfl rfl rfl (pu_add32 rfl rfl rfl) rfl rfl (by kernel_rfl) ?_
      refine a_pu 9 rfl rfl rfl rfl (pu_move rfl rfl) rfl rfl (by kernel_rfl) ?_
      refine a_pu 10 rfl rfl rfl rfl (pu_subI rfl rfl rfl (by omega)) rfl rfl (by kernel_rfl) ?_
      refine a_pu 11 rfl rfl rfl rfl (pu_atA1 (t - 16) rfl rfl rfl (by omega) (by omega)) rfl rfl (by kernel_rfl) ?_
      refine a_pu 12 rfl rfl rfl rfl (pu_load 3 rfl rfl rfl (ws_load (schA_get l (j := t - 16) (by omega)))) rfl rfl (by kernel_rfl) ?_
      refine a_pu 13 rfl rfl rfl rfl (pu_add32 rfl rfl rfl) rfl rfl (by kernel_rfl) ?_
      refine a_pu 14 rfl rfl rfl rfl (pu_atA1 t rfl rfl rfl rfl (by omega)) rfl rfl (by kernel_rfl) ?_
      refine a_tail [15] (by kernel_rfl) rfl rfl (by kernel_rfl) ?_
      refine g_store 3 (v := b32 (wt l (schedL l t) t)) rfl rfl rfl rfl (by rw [hwt]; rfl) rfl rfl (by rw [ws_length, schA_length _ (by omega)]; omega) ?_
      rw [ws_set, schA_set _ (by omega)]
      refine g_nil ?_
      refine g_blk ?_
      (repeat refine g_seq ?_)
      refine g_region ?_
      refine g_pu rfl rfl rfl (pu_move rfl rfl) ?_
      refine g_pu rfl rfl rfl (pu_addI rfl rfl rfl (by omega)) ?_
      refine g_pu rfl rfl rfl (pu_assign rfl rfl) ?_
      refine g_nil ?_
      exact g_round (t + 1) (by omega) (by omega) ⟨rfl, rfl, rfl, trivial⟩ ⟨rfl, rfl, trivial⟩
    · (repeat refine g_seq ?_)
      refine g_region ?_
      refine g_pu rfl rfl rfl (pu_move rfl rfl) ?_
      first | refine g_pu rfl rfl rfl (pu_lss_t rfl rfl rfl (by omega)) ?_ | refine g_pu rfl rfl rfl (pu_lss_f rfl rfl rfl (by omega)) ?_ | refine g_pu rfl rfl rfl (pu_lss rfl rfl rfl) ?_
      refine g_nil ?_
      (repeat refine g_seq ?_)
      refine g_cond_f rfl (g_exit rfl ?_)
      have e : t = 64 := by omega
      subst e
      rw [schA_end]
      (repeat refine g_seq ?_)
      refine g_region ?_
      refine g_pu rfl rfl rfl (pu_loadW 3 (L := ws (schedL l 64)) rfl rfl rfl (by rw [ws_length, schedL_length])) ?_
      refine g_storeL 2 (C := ws (schedL l 64)) rfl rfl rfl rfl rfl rfl (by rw [ws_length, schedL_length]) (by simp [ws]) (oneCell_ws _) ?_
      refine g_nil ?_
      exact g_retL 2 (L := ws (schedL l 64)) rfl (by rw [ws_length, schedL_length]) rfl rfl (fun w' hm => ⟨(), trivial, rfl, hm.grows [] trivial rfl⟩)
end Go.Sx

import Derived.Test.YtfbcmndhjoebbaaZdGFB
import Derived.Test.YtfbcmndhjoebbaaZdYA
import Derived.Test.YtfbcmndhjoebbaaZdXE
set_option linter.unusedVariables false
set_option linter.unusedSimpArgs false
/-
  The document's powers, bytes and readings, both inverses, and fractions. The numbers are below 2^256.
-/
namespace Go.Sx
open Go Go.Proofs

theorem numB_digit : ∀ {l : List (BitVec 8)} {i : Nat}, i < l.length → (l.getD i 0#8).toNat = numB l / 256 ^ i % 256
  | [], _, h => by simp at h
  | a :: r, 0, h => by
    have ha := a.isLt
    rw [List.getD_cons_zero, numB, Nat.pow_zero, Nat.div_one]; omega
  | a :: r, i + 1, h => by
    have ha := a.isLt
    rw [List.getD_cons_succ, numB_digit (by simpa using h), numB, Nat.pow_succ, Nat.mul_comm (256 ^ i), ← Nat.div_div_eq_div_mul, show (a.toNat + 256 * numB r) / 256 = numB r by omega]
theorem getDb {l : List (BitVec 8)} {i : Nat} (h : i < l.length) : l[i]? = some (l.getD i 0#8) := by
  rw [List.getD_eq_getElem?_getD, List.getElem?_eq_getElem h]; rfl
/-- A bit of the number. -/
theorem numB_bit {l : List (BitVec 8)} {i : Nat} (h : i < 8 * l.length) : (l.getD (i / 8) 0#8).toNat / 2 ^ (i % 8) % 2 = numB l / 2 ^ i % 2 := by
  rw [numB_digit (by omega)]
  have e1 : 2 ^ i = 256 ^ (i / 8) * 2 ^ (i % 8) := by
    rw [show (256 : Nat) = 2 ^ 8 from rfl, ← Nat.pow_mul, ← Nat.pow_add, Nat.div_add_mod]
  rw [e1, ← Nat.div_div_eq_div_mul]
  have ht : i % 8 < 8 := by omega
  generalize i % 8 = t at ht
  generalize numB l / 256 ^ (i / 8) = x
  match t, ht with
  | 0, _ => simp only [Nat.pow_zero]; omega
  | 1, _ => simp only [Nat.reducePow]; omega
  | 2, _ => simp only [Nat.reducePow]; omega
  | 3, _ => simp only [Nat.reducePow]; omega
  | 4, _ => simp only [Nat.reducePow]; omega
  | 5, _ => simp only [Nat.reducePow]; omega
  | 6, _ => simp only [Nat.reducePow]; omega
  | 7, _ => simp only [Nat.reducePow]; omega
theorem bit_rem (x : BitVec 8) (s : Nat) : ((x >>> s) % 2#8 = 1#8) ↔ x.toNat / 2 ^ s % 2 = 1 := by
  have e1 : ((x >>> s) % 2#8).toNat = x.toNat / 2 ^ s % 2 := by
    rw [BitVec.toNat_umod, BitVec.toNat_ushiftRight, Nat.shiftRight_eq_div_pow, show (2#8).toNat = 2 from rfl]
  constructor
  · intro h; rw [← e1, h]; rfl
  · intro h; apply BitVec.eq_of_toNat_eq; rw [e1, h]; rfl
theorem bits_step (N i : Nat) : N % 2 ^ (i + 1) = N % 2 ^ i + 2 ^ i * (N / 2 ^ i % 2) := by
  rw [Nat.pow_succ, Nat.mod_mul]

theorem RPower_b (w : World) (a : Nat) (ha : a < 115792089237316195423570985008687907853269984665640564039457584007913129639936) {p : Option Addr} {n : Nat} (c : Nat) {l : List (BitVec 8)} (hby : By w p n l) :
    Spec Try.prog 85 #[.agg (dg a).toArray, .slice p n c] w (σ := Unit) (fun _ => True) (fun _ => .agg (dg (a ^ numB l % 57896044618658097711785492504343953926634992332820282019728792003956564819949)).toArray) Nob (fun _ => []) := by
  refine enter Try.func85 rfl rfl (Mem.start w) ?_
  have hl := hby.len
  have hbig := hby.big
  have h1 : dg 1 = ws [1#32, 0#32, 0#32, 0#32, 0#32, 0#32, 0#32, 0#32] := by rw [dg_of rfl]; congr 1
  (repeat refine g_seq ?_)
  refine g_region ?_
  refine g_lo [2] rfl rfl rfl rfl (lo_box rfl rfl) (fun b2 hb2 => ?_)
  refine g_lo [4] rfl rfl rfl rfl (lo_alloc rfl) (fun b4 hb4 => ?_)
  refine g_nil ?_
  (repeat refine g_seq ?_)
  refine g_region ?_
  refine g_pu rfl rfl rfl (pu_buildA' (cs := dg 1) rfl rfl (by rw [h1]; rfl)) ?_
  refine g_lo [5] rfl rfl rfl rfl (lo_alloc rfl) (fun b5 hb5 => ?_)
  refine g_storeL 5 (s := 8) (C := dg 1) rfl rfl rfl rfl rfl rfl rfl rfl (oneCell_dg _) ?_
  refine g_nil ?_
  (repeat refine g_seq ?_)
  refine g_region ?_
  refine g_pu rfl rfl rfl (pu_loadW 2 (L := dg a) rfl rfl rfl rfl) ?_
  refine g_lo [6] rfl rfl rfl rfl (lo_alloc rfl) (fun b6 hb6 => ?_)
  refine g_storeL 6 (s := 8) (C := dg a) rfl rfl rfl rfl rfl rfl rfl rfl (oneCell_dg _) ?_
  refine g_nil ?_
  (repeat refine g_seq ?_)
  refine g_region ?_
  refine g_pu rfl rfl rfl (pu_assign rfl rfl) ?_
  refine g_nil ?_
  (repeat refine g_seq ?_)
  refine g_block (g_loop3 (fun (i : Nat) (u : Nat) (s : Nat) => [(1, .slice p n c), (4, .pointer (some ⟨b4, 0, none⟩)), (5, .pointer (some ⟨b5, 0, none⟩)), (6, .pointer (some ⟨b6, 0, none⟩)), (7, .int .i64 (i : Int))]) (fun i u s => [(4, .pt b4 (.cells (ws (List.replicate 8 0#32)).toArray 104 (0, 0))), (5, .pt b5 (.cells (dg u).toArray 104 (0, 0))), (6, .pt b6 (.cells (dg s).toArray 104 (0, 0)))])
    (fun i u s => i ≤ 8 * n ∧ u < 115792089237316195423570985008687907853269984665640564039457584007913129639936 ∧ s < 115792089237316195423570985008687907853269984665640564039457584007913129639936 ∧ u % 57896044618658097711785492504343953926634992332820282019728792003956564819949 = a ^ (numB l % 2 ^ i) % 57896044618658097711785492504343953926634992332820282019728792003956564819949 ∧ s % 57896044618658097711785492504343953926634992332820282019728792003956564819949 = a ^ 2 ^ i % 57896044618658097711785492504343953926634992332820282019728792003956564819949) (fun i _ _ => 8 * n - i) 0 1 a ⟨rfl, rfl, rfl, rfl, rfl, trivial⟩ ⟨rfl, rfl, rfl, trivial⟩ ⟨by omega, by decide, ha, by rw [Nat.pow_zero, Nat.mod_one, Nat.pow_zero], by rw [Nat.pow_zero, Nat.pow_one]⟩ ?_)
  intro i u s ⟨hi, hu, hs, hue, hse⟩
  by_cases hlt : i < 8 * n
  · (repeat refine g_seq ?_)
    refine g_region ?_
    refine g_pu rfl rfl rfl (pu_move rfl rfl) ?_
    refine g_pu rfl rfl rfl (pu_move rfl rfl) ?_
    first | refine g_pu rfl rfl rfl (pu_len rfl rfl) ?_ | refine g_pu rfl rfl rfl (pu_lenS rfl rfl) ?_
    refine g_pu rfl rfl rfl (pu_mulI rfl rfl rfl (by omega)) ?_
    first | refine g_pu rfl rfl rfl (pu_lss_t rfl rfl rfl (by omega)) ?_ | refine g_pu rfl rfl rfl (pu_lss_f rfl rfl rfl (by omega)) ?_ | refine g_pu rfl rfl rfl (pu_lss rfl rfl rfl) ?_
    refine g_nil ?_
    (repeat refine g_seq ?_)
    refine g_cond_t rfl (g_skip ?_)
    have hb := getDb (l := l) (i := i / 8) (by omega)
    have hnb := numB_bit (l := l) (i := i) (by omega)
    generalize l.getD (i / 8) 0#8 = x at hb hnb
    have hbr := bit_rem x (i % 8)
    have hst := bits_step (numB l) i
    have hs2 : s * s % 57896044618658097711785492504343953926634992332820282019728792003956564819949 < 115792089237316195423570985008687907853269984665640564039457584007913129639936 := by omega
    have hse2 : s * s % 57896044618658097711785492504343953926634992332820282019728792003956564819949 % 57896044618658097711785492504343953926634992332820282019728792003956564819949 = a ^ 2 ^ (i + 1) % 57896044618658097711785492504343953926634992332820282019728792003956564819949 := by
      rw [Nat.mod_mod, mulmod hse hse, ← Nat.pow_add, Nat.pow_succ, Nat.mul_two]
    (repeat refine g_seq ?_); refine g_block ?_
    by_cases hbit : numB l / 2 ^ i % 2 = 1
    · (repeat refine g_seq ?_)
      refine g_region ?_
      refine g_pu rfl rfl rfl (pu_move rfl rfl) ?_
      refine g_pu rfl rfl rfl (pu_move rfl rfl) ?_
      refine g_pu rfl rfl rfl (pu_quoI rfl rfl rfl (by omega)) ?_
      refine g_pu rfl rfl rfl (pu_atB (i / 8) (fun w' hm => hby.m hm) rfl rfl rfl (by omega) (by omega)) ?_
      refine g_pu rfl rfl rfl (pu_rdB (fun w' hm => hby.m hm) rfl rfl hb) ?_
      refine g_pu rfl rfl rfl (pu_move rfl rfl) ?_
      refine g_pu rfl rfl rfl (pu_remI rfl rfl rfl (by omega)) ?_
      refine g_pu rfl rfl rfl (pu_shr8 rfl rfl rfl (by omega)) ?_
      rw [show ((i : Int) % 8).toNat = i % 8 by omega]
      refine g_pu rfl rfl rfl (pu_rem8 (b := 2#8) rfl rfl rfl (by decide)) ?_
      refine g_pu rfl rfl rfl (pu_eql8_t (b := 1#8) rfl rfl rfl (hbr.2 (hnb.trans hbit))) ?_
      refine g_nil ?_
      (repeat refine g_seq ?_)
      refine g_cond_t rfl ?_
      have hu2 : u * s % 57896044618658097711785492504343953926634992332820282019728792003956564819949 < 115792089237316195423570985008687907853269984665640564039457584007913129639936 := by omega
      (repeat refine g_seq ?_)
      refine g_region ?_
      refine g_pu rfl rfl rfl (pu_loadW 5 (L := dg u) rfl rfl rfl rfl) ?_
      refine g_pu rfl rfl rfl (pu_loadW 6 (L := dg s) rfl rfl rfl rfl) ?_
      refine g_call [] rfl rfl rfl rfl rfl rfl (fun w' hm => RMul_b w' u s hu hs) (fun _ _ => ?_)
      refine g_storeL 5 (s := 8) (C := dg (u * s % 57896044618658097711785492504343953926634992332820282019728792003956564819949)) rfl rfl rfl rfl rfl rfl rfl rfl (oneCell_dg _) ?_
      refine g_nil ?_
      (repeat refine g_seq ?_)
      refine g_region ?_
      refine g_pu rfl rfl rfl (pu_loadW 6 (L := dg s) rfl rfl rfl rfl) ?_
      refine g_pu rfl rfl rfl (pu_loadW 6 (L := dg s) rfl rfl rfl rfl) ?_
      refine g_call [] rfl rfl rfl rfl rfl rfl (fun w' hm => RMul_b w' s s hs hs) (fun _ _ => ?_)
      refine g_storeL 6 (s := 8) (C := dg (s * s % 57896044618658097711785492504343953926634992332820282019728792003956564819949)) rfl rfl rfl rfl rfl rfl rfl rfl (oneCell_dg _) ?_
      refine g_nil ?_
      refine g_blk ?_
      (repeat refine g_seq ?_)
      refine g_region ?_
      refine g_pu rfl rfl rfl (pu_move rfl rfl) ?_
      refine g_pu rfl rfl rfl (pu_addI rfl rfl rfl (by omega)) ?_
      refine g_pu rfl rfl rfl (pu_assign rfl rfl) ?_
      refine g_nil ?_
      refine g_round3 (i + 1) (u * s % 57896044618658097711785492504343953926634992332820282019728792003956564819949) (s * s % 57896044618658097711785492504343953926634992332820282019728792003956564819949) ⟨by omega, hu2, hs2, ?_, hse2⟩ (by omega) ⟨rfl, rfl, rfl, rfl, rfl, trivial⟩ ⟨rfl, rfl, rfl, trivial⟩
      rw [Nat.mod_mod, mulmod hue hse, ← Nat.pow_add, hst, hbit, Nat.mul_one]
    · (repeat refine g_seq ?_)
      refine g_region ?_
      refine g_pu rfl rfl rfl (pu_move rfl rfl) ?_
      refine g_pu rfl rfl rfl (pu_move rfl rfl) ?_
      refine g_pu rfl rfl rfl (pu_quoI rfl rfl rfl (by omega)) ?_
      refine g_pu rfl rfl rfl (pu_atB (i / 8) (fun w' hm => hby.m hm) rfl rfl rfl (by omega) (by omega)) ?_
      refine g_pu rfl rfl rfl (pu_rdB (fun w' hm => hby.m hm) rfl rfl hb) ?_
      refine g_pu rfl rfl rfl (pu_move rfl rfl) ?_
      refine g_pu rfl rfl rfl (pu_remI rfl rfl rfl (by omega)) ?_
      refine g_pu rfl rfl rfl (pu_shr8 rfl rfl rfl (by omega)) ?_
      rw [show ((i : Int) % 8).toNat = i % 8 by omega]
      refine g_pu rfl rfl rfl (pu_rem8 (b := 2#8) rfl rfl rfl (by decide)) ?_
      refine g_pu rfl rfl rfl (pu_eql8_f (b := 1#8) rfl rfl rfl (fun h => hbit (hnb.symm.trans (hbr.1 h)))) ?_
      refine g_nil ?_
      (repeat refine g_seq ?_)
      refine g_cond_f rfl (g_skip ?_)
      (repeat refine g_seq ?_)
      refine g_region ?_
      refine g_pu rfl rfl rfl (pu_loadW 6 (L := dg s) rfl rfl rfl rfl) ?_
      refine g_pu rfl rfl rfl (pu_loadW 6 (L := dg s) rfl rfl rfl rfl) ?_
      refine g_call [] rfl rfl rfl rfl rfl rfl (fun w' hm => RMul_b w' s s hs hs) (fun _ _ => ?_)
      refine g_storeL 6 (s := 8) (C := dg (s * s % 57896044618658097711785492504343953926634992332820282019728792003956564819949)) rfl rfl rfl rfl rfl rfl rfl rfl (oneCell_dg _) ?_
      refine g_nil ?_
      refine g_blk ?_
      (repeat refine g_seq ?_)
      refine g_region ?_
      refine g_pu rfl rfl rfl (pu_move rfl rfl) ?_
      refine g_pu rfl rfl rfl (pu_addI rfl rfl rfl (by omega)) ?_
      refine g_pu rfl rfl rfl (pu_assign rfl rfl) ?_
      refine g_nil ?_
      refine g_round3 (i + 1) u (s * s % 57896044618658097711785492504343953926634992332820282019728792003956564819949) ⟨by omega, hu, hs2, ?_, hse2⟩ (by omega) ⟨rfl, rfl, rfl, rfl, rfl, trivial⟩ ⟨rfl, rfl, rfl, trivial⟩
      rw [hue, hst, show numB l / 2 ^ i % 2 = 0 by omega, Nat.mul_zero, Nat.add_zero]
  · (repeat refine g_seq ?_)
    refine g_region ?_
    refine g_pu rfl rfl rfl (pu_move rfl rfl) ?_
    refine g_pu rfl rfl rfl (pu_move rfl rfl) ?_
    first | refine g_pu rfl rfl rfl (pu_len rfl rfl) ?_ | refine g_pu rfl rfl rfl (pu_lenS rfl rfl) ?_
    refine g_pu rfl rfl rfl (pu_mulI rfl rfl rfl (by omega)) ?_
    first | refine g_pu rfl rfl rfl (pu_lss_t rfl rfl rfl (by omega)) ?_ | refine g_pu rfl rfl rfl (pu_lss_f rfl rfl rfl (by omega)) ?_ | refine g_pu rfl rfl rfl (pu_lss rfl rfl rfl) ?_
    refine g_nil ?_
    (repeat refine g_seq ?_)
    refine g_cond_f rfl (g_exit rfl ?_)
    have e1 : i = 8 * l.length := by omega
    have hN : numB l % 2 ^ i = numB l := by
      have := numB_lt l
      rw [show (256 : Nat) = 2 ^ 8 from rfl, ← Nat.pow_mul, ← e1] at this
      exact Nat.mod_eq_of_lt this
    rw [hN] at hue
    rw [← hue]
    (repeat refine g_seq ?_)
    refine g_region ?_
    refine g_pu rfl rfl rfl (pu_loadW 5 (L := dg u) rfl rfl rfl rfl) ?_
    refine g_call [] rfl rfl rfl rfl rfl rfl (fun w' hm => RNorm_b w' u hu) (fun _ _ => ?_)
    refine g_storeL 4 (s := 8) (C := dg (u % 57896044618658097711785492504343953926634992332820282019728792003956564819949)) rfl rfl rfl rfl rfl rfl rfl rfl (oneCell_dg _) ?_
    refine g_nil ?_
    exact g_retL 4 (L := dg (u % 57896044618658097711785492504343953926634992332820282019728792003956564819949)) rfl rfl rfl rfl (fun w' hm => ⟨(), trivial, rfl, hm.grows [] trivial rfl⟩)

/-- p - 2 as bytes. -/
def invB : List (BitVec 8) := 235#8 :: (List.replicate 30 255#8 ++ [127#8])
/-- p - 2. -/
def pe : Nat := 57896044618658097711785492504343953926634992332820282019728792003956564819949 - 2
theorem numB_inv : numB invB = pe := by decide +kernel
/-- The inverse of a number. -/
def invN (a : Nat) : Nat := a ^ pe % 57896044618658097711785492504343953926634992332820282019728792003956564819949

theorem RInv_b (w : World) (a : Nat) (ha : a < 115792089237316195423570985008687907853269984665640564039457584007913129639936) : Spec Try.prog 68 #[.agg (dg a).toArray] w (σ := Unit) (fun _ => True) (fun _ => .agg (dg (invN a)).toArray) Nob (fun _ => []) := by
  refine enter Try.func68 rfl rfl (Mem.start w) ?_
  (repeat refine g_seq ?_)
  refine g_region ?_
  refine g_lo [1] rfl rfl rfl rfl (lo_box rfl rfl) (fun b1 hb1 => ?_)
  refine g_lo [2] rfl rfl rfl rfl (lo_alloc rfl) (fun b2 hb2 => ?_)
  refine g_nil ?_
  (repeat refine g_seq ?_)
  refine g_region ?_
  refine g_lo [5] rfl rfl rfl rfl (lo_make (n := 32) (c := 32) rfl rfl rfl (by omega) (by omega) (by omega) rfl) (fun b5 hb5 => ?_)
  refine g_pu rfl rfl rfl (pu_assign rfl rfl) ?_
  refine g_nil ?_
  (repeat refine g_seq ?_)
  refine g_region ?_
  refine g_pu rfl rfl rfl (pu_assign rfl rfl) ?_
  refine g_nil ?_
  (repeat refine g_seq ?_)
  refine g_block (g_loop (σ := Nat) (fun (i : Nat) => [(1, .pointer (some ⟨b1, 0, none⟩)), (2, .pointer (some ⟨b2, 0, none⟩)), (3, .slice (some ⟨b5, 0, none⟩) 32 32), (4, .int .i64 (i : Int))]) (fun i => [(1, .pt b1 (.cells (dg a).toArray 104 (0, 0))), (2, .pt b2 (.cells (ws (List.replicate 8 0#32)).toArray 104 (0, 0))), (5, .pt b5 (.cells (bs (fillW 0#8 (List.replicate 32 255#8) i)).toArray 5 (0, 0)))])
    (fun i => i ≤ 32) (fun i => 32 - i) 0 ⟨rfl, rfl, rfl, rfl, trivial⟩ ⟨rfl, rfl, rfl, trivial⟩ (by omega) ?_)
  intro i hi
  by_cases hlt : i < 32
  · (repeat refine g_seq ?_)
    refine g_region ?_
    refine g_pu rfl rfl rfl (pu_move rfl rfl) ?_
    first | refine g_pu rfl rfl rfl (pu_lss_t rfl rfl rfl (by omega)) ?_ | refine g_pu rfl rfl rfl (pu_lss_f rfl rfl rfl (by omega)) ?_ | refine g_pu rfl rfl rfl (pu_lss rfl rfl rfl) ?_
    refine g_nil ?_
    (repeat refine g_seq ?_)
    refine g_cond_t rfl (g_skip ?_)
    (repeat refine g_seq ?_); refine g_block ?_
    (repeat refine g_seq ?_)
    refine g_region ?_
    refine g_pu rfl rfl rfl (pu_move rfl rfl) ?_
    refine g_pu rfl rfl rfl (pu_move rfl rfl) ?_
    refine g_pu rfl rfl rfl (pu_at1 i rfl rfl rfl rfl hlt) ?_
    refine g_store 5 (v := b8 255#8) rfl rfl rfl rfl rfl rfl rfl (by rw [bs_length, fillW_length, List.length_replicate]; omega) ?_
    rw [bs_setW, fillW_set (show (List.replicate 32 255#8)[i]? = some 255#8 by rw [List.getElem?_replicate, if_pos hlt])]
    refine g_nil ?_
    refine g_blk ?_
    (repeat refine g_seq ?_)
    refine g_region ?_
    refine g_pu rfl rfl rfl (pu_move rfl rfl) ?_
    refine g_pu rfl rfl rfl (pu_addI rfl rfl rfl (by omega)) ?_
    refine g_pu rfl rfl rfl (pu_assign rfl rfl) ?_
    refine g_nil ?_
    exact g_round (i + 1) (by omega) (by omega) ⟨rfl, rfl, rfl, rfl, trivial⟩ ⟨rfl, rfl, rfl, trivial⟩
  · (repeat refine g_seq ?_)
    refine g_region ?_
    refine g_pu rfl rfl rfl (pu_move rfl rfl) ?_
    first | refine g_pu rfl rfl rfl (pu_lss_t rfl rfl rfl (by omega)) ?_ | refine g_pu rfl rfl rfl (pu_lss_f rfl rfl rfl (by omega)) ?_ | refine g_pu rfl rfl rfl (pu_lss rfl rfl rfl) ?_
    refine g_nil ?_
    (repeat refine g_seq ?_)
    refine g_cond_f rfl (g_exit rfl ?_)
    have e1 : i = 32 := by omega
    subst e1
    (repeat refine g_seq ?_)
    refine g_region ?_
    refine g_pu rfl rfl rfl (pu_move rfl rfl) ?_
    refine g_pu rfl rfl rfl (pu_at1 0 rfl rfl rfl rfl (by omega)) ?_
    refine g_store 5 (v := b8 235#8) rfl rfl rfl rfl rfl rfl rfl (by rw [bs_length, fillW_length, List.length_replicate]; omega) ?_
    refine g_nil ?_
    (repeat refine g_seq ?_)
    refine g_region ?_
    refine g_pu rfl rfl rfl (pu_move rfl rfl) ?_
    refine g_pu rfl rfl rfl (pu_at1 31 rfl rfl rfl rfl (by omega)) ?_
    refine g_store 5 (v := b8 127#8) rfl rfl rfl rfl rfl rfl rfl (by rw [List.length_set, bs_length, fillW_length, List.length_replicate]; omega) ?_
    refine g_nil ?_
    refine g_recast 5 (.pt b5 (.cells (((bs (fillW 0#8 (List.replicate 32 255#8) 32)).set (0 + 0) (b8 235#8)).set (0 + 31) (b8 127#8)).toArray 5 (0, 0))) (.pt b5 (.cells (bs invB).toArray 5 (0, 0))) rfl (fun w' hw' => hw') trivial (fun j hj => hj) ?_
    have hI : invN a = a ^ numB invB % 57896044618658097711785492504343953926634992332820282019728792003956564819949 := by rw [numB_inv]; rfl
    rw [hI]
    (repeat refine g_seq ?_)
    refine g_region ?_
    refine g_pu rfl rfl rfl (pu_loadW 1 (L := dg a) rfl rfl rfl rfl) ?_
    refine g_pu rfl rfl rfl (pu_move rfl rfl) ?_
    refine g_call [] rfl rfl rfl rfl rfl rfl (fun w' hm => RPower_b w' a ha 32 (By.full 5 rfl hm rfl (by omega))) (fun _ _ => ?_)
    refine g_storeL 2 (s := 8) (C := dg (a ^ numB invB % 57896044618658097711785492504343953926634992332820282019728792003956564819949)) rfl rfl rfl rfl rfl rfl rfl rfl (oneCell_dg _) ?_
    refine g_nil ?_
    exact g_retL 2 (L := dg (a ^ numB invB % 57896044618658097711785492504343953926634992332820282019728792003956564819949)) rfl rfl rfl rfl (fun w' hm => ⟨(), trivial, rfl, hm.grows [] trivial rfl⟩)

theorem RBytes_b (w : World) (a : Nat) (ha : a < 115792089237316195423570985008687907853269984665640564039457584007913129639936) : Spec Try.prog 48 #[.agg (dg a).toArray] w (σ := Unit) (fun _ => True) (fun _ => .agg (bs (leB 32 (a % 57896044618658097711785492504343953926634992332820282019728792003956564819949))).toArray) Nob (fun _ => []) := by
  refine enter Try.func48 rfl rfl (Mem.start w) ?_
  (repeat refine g_seq ?_)
  refine g_region ?_
  refine g_lo [1] rfl rfl rfl rfl (lo_box rfl rfl) (fun b1 hb1 => ?_)
  refine g_lo [2] rfl rfl rfl rfl (lo_alloc rfl) (fun b2 hb2 => ?_)
  refine g_nil ?_
  (repeat refine g_seq ?_)
  refine g_region ?_
  refine g_pu rfl rfl rfl (pu_loadW 1 (L := dg a) rfl rfl rfl rfl) ?_
  refine g_call [] rfl rfl rfl rfl rfl rfl (fun w' hm => RNorm_b w' a ha) (fun _ _ => ?_)
  refine g_storeL 1 (s := 8) (C := dg (a % 57896044618658097711785492504343953926634992332820282019728792003956564819949)) rfl rfl rfl rfl rfl rfl rfl rfl (oneCell_dg _) ?_
  refine g_nil ?_
  generalize a % 57896044618658097711785492504343953926634992332820282019728792003956564819949 = r
  have hfl := leB_length 32 r
  have hget : ∀ i, i < 32 → (leB 32 r)[i]? = some (BitVec.ofNat 8 (r / 256 ^ i)) := fun i hi => leB_get hi
  have hdg : ∀ i, i < 8 → (digs 8 r)[i]? = some (BitVec.ofNat 32 (r / 4294967296 ^ i)) := fun i hi => digs_get hi
  have hlb : ∀ i, i < 32 → ((BitVec.ofNat 32 (r / 4294967296 ^ (i / 4))) >>> (8 * (i % 4))).setWidth 8 = BitVec.ofNat 8 (r / 256 ^ i) := fun i hi => by
    have e1 : 256 ^ i = 4294967296 ^ (i / 4) * 256 ^ (i % 4) := by
      rw [show (4294967296 : Nat) = 256 ^ 4 from rfl, ← Nat.pow_mul, ← Nat.pow_add, Nat.div_add_mod]
    rw [e1, ← Nat.div_div_eq_div_mul]
    have ht : i % 4 < 4 := by omega
    generalize i % 4 = t at ht
    generalize r / 4294967296 ^ (i / 4) = x
    apply BitVec.eq_of_toNat_eq
    rw [BitVec.toNat_setWidth, BitVec.toNat_ushiftRight, Nat.shiftRight_eq_div_pow, BitVec.toNat_ofNat, BitVec.toNat_ofNat]
    match t, ht with
    | 0, _ => simp only [Nat.mul_zero, Nat.pow_zero]; omega
    | 1, _ => simp only [Nat.reduceMul, Nat.reducePow]; omega
    | 2, _ => simp only [Nat.reduceMul, Nat.reducePow]; omega
    | 3, _ => simp only [Nat.reduceMul, Nat.reducePow]; omega
  have hel : dg r = ws (digs 8 r) := rfl
  have hll := digs_length 8 r
  generalize leB 32 r = full at *
  rw [hel]
  generalize digs 8 r = Z at *
  (repeat refine g_seq ?_)
  refine g_region ?_
  refine g_lo [3] rfl rfl rfl rfl (lo_alloc rfl) (fun b3 hb3 => ?_)
  refine g_nil ?_
  (repeat refine g_seq ?_)
  refine g_region ?_
  refine g_pu rfl rfl rfl (pu_assign rfl rfl) ?_
  refine g_nil ?_
  (repeat refine g_seq ?_)
  refine g_block (g_loop (σ := Nat) (fun (i : Nat) => [(1, .pointer (some ⟨b1, 0, none⟩)), (2, .pointer (some ⟨b2, 0, none⟩)), (3, .pointer (some ⟨b3, 0, none⟩)), (4, .int .i64 (i : Int))]) (fun i => [(1, .pt b1 (.cells (ws Z).toArray 104 (0, 0))), (2, .pt b2 (.cells (bs (List.replicate 32 0#8)).toArray 43 (0, 0))), (3, .pt b3 (.cells (bs (fillW 0#8 full i)).toArray 43 (0, 0)))])
    (fun i => i ≤ 32) (fun i => 32 - i) 0 ⟨rfl, rfl, rfl, rfl, trivial⟩ ⟨rfl, rfl, by unfold fillW; rw [List.take_zero, hfl]; rfl, trivial⟩ (by omega) ?_)
  intro i hi
  by_cases hlt : i < 32
  · (repeat refine g_seq ?_)
    refine g_region ?_
    refine g_pu rfl rfl rfl (pu_move rfl rfl) ?_
    first | refine g_pu rfl rfl rfl (pu_lss_t rfl rfl rfl (by omega)) ?_ | refine g_pu rfl rfl rfl (pu_lss_f rfl rfl rfl (by omega)) ?_ | refine g_pu rfl rfl rfl (pu_lss rfl rfl rfl) ?_
    refine g_nil ?_
    (repeat refine g_seq ?_)
    refine g_cond_t rfl (g_skip ?_)
    have h1 := hdg (i / 4) (by omega)
    have h2 := hlb i hlt
    have h3 := hget i hlt
    generalize BitVec.ofNat 32 (r / 4294967296 ^ (i / 4)) = x at h1 h2
    (repeat refine g_seq ?_); refine g_block ?_
    (repeat refine g_seq ?_)
    refine g_region ?_
    refine g_pu rfl rfl rfl (pu_move rfl rfl) ?_
    refine g_pu rfl rfl rfl (pu_move rfl rfl) ?_
    refine g_pu rfl rfl rfl (pu_quoI rfl rfl rfl (by omega)) ?_
    refine g_pu rfl rfl rfl (pu_atA1 (i / 4) rfl rfl rfl (by omega) (by omega)) ?_
    refine g_pu rfl rfl rfl (pu_load 1 (v := b32 x) rfl rfl rfl (ws_load h1)) ?_
    refine g_pu rfl rfl rfl (pu_move rfl rfl) ?_
    refine g_pu rfl rfl rfl (pu_remI rfl rfl rfl (by omega)) ?_
    refine g_pu rfl rfl rfl (pu_mulI rfl rfl rfl (by omega)) ?_
    refine g_pu rfl rfl rfl (pu_shr32 rfl rfl rfl (by omega)) ?_
    rw [show (8 * ((i : Int) % 4)).toNat = 8 * (i % 4) by omega]
    refine g_pu rfl rfl rfl (pu_conv32_8 rfl rfl) ?_
    refine g_pu rfl rfl rfl (pu_atA1 i rfl rfl rfl rfl hlt) ?_
    refine g_store 3 (v := b8 ((x >>> (8 * (i % 4))).setWidth 8)) rfl rfl rfl rfl rfl rfl rfl (by rw [bs_length, fillW_length]; omega) ?_
    rw [h2, bs_setW, fillW_set h3]
    refine g_nil ?_
    refine g_blk ?_
    (repeat refine g_seq ?_)
    refine g_region ?_
    refine g_pu rfl rfl rfl (pu_move rfl rfl) ?_
    refine g_pu rfl rfl rfl (pu_addI rfl rfl rfl (by omega)) ?_
    refine g_pu rfl rfl rfl (pu_assign rfl rfl) ?_
    refine g_nil ?_
    exact g_round (i + 1) (by omega) (by omega) ⟨rfl, rfl, rfl, rfl, trivial⟩ ⟨rfl, rfl, rfl, trivial⟩
  · (repeat refine g_seq ?_)
    refine g_region ?_
    refine g_pu rfl rfl rfl (pu_move rfl rfl) ?_
    first | refine g_pu rfl rfl rfl (pu_lss_t rfl rfl rfl (by omega)) ?_ | refine g_pu rfl rfl rfl (pu_lss_f rfl rfl rfl (by omega)) ?_ | refine g_pu rfl rfl rfl (pu_lss rfl rfl rfl) ?_
    refine g_nil ?_
    (repeat refine g_seq ?_)
    refine g_cond_f rfl (g_exit rfl ?_)
    have e1 : i = full.length := by omega
    rw [e1, fillW_end]
    have hbl : (bs full).length = 32 := by rw [bs_length, hfl]
    (repeat refine g_seq ?_)
    refine g_region ?_
    refine g_pu rfl rfl rfl (pu_loadW 3 (L := bs full) rfl rfl rfl hbl) ?_
    refine g_storeL 2 (s := 32) (C := bs full) rfl rfl rfl rfl rfl rfl hbl rfl (oneCell_bs _) ?_
    refine g_nil ?_
    exact g_retL 2 (L := bs full) rfl hbl rfl rfl (fun w' hm => ⟨(), trivial, rfl, hm.grows [] trivial rfl⟩)

/-- A word of four bytes as a number. -/
theorem or_add32 {x y : BitVec 32} {k : Nat} (hx : x.toNat < 2 ^ k) (hy : y.toNat * 2 ^ k < 2 ^ 32) : (x ||| y <<< k).toNat = x.toNat + y.toNat * 2 ^ k := by
  rw [BitVec.toNat_or, BitVec.toNat_shiftLeft, Nat.shiftLeft_eq, Nat.mod_eq_of_lt hy, Nat.or_comm, ← Nat.shiftLeft_eq, ← Nat.shiftLeft_add_eq_or_of_lt hx, Nat.add_comm, Nat.shiftLeft_eq]
theorem word4_num {l : List (BitVec 8)} {i : Nat} (h : i < 8) (hl : l.length = 32) : word4 (l.drop (4 * i)) = BitVec.ofNat 32 (numB l / 4294967296 ^ i) := by
  have e1 : 4294967296 ^ i = 256 ^ (4 * i) := by rw [Nat.pow_mul]
  have hd : ∀ j, j < 4 → ((l.drop (4 * i)).getD j 0#8).toNat = numB l / 256 ^ (4 * i) / 256 ^ j % 256 := fun j hj => by
    rw [List.getD_eq_getElem?_getD, List.getElem?_drop, ← List.getD_eq_getElem?_getD, numB_digit (by omega), Nat.pow_add, ← Nat.div_div_eq_div_mul]
  have d0 := hd 0 (by omega)
  have d1 := hd 1 (by omega)
  have d2 := hd 2 (by omega)
  have d3 := hd 3 (by omega)
  rw [e1]
  unfold word4
  generalize (l.drop (4 * i)).getD 0 0#8 = a at *
  generalize (l.drop (4 * i)).getD 1 0#8 = b at *
  generalize (l.drop (4 * i)).getD 2 0#8 = c at *
  generalize (l.drop (4 * i)).getD 3 0#8 = d at *
  generalize numB l / 256 ^ (4 * i) = x at *
  simp only [Nat.reducePow, Nat.div_one] at d0 d1 d2 d3
  have ha := a.isLt
  have hb := b.isLt
  have hc := c.isLt
  have hd' := d.isLt
  have wa : ∀ y : BitVec 8, (y.setWidth 32).toNat = y.toNat := fun y => by rw [BitVec.toNat_setWidth]; omega
  have s1 : (a.setWidth 32 ||| b.setWidth 32 <<< 8).toNat = a.toNat + b.toNat * 256 := by
    rw [or_add32 (by rw [wa]; omega) (by rw [wa]; omega), wa, wa]
  have s2 : (a.setWidth 32 ||| b.setWidth 32 <<< 8 ||| c.setWidth 32 <<< 16).toNat = a.toNat + b.toNat * 256 + c.toNat * 65536 := by
    rw [or_add32 (by rw [s1]; omega) (by rw [wa]; omega), s1, wa]
  apply BitVec.eq_of_toNat_eq
  rw [or_add32 (by rw [s2]; omega) (by rw [wa]; omega), s2, wa, BitVec.toNat_ofNat]
  omega

theorem RRead_b (w : World) {p : Option Addr} {n : Nat} (c : Nat) {l : List (BitVec 8)} (ha : By w p n l) : Spec Try.prog 64 #[.slice p n c] w (σ := Unit) (fun _ => True) (fun _ => .tuple #[.agg (dg (readN l)).toArray, .int .i64 (readE l)]) Nob (fun _ => []) := by
  refine enter Try.func64 rfl rfl (Mem.start w) ?_
  have hl := ha.len
  (repeat refine g_seq ?_)
  refine g_region ?_
  refine g_lo [2] rfl rfl rfl rfl (lo_alloc rfl) (fun b2 hb2 => ?_)
  refine g_pu rfl rfl rfl (pu_assign rfl rfl) ?_
  refine g_nil ?_
  by_cases h32 : l.length = 32
  · have hE : readE l = 0 := if_pos h32
    have hN : readN l = numB l % 57896044618658097711785492504343953926634992332820282019728792003956564819968 % 57896044618658097711785492504343953926634992332820282019728792003956564819949 := if_pos h32
    rw [hE, hN]
    (repeat refine g_seq ?_)
    refine g_region ?_
    refine g_pu rfl rfl rfl (pu_move rfl rfl) ?_
    first | refine g_pu rfl rfl rfl (pu_len rfl rfl) ?_ | refine g_pu rfl rfl rfl (pu_lenS rfl rfl) ?_
    first | refine g_pu rfl rfl rfl (pu_neq_t rfl rfl rfl (by omega)) ?_ | refine g_pu rfl rfl rfl (pu_neq_f rfl rfl rfl (by omega)) ?_ | refine g_pu rfl rfl rfl (pu_neq rfl rfl rfl) ?_
    refine g_nil ?_
    (repeat refine g_seq ?_)
    refine g_cond_f rfl (g_skip ?_)
    (repeat refine g_seq ?_)
    refine g_region ?_
    refine g_lo [4] rfl rfl rfl rfl (lo_alloc rfl) (fun b4 hb4 => ?_)
    refine g_nil ?_
    (repeat refine g_seq ?_)
    refine g_region ?_
    refine g_pu rfl rfl rfl (pu_assign rfl rfl) ?_
    refine g_nil ?_
    (repeat refine g_seq ?_)
    have hfl := digs_length 8 (numB l)
    have hdg : ∀ i, i < 8 → (digs 8 (numB l))[i]? = some (BitVec.ofNat 32 (numB l / 4294967296 ^ i)) := fun i hi => digs_get hi
    have hlt32 := numB32_lt h32
    have hnum := dg_num hlt32
    generalize hF : digs 8 (numB l) = full at *
    refine g_block (g_loop (σ := Nat) (fun (i : Nat) => [(0, .slice p n c), (2, .pointer (some ⟨b2, 0, none⟩)), (4, .pointer (some ⟨b4, 0, none⟩)), (5, .int .i64 (i : Int))]) (fun i => [(2, .pt b2 (.cells (ws (List.replicate 8 0#32)).toArray 104 (0, 0))), (4, .pt b4 (.cells (ws (fillW 0#32 full i)).toArray 104 (0, 0)))])
      (fun i => i ≤ 8) (fun i => 8 - i) 0 ⟨rfl, rfl, rfl, rfl, trivial⟩ ⟨rfl, by unfold fillW; rw [List.take_zero, hfl]; rfl, trivial⟩ (by omega) ?_)
    intro i hi
    by_cases hlt : i < 8
    · (repeat refine g_seq ?_)
      refine g_region ?_
      refine g_pu rfl rfl rfl (pu_move rfl rfl) ?_
      first | refine g_pu rfl rfl rfl (pu_lss_t rfl rfl rfl (by omega)) ?_ | refine g_pu rfl rfl rfl (pu_lss_f rfl rfl rfl (by omega)) ?_ | refine g_pu rfl rfl rfl (pu_lss rfl rfl rfl) ?_
      refine g_nil ?_
      (repeat refine g_seq ?_)
      refine g_cond_t rfl (g_skip ?_)
      have h2 := hdg i hlt
      have hw := getV_word (l := l) (i := 4 * i) (by omega)
      rw [word4_num hlt h32] at hw
      rw [show ((4 * i : Nat) : Int) = 4 * (i : Int) by omega] at hw
      (repeat refine g_seq ?_); refine g_block ?_
      (repeat refine g_seq ?_)
      refine g_region ?_
      refine g_pu rfl rfl rfl (pu_move rfl rfl) ?_
      refine g_pu rfl rfl rfl (pu_move rfl rfl) ?_
      refine g_pu rfl rfl rfl (pu_mulI rfl rfl rfl (by omega)) ?_
      refine g_call [] rfl rfl rfl rfl rfl rfl (fun w' hm => RGet_b w' 1 c (4 * (i : Int)) 4 (ha.m hm)) (fun _ _ => ?_)
      refine g_pu rfl rfl rfl (pu_move rfl rfl) ?_
      refine g_pu rfl rfl rfl (pu_extract rfl rfl rfl) ?_
      refine g_pu rfl rfl rfl (pu_extract rfl rfl rfl) ?_
      refine g_pu rfl rfl rfl (pu_assign rfl rfl) ?_
      refine g_pu rfl rfl rfl (pu_assign rfl rfl) ?_
      refine g_nil ?_
      (repeat refine g_seq ?_)
      refine g_region ?_
      refine g_pu rfl rfl rfl (pu_move rfl rfl) ?_
      refine g_pu rfl rfl rfl (pu_move rfl rfl) ?_
      refine g_pu rfl rfl rfl (pu_conv64_32 rfl rfl) ?_
      rw [hw]
      refine g_pu rfl rfl rfl (pu_atA1 i rfl rfl rfl rfl hlt) ?_
      refine g_store 4 (v := b32 (BitVec.ofNat 32 (numB l / 4294967296 ^ i))) rfl rfl rfl rfl rfl rfl rfl (by rw [ws_length, fillW_length]; omega) ?_
      rw [ws_set, fillW_set h2]
      refine g_nil ?_
      refine g_blk ?_
      (repeat refine g_seq ?_)
      refine g_region ?_
      refine g_pu rfl rfl rfl (pu_move rfl rfl) ?_
      refine g_pu rfl rfl rfl (pu_addI rfl rfl rfl (by omega)) ?_
      refine g_pu rfl rfl rfl (pu_assign rfl rfl) ?_
      refine g_nil ?_
      exact g_round (i + 1) (by omega) (by omega) ⟨rfl, rfl, rfl, rfl, trivial⟩ ⟨rfl, rfl, trivial⟩
    · (repeat refine g_seq ?_)
      refine g_region ?_
      refine g_pu rfl rfl rfl (pu_move rfl rfl) ?_
      first | refine g_pu rfl rfl rfl (pu_lss_t rfl rfl rfl (by omega)) ?_ | refine g_pu rfl rfl rfl (pu_lss_f rfl rfl rfl (by omega)) ?_ | refine g_pu rfl rfl rfl (pu_lss rfl rfl rfl) ?_
      refine g_nil ?_
      (repeat refine g_seq ?_)
      refine g_cond_f rfl (g_exit rfl ?_)
      have e1 : i = full.length := by omega
      rw [e1, fillW_end]
      have g7 := getDd (l := full) (i := 7) (by omega)
      have n7 := numD_take (l := full) (i := 7) (by omega)
      have ns : ∀ x, numD (full.set 7 x) + 4294967296 ^ 7 * (full.getD 7 0#32).toNat = numD full + 4294967296 ^ 7 * x.toNat := fun x => numG_set 0#32 full 7 x (by omega)
      have hlow : numD (full.take 7) < 4294967296 ^ 7 := by
        have := numG_lt (v := BitVec.toNat) (B := 4294967296) (by decide) (l := full.take 7) (fun a _ => a.isLt)
        rwa [List.length_take, hfl] at this
      rw [List.take_of_length_le (by omega), hnum] at n7
      generalize full.getD 7 0#32 = m7 at g7 n7 ns
      have ns := ns (m7 % 2147483648#32)
      have e7 : (m7 % 2147483648#32).toNat = m7.toNat % 2147483648 := by rw [BitVec.toNat_umod, show (2147483648#32).toNat = 2147483648 from rfl]
      have hm7 := m7.isLt
      rw [e7, hnum] at ns
      have hsl : (full.set 7 (m7 % 2147483648#32)).length = 8 := by rw [List.length_set, hfl]
      have hR : dg (numB l % 57896044618658097711785492504343953926634992332820282019728792003956564819968) = ws (full.set 7 (m7 % 2147483648#32)) := by
        rw [dg_of hsl]
        generalize numD (full.set 7 (m7 % 2147483648#32)) = u at ns
        generalize numD (full.take 7) = v at *
        generalize numB l = N at *
        congr 1
        simp only [Nat.reducePow] at ns n7 hlow
        omega
      have hlt2 : numB l % 57896044618658097711785492504343953926634992332820282019728792003956564819968 < 115792089237316195423570985008687907853269984665640564039457584007913129639936 := by omega
      have hwl : (ws (full.set 7 (m7 % 2147483648#32))).length = 8 := by rw [ws_length, hsl]
      (repeat refine g_seq ?_)
      refine g_region ?_
      refine g_pu rfl rfl rfl (pu_atA1 7 rfl rfl rfl rfl (by omega)) ?_
      refine g_pu rfl rfl rfl (pu_load 4 (v := b32 m7) rfl rfl rfl (ws_load g7)) ?_
      refine g_pu rfl rfl rfl (pu_rem32 (b := 2147483648#32) rfl rfl rfl (by decide)) ?_
      refine g_pu rfl rfl rfl (pu_atA1 7 rfl rfl rfl rfl (by omega)) ?_
      refine g_store 4 (v := b32 (m7 % 2147483648#32)) rfl rfl rfl rfl rfl rfl rfl (by rw [ws_length]; omega) ?_
      rw [ws_set, ← hR]
      refine g_nil ?_
      (repeat refine g_seq ?_)
      refine g_region ?_
      refine g_pu rfl rfl rfl (pu_loadW 4 (L := dg (numB l % 57896044618658097711785492504343953926634992332820282019728792003956564819968)) rfl rfl rfl rfl) ?_
      refine g_call [] rfl rfl rfl rfl rfl rfl (fun w' hm => RNorm_b w' _ hlt2) (fun _ _ => ?_)
      refine g_storeL 2 (s := 8) (C := dg (numB l % 57896044618658097711785492504343953926634992332820282019728792003956564819968 % 57896044618658097711785492504343953926634992332820282019728792003956564819949)) rfl rfl rfl rfl rfl rfl rfl rfl (oneCell_dg _) ?_
      refine g_pu rfl rfl rfl (pu_assign rfl rfl) ?_
      refine g_nil ?_
      exact g_retLT 2 (L := dg (numB l % 57896044618658097711785492504343953926634992332820282019728792003956564819968 % 57896044618658097711785492504343953926634992332820282019728792003956564819949)) rfl rfl rfl rfl rfl (fun w' hm => ⟨(), trivial, rfl, hm.grows [] trivial rfl⟩)
  · have hE : readE l = 2 := if_neg h32
    have hN : readN l = 0 := if_neg h32
    have h0 : dg 0 = ws [0#32, 0#32, 0#32, 0#32, 0#32, 0#32, 0#32, 0#32] := by rw [dg_of rfl]; congr 1
    rw [hE, hN]
    (repeat refine g_seq ?_)
    refine g_region ?_
    refine g_pu rfl rfl rfl (pu_move rfl rfl) ?_
    first | refine g_pu rfl rfl rfl (pu_len rfl rfl) ?_ | refine g_pu rfl rfl rfl (pu_lenS rfl rfl) ?_
    first | refine g_pu rfl rfl rfl (pu_neq_t rfl rfl rfl (by omega)) ?_ | refine g_pu rfl rfl rfl (pu_neq_f rfl rfl rfl (by omega)) ?_ | refine g_pu rfl rfl rfl (pu_neq rfl rfl rfl) ?_
    refine g_nil ?_
    (repeat refine g_seq ?_)
    refine g_cond_t rfl ?_
    (repeat refine g_seq ?_)
    refine g_region ?_
    refine g_pu rfl rfl rfl (pu_buildA' (cs := dg 0) rfl rfl (by rw [h0]; rfl)) ?_
    refine g_storeL 2 (s := 8) (C := dg 0) rfl rfl rfl rfl rfl rfl rfl rfl (oneCell_dg _) ?_
    refine g_pu rfl rfl rfl (pu_assign rfl rfl) ?_
    refine g_nil ?_
    exact g_retLT 2 (L := dg 0) rfl rfl rfl rfl rfl (fun w' hm => ⟨(), trivial, rfl, hm.grows [] trivial rfl⟩)
end Go.Sx

/-
  The library's Repeat of one byte, the program's inverse, fractions, and what the laws compare with. The numbers are below 2^256.
-/
namespace Go.Sx
open Go Go.Proofs

/-- A power modulo m, by the exponent's bits. -/
def pm (m : Nat) : Nat → Nat → Nat → Nat
  | 0, _, _ => 1 % m
  | f + 1, b, e => if e % 2 = 1 then b * pm m f (b * b % m) (e / 2) % m else pm m f (b * b % m) (e / 2)
theorem pm_eq (m : Nat) : ∀ (f b e : Nat), e < 2 ^ f → pm m f b e = b ^ e % m
  | 0, b, e, h => by
    have : e = 0 := by simpa using h
    rw [this]; rfl
  | f + 1, b, e, h => by
    have ih := pm_eq m f (b * b % m) (e / 2) (by rw [Nat.pow_succ] at h; omega)
    rw [pm, ih, ← Nat.pow_mod, ← Nat.pow_two, ← Nat.pow_mul]
    split
    · rename_i h1
      have h2 : b ^ e = b * b ^ (2 * (e / 2)) := by
        rw [Nat.mul_comm, ← Nat.pow_succ]
        congr 1
        omega
      rw [h2, Nat.mul_mod, Nat.mod_mod, ← Nat.mul_mod]
    · rw [show 2 * (e / 2) = e by omega]
theorem inv_pm (a : Nat) : invN a = pm 57896044618658097711785492504343953926634992332820282019728792003956564819949 255 a pe := (pm_eq 57896044618658097711785492504343953926634992332820282019728792003956564819949 255 a pe (by unfold pe; decide)).symm
theorem invN_lt (a : Nat) : invN a < 115792089237316195423570985008687907853269984665640564039457584007913129639936 := by
  have : invN a < 57896044618658097711785492504343953926634992332820282019728792003956564819949 := Nat.mod_lt _ (by decide)
  omega
theorem el_small {n : Nat} (h : n < 18446744073709551616) : el n = qs [BitVec.ofNat 64 n, 0#64, 0#64, 0#64] := by
  rw [el_of rfl]
  congr 1
  simp only [numL, BitVec.toNat_ofNat, show (0#64).toNat = 0 from rfl]
  omega
theorem dg_small {n : Nat} (h : n < 4294967296) : dg n = ws [BitVec.ofNat 32 n, 0#32, 0#32, 0#32, 0#32, 0#32, 0#32, 0#32] := by
  rw [dg_of rfl]
  congr 1
  simp only [numD, numG, BitVec.toNat_ofNat, show (0#32).toNat = 0 from rfl]
  omega

theorem MulU_b (w : World) (x y : BitVec 64) : Spec Try.prog 110 #[b64 x, b64 y] w (σ := Unit) (fun _ => True) (fun _ => .tuple #[b64 (mulHi x y), b64 (x * y)]) Nob (fun _ => []) := by
  refine enter Try.func110 rfl rfl (Mem.start w) ?_
  (repeat refine g_seq ?_)
  refine g_region ?_
  refine g_pu rfl rfl rfl (pu_assign (v := b64 0#64) rfl rfl) ?_
  refine g_pu rfl rfl rfl (pu_assign (v := b64 0#64) rfl rfl) ?_
  refine g_nil ?_
  (repeat refine g_seq ?_)
  refine g_cond_f rfl (g_skip ?_)
  (repeat refine g_seq ?_)
  refine g_region ?_
  refine g_pu rfl rfl rfl (pu_move rfl rfl) ?_
  refine g_pu rfl rfl rfl (pu_move rfl rfl) ?_
  refine g_call [] rfl rfl rfl rfl rfl rfl (fun w' hm => Mul64_b w' x y) (fun _ _ => ?_)
  refine g_pu rfl rfl rfl (pu_move rfl rfl) ?_
  refine g_pu rfl rfl rfl (pu_extract rfl rfl rfl) ?_
  refine g_pu rfl rfl rfl (pu_extract rfl rfl rfl) ?_
  refine g_pu rfl rfl rfl (pu_assign rfl rfl) ?_
  refine g_pu rfl rfl rfl (pu_assign rfl rfl) ?_
  refine g_nil ?_
  (repeat refine g_seq ?_)
  refine g_region ?_
  refine g_pu rfl rfl rfl (pu_move rfl rfl) ?_
  refine g_pu rfl rfl rfl (pu_move rfl rfl) ?_
  refine g_pu rfl rfl rfl (pu_assign rfl rfl) ?_
  refine g_pu rfl rfl rfl (pu_assign rfl rfl) ?_
  refine g_nil ?_
  exact g_ret2 rfl rfl rfl (fun w' hm => ⟨(), trivial, rfl, hm.grows [] trivial rfl⟩)

theorem rep_step {x : BitVec 8} {d : Nat} (hd : d ≤ 32) (hd1 : 0 < d) : (bs (List.replicate d x ++ List.replicate (32 - d) 0#8)).take (0 + d) ++ (bs (List.replicate d x)).take (Nat.min d (32 - d)) ++ (bs (List.replicate d x ++ List.replicate (32 - d) 0#8)).drop (0 + d + Nat.min d (32 - d)) = bs (List.replicate (d + Nat.min d (32 - d)) x ++ List.replicate (32 - (d + Nat.min d (32 - d))) 0#8) := by
  have e1 : Nat.min d (32 - d) = min d (32 - d) := rfl
  rw [e1]
  unfold bs
  simp only [List.map_append, List.map_replicate, Nat.zero_add]
  rw [List.take_left' (by simp), List.take_replicate, ← List.drop_drop, List.drop_left' (by simp), List.drop_replicate, show min (min d (32 - d)) d = min d (32 - d) by omega, ← List.replicate_append_replicate, List.append_assoc, List.append_assoc, show 32 - d - min d (32 - d) = 32 - (d + min d (32 - d)) by omega]

theorem Repeat_b (w : World) {p : Option Addr} (c : Nat) (x : BitVec 8) (ha : By w p 1 [x]) : Spec Try.prog 97 #[.slice p 1 c, .int .i64 32] w (σ := Nat) (fun _ => True) (fun b => .slice (some ⟨b, 0, none⟩) 32 32) Nob (fun b => [.pt b (.cells (bs (List.replicate 32 x)).toArray 5 (0, 0))]) := by
  refine enter Try.func97 rfl rfl (Mem.start w) ?_
  (repeat refine g_seq ?_)
  refine g_region ?_
  refine g_pu rfl rfl rfl (pu_assign rfl rfl) ?_
  refine g_nil ?_
  (repeat refine g_seq ?_)
  refine g_region ?_
  refine g_pu rfl rfl rfl (pu_move rfl rfl) ?_
  first | refine g_pu rfl rfl rfl (pu_lss_t rfl rfl rfl (by omega)) ?_ | refine g_pu rfl rfl rfl (pu_lss_f rfl rfl rfl (by omega)) ?_ | refine g_pu rfl rfl rfl (pu_lss rfl rfl rfl) ?_
  refine g_nil ?_
  (repeat refine g_seq ?_)
  refine g_cond_f rfl (g_skip ?_)
  (repeat refine g_seq ?_)
  refine g_region ?_
  refine g_pu rfl rfl rfl (pu_move rfl rfl) ?_
  first | refine g_pu rfl rfl rfl (pu_len rfl rfl) ?_ | refine g_pu rfl rfl rfl (pu_lenS rfl rfl) ?_
  refine g_pu rfl rfl rfl (pu_convI_64 rfl rfl) ?_
  refine g_pu rfl rfl rfl (pu_move rfl rfl) ?_
  refine g_pu rfl rfl rfl (pu_convI_64 rfl rfl) ?_
  refine g_call [] rfl rfl rfl rfl rfl rfl (fun w' hm => MulU_b w' (BitVec.ofInt 64 1) (BitVec.ofInt 64 32)) (fun _ _ => ?_)
  refine g_pu rfl rfl rfl (pu_move rfl rfl) ?_
  refine g_pu rfl rfl rfl (pu_extract rfl rfl rfl) ?_
  refine g_pu rfl rfl rfl (pu_extract rfl rfl rfl) ?_
  refine g_pu rfl rfl rfl (pu_assign rfl rfl) ?_
  refine g_pu rfl rfl rfl (pu_assign rfl rfl) ?_
  refine g_nil ?_
  have e1 : mulHi (BitVec.ofInt 64 1) (BitVec.ofInt 64 32) = 0#64 := by decide
  have e2 : BitVec.ofInt 64 1 * BitVec.ofInt 64 32 = 32#64 := by decide
  (repeat refine g_seq ?_)
  refine g_region ?_
  refine g_pu rfl rfl rfl (pu_move rfl rfl) ?_
  refine g_pu rfl rfl rfl (pu_gtr_f rfl rfl rfl (by decide)) ?_
  refine g_pu rfl rfl rfl (pu_move rfl rfl) ?_
  first | refine g_pass rfl rfl rfl ?_ | refine g_pu rfl rfl rfl (pu_move rfl rfl) ?_
  refine g_pu rfl rfl rfl (pu_gtr_f rfl rfl rfl (by decide)) ?_
  first | refine g_pu rfl rfl rfl (pu_pick_t rfl rfl rfl) ?_ | refine g_pu rfl rfl rfl (pu_pick_f rfl rfl rfl) ?_
  refine g_nil ?_
  (repeat refine g_seq ?_)
  refine g_cond_f rfl (g_skip ?_)
  (repeat refine g_seq ?_)
  refine g_region ?_
  refine g_pu rfl rfl rfl (pu_move rfl rfl) ?_
  refine g_pu rfl rfl rfl (pu_conv64_I rfl rfl (by decide)) ?_
  refine g_lo [30] rfl rfl rfl rfl (lo_make (n := 32) (c := 32) rfl rfl rfl (by omega) (by omega) (by omega) rfl) (fun b30 hb30 => ?_)
  refine g_pu rfl rfl rfl (pu_assign rfl rfl) ?_
  refine g_nil ?_
  (repeat refine g_seq ?_)
  refine g_region ?_
  refine g_pu rfl rfl rfl (pu_move rfl rfl) ?_
  refine g_pu rfl rfl rfl (pu_move rfl rfl) ?_
  refine g_copy 30 (L := bs (List.replicate 32 0#8)) (n := 32) (m := 1) (bs [x]) rfl rfl rfl rfl rfl rfl rfl (fun w' hm => (ha.m hm).rd) rfl (by rw [bs_length]; simp) (oneCell_bs _) ?_
  refine g_pu rfl rfl rfl (pu_assign rfl rfl) ?_
  refine g_nil ?_
  (repeat refine g_seq ?_)
  refine g_block (g_loop (σ := Nat) (fun (d : Nat) => [(7, .slice (some ⟨b30, 0, none⟩) 32 32), (8, .int .i64 (d : Int))]) (fun d => [(30, .pt b30 (.cells (bs (List.replicate d x ++ List.replicate (32 - d) 0#8)).toArray 5 (0, 0)))])
    (fun d => 1 ≤ d ∧ d ≤ 32) (fun d => 32 - d) 1 ⟨rfl, rfl, trivial⟩ ⟨rfl, trivial⟩ ⟨by omega, by omega⟩ ?_)
  intro d ⟨h1, hd⟩
  by_cases hlt : d < 32
  · (repeat refine g_seq ?_)
    refine g_region ?_
    refine g_pu rfl rfl rfl (pu_move rfl rfl) ?_
    refine g_pu rfl rfl rfl (pu_move rfl rfl) ?_
    first | refine g_pu rfl rfl rfl (pu_len rfl rfl) ?_ | refine g_pu rfl rfl rfl (pu_lenS rfl rfl) ?_
    first | refine g_pu rfl rfl rfl (pu_lss_t rfl rfl rfl (by omega)) ?_ | refine g_pu rfl rfl rfl (pu_lss_f rfl rfl rfl (by omega)) ?_ | refine g_pu rfl rfl rfl (pu_lss rfl rfl rfl) ?_
    refine g_nil ?_
    (repeat refine g_seq ?_)
    refine g_cond_t rfl (g_skip ?_)
    have hst := rep_step (x := x) hd h1
    (repeat refine g_seq ?_); refine g_block ?_
    (repeat refine g_seq ?_)
    refine g_any (7, [0]) ?_
    first | refine a_mv 0 rfl rfl rfl rfl (fun _ => (pu_move rfl rfl)) rfl rfl rfl (by kernel_rfl) (by kernel_rfl) (by kernel_rfl) rfl ?_
    refine a_pu 1 rfl rfl rfl rfl (pu_move rfl rfl) rfl rfl (by kernel_rfl) ?_
    refine a_pu 2 rfl rfl rfl rfl (pu_move rfl rfl) rfl rfl (by kernel_rfl) ?_
    refine a_pu 3 rfl rfl rfl rfl (pu_slice_l d rfl rfl rfl rfl (by omega)) rfl rfl (by kernel_rfl) ?_
    rw [cutp_some b30 0 32 d hlt]
    refine a_pu 4 rfl rfl rfl rfl (pu_move rfl rfl) rfl rfl (by kernel_rfl) ?_
    refine a_pu 5 rfl rfl rfl rfl (pu_move rfl rfl) rfl rfl (by kernel_rfl) ?_
    refine a_pu 6 rfl rfl rfl rfl (pu_slice_h d rfl rfl rfl rfl (by omega)) rfl rfl (by kernel_rfl) ?_
    refine a_tail [7, 8, 9] (by kernel_rfl) rfl rfl (by kernel_rfl) ?_
    refine g_copy 30 (L := bs (List.replicate d x ++ List.replicate (32 - d) 0#8)) (n := 32 - d) (m := d) (bs (List.replicate d x)) rfl rfl rfl rfl rfl rfl rfl (fun w' hm => hm.row 30 (J := bs (List.replicate (32 - d) 0#8)) (by rw [← bs_append]; rfl)) (by rw [bs_length, List.length_replicate]) (by rw [bs_length, List.length_append, List.length_replicate, List.length_replicate]; omega) (oneCell_bs _) ?_
    rw [hst]
    refine g_pu rfl rfl rfl (pu_addI rfl rfl rfl (by have : Nat.min d (32 - d) ≤ d := Nat.min_le_left _ _; omega)) ?_
    refine g_pu rfl rfl rfl (pu_assign rfl rfl) ?_
    refine g_nil ?_
    refine g_blk ?_
    have hmin : 1 ≤ Nat.min d (32 - d) := by
      show 1 ≤ min d (32 - d)
      omega
    have hmin2 : Nat.min d (32 - d) ≤ 32 - d := Nat.min_le_right _ _
    exact g_round (d + Nat.min d (32 - d)) ⟨by omega, by omega⟩ (by omega) ⟨rfl, rfl, trivial⟩ ⟨rfl, trivial⟩
  · (repeat refine g_seq ?_)
    refine g_region ?_
    refine g_pu rfl rfl rfl (pu_move rfl rfl) ?_
    refine g_pu rfl rfl rfl (pu_move rfl rfl) ?_
    first | refine g_pu rfl rfl rfl (pu_len rfl rfl) ?_ | refine g_pu rfl rfl rfl (pu_lenS rfl rfl) ?_
    first | refine g_pu rfl rfl rfl (pu_lss_t rfl rfl rfl (by omega)) ?_ | refine g_pu rfl rfl rfl (pu_lss_f rfl rfl rfl (by omega)) ?_ | refine g_pu rfl rfl rfl (pu_lss rfl rfl rfl) ?_
    refine g_nil ?_
    (repeat refine g_seq ?_)
    refine g_cond_f rfl (g_exit rfl ?_)
    have e3 : d = 32 := by omega
    subst e3
    (repeat refine g_seq ?_)
    refine g_region ?_
    refine g_pu rfl rfl rfl (pu_move rfl rfl) ?_
    refine g_pu rfl rfl rfl (pu_assign rfl rfl) ?_
    refine g_nil ?_
    exact g_ret1 rfl rfl (fun w' hm => ⟨b30, trivial, rfl, hm.grows [30] ⟨rfl, trivial⟩ rfl⟩)

theorem Inv_b (w : World) (a : Nat) (ha : a < 115792089237316195423570985008687907853269984665640564039457584007913129639936) : Spec Try.prog 80 #[.agg (el a).toArray] w (σ := Unit) (fun _ => True) (fun _ => .agg (el (invN a)).toArray) Nob (fun _ => []) := by
  refine enter Try.func80 rfl rfl (Mem.start w) ?_
  (repeat refine g_seq ?_)
  refine g_region ?_
  refine g_lo [1] rfl rfl rfl rfl (lo_box rfl rfl) (fun b1 hb1 => ?_)
  refine g_lo [2] rfl rfl rfl rfl (lo_alloc rfl) (fun b2 hb2 => ?_)
  refine g_nil ?_
  (repeat refine g_seq ?_)
  refine g_region ?_
  refine g_lo [4] rfl rfl rfl rfl (lo_buildSlice rfl rfl (by decide) (by decide) rfl rfl) (fun b4 hb4 => ?_)
  refine g_call [5] rfl rfl rfl rfl rfl rfl (fun w' hm => Repeat_b w' 1 255#8 (By.full 4 rfl hm rfl (by omega))) (fun b5 _ => ?_)
  refine g_pu rfl rfl rfl (pu_assign rfl rfl) ?_
  refine g_nil ?_
  (repeat refine g_seq ?_)
  refine g_region ?_
  refine g_pu rfl rfl rfl (pu_move rfl rfl) ?_
  refine g_pu rfl rfl rfl (pu_move rfl rfl) ?_
  refine g_pu rfl rfl rfl (pu_at1 0 rfl rfl rfl rfl (by omega)) ?_
  refine g_store 5 (v := b8 235#8) (L := bs (List.replicate 32 255#8)) rfl rfl rfl rfl rfl rfl rfl (by rw [bs_length]; simp) ?_
  refine g_pu rfl rfl rfl (pu_at1 31 rfl rfl rfl rfl (by omega)) ?_
  refine g_store 5 (v := b8 127#8) (L := (bs (List.replicate 32 255#8)).set (0 + 0) (b8 235#8)) rfl rfl rfl rfl rfl rfl rfl (by rw [List.length_set, bs_length]; simp) ?_
  refine g_nil ?_
  refine g_recast 5 (.pt b5 (.cells (((bs (List.replicate 32 255#8)).set (0 + 0) (b8 235#8)).set (0 + 31) (b8 127#8)).toArray 5 (0, 0))) (.pt b5 (.cells (bs invB).toArray 5 (0, 0))) rfl (fun w' hw' => hw') trivial (fun j hj => hj) ?_
  have hI : invN a = a ^ numB invB % 57896044618658097711785492504343953926634992332820282019728792003956564819949 := by rw [numB_inv]; rfl
  rw [hI]
  (repeat refine g_seq ?_)
  refine g_region ?_
  refine g_pu rfl rfl rfl (pu_loadW 1 (L := el a) rfl rfl rfl rfl) ?_
  refine g_pu rfl rfl rfl (pu_move rfl rfl) ?_
  refine g_call [] rfl rfl rfl rfl rfl rfl (fun w' hm => Power_b w' a ha 32 (By.full 5 rfl hm rfl (by omega))) (fun _ _ => ?_)
  refine g_storeL 2 (s := 4) (C := el (a ^ numB invB % 57896044618658097711785492504343953926634992332820282019728792003956564819949)) rfl rfl rfl rfl rfl rfl rfl rfl (oneCell_el _) ?_
  refine g_nil ?_
  exact g_retL 2 (L := el (a ^ numB invB % 57896044618658097711785492504343953926634992332820282019728792003956564819949)) rfl rfl rfl rfl (fun w' hm => ⟨(), trivial, rfl, hm.grows [] trivial rfl⟩)

/-! ## Fractions -/
def rt (a b : Nat) : List Value := el a ++ el b
theorem oneCell_rt (a b : Nat) : ∀ u ∈ rt a b, u.oneCell' = true := fun u hu => (List.mem_append.1 hu).elim (oneCell_el a u) (oneCell_el b u)
theorem rt_fst (a b : Nat) : (rt a b).toArray.extract (0 + 0) (0 + 0 + 4) = (el a).toArray := by
  apply Array.ext'
  simp only [Array.toList_extract, List.extract_eq_take_drop]
  rfl
theorem rt_snd (a b : Nat) : (rt a b).toArray.extract (0 + 4) (0 + 4 + 4) = (el b).toArray := by
  apply Array.ext'
  simp only [Array.toList_extract, List.extract_eq_take_drop]
  rfl
theorem prod2 (a b : Nat) : prodN [a, b] = a * b := by simp [prodN]

theorem Value_b (w : World) (a b : Nat) (ha : a < 115792089237316195423570985008687907853269984665640564039457584007913129639936) (hb : b < 115792089237316195423570985008687907853269984665640564039457584007913129639936) : Spec Try.prog 60 #[.agg (rt a b).toArray] w (σ := Unit) (fun _ => True) (fun _ => .agg (el (a * invN b % 57896044618658097711785492504343953926634992332820282019728792003956564819949)).toArray) Nob (fun _ => []) := by
  refine enter Try.func60 rfl rfl (Mem.start w) ?_
  have hlt : ∀ n ∈ [a, invN b], n < 115792089237316195423570985008687907853269984665640564039457584007913129639936 := fun n hn => by
    simp only [List.mem_cons, List.not_mem_nil, or_false] at hn
    rcases hn with rfl | rfl
    · exact ha
    · exact invN_lt b
  have hp := prod2 a (invN b)
  rw [← hp]
  (repeat refine g_seq ?_)
  refine g_region ?_
  refine g_lo [1] rfl rfl rfl rfl (lo_box rfl rfl) (fun b1 hb1 => ?_)
  refine g_lo [2] rfl rfl rfl rfl (lo_alloc rfl) (fun b2 hb2 => ?_)
  refine g_nil ?_
  (repeat refine g_seq ?_)
  refine g_any (5, []) ?_
  refine a_pu 0 rfl rfl rfl rfl (pu_fieldAddr (by decide) rfl rfl) rfl rfl (by kernel_rfl) ?_
  refine a_pu 1 rfl rfl rfl rfl (pu_loadE 1 (el a).toArray rfl rfl rfl (show 0 + 0 + 4 ≤ (rt a b).toArray.size from (by decide : 4 ≤ 8)) (rt_fst a b)) rfl rfl (by kernel_rfl) ?_
  refine a_pu 2 rfl rfl rfl rfl (pu_fieldAddr (by decide) rfl rfl) rfl rfl (by kernel_rfl) ?_
  refine a_pu 3 rfl rfl rfl rfl (pu_loadE 1 (el b).toArray rfl rfl rfl (show 0 + 4 + 4 ≤ (rt a b).toArray.size from (by decide : 8 ≤ 8)) (rt_snd a b)) rfl rfl (by kernel_rfl) ?_
  refine a_do 4 7 [] (does_call rfl rfl rfl rfl rfl (fun w' hm => Inv_b w' b hb)) rfl rfl (by kernel_rfl) rfl rfl (by kernel_rfl) (by kernel_rfl) (by kernel_rfl) rfl (fun p hp => by cases hp) ?_; rintro v_ cs_ ⟨_, _, rfl, rfl⟩
  refine a_tail [5, 6, 7] (by kernel_rfl) rfl rfl (by kernel_rfl) ?_
  refine g_lo [8] rfl rfl rfl rfl (lo_buildSlice rfl rfl (by decide) (by decide) rfl rfl) (fun q8 hb8 => ?_)
  refine g_call [] rfl rfl rfl rfl rfl rfl (fun w' hm => Product_b w' 2 (ns := [a, invN b]) (hm.rowA 8 (L := elsC [a, invN b]) rfl) rfl hlt (by omega)) (fun _ _ => ?_)
  refine g_storeL 2 (s := 4) (C := el (prodN [a, invN b] % 57896044618658097711785492504343953926634992332820282019728792003956564819949)) rfl rfl rfl rfl rfl rfl rfl rfl (oneCell_el _) ?_
  refine g_nil ?_
  exact g_retL 2 (L := el (prodN [a, invN b] % 57896044618658097711785492504343953926634992332820282019728792003956564819949)) rfl rfl rfl rfl (fun w' hm => ⟨(), trivial, rfl, hm.grows [] trivial rfl⟩)

end Go.Sx

/-
  FieldForms: every element stands for its number modulo p, whatever its limbs are. Each element has four limbs.
-/
namespace Go.Sx
open Go Go.Proofs

theorem modp (a : Nat) : a % 57896044618658097711785492504343953926634992332820282019728792003956564819949 < 115792089237316195423570985008687907853269984665640564039457584007913129639936 := by omega
theorem Is_t (w : World) (a b : Nat) (ha : a < 115792089237316195423570985008687907853269984665640564039457584007913129639936) (hb : b < 115792089237316195423570985008687907853269984665640564039457584007913129639936) (h : a % 57896044618658097711785492504343953926634992332820282019728792003956564819949 = b % 57896044618658097711785492504343953926634992332820282019728792003956564819949) : Spec Try.prog 61 #[.agg (el a).toArray, .agg (el b).toArray] w (σ := Unit) (fun _ => True) (fun _ => .bool true) Nob (fun _ => []) := by
  have h2 := Is_b w a b ha hb
  rwa [decide_eq_true h] at h2
theorem Is_f (w : World) (a b : Nat) (ha : a < 115792089237316195423570985008687907853269984665640564039457584007913129639936) (hb : b < 115792089237316195423570985008687907853269984665640564039457584007913129639936) (h : ¬ a % 57896044618658097711785492504343953926634992332820282019728792003956564819949 = b % 57896044618658097711785492504343953926634992332820282019728792003956564819949) : Spec Try.prog 61 #[.agg (el a).toArray, .agg (el b).toArray] w (σ := Unit) (fun _ => True) (fun _ => .bool false) Nob (fun _ => []) := by
  have h2 := Is_b w a b ha hb
  rwa [decide_eq_false h] at h2
theorem RBytes_n (w : World) (a : Nat) (ha : a < 57896044618658097711785492504343953926634992332820282019728792003956564819949) : Spec Try.prog 48 #[.agg (dg a).toArray] w (σ := Unit) (fun _ => True) (fun _ => .agg (bs (leB 32 a)).toArray) Nob (fun _ => []) := by
  have h := RBytes_b w a (by omega)
  rwa [Nat.mod_eq_of_lt ha] at h
theorem Bytes_n (w : World) (a : Nat) (ha : a < 57896044618658097711785492504343953926634992332820282019728792003956564819949) : Spec Try.prog 45 #[.agg (el a).toArray] w (σ := Unit) (fun _ => True) (fun _ => .agg (bs (leB 32 a)).toArray) Nob (fun _ => []) := by
  have h := Bytes_b w a (by omega)
  rwa [Nat.mod_eq_of_lt ha] at h
end Go.Sx

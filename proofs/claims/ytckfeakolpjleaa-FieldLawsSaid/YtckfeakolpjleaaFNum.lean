/-
  Bytes as a number, the least first, and back. No condition.
-/
import Derived.Test.YtckfeakolpjleaaF5
import Derived.Test.YtckfeakolpjleaaWords
set_option linter.unusedVariables false
set_option linter.unusedSimpArgs false
namespace Go.Sx
open Go Go.Proofs

def numB : List (BitVec 8) → Nat
  | [] => 0
  | a :: r => a.toNat + 256 * numB r
def leB : Nat → Nat → List (BitVec 8)
  | 0, _ => []
  | k + 1, n => BitVec.ofNat 8 n :: leB k (n / 256)
theorem numB_lt : ∀ l : List (BitVec 8), numB l < 256 ^ l.length
  | [] => by simp [numB]
  | a :: r => by
    have ih := numB_lt r
    have ha := a.isLt
    rw [numB, List.length_cons, Nat.pow_succ]
    omega
theorem numB32_lt {l : List (BitVec 8)} (h : l.length = 32) : numB l < 115792089237316195423570985008687907853269984665640564039457584007913129639936 := by
  have := numB_lt l
  rw [h] at this
  exact this
theorem leB_length : ∀ k n, (leB k n).length = k
  | 0, _ => rfl
  | k + 1, n => by rw [leB, List.length_cons, leB_length]
theorem numB_leB : ∀ k n, n < 256 ^ k → numB (leB k n) = n
  | 0, n, h => by simp at h; rw [h]; rfl
  | k + 1, n, h => by
    rw [leB, numB, numB_leB k _ (by rw [Nat.pow_succ] at h; exact (Nat.div_lt_iff_lt_mul (by omega)).2 h), BitVec.toNat_ofNat]
    omega
theorem leB_numB : ∀ l : List (BitVec 8), leB l.length (numB l) = l
  | [] => rfl
  | a :: r => by
    have ha := a.isLt
    rw [List.length_cons, leB, numB, show (a.toNat + 256 * numB r) / 256 = numB r by omega, leB_numB r]
    congr 1
    apply BitVec.eq_of_toNat_eq
    rw [BitVec.toNat_ofNat]
    omega
theorem leB_get : ∀ {k n i : Nat}, i < k → (leB k n)[i]? = some (BitVec.ofNat 8 (n / 256 ^ i))
  | 0, _, _, h => by omega
  | k + 1, n, 0, h => by simp [leB]
  | k + 1, n, i + 1, h => by
    rw [leB, List.getElem?_cons_succ, leB_get (by omega), Nat.div_div_eq_div_mul, Nat.pow_succ, Nat.mul_comm]
theorem leB_inj {k n m : Nat} (hn : n < 256 ^ k) (hm : m < 256 ^ k) (h : leB k n = leB k m) : n = m := by
  rw [← numB_leB k n hn, ← numB_leB k m hm, h]
theorem numB_take : ∀ {l : List (BitVec 8)} {i : Nat} {x : BitVec 8}, l[i]? = some x → numB (l.take (i + 1)) = numB (l.take i) + 256 ^ i * x.toNat
  | [], i, x, h => by simp at h
  | a :: r, 0, x, h => by
    simp only [List.getElem?_cons_zero, Option.some.injEq] at h
    subst h
    simp [numB]
  | a :: r, i + 1, x, h => by
    have ih := numB_take (l := r) (i := i) (x := x) (by simpa using h)
    simp only [List.take_succ_cons, numB, Nat.pow_succ] at ih ⊢
    rw [ih, Nat.mul_comm (256 ^ i) 256, Nat.mul_assoc]
    omega
theorem limbs_get : ∀ {k n i : Nat}, i < k → (limbs k n).getD i 0#64 = BitVec.ofNat 64 (n / 18446744073709551616 ^ i)
  | 0, _, _, h => by omega
  | k + 1, n, 0, h => by simp [limbs]
  | k + 1, n, i + 1, h => by
    rw [limbs, List.getD_cons_succ, limbs_get (by omega), Nat.div_div_eq_div_mul, Nat.pow_succ, Nat.mul_comm]
theorem pow256 (j t : Nat) : 256 ^ (8 * j + t) = 18446744073709551616 ^ j * 256 ^ t := by
  rw [Nat.pow_add, Nat.pow_mul]
/-- A byte of a word. -/
theorem byte_of {x t : Nat} (h : t < 8) : ((BitVec.ofNat 64 x) >>> (8 * t)).setWidth 8 = BitVec.ofNat 8 (x / 256 ^ t) := by
  apply BitVec.eq_of_toNat_eq
  rw [BitVec.toNat_setWidth, BitVec.toNat_ushiftRight, Nat.shiftRight_eq_div_pow, BitVec.toNat_ofNat, BitVec.toNat_ofNat]
  match t, h with
  | 0, _ => simp only [Nat.mul_zero, Nat.pow_zero]; omega
  | 1, _ => simp only [Nat.reduceMul, Nat.reducePow]; omega
  | 2, _ => simp only [Nat.reduceMul, Nat.reducePow]; omega
  | 3, _ => simp only [Nat.reduceMul, Nat.reducePow]; omega
  | 4, _ => simp only [Nat.reduceMul, Nat.reducePow]; omega
  | 5, _ => simp only [Nat.reduceMul, Nat.reducePow]; omega
  | 6, _ => simp only [Nat.reduceMul, Nat.reducePow]; omega
  | 7, _ => simp only [Nat.reduceMul, Nat.reducePow]; omega
theorem limb_byte {n i : Nat} (h : i < 32) : (((limbs 4 n).getD (i / 8) 0#64) >>> (8 * (i % 8))).setWidth 8 = BitVec.ofNat 8 (n / 256 ^ i) := by
  rw [limbs_get (by omega), byte_of (by omega), Nat.div_div_eq_div_mul, ← pow256, Nat.div_add_mod]
theorem numL_get : ∀ {l : List (BitVec 64)} {j : Nat}, (l.getD j 0#64).toNat ≤ numL l / 18446744073709551616 ^ j
  | [], j => by simp
  | a :: r, 0 => by
    rw [List.getD_cons_zero, Nat.pow_zero, Nat.div_one, numL]; omega
  | a :: r, j + 1 => by
    rw [List.getD_cons_succ, Nat.pow_succ, Nat.mul_comm, ← Nat.div_div_eq_div_mul, numL, show (a.toNat + 18446744073709551616 * numL r) / 18446744073709551616 = numL r by have := a.isLt; omega]
    exact numL_get
/-- One more byte into the words. -/
theorem read_step {m : List (BitVec 64)} {v i : Nat} {x : BitVec 8} (hm : m.length = 4) (hv : numL m = v) (hlt : v < 256 ^ i) (hi : i < 32) :
    numL (m.set (i / 8) (m.getD (i / 8) 0#64 ||| (x.setWidth 64) <<< (8 * (i % 8)))) = v + 256 ^ i * x.toNat := by
  have hj : i / 8 < m.length := by omega
  have ht : i % 8 < 8 := by omega
  have hd := Nat.div_add_mod i 8
  generalize i / 8 = j at *
  generalize i % 8 = t at *
  have hg : (m.getD j 0#64).toNat < 2 ^ (8 * t) := by
    refine Nat.lt_of_le_of_lt numL_get ?_
    rw [hv, Nat.div_lt_iff_lt_mul (Nat.pow_pos (by decide)), Nat.pow_mul, Nat.mul_comm]
    rw [← hd, pow256] at hlt
    exact hlt
  have hs := numL_set m j (m.getD j 0#64 ||| (x.setWidth 64) <<< (8 * t)) hj
  have hx := x.isLt
  have e1 : ((x.setWidth 64) <<< (8 * t)).toNat = x.toNat * 2 ^ (8 * t) := by
    rw [BitVec.toNat_shiftLeft, BitVec.toNat_setWidth, Nat.shiftLeft_eq, Nat.mod_eq_of_lt (show x.toNat < 2 ^ 64 by omega)]
    refine Nat.mod_eq_of_lt ?_
    have : 2 ^ (8 * t) ≤ 2 ^ 56 := Nat.pow_le_pow_right (by omega) (by omega)
    calc x.toNat * 2 ^ (8 * t) ≤ 255 * 2 ^ 56 := Nat.mul_le_mul (by omega) this
      _ < 2 ^ 64 := by decide
  have e2 : (m.getD j 0#64 ||| (x.setWidth 64) <<< (8 * t)).toNat = (m.getD j 0#64).toNat + x.toNat * 2 ^ (8 * t) := by
    rw [BitVec.toNat_or, e1, Nat.or_comm, ← Nat.shiftLeft_eq, ← Nat.shiftLeft_add_eq_or_of_lt hg, Nat.add_comm]
  rw [e2, hv, Nat.mul_add] at hs
  rw [← hd, pow256, show 256 ^ t = 2 ^ (8 * t) by rw [Nat.pow_mul], Nat.mul_assoc, Nat.mul_comm (2 ^ (8 * t))]
  omega

theorem Bytes_b (w : World) (a : Nat) (ha : a < 115792089237316195423570985008687907853269984665640564039457584007913129639936) : Spec Try.prog 26 #[.agg (el a).toArray] w (σ := Unit) (fun _ => True) (fun _ => .agg (bs (leB 32 (a % 57896044618658097711785492504343953926634992332820282019728792003956564819949))).toArray) Nob (fun _ => []) := by
  refine enter Try.func26 rfl rfl (Mem.start w) ?_
  (repeat refine g_seq ?_)
  refine g_region ?_
  refine g_lo [1] rfl rfl rfl rfl (lo_box rfl rfl) (fun b1 hb1 => ?_)
  refine g_lo [2] rfl rfl rfl rfl (lo_alloc rfl) (fun b2 hb2 => ?_)
  refine g_nil ?_
  (repeat refine g_seq ?_)
  refine g_region ?_
  refine g_pu rfl rfl rfl (pu_loadW 1 (L := el a) rfl rfl rfl rfl) ?_
  refine g_call [] rfl rfl rfl rfl rfl rfl (fun w' hm => Norm_b w' a ha) (fun _ _ => ?_)
  refine g_storeL 1 (s := 4) (C := el (a % 57896044618658097711785492504343953926634992332820282019728792003956564819949)) rfl rfl rfl rfl rfl rfl rfl rfl (oneCell_el _) ?_
  refine g_nil ?_
  generalize a % 57896044618658097711785492504343953926634992332820282019728792003956564819949 = r
  have hfl := leB_length 32 r
  have hget : ∀ i, i < 32 → (leB 32 r)[i]? = some (BitVec.ofNat 8 (r / 256 ^ i)) := fun i hi => leB_get hi
  have hlb : ∀ i, i < 32 → (((limbs 4 r).getD (i / 8) 0#64) >>> (8 * (i % 8))).setWidth 8 = BitVec.ofNat 8 (r / 256 ^ i) := fun i hi => limb_byte hi
  have hel : el r = qs (limbs 4 r) := rfl
  have hll : (limbs 4 r).length = 4 := rfl
  generalize leB 32 r = full at *
  rw [hel]
  generalize limbs 4 r = Z at *
  (repeat refine g_seq ?_)
  refine g_region ?_
  refine g_lo [3] rfl rfl rfl rfl (lo_alloc rfl) (fun b3 hb3 => ?_)
  refine g_nil ?_
  (repeat refine g_seq ?_)
  refine g_region ?_
  refine g_pu rfl rfl rfl (pu_move rfl rfl) ?_
  refine g_nil ?_
  (repeat refine g_seq ?_)
  refine g_block (g_loop (σ := Nat) (fun (i : Nat) => [(1, .pointer (some ⟨b1, 0, none⟩)), (2, .pointer (some ⟨b2, 0, none⟩)), (3, .pointer (some ⟨b3, 0, none⟩)), (7, .int .i64 (i : Int))]) (fun i => [(1, .pt b1 (.cells (qs Z).toArray 28 (0, 0))), (2, .pt b2 (.cells (bs (List.replicate 32 0#8)).toArray 51 (0, 0))), (3, .pt b3 (.cells (bs (fillW 0#8 full i)).toArray 51 (0, 0)))])
    (fun i => i ≤ 32) (fun i => 32 - i) 0 ⟨rfl, rfl, rfl, rfl, trivial⟩ ⟨rfl, rfl, by unfold fillW; rw [List.take_zero, hfl]; rfl, trivial⟩ (by omega) ?_)
  intro i hi
  by_cases hlt : i < 32
  · (repeat refine g_seq ?_)
    refine g_region ?_
    first | refine g_pu rfl rfl rfl (pu_lss_t rfl rfl rfl (by omega)) ?_ | refine g_pu rfl rfl rfl (pu_lss_f rfl rfl rfl (by omega)) ?_ | refine g_pu rfl rfl rfl (pu_lss rfl rfl rfl) ?_
    refine g_nil ?_
    (repeat refine g_seq ?_)
    refine g_cond_t rfl (g_skip ?_)
    have h1 := getDq (l := Z) (i := i / 8) (by omega)
    have h2 := hlb i hlt
    have h3 := hget i hlt
    generalize Z.getD (i / 8) 0#64 = x at h1 h2
    (repeat refine g_seq ?_); refine g_block ?_
    (repeat refine g_seq ?_)
    refine g_region ?_
    refine g_pu rfl rfl rfl (pu_move rfl rfl) ?_
    refine g_pu rfl rfl rfl (pu_assign rfl rfl) ?_
    refine g_nil ?_
    (repeat refine g_seq ?_)
    refine g_region ?_
    refine g_pu rfl rfl rfl (pu_move rfl rfl) ?_
    refine g_pu rfl rfl rfl (pu_move rfl rfl) ?_
    refine g_pu rfl rfl rfl (pu_quoI rfl rfl rfl (by omega)) ?_
    refine g_pu rfl rfl rfl (pu_atA1 (i / 8) rfl rfl rfl (by omega) (by omega)) ?_
    refine g_pu rfl rfl rfl (pu_load 1 (v := b64 x) rfl rfl rfl (qs_load h1)) ?_
    refine g_pu rfl rfl rfl (pu_move rfl rfl) ?_
    refine g_pu rfl rfl rfl (pu_remI rfl rfl rfl (by omega)) ?_
    refine g_pu rfl rfl rfl (pu_mulI rfl rfl rfl (by omega)) ?_
    refine g_pu rfl rfl rfl (pu_shr64 rfl rfl rfl (by omega)) ?_
    rw [show (8 * ((i : Int) % 8)).toNat = 8 * (i % 8) by omega]
    refine g_pu rfl rfl rfl (pu_conv64_8 rfl rfl) ?_
    refine g_pu rfl rfl rfl (pu_atA1 i rfl rfl rfl rfl hlt) ?_
    refine g_store 3 (v := b8 ((x >>> (8 * (i % 8))).setWidth 8)) rfl rfl rfl rfl rfl rfl rfl (by rw [bs_length, fillW_length]; omega) ?_
    rw [h2, bs_setW, fillW_set h3]
    refine g_nil ?_
    refine g_blk ?_
    (repeat refine g_seq ?_)
    refine g_region ?_
    refine g_pu rfl rfl rfl (pu_addI rfl rfl rfl (by omega)) ?_
    refine g_pu rfl rfl rfl (pu_move rfl rfl) ?_
    refine g_nil ?_
    exact g_round (i + 1) (by omega) (by omega) ⟨rfl, rfl, rfl, rfl, trivial⟩ ⟨rfl, rfl, rfl, trivial⟩
  · (repeat refine g_seq ?_)
    refine g_region ?_
    first | refine g_pu rfl rfl rfl (pu_lss_t rfl rfl rfl (by omega)) ?_ | refine g_pu rfl rfl rfl (pu_lss_f rfl rfl rfl (by omega)) ?_ | refine g_pu rfl rfl rfl (pu_lss rfl rfl rfl) ?_
    refine g_nil ?_
    (repeat refine g_seq ?_)
    refine g_cond_f rfl (g_exit rfl ?_)
    have e1 : i = full.length := by omega
    rw [e1, fillW_end]
    have hbl : (bs full).length = 32 := by rw [bs_length, hfl]
    (repeat refine g_seq ?_)
    refine g_region ?_
    refine g_pu rfl rfl rfl (pu_loadW 3 (L := bs full) rfl rfl rfl hbl) ?_
    refine g_storeL 2 (s := 32) (C := bs full) rfl rfl rfl rfl rfl rfl hbl rfl (oneCell_bs _) ?_
    refine g_nil ?_
    exact g_retL 2 (L := bs full) rfl hbl rfl rfl (fun w' hm => ⟨(), trivial, rfl, hm.grows [] trivial rfl⟩)

def readN (l : List (BitVec 8)) : Nat := if l.length = 32 then numB l % 57896044618658097711785492504343953926634992332820282019728792003956564819968 % 57896044618658097711785492504343953926634992332820282019728792003956564819949 else 0
def readE (l : List (BitVec 8)) : Int := if l.length = 32 then 0 else 2

theorem Read_b (w : World) {p : Option Addr} {n : Nat} (c : Nat) {l : List (BitVec 8)} (ha : By w p n l) : Spec Try.prog 35 #[.slice p n c] w (σ := Unit) (fun _ => True) (fun _ => .tuple #[.agg (el (readN l)).toArray, .int .i64 (readE l)]) Nob (fun _ => []) := by
  refine enter Try.func35 rfl rfl (Mem.start w) ?_
  have hl := ha.len
  (repeat refine g_seq ?_)
  refine g_region ?_
  refine g_lo [2] rfl rfl rfl rfl (lo_alloc rfl) (fun b2 hb2 => ?_)
  refine g_pu rfl rfl rfl (pu_assign rfl rfl) ?_
  refine g_nil ?_
  by_cases h32 : l.length = 32
  · have hE : readE l = 0 := if_pos h32
    have hN : readN l = numB l % 57896044618658097711785492504343953926634992332820282019728792003956564819968 % 57896044618658097711785492504343953926634992332820282019728792003956564819949 := if_pos h32
    rw [hE, hN]
    (repeat refine g_seq ?_)
    refine g_region ?_
    refine g_pu rfl rfl rfl (pu_move rfl rfl) ?_
    first | refine g_pu rfl rfl rfl (pu_len rfl rfl) ?_ | refine g_pu rfl rfl rfl (pu_lenS rfl rfl) ?_
    first | refine g_pu rfl rfl rfl (pu_neq_t rfl rfl rfl (by omega)) ?_ | refine g_pu rfl rfl rfl (pu_neq_f rfl rfl rfl (by omega)) ?_ | refine g_pu rfl rfl rfl (pu_neq rfl rfl rfl) ?_
    refine g_nil ?_
    (repeat refine g_seq ?_)
    refine g_cond_f rfl (g_skip ?_)
    (repeat refine g_seq ?_)
    refine g_region ?_
    refine g_lo [4] rfl rfl rfl rfl (lo_alloc rfl) (fun b4 hb4 => ?_)
    refine g_nil ?_
    (repeat refine g_seq ?_)
    refine g_region ?_
    refine g_pu rfl rfl rfl (pu_move rfl rfl) ?_
    first | refine g_pu rfl rfl rfl (pu_len rfl rfl) ?_ | refine g_pu rfl rfl rfl (pu_lenS rfl rfl) ?_
    refine g_pu rfl rfl rfl (pu_move rfl rfl) ?_
    refine g_nil ?_
    (repeat refine g_seq ?_)
    refine g_block (g_loop2 (fun (i : Nat) (m : List (BitVec 64)) => [(2, .pointer (some ⟨b2, 0, none⟩)), (4, .pointer (some ⟨b4, 0, none⟩)), (11, .slice p n c), (12, .int .i64 (n : Int)), (13, .int .i64 (i : Int))]) (fun i m => [(2, .pt b2 (.cells (qs [0#64, 0#64, 0#64, 0#64]).toArray 28 (0, 0))), (4, .pt b4 (.cells (qs m).toArray 28 (0, 0)))])
      (fun i m => i ≤ 32 ∧ m.length = 4 ∧ numL m = numB (l.take i)) (fun i _ => 32 - i) 0 [0#64, 0#64, 0#64, 0#64] ⟨rfl, rfl, rfl, rfl, rfl, trivial⟩ ⟨rfl, rfl, trivial⟩ ⟨by omega, rfl, rfl⟩ ?_)
    intro i m ⟨hi, hm4, hv⟩
    by_cases hlt : i < 32
    · (repeat refine g_seq ?_)
      refine g_region ?_
      first | refine g_pu rfl rfl rfl (pu_lss_t rfl rfl rfl (by omega)) ?_ | refine g_pu rfl rfl rfl (pu_lss_f rfl rfl rfl (by omega)) ?_ | refine g_pu rfl rfl rfl (pu_lss rfl rfl rfl) ?_
      refine g_nil ?_
      (repeat refine g_seq ?_)
      refine g_cond_t rfl (g_skip ?_)
      have h1 : l[i]? = some l[i] := List.getElem?_eq_getElem (by omega)
      generalize l[i] = x at h1
      have h2 := getDq (l := m) (i := i / 8) (by omega)
      have hb : numB (l.take i) < 256 ^ i := by
        have := numB_lt (l.take i)
        rwa [List.length_take, Nat.min_eq_left (by omega)] at this
      have hst := read_step (x := x) hm4 hv hb hlt
      generalize m.getD (i / 8) 0#64 = y at h2 hst
      (repeat refine g_seq ?_); refine g_block ?_
      (repeat refine g_seq ?_)
      refine g_region ?_
      refine g_pu rfl rfl rfl (pu_move rfl rfl) ?_
      refine g_pu rfl rfl rfl (pu_atB i (fun w' hm => ha.m hm) rfl rfl rfl rfl (by omega)) ?_
      refine g_pu rfl rfl rfl (pu_rdB (fun w' hm => ha.m hm) rfl rfl h1) ?_
      refine g_pu rfl rfl rfl (pu_assign rfl rfl) ?_
      refine g_pu rfl rfl rfl (pu_assign rfl rfl) ?_
      refine g_nil ?_
      (repeat refine g_seq ?_)
      refine g_any (12, []) ?_
      refine a_pu 0 rfl rfl rfl rfl (pu_move rfl rfl) rfl rfl (by kernel_rfl) ?_
      refine a_pu 1 rfl rfl rfl rfl (pu_quoI rfl rfl rfl (by omega)) rfl rfl (by kernel_rfl) ?_
      refine a_pu 2 rfl rfl rfl rfl (pu_atA1 (i / 8) rfl rfl rfl (by omega) (by omega)) rfl rfl (by kernel_rfl) ?_
      refine a_pu 3 rfl rfl rfl rfl (pu_load 4 (v := b64 y) rfl rfl rfl (qs_load h2)) rfl rfl (by kernel_rfl) ?_
      refine a_pu 4 rfl rfl rfl rfl (pu_move rfl rfl) rfl rfl (by kernel_rfl) ?_
      refine a_pu 5 rfl rfl rfl rfl (pu_conv8_64 rfl rfl) rfl rfl (by kernel_rfl) ?_
      refine a_pu 6 rfl rfl rfl rfl (pu_move rfl rfl) rfl rfl (by kernel_rfl) ?_
      refine a_pu 7 rfl rfl rfl rfl (pu_remI rfl rfl rfl (by omega)) rfl rfl (by kernel_rfl) ?_
      refine a_pu 8 rfl rfl rfl rfl (pu_mulI rfl rfl rfl (by omega)) rfl rfl (by kernel_rfl) ?_
      refine a_pu 9 rfl rfl rfl rfl (pu_shl64 rfl rfl rfl (by omega)) rfl rfl (by kernel_rfl) ?_
      rw [show (8 * ((i : Int) % 8)).toNat = 8 * (i % 8) by omega]
      refine a_pu 10 rfl rfl rfl rfl (pu_or64 rfl rfl rfl) rfl rfl (by kernel_rfl) ?_
      refine a_pu 11 rfl rfl rfl rfl (pu_atA1 (i / 8) rfl rfl rfl (by omega) (by omega)) rfl rfl (by kernel_rfl) ?_
      refine a_tail [12] (by kernel_rfl) rfl rfl (by kernel_rfl) ?_
      refine g_store 4 (v := b64 (y ||| (x.setWidth 64) <<< (8 * (i % 8)))) rfl rfl rfl rfl rfl rfl rfl (by rw [qs_length]; omega) ?_
      rw [qs_set]
      refine g_nil ?_
      refine g_blk ?_
      (repeat refine g_seq ?_)
      refine g_region ?_
      refine g_pu rfl rfl rfl (pu_addI rfl rfl rfl (by omega)) ?_
      refine g_pu rfl rfl rfl (pu_move rfl rfl) ?_
      refine g_nil ?_
      exact g_round2 (i + 1) (m.set (i / 8) (y ||| (x.setWidth 64) <<< (8 * (i % 8)))) ⟨by omega, by rw [List.length_set, hm4], by rw [hst, numB_take h1]⟩ (by omega) ⟨rfl, rfl, rfl, rfl, rfl, trivial⟩ ⟨rfl, rfl, trivial⟩
    · (repeat refine g_seq ?_)
      refine g_region ?_
      first | refine g_pu rfl rfl rfl (pu_lss_t rfl rfl rfl (by omega)) ?_ | refine g_pu rfl rfl rfl (pu_lss_f rfl rfl rfl (by omega)) ?_ | refine g_pu rfl rfl rfl (pu_lss rfl rfl rfl) ?_
      refine g_nil ?_
      (repeat refine g_seq ?_)
      refine g_cond_f rfl (g_exit rfl ?_)
      rw [List.take_of_length_le (by omega)] at hv
      match m, hm4, hv with
      | [m0, m1, m2, m3], _, hv =>
        have hR : el (numB l % 57896044618658097711785492504343953926634992332820282019728792003956564819968) = qs [m0, m1, m2, m3 &&& 9223372036854775807#64] := by
          rw [el_of rfl, ← hv]
          congr 1
          have e1 : (m3 &&& 9223372036854775807#64).toNat = m3.toNat % 9223372036854775808 := by
            rw [BitVec.toNat_and, show (9223372036854775807#64).toNat = 2 ^ 63 - 1 from rfl, Nat.and_two_pow_sub_one_eq_mod]
          have := m0.isLt
          have := m1.isLt
          have := m2.isLt
          have := m3.isLt
          simp only [numL, e1]
          omega
        have hlt2 : numB l % 57896044618658097711785492504343953926634992332820282019728792003956564819968 < 115792089237316195423570985008687907853269984665640564039457584007913129639936 := by omega
        (repeat refine g_seq ?_)
        refine g_region ?_
        refine g_pu rfl rfl rfl (pu_atA1 3 rfl rfl rfl rfl (by omega)) ?_
        refine g_pu rfl rfl rfl (pu_load 4 (v := b64 m3) rfl rfl rfl rfl) ?_
        refine g_pu rfl rfl rfl (pu_and64 (b := 9223372036854775807#64) rfl rfl rfl) ?_
        refine g_pu rfl rfl rfl (pu_atA1 3 rfl rfl rfl rfl (by omega)) ?_
        refine g_store 4 (v := b64 (m3 &&& 9223372036854775807#64)) rfl rfl rfl rfl rfl rfl rfl (by rw [qs_length]; simp) ?_
        refine g_nil ?_
        (repeat refine g_seq ?_)
        refine g_region ?_
        refine g_pu rfl rfl rfl (pu_loadW 4 (L := el (numB l % 57896044618658097711785492504343953926634992332820282019728792003956564819968)) rfl rfl (by rw [hR]; rfl) rfl) ?_
        refine g_call [] rfl rfl rfl rfl rfl rfl (fun w' hm => Norm_b w' _ hlt2) (fun _ _ => ?_)
        refine g_storeL 2 (s := 4) (C := el (numB l % 57896044618658097711785492504343953926634992332820282019728792003956564819968 % 57896044618658097711785492504343953926634992332820282019728792003956564819949)) rfl rfl rfl rfl rfl rfl rfl rfl (oneCell_el _) ?_
        refine g_pu rfl rfl rfl (pu_assign rfl rfl) ?_
        refine g_nil ?_
        exact g_retLT 2 (L := el (numB l % 57896044618658097711785492504343953926634992332820282019728792003956564819968 % 57896044618658097711785492504343953926634992332820282019728792003956564819949)) rfl rfl rfl rfl rfl (fun w' hm => ⟨(), trivial, rfl, hm.grows [] trivial rfl⟩)
  · have hE : readE l = 2 := if_neg h32
    have hN : readN l = 0 := if_neg h32
    rw [hE, hN]
    (repeat refine g_seq ?_)
    refine g_region ?_
    refine g_pu rfl rfl rfl (pu_move rfl rfl) ?_
    first | refine g_pu rfl rfl rfl (pu_len rfl rfl) ?_ | refine g_pu rfl rfl rfl (pu_lenS rfl rfl) ?_
    first | refine g_pu rfl rfl rfl (pu_neq_t rfl rfl rfl (by omega)) ?_ | refine g_pu rfl rfl rfl (pu_neq_f rfl rfl rfl (by omega)) ?_ | refine g_pu rfl rfl rfl (pu_neq rfl rfl rfl) ?_
    refine g_nil ?_
    (repeat refine g_seq ?_)
    refine g_cond_t rfl ?_
    (repeat refine g_seq ?_)
    refine g_region ?_
    refine g_pu rfl rfl rfl (pu_buildA' (cs := qs [0#64, 0#64, 0#64, 0#64]) rfl rfl rfl) ?_
    refine g_storeL 2 (s := 4) (C := qs [0#64, 0#64, 0#64, 0#64]) rfl rfl rfl rfl rfl rfl rfl rfl (oneCell_qs _) ?_
    refine g_pu rfl rfl rfl (pu_assign rfl rfl) ?_
    refine g_nil ?_
    exact g_retLT 2 (L := qs [0#64, 0#64, 0#64, 0#64]) rfl rfl rfl rfl rfl (fun w' hm => ⟨(), trivial, rfl, hm.grows [] trivial rfl⟩)
end Go.Sx

import Derived.Test.YtigcogjilfnpcaaGFB
import Derived.Test.YtigcogjilfnpcaaYA
import Derived.Test.YtigcogjilfnpcaaXE
set_option linter.unusedVariables false
set_option linter.unusedSimpArgs false
/-
  The document's powers, bytes and readings, both inverses, and fractions. The numbers are below 2^256.
-/
namespace Go.Sx
open Go Go.Proofs

theorem numB_digit : ∀ {l : List (BitVec 8)} {i : Nat}, i < l.length → (l.getD i 0#8).toNat = numB l / 256 ^ i % 256
  | [], _, h => by simp at h
  | a :: r, 0, h => by
    have ha := a.isLt
    rw [List.getD_cons_zero, numB, Nat.pow_zero, Nat.div_one]; omega
  | a :: r, i + 1, h => by
    have ha := a.isLt
    rw [List.getD_cons_succ, numB_digit (by simpa using h), numB, Nat.pow_succ, Nat.mul_comm (256 ^ i), ← Nat.div_div_eq_div_mul, show (a.toNat + 256 * numB r) / 256 = numB r by omega]
theorem getDb {l : List (BitVec 8)} {i : Nat} (h : i < l.length) : l[i]? = some (l.getD i 0#8) := by
  rw [List.getD_eq_getElem?_getD, List.getElem?_eq_getElem h]; rfl
/-- A bit of the number. -/
theorem numB_bit {l : List (BitVec 8)} {i : Nat} (h : i < 8 * l.length) : (l.getD (i / 8) 0#8).toNat / 2 ^ (i % 8) % 2 = numB l / 2 ^ i % 2 := by
  rw [numB_digit (by omega)]
  have e1 : 2 ^ i = 256 ^ (i / 8) * 2 ^ (i % 8) := by
    rw [show (256 : Nat) = 2 ^ 8 from rfl, ← Nat.pow_mul, ← Nat.pow_add, Nat.div_add_mod]
  rw [e1, ← Nat.div_div_eq_div_mul]
  have ht : i % 8 < 8 := by omega
  generalize i % 8 = t at ht
  generalize numB l / 256 ^ (i / 8) = x
  match t, ht with
  | 0, _ => simp only [Nat.pow_zero]; omega
  | 1, _ => simp only [Nat.reducePow]; omega
  | 2, _ => simp only [Nat.reducePow]; omega
  | 3, _ => simp only [Nat.reducePow]; omega
  | 4, _ => simp only [Nat.reducePow]; omega
  | 5, _ => simp only [Nat.reducePow]; omega
  | 6, _ => simp only [Nat.reducePow]; omega
  | 7, _ => simp only [Nat.reducePow]; omega
theorem bit_rem (x : BitVec 8) (s : Nat) : ((x >>> s) % 2#8 = 1#8) ↔ x.toNat / 2 ^ s % 2 = 1 := by
  have e1 : ((x >>> s) % 2#8).toNat = x.toNat / 2 ^ s % 2 := by
    rw [BitVec.toNat_umod, BitVec.toNat_ushiftRight, Nat.shiftRight_eq_div_pow, show (2#8).toNat = 2 from rfl]
  constructor
  · intro h; rw [← e1, h]; rfl
  · intro h; apply BitVec.eq_of_toNat_eq; rw [e1, h]; rfl
theorem bits_step (N i : Nat) : N % 2 ^ (i + 1) = N % 2 ^ i + 2 ^ i * (N / 2 ^ i % 2) := by
  rw [Nat.pow_succ, Nat.mod_mul]


/-- p - 2 as bytes. -/
def invB : List (BitVec 8) := 235#8 :: (List.replicate 30 255#8 ++ [127#8])
/-- p - 2. -/
def pe : Nat := 57896044618658097711785492504343953926634992332820282019728792003956564819949 - 2
theorem numB_inv : numB invB = pe := by decide +kernel
/-- The inverse of a number. -/
def invN (a : Nat) : Nat := a ^ pe % 57896044618658097711785492504343953926634992332820282019728792003956564819949



/-- A word of four bytes as a number. -/
theorem or_add32 {x y : BitVec 32} {k : Nat} (hx : x.toNat < 2 ^ k) (hy : y.toNat * 2 ^ k < 2 ^ 32) : (x ||| y <<< k).toNat = x.toNat + y.toNat * 2 ^ k := by
  rw [BitVec.toNat_or, BitVec.toNat_shiftLeft, Nat.shiftLeft_eq, Nat.mod_eq_of_lt hy, Nat.or_comm, ← Nat.shiftLeft_eq, ← Nat.shiftLeft_add_eq_or_of_lt hx, Nat.add_comm, Nat.shiftLeft_eq]
theorem word4_num {l : List (BitVec 8)} {i : Nat} (h : i < 8) (hl : l.length = 32) : word4 (l.drop (4 * i)) = BitVec.ofNat 32 (numB l / 4294967296 ^ i) := by
  have e1 : 4294967296 ^ i = 256 ^ (4 * i) := by rw [Nat.pow_mul]
  have hd : ∀ j, j < 4 → ((l.drop (4 * i)).getD j 0#8).toNat = numB l / 256 ^ (4 * i) / 256 ^ j % 256 := fun j hj => by
    rw [List.getD_eq_getElem?_getD, List.getElem?_drop, ← List.getD_eq_getElem?_getD, numB_digit (by omega), Nat.pow_add, ← Nat.div_div_eq_div_mul]
  have d0 := hd 0 (by omega)
  have d1 := hd 1 (by omega)
  have d2 := hd 2 (by omega)
  have d3 := hd 3 (by omega)
  rw [e1]
  unfold word4
  generalize (l.drop (4 * i)).getD 0 0#8 = a at *
  generalize (l.drop (4 * i)).getD 1 0#8 = b at *
  generalize (l.drop (4 * i)).getD 2 0#8 = c at *
  generalize (l.drop (4 * i)).getD 3 0#8 = d at *
  generalize numB l / 256 ^ (4 * i) = x at *
  simp only [Nat.reducePow, Nat.div_one] at d0 d1 d2 d3
  have ha := a.isLt
  have hb := b.isLt
  have hc := c.isLt
  have hd' := d.isLt
  have wa : ∀ y : BitVec 8, (y.setWidth 32).toNat = y.toNat := fun y => by rw [BitVec.toNat_setWidth]; omega
  have s1 : (a.setWidth 32 ||| b.setWidth 32 <<< 8).toNat = a.toNat + b.toNat * 256 := by
    rw [or_add32 (by rw [wa]; omega) (by rw [wa]; omega), wa, wa]
  have s2 : (a.setWidth 32 ||| b.setWidth 32 <<< 8 ||| c.setWidth 32 <<< 16).toNat = a.toNat + b.toNat * 256 + c.toNat * 65536 := by
    rw [or_add32 (by rw [s1]; omega) (by rw [wa]; omega), s1, wa]
  apply BitVec.eq_of_toNat_eq
  rw [or_add32 (by rw [s2]; omega) (by rw [wa]; omega), s2, wa, BitVec.toNat_ofNat]
  omega

end Go.Sx

/-
  The library's Repeat of one byte, the program's inverse, fractions, and what the laws compare with. The numbers are below 2^256.
-/
namespace Go.Sx
open Go Go.Proofs

/-- A power modulo m, by the exponent's bits. -/
def pm (m : Nat) : Nat → Nat → Nat → Nat
  | 0, _, _ => 1 % m
  | f + 1, b, e => if e % 2 = 1 then b * pm m f (b * b % m) (e / 2) % m else pm m f (b * b % m) (e / 2)
theorem pm_eq (m : Nat) : ∀ (f b e : Nat), e < 2 ^ f → pm m f b e = b ^ e % m
  | 0, b, e, h => by
    have : e = 0 := by simpa using h
    rw [this]; rfl
  | f + 1, b, e, h => by
    have ih := pm_eq m f (b * b % m) (e / 2) (by rw [Nat.pow_succ] at h; omega)
    rw [pm, ih, ← Nat.pow_mod, ← Nat.pow_two, ← Nat.pow_mul]
    split
    · rename_i h1
      have h2 : b ^ e = b * b ^ (2 * (e / 2)) := by
        rw [Nat.mul_comm, ← Nat.pow_succ]
        congr 1
        omega
      rw [h2, Nat.mul_mod, Nat.mod_mod, ← Nat.mul_mod]
    · rw [show 2 * (e / 2) = e by omega]
theorem inv_pm (a : Nat) : invN a = pm 57896044618658097711785492504343953926634992332820282019728792003956564819949 255 a pe := (pm_eq 57896044618658097711785492504343953926634992332820282019728792003956564819949 255 a pe (by unfold pe; decide)).symm
theorem invN_lt (a : Nat) : invN a < 115792089237316195423570985008687907853269984665640564039457584007913129639936 := by
  have : invN a < 57896044618658097711785492504343953926634992332820282019728792003956564819949 := Nat.mod_lt _ (by decide)
  omega
theorem el_small {n : Nat} (h : n < 18446744073709551616) : el n = qs [BitVec.ofNat 64 n, 0#64, 0#64, 0#64] := by
  rw [el_of rfl]
  congr 1
  simp only [numL, BitVec.toNat_ofNat, show (0#64).toNat = 0 from rfl]
  omega
theorem dg_small {n : Nat} (h : n < 4294967296) : dg n = ws [BitVec.ofNat 32 n, 0#32, 0#32, 0#32, 0#32, 0#32, 0#32, 0#32] := by
  rw [dg_of rfl]
  congr 1
  simp only [numD, numG, BitVec.toNat_ofNat, show (0#32).toNat = 0 from rfl]
  omega

theorem MulU_b (w : World) (x y : BitVec 64) : Spec Try.prog 185 #[b64 x, b64 y] w (σ := Unit) (fun _ => True) (fun _ => .tuple #[b64 (mulHi x y), b64 (x * y)]) Nob (fun _ => []) := by
  refine enter Try.func185 rfl rfl (Mem.start w) ?_
  (repeat refine g_seq ?_)
  refine g_region ?_
  refine g_pu rfl rfl rfl (pu_assign (v := b64 0#64) rfl rfl) ?_
  refine g_pu rfl rfl rfl (pu_assign (v := b64 0#64) rfl rfl) ?_
  refine g_nil ?_
  (repeat refine g_seq ?_)
  refine g_cond_f rfl (g_skip ?_)
  (repeat refine g_seq ?_)
  refine g_region ?_
  refine g_pu rfl rfl rfl (pu_move rfl rfl) ?_
  refine g_pu rfl rfl rfl (pu_move rfl rfl) ?_
  refine g_call [] rfl rfl rfl rfl rfl rfl (fun w' hm => Mul64_b w' x y) (fun _ _ => ?_)
  refine g_pu rfl rfl rfl (pu_move rfl rfl) ?_
  refine g_pu rfl rfl rfl (pu_extract rfl rfl rfl) ?_
  refine g_pu rfl rfl rfl (pu_extract rfl rfl rfl) ?_
  refine g_pu rfl rfl rfl (pu_assign rfl rfl) ?_
  refine g_pu rfl rfl rfl (pu_assign rfl rfl) ?_
  refine g_nil ?_
  (repeat refine g_seq ?_)
  refine g_region ?_
  refine g_pu rfl rfl rfl (pu_move rfl rfl) ?_
  refine g_pu rfl rfl rfl (pu_move rfl rfl) ?_
  refine g_pu rfl rfl rfl (pu_assign rfl rfl) ?_
  refine g_pu rfl rfl rfl (pu_assign rfl rfl) ?_
  refine g_nil ?_
  exact g_ret2 rfl rfl rfl (fun w' hm => ⟨(), trivial, rfl, hm.grows [] trivial rfl⟩)

theorem rep_step {x : BitVec 8} {d : Nat} (hd : d ≤ 32) (hd1 : 0 < d) : (bs (List.replicate d x ++ List.replicate (32 - d) 0#8)).take (0 + d) ++ (bs (List.replicate d x)).take (Nat.min d (32 - d)) ++ (bs (List.replicate d x ++ List.replicate (32 - d) 0#8)).drop (0 + d + Nat.min d (32 - d)) = bs (List.replicate (d + Nat.min d (32 - d)) x ++ List.replicate (32 - (d + Nat.min d (32 - d))) 0#8) := by
  have e1 : Nat.min d (32 - d) = min d (32 - d) := rfl
  rw [e1]
  unfold bs
  simp only [List.map_append, List.map_replicate, Nat.zero_add]
  rw [List.take_left' (by simp), List.take_replicate, ← List.drop_drop, List.drop_left' (by simp), List.drop_replicate, show min (min d (32 - d)) d = min d (32 - d) by omega, ← List.replicate_append_replicate, List.append_assoc, List.append_assoc, show 32 - d - min d (32 - d) = 32 - (d + min d (32 - d)) by omega]

theorem Repeat_b (w : World) {p : Option Addr} (c : Nat) (x : BitVec 8) (ha : By w p 1 [x]) : Spec Try.prog 174 #[.slice p 1 c, .int .i64 32] w (σ := Nat) (fun _ => True) (fun b => .slice (some ⟨b, 0, none⟩) 32 32) Nob (fun b => [.pt b (.cells (bs (List.replicate 32 x)).toArray 5 (0, 0))]) := by
  refine enter Try.func174 rfl rfl (Mem.start w) ?_
  (repeat refine g_seq ?_)
  refine g_region ?_
  refine g_pu rfl rfl rfl (pu_assign rfl rfl) ?_
  refine g_nil ?_
  (repeat refine g_seq ?_)
  refine g_region ?_
  refine g_pu rfl rfl rfl (pu_move rfl rfl) ?_
  first | refine g_pu rfl rfl rfl (pu_lss_t rfl rfl rfl (by omega)) ?_ | refine g_pu rfl rfl rfl (pu_lss_f rfl rfl rfl (by omega)) ?_ | refine g_pu rfl rfl rfl (pu_lss rfl rfl rfl) ?_
  refine g_nil ?_
  (repeat refine g_seq ?_)
  refine g_cond_f rfl (g_skip ?_)
  (repeat refine g_seq ?_)
  refine g_region ?_
  refine g_pu rfl rfl rfl (pu_move rfl rfl) ?_
  first | refine g_pu rfl rfl rfl (pu_len rfl rfl) ?_ | refine g_pu rfl rfl rfl (pu_lenS rfl rfl) ?_
  refine g_pu rfl rfl rfl (pu_convI_64 rfl rfl) ?_
  refine g_pu rfl rfl rfl (pu_move rfl rfl) ?_
  refine g_pu rfl rfl rfl (pu_convI_64 rfl rfl) ?_
  refine g_call [] rfl rfl rfl rfl rfl rfl (fun w' hm => MulU_b w' (BitVec.ofInt 64 1) (BitVec.ofInt 64 32)) (fun _ _ => ?_)
  refine g_pu rfl rfl rfl (pu_move rfl rfl) ?_
  refine g_pu rfl rfl rfl (pu_extract rfl rfl rfl) ?_
  refine g_pu rfl rfl rfl (pu_extract rfl rfl rfl) ?_
  refine g_pu rfl rfl rfl (pu_assign rfl rfl) ?_
  refine g_pu rfl rfl rfl (pu_assign rfl rfl) ?_
  refine g_nil ?_
  have e1 : mulHi (BitVec.ofInt 64 1) (BitVec.ofInt 64 32) = 0#64 := by decide
  have e2 : BitVec.ofInt 64 1 * BitVec.ofInt 64 32 = 32#64 := by decide
  (repeat refine g_seq ?_)
  refine g_region ?_
  refine g_pu rfl rfl rfl (pu_move rfl rfl) ?_
  refine g_pu rfl rfl rfl (pu_gtr_f rfl rfl rfl (by decide)) ?_
  refine g_pu rfl rfl rfl (pu_move rfl rfl) ?_
  first | refine g_pass rfl rfl rfl ?_ | refine g_pu rfl rfl rfl (pu_move rfl rfl) ?_
  refine g_pu rfl rfl rfl (pu_gtr_f rfl rfl rfl (by decide)) ?_
  first | refine g_pu rfl rfl rfl (pu_pick_t rfl rfl rfl) ?_ | refine g_pu rfl rfl rfl (pu_pick_f rfl rfl rfl) ?_
  refine g_nil ?_
  (repeat refine g_seq ?_)
  refine g_cond_f rfl (g_skip ?_)
  (repeat refine g_seq ?_)
  refine g_region ?_
  refine g_pu rfl rfl rfl (pu_move rfl rfl) ?_
  refine g_pu rfl rfl rfl (pu_conv64_I rfl rfl (by decide)) ?_
  refine g_lo [30] rfl rfl rfl rfl (lo_make (n := 32) (c := 32) rfl rfl rfl (by omega) (by omega) (by omega) rfl) (fun b30 hb30 => ?_)
  refine g_pu rfl rfl rfl (pu_assign rfl rfl) ?_
  refine g_nil ?_
  (repeat refine g_seq ?_)
  refine g_region ?_
  refine g_pu rfl rfl rfl (pu_move rfl rfl) ?_
  refine g_pu rfl rfl rfl (pu_move rfl rfl) ?_
  refine g_copy 30 (L := bs (List.replicate 32 0#8)) (n := 32) (m := 1) (bs [x]) rfl rfl rfl rfl rfl rfl rfl (fun w' hm => (ha.m hm).rd) rfl (by rw [bs_length]; simp) (oneCell_bs _) ?_
  refine g_pu rfl rfl rfl (pu_assign rfl rfl) ?_
  refine g_nil ?_
  (repeat refine g_seq ?_)
  refine g_block (g_loop (σ := Nat) (fun (d : Nat) => [(7, .slice (some ⟨b30, 0, none⟩) 32 32), (8, .int .i64 (d : Int))]) (fun d => [(30, .pt b30 (.cells (bs (List.replicate d x ++ List.replicate (32 - d) 0#8)).toArray 5 (0, 0)))])
    (fun d => 1 ≤ d ∧ d ≤ 32) (fun d => 32 - d) 1 ⟨rfl, rfl, trivial⟩ ⟨rfl, trivial⟩ ⟨by omega, by omega⟩ ?_)
  intro d ⟨h1, hd⟩
  by_cases hlt : d < 32
  · (repeat refine g_seq ?_)
    refine g_region ?_
    refine g_pu rfl rfl rfl (pu_move rfl rfl) ?_
    refine g_pu rfl rfl rfl (pu_move rfl rfl) ?_
    first | refine g_pu rfl rfl rfl (pu_len rfl rfl) ?_ | refine g_pu rfl rfl rfl (pu_lenS rfl rfl) ?_
    first | refine g_pu rfl rfl rfl (pu_lss_t rfl rfl rfl (by omega)) ?_ | refine g_pu rfl rfl rfl (pu_lss_f rfl rfl rfl (by omega)) ?_ | refine g_pu rfl rfl rfl (pu_lss rfl rfl rfl) ?_
    refine g_nil ?_
    (repeat refine g_seq ?_)
    refine g_cond_t rfl (g_skip ?_)
    have hst := rep_step (x := x) hd h1
    (repeat refine g_seq ?_); refine g_block ?_
    (repeat refine g_seq ?_)
    refine g_any (7, [0]) ?_
    first | refine a_mv 0 rfl rfl rfl rfl (fun _ => (pu_move rfl rfl)) rfl rfl rfl (by kernel_rfl) (by kernel_rfl) (by kernel_rfl) rfl ?_
    refine a_pu 1 rfl rfl rfl rfl (pu_move rfl rfl) rfl rfl (by kernel_rfl) ?_
    refine a_pu 2 rfl rfl rfl rfl (pu_move rfl rfl) rfl rfl (by kernel_rfl) ?_
    refine a_pu 3 rfl rfl rfl rfl (pu_slice_l d rfl rfl rfl rfl (by omega)) rfl rfl (by kernel_rfl) ?_
    rw [cutp_some b30 0 32 d hlt]
    refine a_pu 4 rfl rfl rfl rfl (pu_move rfl rfl) rfl rfl (by kernel_rfl) ?_
    refine a_pu 5 rfl rfl rfl rfl (pu_move rfl rfl) rfl rfl (by kernel_rfl) ?_
    refine a_pu 6 rfl rfl rfl rfl (pu_slice_h d rfl rfl rfl rfl (by omega)) rfl rfl (by kernel_rfl) ?_
    refine a_tail [7, 8, 9] (by kernel_rfl) rfl rfl (by kernel_rfl) ?_
    refine g_copy 30 (L := bs (List.replicate d x ++ List.replicate (32 - d) 0#8)) (n := 32 - d) (m := d) (bs (List.replicate d x)) rfl rfl rfl rfl rfl rfl rfl (fun w' hm => hm.row 30 (J := bs (List.replicate (32 - d) 0#8)) (by rw [← bs_append]; rfl)) (by rw [bs_length, List.length_replicate]) (by rw [bs_length, List.length_append, List.length_replicate, List.length_replicate]; omega) (oneCell_bs _) ?_
    rw [hst]
    refine g_pu rfl rfl rfl (pu_addI rfl rfl rfl (by have : Nat.min d (32 - d) ≤ d := Nat.min_le_left _ _; omega)) ?_
    refine g_pu rfl rfl rfl (pu_assign rfl rfl) ?_
    refine g_nil ?_
    refine g_blk ?_
    have hmin : 1 ≤ Nat.min d (32 - d) := by
      show 1 ≤ min d (32 - d)
      omega
    have hmin2 : Nat.min d (32 - d) ≤ 32 - d := Nat.min_le_right _ _
    exact g_round (d + Nat.min d (32 - d)) ⟨by omega, by omega⟩ (by omega) ⟨rfl, rfl, trivial⟩ ⟨rfl, trivial⟩
  · (repeat refine g_seq ?_)
    refine g_region ?_
    refine g_pu rfl rfl rfl (pu_move rfl rfl) ?_
    refine g_pu rfl rfl rfl (pu_move rfl rfl) ?_
    first | refine g_pu rfl rfl rfl (pu_len rfl rfl) ?_ | refine g_pu rfl rfl rfl (pu_lenS rfl rfl) ?_
    first | refine g_pu rfl rfl rfl (pu_lss_t rfl rfl rfl (by omega)) ?_ | refine g_pu rfl rfl rfl (pu_lss_f rfl rfl rfl (by omega)) ?_ | refine g_pu rfl rfl rfl (pu_lss rfl rfl rfl) ?_
    refine g_nil ?_
    (repeat refine g_seq ?_)
    refine g_cond_f rfl (g_exit rfl ?_)
    have e3 : d = 32 := by omega
    subst e3
    (repeat refine g_seq ?_)
    refine g_region ?_
    refine g_pu rfl rfl rfl (pu_move rfl rfl) ?_
    refine g_pu rfl rfl rfl (pu_assign rfl rfl) ?_
    refine g_nil ?_
    exact g_ret1 rfl rfl (fun w' hm => ⟨b30, trivial, rfl, hm.grows [30] ⟨rfl, trivial⟩ rfl⟩)

theorem Inv_b (w : World) (a : Nat) (ha : a < 115792089237316195423570985008687907853269984665640564039457584007913129639936) : Spec Try.prog 156 #[.agg (el a).toArray] w (σ := Unit) (fun _ => True) (fun _ => .agg (el (invN a)).toArray) Nob (fun _ => []) := by
  refine enter Try.func156 rfl rfl (Mem.start w) ?_
  (repeat refine g_seq ?_)
  refine g_region ?_
  refine g_lo [1] rfl rfl rfl rfl (lo_box rfl rfl) (fun b1 hb1 => ?_)
  refine g_lo [2] rfl rfl rfl rfl (lo_alloc rfl) (fun b2 hb2 => ?_)
  refine g_nil ?_
  (repeat refine g_seq ?_)
  refine g_region ?_
  refine g_lo [4] rfl rfl rfl rfl (lo_buildSlice rfl rfl (by decide) (by decide) rfl rfl) (fun b4 hb4 => ?_)
  refine g_call [5] rfl rfl rfl rfl rfl rfl (fun w' hm => Repeat_b w' 1 255#8 (By.full 4 rfl hm rfl (by omega))) (fun b5 _ => ?_)
  refine g_pu rfl rfl rfl (pu_assign rfl rfl) ?_
  refine g_nil ?_
  (repeat refine g_seq ?_)
  refine g_region ?_
  refine g_pu rfl rfl rfl (pu_move rfl rfl) ?_
  refine g_pu rfl rfl rfl (pu_move rfl rfl) ?_
  refine g_pu rfl rfl rfl (pu_at1 0 rfl rfl rfl rfl (by omega)) ?_
  refine g_store 5 (v := b8 235#8) (L := bs (List.replicate 32 255#8)) rfl rfl rfl rfl rfl rfl rfl (by rw [bs_length]; simp) ?_
  refine g_pu rfl rfl rfl (pu_at1 31 rfl rfl rfl rfl (by omega)) ?_
  refine g_store 5 (v := b8 127#8) (L := (bs (List.replicate 32 255#8)).set (0 + 0) (b8 235#8)) rfl rfl rfl rfl rfl rfl rfl (by rw [List.length_set, bs_length]; simp) ?_
  refine g_nil ?_
  refine g_recast 5 (.pt b5 (.cells (((bs (List.replicate 32 255#8)).set (0 + 0) (b8 235#8)).set (0 + 31) (b8 127#8)).toArray 5 (0, 0))) (.pt b5 (.cells (bs invB).toArray 5 (0, 0))) rfl (fun w' hw' => hw') trivial (fun j hj => hj) ?_
  have hI : invN a = a ^ numB invB % 57896044618658097711785492504343953926634992332820282019728792003956564819949 := by rw [numB_inv]; rfl
  rw [hI]
  (repeat refine g_seq ?_)
  refine g_region ?_
  refine g_pu rfl rfl rfl (pu_loadW 1 (L := el a) rfl rfl rfl rfl) ?_
  refine g_pu rfl rfl rfl (pu_move rfl rfl) ?_
  refine g_call [] rfl rfl rfl rfl rfl rfl (fun w' hm => Power_b w' a ha 32 (By.full 5 rfl hm rfl (by omega))) (fun _ _ => ?_)
  refine g_storeL 2 (s := 4) (C := el (a ^ numB invB % 57896044618658097711785492504343953926634992332820282019728792003956564819949)) rfl rfl rfl rfl rfl rfl rfl rfl (oneCell_el _) ?_
  refine g_nil ?_
  exact g_retL 2 (L := el (a ^ numB invB % 57896044618658097711785492504343953926634992332820282019728792003956564819949)) rfl rfl rfl rfl (fun w' hm => ⟨(), trivial, rfl, hm.grows [] trivial rfl⟩)

/-! ## Fractions -/
def rt (a b : Nat) : List Value := el a ++ el b
theorem rt_length (a b : Nat) : (rt a b).length = 8 := rfl
theorem oneCell_rt (a b : Nat) : ∀ u ∈ rt a b, u.oneCell' = true := fun u hu => (List.mem_append.1 hu).elim (oneCell_el a u) (oneCell_el b u)
theorem rt_fst (a b : Nat) : (rt a b).toArray.extract (0 + 0) (0 + 0 + 4) = (el a).toArray := by
  apply Array.ext'
  simp only [Array.toList_extract, List.extract_eq_take_drop]
  rfl
theorem rt_snd (a b : Nat) : (rt a b).toArray.extract (0 + 4) (0 + 4 + 4) = (el b).toArray := by
  apply Array.ext'
  simp only [Array.toList_extract, List.extract_eq_take_drop]
  rfl
theorem prod2 (a b : Nat) : prodN [a, b] = a * b := by simp [prodN]

theorem Value_b (w : World) (a b : Nat) (ha : a < 115792089237316195423570985008687907853269984665640564039457584007913129639936) (hb : b < 115792089237316195423570985008687907853269984665640564039457584007913129639936) : Spec Try.prog 137 #[.agg (rt a b).toArray] w (σ := Unit) (fun _ => True) (fun _ => .agg (el (a * invN b % 57896044618658097711785492504343953926634992332820282019728792003956564819949)).toArray) Nob (fun _ => []) := by
  refine enter Try.func137 rfl rfl (Mem.start w) ?_
  have hlt : ∀ n ∈ [a, invN b], n < 115792089237316195423570985008687907853269984665640564039457584007913129639936 := fun n hn => by
    simp only [List.mem_cons, List.not_mem_nil, or_false] at hn
    rcases hn with rfl | rfl
    · exact ha
    · exact invN_lt b
  have hp := prod2 a (invN b)
  rw [← hp]
  (repeat refine g_seq ?_)
  refine g_region ?_
  refine g_lo [1] rfl rfl rfl rfl (lo_box rfl rfl) (fun b1 hb1 => ?_)
  refine g_lo [2] rfl rfl rfl rfl (lo_alloc rfl) (fun b2 hb2 => ?_)
  refine g_nil ?_
  (repeat refine g_seq ?_)
  refine g_any (5, []) ?_
  refine a_pu 0 rfl rfl rfl rfl (pu_fieldAddr (by decide) rfl rfl) rfl rfl (by kernel_rfl) ?_
  refine a_pu 1 rfl rfl rfl rfl (pu_loadE 1 (el a).toArray rfl rfl rfl (show 0 + 0 + 4 ≤ (rt a b).toArray.size from (by decide : 4 ≤ 8)) (rt_fst a b)) rfl rfl (by kernel_rfl) ?_
  refine a_pu 2 rfl rfl rfl rfl (pu_fieldAddr (by decide) rfl rfl) rfl rfl (by kernel_rfl) ?_
  refine a_pu 3 rfl rfl rfl rfl (pu_loadE 1 (el b).toArray rfl rfl rfl (show 0 + 4 + 4 ≤ (rt a b).toArray.size from (by decide : 8 ≤ 8)) (rt_snd a b)) rfl rfl (by kernel_rfl) ?_
  refine a_do 4 7 [] (does_call rfl rfl rfl rfl rfl (fun w' hm => Inv_b w' b hb)) rfl rfl (by kernel_rfl) rfl rfl (by kernel_rfl) (by kernel_rfl) (by kernel_rfl) rfl (fun p hp => by cases hp) ?_; rintro v_ cs_ ⟨_, _, rfl, rfl⟩
  refine a_tail [5, 6, 7] (by kernel_rfl) rfl rfl (by kernel_rfl) ?_
  refine g_lo [8] rfl rfl rfl rfl (lo_buildSlice rfl rfl (by decide) (by decide) rfl rfl) (fun q8 hb8 => ?_)
  refine g_call [] rfl rfl rfl rfl rfl rfl (fun w' hm => Product_b w' 2 (ns := [a, invN b]) (hm.rowA 8 (L := elsC [a, invN b]) rfl) rfl hlt (by omega)) (fun _ _ => ?_)
  refine g_storeL 2 (s := 4) (C := el (prodN [a, invN b] % 57896044618658097711785492504343953926634992332820282019728792003956564819949)) rfl rfl rfl rfl rfl rfl rfl rfl (oneCell_el _) ?_
  refine g_nil ?_
  exact g_retL 2 (L := el (prodN [a, invN b] % 57896044618658097711785492504343953926634992332820282019728792003956564819949)) rfl rfl rfl rfl (fun w' hm => ⟨(), trivial, rfl, hm.grows [] trivial rfl⟩)



theorem inv2 : invN 2 = 28948022309329048855892746252171976963317496166410141009864396001978282409975 := by
  rw [inv_pm]
  have h : (pm 57896044618658097711785492504343953926634992332820282019728792003956564819949 255 2 pe == 28948022309329048855892746252171976963317496166410141009864396001978282409975) = true := by kernel_rfl
  exact eq_of_beq h

theorem inv2m : 2 * invN 2 % 57896044618658097711785492504343953926634992332820282019728792003956564819949 = 1 := by rw [inv2]

end Go.Sx

/-
  FieldForms: every element stands for its number modulo p, whatever its limbs are. Each element has four limbs.
-/
namespace Go.Sx
open Go Go.Proofs

theorem el_word (n : BitVec 64) : el n.toNat = qs [n, 0#64, 0#64, 0#64] := by
  rw [el_of rfl]
  simp [numL]
theorem modp (a : Nat) : a % 57896044618658097711785492504343953926634992332820282019728792003956564819949 < 115792089237316195423570985008687907853269984665640564039457584007913129639936 := by omega
theorem Is_t (w : World) (a b : Nat) (ha : a < 115792089237316195423570985008687907853269984665640564039457584007913129639936) (hb : b < 115792089237316195423570985008687907853269984665640564039457584007913129639936) (h : a % 57896044618658097711785492504343953926634992332820282019728792003956564819949 = b % 57896044618658097711785492504343953926634992332820282019728792003956564819949) : Spec Try.prog 138 #[.agg (el a).toArray, .agg (el b).toArray] w (σ := Unit) (fun _ => True) (fun _ => .bool true) Nob (fun _ => []) := by
  have h2 := Is_b w a b ha hb
  rwa [decide_eq_true h] at h2
theorem Is_f (w : World) (a b : Nat) (ha : a < 115792089237316195423570985008687907853269984665640564039457584007913129639936) (hb : b < 115792089237316195423570985008687907853269984665640564039457584007913129639936) (h : ¬ a % 57896044618658097711785492504343953926634992332820282019728792003956564819949 = b % 57896044618658097711785492504343953926634992332820282019728792003956564819949) : Spec Try.prog 138 #[.agg (el a).toArray, .agg (el b).toArray] w (σ := Unit) (fun _ => True) (fun _ => .bool false) Nob (fun _ => []) := by
  have h2 := Is_b w a b ha hb
  rwa [decide_eq_false h] at h2
theorem Bytes_n (w : World) (a : Nat) (ha : a < 57896044618658097711785492504343953926634992332820282019728792003956564819949) : Spec Try.prog 63 #[.agg (el a).toArray] w (σ := Unit) (fun _ => True) (fun _ => .agg (bs (leB 32 a)).toArray) Nob (fun _ => []) := by
  have h := Bytes_b w a (by omega)
  rwa [Nat.mod_eq_of_lt ha] at h
theorem odd_digit (a : Nat) : (BitVec.ofNat 32 a % 2#32 = 1#32) ↔ a % 2 = 1 := by
  have e1 : (BitVec.ofNat 32 a % 2#32).toNat = a % 2 := by
    rw [BitVec.toNat_umod, BitVec.toNat_ofNat, show (2#32).toNat = 2 from rfl]; omega
  constructor
  · intro h; rw [← e1, h]; rfl
  · intro h; apply BitVec.eq_of_toNat_eq; rw [e1, h]; rfl

end Go.Sx

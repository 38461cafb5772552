/-
  CurveBits: the bits of a scalar that are fixed, and a point's highest bit, count for nothing. The bytes fit memory.
-/
import Derived.Test.YtjmihjcahjpkmaaK5
import Derived.Test.YtjmihjcahjpkmaaC2
import Derived.Test.YtjmihjcahjpkmaaC7
set_option linter.unusedVariables false
set_option linter.unusedSimpArgs false
namespace Go.Sx
open Go Go.Proofs

theorem low_turn (x t : BitVec 8) : lowB (x ^^^ (t &&& 7#8)) = lowB x := by
  unfold lowB
  apply BitVec.eq_of_getLsbD_eq
  intro i hi
  have : i = 0 ∨ i = 1 ∨ i = 2 ∨ i = 3 ∨ i = 4 ∨ i = 5 ∨ i = 6 ∨ i = 7 := by omega
  rcases this with rfl | rfl | rfl | rfl | rfl | rfl | rfl | rfl <;> simp
theorem high_turn (x t : BitVec 8) : highB (x ^^^ (t &&& 192#8)) = highB x := by
  unfold highB
  apply BitVec.eq_of_getLsbD_eq
  intro i hi
  have : i = 0 ∨ i = 1 ∨ i = 2 ∨ i = 3 ∨ i = 4 ∨ i = 5 ∨ i = 6 ∨ i = 7 := by omega
  rcases this with rfl | rfl | rfl | rfl | rfl | rfl | rfl | rfl <;> simp
theorem low_low (x : BitVec 8) : lowB (lowB x) = lowB x := by
  unfold lowB
  rw [BitVec.and_assoc]
  rfl
theorem high_high (x : BitVec 8) : highB (highB x) = highB x := by
  unfold highB
  apply BitVec.eq_of_getLsbD_eq
  intro i hi
  have : i = 0 ∨ i = 1 ∨ i = 2 ∨ i = 3 ∨ i = 4 ∨ i = 5 ∨ i = 6 ∨ i = 7 := by omega
  rcases this with rfl | rfl | rfl | rfl | rfl | rfl | rfl | rfl <;> simp
theorem top_turn (x t : BitVec 8) : (x ^^^ t <<< 7).toNat % 128 = x.toNat % 128 := by
  have h : (x ^^^ t <<< 7) &&& 127#8 = x &&& 127#8 := by
    apply BitVec.eq_of_getLsbD_eq
    intro i hi
    have : i = 0 ∨ i = 1 ∨ i = 2 ∨ i = 3 ∨ i = 4 ∨ i = 5 ∨ i = 6 ∨ i = 7 := by omega
    rcases this with rfl | rfl | rfl | rfl | rfl | rfl | rfl | rfl <;> simp
  have e : ∀ y : BitVec 8, (y &&& 127#8).toNat = y.toNat % 128 := fun y => by
    rw [BitVec.toNat_and, show (127#8).toNat = 2 ^ 7 - 1 from rfl, Nat.and_two_pow_sub_one_eq_mod]
  rw [← e, ← e, h]
theorem getD_set_eq {l : List (BitVec 8)} {i : Nat} (x : BitVec 8) (h : i < l.length) : (l.set i x).getD i 0#8 = x := by
  rw [List.getD_eq_getElem?_getD, List.getElem?_set_self h]; rfl
theorem getD_set_nq {l : List (BitVec 8)} {i j : Nat} (x : BitVec 8) (h : j ≠ i) : (l.set j x).getD i 0#8 = l.getD i 0#8 := by
  rw [List.getD_eq_getElem?_getD, List.getElem?_set_ne h, ← List.getD_eq_getElem?_getD]
/-- The scalar with some of its fixed bits turned. -/
def tnK (k : List (BitVec 8)) (t : BitVec 8) : List (BitVec 8) := (k.set 0 (k.getD 0 0#8 ^^^ (t &&& 7#8))).set 31 (k.getD 31 0#8 ^^^ (t &&& 192#8))
def tnU (u : List (BitVec 8)) (t : BitVec 8) : List (BitVec 8) := u.set 31 (u.getD 31 0#8 ^^^ t <<< 7)
theorem tnK_length (k : List (BitVec 8)) (t : BitVec 8) : (tnK k t).length = k.length := by simp [tnK]
theorem tnU_length (k : List (BitVec 8)) (t : BitVec 8) : (tnU k t).length = k.length := by simp [tnU]
theorem clamp_set {k : List (BitVec 8)} (h : k.length = 32) (a b : BitVec 8) (ha : lowB a = lowB (k.getD 0 0#8)) (hb : highB b = highB (k.getD 31 0#8)) : clampL ((k.set 0 a).set 31 b) = clampL k := by
  unfold clampL
  rw [getD_set_nq b (by decide), getD_set_eq a (by omega), getD_set_eq b (by rw [List.length_set]; omega), ha, hb]
  rw [List.set_comm b (lowB (k.getD 0 0#8)) (by decide), List.set_set, List.set_set]
theorem clamp_tn {k : List (BitVec 8)} (h : k.length = 32) (t : BitVec 8) : clampL (tnK k t) = clampL k := clamp_set h _ _ (low_turn _ _) (high_turn _ _)
theorem clamp_clamp {k : List (BitVec 8)} (h : k.length = 32) : clampL (clampL k) = clampL k := clamp_set h _ _ (low_low _) (high_high _)
theorem numB_31 {u : List (BitVec 8)} (h : u.length = 32) : numB u = numB (u.take 31) + 256 ^ 31 * (u.getD 31 0#8).toNat := by
  have h1 := numB_take (getDb (l := u) (i := 31) (by omega))
  rwa [List.take_of_length_le (by omega)] at h1
theorem read_tn {u : List (BitVec 8)} (h : u.length = 32) (t : BitVec 8) : readN (tnU u t) = readN u := by
  have h1 := numB_31 h
  have h2 := numB_31 (u := tnU u t) (by rw [tnU_length, h])
  have h3 : (tnU u t).take 31 = u.take 31 := by
    unfold tnU
    rw [List.take_set_of_le (Nat.le_refl _)]
  have h4 : (tnU u t).getD 31 0#8 = u.getD 31 0#8 ^^^ t <<< 7 := getD_set_eq _ (by omega)
  rw [h3, h4] at h2
  have h5 := top_turn (u.getD 31 0#8) t
  unfold readN
  rw [tnU_length, if_pos h, if_pos h, h1, h2]
  congr 1
  generalize (u.getD 31 0#8 ^^^ t <<< 7).toNat = a at h5
  generalize (u.getD 31 0#8).toNat = b at h5
  omega
theorem mul_tn {k u : List (BitVec 8)} (hk : k.length = 32) (hu : u.length = 32) (t : BitVec 8) : xmN (tnK k t) (tnU u t) = xmN k u := by
  unfold xmN
  rw [tnK_length, tnU_length, clamp_tn hk, read_tn hu]
theorem mul_cl {k u : List (BitVec 8)} (hk : k.length = 32) (hu : u.length = 32) (t : BitVec 8) : xmN (clampL (tnK k t)) u = xmN k u := by
  unfold xmN
  rw [clampL_length, tnK_length, clamp_tn hk, clamp_clamp hk]
theorem xmE_of {k u k' u' : List (BitVec 8)} (hk : k.length = 32) (hu : u.length = 32) (hk' : k'.length = 32) (hu' : u'.length = 32) (h : xmN k' u' = xmN k u) : xmE k' u' = xmE k u := by
  have e1 : xmE k u = if xmN k u = 0 then 5 else 0 := if_pos ⟨hk, hu⟩
  have e2 : xmE k' u' = if xmN k' u' = 0 then 5 else 0 := if_pos ⟨hk', hu'⟩
  rw [e1, e2, h]

theorem CurveBits_spec (w : World) {p q : Option Addr} {n m : Nat} (c d : Nat) {k u : List (BitVec 8)} (t : BitVec 8) (hk : By w p n k) (hu : By w q m u) : Spec Try.prog 4 #[.slice p n c, .slice q m d, b8 t] w (σ := Unit) (fun _ => True) (fun _ => .bool true) Nob (fun _ => []) := by
  refine enter Try.func4 rfl rfl (Mem.start w) ?_
  have hkl := hk.len
  have hul := hu.len
  have hkb := hk.big
  have hub := hu.big
  have hxl := xmV_length k u
  have hbl : (bs (xmV k u)).length = 32 := by rw [bs_length, hxl]
  (repeat refine g_seq ?_)
  refine g_region ?_
  refine g_pu rfl rfl rfl (pu_assign rfl rfl) ?_
  refine g_nil ?_
  (repeat refine g_seq ?_)
  refine g_region ?_
  refine g_call [] rfl rfl rfl rfl rfl rfl (fun w' hm => awake06_b w') (fun _ _ => ?_)
  refine g_pu rfl rfl rfl (pu_not rfl rfl) ?_
  refine g_nil ?_
  (repeat refine g_seq ?_)
  refine g_cond_f rfl (g_skip ?_)
  by_cases hn : n = 32
  · by_cases hm32 : m = 32
    · subst hn hm32
      have hLl := (tnK_length k t).trans hkl
      have hVl := (tnU_length u t).trans hul
      have hCl := (clampL_length (tnK k t)).trans hLl
      have hcV : clampV (tnK k t) = clampL (tnK k t) := if_pos hLl
      have hcE : clampE (tnK k t) = 0 := if_pos hLl
      have h1 : xmV (tnK k t) (tnU u t) = xmV k u := by rw [xmV, mul_tn hkl hul]; rfl
      have h2 : xmE (tnK k t) (tnU u t) = xmE k u := xmE_of hkl hul hLl hVl (mul_tn hkl hul t)
      have h3 : xmV (clampL (tnK k t)) u = xmV k u := by rw [xmV, mul_cl hkl hul]; rfl
      have h4 : xmE (clampL (tnK k t)) u = xmE k u := xmE_of hkl hul hCl hul (mul_cl hkl hul t)
      have hCb : (bs (clampL (tnK k t))).length = 32 := by rw [bs_length, hCl]
      have hg0 := getDb (l := k) (i := 0) (by omega)
      have hg1 := getDb (l := k) (i := 31) (by omega)
      have hg2 := getDb (l := u) (i := 31) (by omega)
      have hg3 : (k.set 0 (k.getD 0 0#8 ^^^ (t &&& 7#8)))[31]? = some (k.getD 31 0#8) := by rw [List.getElem?_set_ne (by decide)]; exact hg1
      (repeat refine g_seq ?_)
      refine g_region ?_
      refine g_pu rfl rfl rfl (pu_move rfl rfl) ?_
      first | refine g_pu rfl rfl rfl (pu_len rfl rfl) ?_ | refine g_pu rfl rfl rfl (pu_lenS rfl rfl) ?_
      first | refine g_pu rfl rfl rfl (pu_neq_t rfl rfl rfl (by omega)) ?_ | refine g_pu rfl rfl rfl (pu_neq_f rfl rfl rfl (by omega)) ?_ | refine g_pu rfl rfl rfl (pu_neq rfl rfl rfl) ?_
      refine g_pu rfl rfl rfl (pu_move rfl rfl) ?_
      first | refine g_pass rfl rfl rfl ?_ | refine g_pu rfl rfl rfl (pu_move rfl rfl) ?_
      first | refine g_pass rfl rfl rfl ?_ | refine g_pu rfl rfl rfl (pu_len rfl rfl) ?_ | refine g_pu rfl rfl rfl (pu_lenS rfl rfl) ?_
      first | refine g_pass rfl rfl rfl ?_ | refine g_pu rfl rfl rfl (pu_neq_t rfl rfl rfl (by omega)) ?_ | refine g_pu rfl rfl rfl (pu_neq_f rfl rfl rfl (by omega)) ?_ | refine g_pu rfl rfl rfl (pu_neq rfl rfl rfl) ?_
      first | refine g_pu rfl rfl rfl (pu_pick_t rfl rfl rfl) ?_ | refine g_pu rfl rfl rfl (pu_pick_f rfl rfl rfl) ?_
      refine g_nil ?_
      (repeat refine g_seq ?_)
      refine g_cond_f rfl (g_skip ?_)
      (repeat refine g_seq ?_)
      refine g_region ?_
      refine g_pu rfl rfl rfl (pu_move rfl rfl) ?_
      refine g_call [29] rfl rfl rfl rfl rfl rfl (fun w' hm => Copy_b w' c (hk.m hm)) (fun x29 _ => ?_)
      refine g_pu rfl rfl rfl (pu_move rfl rfl) ?_
      refine g_call [31] rfl rfl rfl rfl rfl rfl (fun w' hm => Copy_b w' d (hu.m hm)) (fun x31 _ => ?_)
      refine g_call [] rfl rfl rfl rfl rfl rfl (fun w' hm => Mult_b w' x29.c x31.c (By.ow 29 rfl hm hkl hkb) (By.ow 31 rfl hm hul hub)) (fun _ _ => ?_)
      refine g_pu rfl rfl rfl (pu_move rfl rfl) ?_
      refine g_pu rfl rfl rfl (pu_extract rfl rfl rfl) ?_
      refine g_pu rfl rfl rfl (pu_extract rfl rfl rfl) ?_
      refine g_lo [7] rfl rfl rfl rfl (lo_alloc rfl) (fun b7 hb7 => ?_)
      refine g_storeL 7 (s := 32) (C := bs (xmV k u)) rfl rfl rfl rfl rfl rfl hbl rfl (oneCell_bs _) ?_
      refine g_pu rfl rfl rfl (pu_assign rfl rfl) ?_
      refine g_nil ?_
      (repeat refine g_seq ?_)
      refine g_region ?_
      refine g_pu rfl rfl rfl (pu_move rfl rfl) ?_
      refine g_call [36] rfl rfl rfl rfl rfl rfl (fun w' hm => Copy_b w' c (hk.m hm)) (fun x36 _ => ?_)
      refine g_pu rfl rfl rfl (pu_move rfl rfl) ?_
      refine g_call [38] rfl rfl rfl rfl rfl rfl (fun w' hm => Copy_b w' d (hu.m hm)) (fun x38 _ => ?_)
      refine g_pu rfl rfl rfl (pu_assign rfl rfl) ?_
      refine g_pu rfl rfl rfl (pu_assign rfl rfl) ?_
      refine g_nil ?_
      refine g_row 36 rfl (by rw [bs_length]; omega) (fun bb J hp hJ hcap => ?_)
      obtain ⟨xp, xc⟩ := x36
      simp only at hp hJ hcap
      subst hp
      refine g_row 38 rfl (by rw [bs_length]; omega) (fun bc J' hp' hJ' hcap' => ?_)
      obtain ⟨yp, yc⟩ := x38
      simp only at hp' hJ' hcap'
      subst hp'
      (repeat refine g_seq ?_)
      refine g_region ?_
      refine g_pu rfl rfl rfl (pu_move rfl rfl) ?_
      refine g_pu rfl rfl rfl (pu_at1 0 rfl rfl rfl rfl (by omega)) ?_
      refine g_pu rfl rfl rfl (pu_load 36 (v := b8 (k.getD 0 0#8)) rfl rfl rfl (bs_load hg0)) ?_
      refine g_pu rfl rfl rfl (pu_move rfl rfl) ?_
      refine g_pu rfl rfl rfl (pu_and8 (b := 7#8) rfl rfl rfl) ?_
      refine g_pu rfl rfl rfl (pu_xor8 rfl rfl rfl) ?_
      refine g_pu rfl rfl rfl (pu_at1 0 rfl rfl rfl rfl (by omega)) ?_
      refine g_store 36 (v := b8 (k.getD 0 0#8 ^^^ (t &&& 7#8))) rfl rfl rfl rfl rfl rfl rfl (by rw [List.length_append, bs_length]; omega) ?_
      rw [Nat.zero_add, bs_set k J 0 _ (by omega)]
      refine g_nil ?_
      (repeat refine g_seq ?_)
      refine g_region ?_
      refine g_pu rfl rfl rfl (pu_move rfl rfl) ?_
      refine g_pu rfl rfl rfl (pu_at1 31 rfl rfl rfl rfl (by omega)) ?_
      refine g_pu rfl rfl rfl (pu_load 36 (v := b8 (k.getD 31 0#8)) rfl rfl rfl (bs_load hg3)) ?_
      refine g_pu rfl rfl rfl (pu_move rfl rfl) ?_
      refine g_pu rfl rfl rfl (pu_and8 (b := 192#8) rfl rfl rfl) ?_
      refine g_pu rfl rfl rfl (pu_xor8 rfl rfl rfl) ?_
      refine g_pu rfl rfl rfl (pu_at1 31 rfl rfl rfl rfl (by omega)) ?_
      refine g_store 36 (v := b8 (k.getD 31 0#8 ^^^ (t &&& 192#8))) rfl rfl rfl rfl rfl rfl rfl (by rw [List.length_append, bs_length, List.length_set]; omega) ?_
      rw [Nat.zero_add, bs_set _ J 31 _ (by rw [List.length_set]; omega), show (k.set 0 (k.getD 0 0#8 ^^^ (t &&& 7#8))).set 31 (k.getD 31 0#8 ^^^ (t &&& 192#8)) = tnK k t from rfl]
      refine g_nil ?_
      (repeat refine g_seq ?_)
      refine g_region ?_
      refine g_pu rfl rfl rfl (pu_move rfl rfl) ?_
      refine g_pu rfl rfl rfl (pu_at1 31 rfl rfl rfl rfl (by omega)) ?_
      refine g_pu rfl rfl rfl (pu_load 38 (v := b8 (u.getD 31 0#8)) rfl rfl rfl (bs_load hg2)) ?_
      refine g_pu rfl rfl rfl (pu_move rfl rfl) ?_
      refine g_pu rfl rfl rfl (pu_shl8 rfl rfl rfl (by omega)) ?_
      refine g_pu rfl rfl rfl (pu_xor8 rfl rfl rfl) ?_
      refine g_pu rfl rfl rfl (pu_at1 31 rfl rfl rfl rfl (by omega)) ?_
      refine g_store 38 (v := b8 (u.getD 31 0#8 ^^^ t <<< 7)) rfl rfl rfl rfl rfl rfl rfl (by rw [List.length_append, bs_length]; omega) ?_
      rw [Nat.zero_add, bs_set u J' 31 _ (by omega), show u.set 31 (u.getD 31 0#8 ^^^ t <<< 7) = tnU u t from rfl]
      refine g_nil ?_
      (repeat refine g_seq ?_)
      refine g_region ?_
      refine g_pu rfl rfl rfl (pu_move rfl rfl) ?_
      refine g_pu rfl rfl rfl (pu_move rfl rfl) ?_
      refine g_call [] rfl rfl rfl rfl rfl rfl (fun w' hm => Mult_b w' xc yc (k := tnK k t) (u := tnU u t) (By.row 36 rfl hm hLl hkb) (By.row 38 rfl hm hVl hub)) (fun _ _ => ?_)
      rw [h1, h2]
      refine g_pu rfl rfl rfl (pu_move rfl rfl) ?_
      refine g_pu rfl rfl rfl (pu_extract rfl rfl rfl) ?_
      refine g_pu rfl rfl rfl (pu_extract rfl rfl rfl) ?_
      refine g_lo [11] rfl rfl rfl rfl (lo_alloc rfl) (fun b11 hb11 => ?_)
      refine g_storeL 11 (s := 32) (C := bs (xmV k u)) rfl rfl rfl rfl rfl rfl hbl rfl (oneCell_bs _) ?_
      refine g_pu rfl rfl rfl (pu_assign rfl rfl) ?_
      refine g_nil ?_
      (repeat refine g_seq ?_)
      refine g_region ?_
      refine g_pu rfl rfl rfl (pu_move rfl rfl) ?_
      refine g_call [] rfl rfl rfl rfl rfl rfl (fun w' hm => Clamp_b w' xc (l := tnK k t) (By.row 36 rfl hm hLl hkb)) (fun _ _ => ?_)
      rw [hcV, hcE]
      refine g_pu rfl rfl rfl (pu_move rfl rfl) ?_
      refine g_pu rfl rfl rfl (pu_extract rfl rfl rfl) ?_
      refine g_pu rfl rfl rfl (pu_extract rfl rfl rfl) ?_
      refine g_lo [13] rfl rfl rfl rfl (lo_alloc rfl) (fun b13 hb13 => ?_)
      refine g_storeL 13 (s := 32) (C := bs (clampL (tnK k t))) rfl rfl rfl rfl rfl rfl hCb rfl (oneCell_bs _) ?_
      refine g_pu rfl rfl rfl (pu_assign rfl rfl) ?_
      refine g_nil ?_
      (repeat refine g_seq ?_)
      refine g_region ?_
      refine g_pu rfl rfl rfl (pu_sliceA rfl rfl) ?_
      refine g_pu rfl rfl rfl (pu_move rfl rfl) ?_
      refine g_call [] rfl rfl rfl rfl rfl rfl (fun w' hm => Mult_b w' 32 d (k := clampL (tnK k t)) (By.full 13 rfl hm hCl hkb) (hu.m hm)) (fun _ _ => ?_)
      rw [h3, h4]
      refine g_pu rfl rfl rfl (pu_move rfl rfl) ?_
      refine g_pu rfl rfl rfl (pu_extract rfl rfl rfl) ?_
      refine g_pu rfl rfl rfl (pu_extract rfl rfl rfl) ?_
      refine g_lo [15] rfl rfl rfl rfl (lo_alloc rfl) (fun b15 hb15 => ?_)
      refine g_storeL 15 (s := 32) (C := bs (xmV k u)) rfl rfl rfl rfl rfl rfl hbl rfl (oneCell_bs _) ?_
      refine g_pu rfl rfl rfl (pu_assign rfl rfl) ?_
      refine g_nil ?_
      (repeat refine g_seq ?_)
      refine g_region ?_
      refine g_pu rfl rfl rfl (pu_loadW 7 (L := bs (xmV k u)) rfl rfl rfl hbl) ?_
      refine g_pu rfl rfl rfl (pu_loadW 11 (L := bs (xmV k u)) rfl rfl rfl hbl) ?_
      refine g_pu rfl rfl rfl (pu_eqlA_t (a := bs (xmV k u)) (b := bs (xmV k u)) rfl rfl rfl rfl (all_bs _) hbl) ?_
      refine g_pu rfl rfl rfl (pu_move rfl rfl) ?_
      first | refine g_pass rfl rfl rfl ?_ | refine g_pu rfl rfl rfl (pu_move rfl rfl) ?_
      first | refine g_pass rfl rfl rfl ?_ | refine g_pu rfl rfl rfl (pu_move rfl rfl) ?_
      refine g_pu rfl rfl rfl (pu_eql_t rfl rfl rfl rfl) ?_
      first | refine g_pu rfl rfl rfl (pu_pick_t rfl rfl rfl) ?_ | refine g_pu rfl rfl rfl (pu_pick_f rfl rfl rfl) ?_
      refine g_pu rfl rfl rfl (pu_move rfl rfl) ?_
      first | refine g_pass rfl rfl rfl ?_ | refine g_pu rfl rfl rfl (pu_move rfl rfl) ?_
      first | refine g_pass rfl rfl rfl ?_ | refine g_pu rfl rfl rfl (pu_eql_t rfl rfl rfl (by omega)) ?_ | refine g_pu rfl rfl rfl (pu_eql_f rfl rfl rfl (by omega)) ?_ | refine g_pu rfl rfl rfl (pu_eql rfl rfl rfl) ?_
      first | refine g_pu rfl rfl rfl (pu_pick_t rfl rfl rfl) ?_ | refine g_pu rfl rfl rfl (pu_pick_f rfl rfl rfl) ?_
      refine g_pu rfl rfl rfl (pu_move rfl rfl) ?_
      refine g_pu rfl rfl rfl (pu_loadW 15 (L := bs (xmV k u)) rfl rfl rfl hbl) ?_
      refine g_pu rfl rfl rfl (pu_loadW 7 (L := bs (xmV k u)) rfl rfl rfl hbl) ?_
      refine g_pu rfl rfl rfl (pu_eqlA_t (a := bs (xmV k u)) (b := bs (xmV k u)) rfl rfl rfl rfl (all_bs _) hbl) ?_
      first | refine g_pu rfl rfl rfl (pu_pick_t rfl rfl rfl) ?_ | refine g_pu rfl rfl rfl (pu_pick_f rfl rfl rfl) ?_
      refine g_pu rfl rfl rfl (pu_move rfl rfl) ?_
      first | refine g_pass rfl rfl rfl ?_ | refine g_pu rfl rfl rfl (pu_move rfl rfl) ?_
      first | refine g_pass rfl rfl rfl ?_ | refine g_pu rfl rfl rfl (pu_move rfl rfl) ?_
      refine g_pu rfl rfl rfl (pu_eql_t rfl rfl rfl rfl) ?_
      first | refine g_pu rfl rfl rfl (pu_pick_t rfl rfl rfl) ?_ | refine g_pu rfl rfl rfl (pu_pick_f rfl rfl rfl) ?_
      refine g_pu rfl rfl rfl (pu_assign rfl rfl) ?_
      refine g_nil ?_
      exact g_ret1 rfl rfl (fun w' hm => ⟨(), trivial, rfl, hm.grows [] trivial rfl⟩)
    · (repeat refine g_seq ?_)
      refine g_region ?_
      refine g_pu rfl rfl rfl (pu_move rfl rfl) ?_
      first | refine g_pu rfl rfl rfl (pu_len rfl rfl) ?_ | refine g_pu rfl rfl rfl (pu_lenS rfl rfl) ?_
      first | refine g_pu rfl rfl rfl (pu_neq_t rfl rfl rfl (by omega)) ?_ | refine g_pu rfl rfl rfl (pu_neq_f rfl rfl rfl (by omega)) ?_ | refine g_pu rfl rfl rfl (pu_neq rfl rfl rfl) ?_
      refine g_pu rfl rfl rfl (pu_move rfl rfl) ?_
      first | refine g_pass rfl rfl rfl ?_ | refine g_pu rfl rfl rfl (pu_move rfl rfl) ?_
      first | refine g_pass rfl rfl rfl ?_ | refine g_pu rfl rfl rfl (pu_len rfl rfl) ?_ | refine g_pu rfl rfl rfl (pu_lenS rfl rfl) ?_
      first | refine g_pass rfl rfl rfl ?_ | refine g_pu rfl rfl rfl (pu_neq_t rfl rfl rfl (by omega)) ?_ | refine g_pu rfl rfl rfl (pu_neq_f rfl rfl rfl (by omega)) ?_ | refine g_pu rfl rfl rfl (pu_neq rfl rfl rfl) ?_
      first | refine g_pu rfl rfl rfl (pu_pick_t rfl rfl rfl) ?_ | refine g_pu rfl rfl rfl (pu_pick_f rfl rfl rfl) ?_
      refine g_nil ?_
      (repeat refine g_seq ?_)
      refine g_cond_t rfl ?_
      (repeat refine g_seq ?_)
      refine g_region ?_
      refine g_pu rfl rfl rfl (pu_assign rfl rfl) ?_
      refine g_nil ?_
      exact g_ret1 rfl rfl (fun w' hm => ⟨(), trivial, rfl, hm.grows [] trivial rfl⟩)
  · (repeat refine g_seq ?_)
    refine g_region ?_
    refine g_pu rfl rfl rfl (pu_move rfl rfl) ?_
    first | refine g_pu rfl rfl rfl (pu_len rfl rfl) ?_ | refine g_pu rfl rfl rfl (pu_lenS rfl rfl) ?_
    first | refine g_pu rfl rfl rfl (pu_neq_t rfl rfl rfl (by omega)) ?_ | refine g_pu rfl rfl rfl (pu_neq_f rfl rfl rfl (by omega)) ?_ | refine g_pu rfl rfl rfl (pu_neq rfl rfl rfl) ?_
    refine g_pu rfl rfl rfl (pu_move rfl rfl) ?_
    first | refine g_pass rfl rfl rfl ?_ | refine g_pu rfl rfl rfl (pu_move rfl rfl) ?_
    first | refine g_pass rfl rfl rfl ?_ | refine g_pu rfl rfl rfl (pu_len rfl rfl) ?_ | refine g_pu rfl rfl rfl (pu_lenS rfl rfl) ?_
    first | refine g_pass rfl rfl rfl ?_ | refine g_pu rfl rfl rfl (pu_neq_t rfl rfl rfl (by omega)) ?_ | refine g_pu rfl rfl rfl (pu_neq_f rfl rfl rfl (by omega)) ?_ | refine g_pu rfl rfl rfl (pu_neq rfl rfl rfl) ?_
    first | refine g_pu rfl rfl rfl (pu_pick_t rfl rfl rfl) ?_ | refine g_pu rfl rfl rfl (pu_pick_f rfl rfl rfl) ?_
    refine g_nil ?_
    (repeat refine g_seq ?_)
    refine g_cond_t rfl ?_
    (repeat refine g_seq ?_)
    refine g_region ?_
    refine g_pu rfl rfl rfl (pu_assign rfl rfl) ?_
    refine g_nil ?_
    exact g_ret1 rfl rfl (fun w' hm => ⟨(), trivial, rfl, hm.grows [] trivial rfl⟩)
end Go.Sx

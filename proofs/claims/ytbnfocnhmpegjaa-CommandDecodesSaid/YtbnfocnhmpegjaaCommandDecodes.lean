/-
  CommandDecodes: every 32 bytes are read as the one command that they are, or refused with the right error.
-/
import Derived.Test.YtbnfocnhmpegjaaCM6
set_option linter.unusedVariables false
set_option linter.unusedSimpArgs false
namespace Go.Sx
open Go Go.Proofs

def beN (r : List (BitVec 8)) : Nat := r.foldl (fun (n : Nat) (b : BitVec 8) => n * 256 + b.toNat) 0
theorem beN_snoc (r : List (BitVec 8)) (b : BitVec 8) : beN (r ++ [b]) = beN r * 256 + b.toNat := by simp [beN]
/-- The bytes of a number, by its places: k places are left away. -/
theorem beN_get : ∀ (k : Nat) (r : List (BitVec 8)) (y : BitVec 8), k < r.length → r[r.length - 1 - k]? = some y → beN r / 2 ^ (8 * k) % 256 = y.toNat
  | k, r, y, hk, h => by
    have hne : r ≠ [] := fun e => by rw [e] at hk; simp at hk
    have hs : r = r.dropLast ++ [r.getLast hne] := (List.dropLast_concat_getLast hne).symm
    generalize r.dropLast = s at hs
    generalize r.getLast hne = b at hs
    subst hs
    rw [beN_snoc]
    have hb := b.isLt
    have hl : (s ++ [b]).length = s.length + 1 := by simp
    rw [hl] at hk h
    cases k with
    | zero =>
      rw [show s.length + 1 - 1 - 0 = s.length by omega, List.getElem?_append_right (Nat.le_refl _), Nat.sub_self] at h
      cases h
      simp only [Nat.mul_zero, Nat.pow_zero, Nat.div_one]
      omega
    | succ k =>
      rw [show s.length + 1 - 1 - (k + 1) = s.length - 1 - k by omega, List.getElem?_append_left (by omega)] at h
      have ih := beN_get k s y (by omega) h
      rw [show 8 * (k + 1) = 8 + 8 * k by omega, Nat.pow_add, ← Nat.div_div_eq_div_mul, show (beN s * 256 + b.toNat) / 2 ^ 8 = beN s by omega]
      exact ih
theorem beN_lt : ∀ (r : List (BitVec 8)), beN r < 256 ^ r.length := by
  have h : ∀ (r : List (BitVec 8)) (n m : Nat), n < 256 ^ m → r.foldl (fun (n : Nat) (b : BitVec 8) => n * 256 + b.toNat) n < 256 ^ (m + r.length) := by
    intro r
    induction r with
    | nil => intro n m h; exact h
    | cons b r ih =>
      intro n m h
      have hb := b.isLt
      rw [List.foldl_cons, List.length_cons, show m + (r.length + 1) = (m + 1) + r.length by omega]
      refine ih _ _ ?_
      rw [Nat.pow_succ]
      omega
  intro r
  have := h r 0 0 (by simp)
  rwa [Nat.zero_add] at this
theorem beV_N : ∀ (r : List (BitVec 8)), r.length ≤ 8 → (beV r).toNat = beN r := by
  intro r hr
  rw [← be64_eq]
  have h : ∀ (r : List (BitVec 8)) (n : BitVec 64) (m : Nat), n.toNat < 256 ^ m → m + r.length ≤ 8 → (r.foldl (fun (n : BitVec 64) (b : BitVec 8) => n * 256#64 + b.setWidth 64) n).toNat = r.foldl (fun (n : Nat) (b : BitVec 8) => n * 256 + b.toNat) n.toNat := by
    intro r
    induction r with
    | nil => intro n m _ _; rfl
    | cons b r ih =>
      intro n m hn hm
      have hb := b.isLt
      rw [List.length_cons] at hm
      have h2 : 256 ^ m ≤ 256 ^ 7 := Nat.pow_le_pow_right (by omega) (by omega)
      have hs : (n * 256#64 + b.setWidth 64).toNat = n.toNat * 256 + b.toNat := by
        simp only [BitVec.toNat_add, BitVec.toNat_mul, BitVec.toNat_setWidth, BitVec.toNat_ofNat]
        have : (256 : Nat) ^ 7 = 72057594037927936 := by decide
        omega
      rw [List.foldl_cons, List.foldl_cons, ih _ (m + 1) (by rw [hs, Nat.pow_succ]; omega) (by omega), hs]
  exact h r 0#64 0 (by simp) (by omega)
theorem put_back4 {A : List (BitVec 8)} (h : A.length = 4) : putL 2 4 (((beV A).setWidth 32).setWidth 64) = A := by
  have hp := put4_len ((beV A).setWidth 32)
  have hN := beV_N A (by omega)
  have hlt := beN_lt A
  rw [h] at hlt
  apply List.ext_getElem?
  intro j
  by_cases hj : j < 4
  · rw [put4_get hj]
    obtain ⟨y, hy⟩ : ∃ y, A[j]? = some y := ⟨_, List.getElem?_eq_getElem (by omega)⟩
    rw [hy]
    congr 1
    apply BitVec.eq_of_toNat_eq
    have hg := beN_get (3 - j) A y (by omega) (by rw [h, show 4 - 1 - (3 - j) = j by omega]; exact hy)
    simp only [BitVec.toNat_setWidth, BitVec.toNat_ushiftRight, Nat.shiftRight_eq_div_pow, hN]
    rw [Nat.mod_eq_of_lt (show beN A < 2 ^ 32 from hlt)]
    exact hg
  · rw [List.getElem?_eq_none (by omega), List.getElem?_eq_none (by omega)]
theorem put_back8 {A : List (BitVec 8)} (h : A.length = 8) : putL 2 8 (beV A) = A := by
  have hp := put8_len (beV A)
  have hN := beV_N A (by omega)
  apply List.ext_getElem?
  intro j
  by_cases hj : j < 8
  · rw [put8_get hj]
    obtain ⟨y, hy⟩ : ∃ y, A[j]? = some y := ⟨_, List.getElem?_eq_getElem (by omega)⟩
    rw [hy]
    congr 1
    apply BitVec.eq_of_toNat_eq
    have hg := beN_get (7 - j) A y (by omega) (by rw [h, show 8 - 1 - (7 - j) = j by omega]; exact hy)
    simp only [BitVec.toNat_setWidth, BitVec.toNat_ushiftRight, Nat.shiftRight_eq_div_pow, hN]
    exact hg
  · rw [List.getElem?_eq_none (by omega), List.getElem?_eq_none (by omega)]
theorem flat_all (l : List (BitVec 8)) (h : l.length = 32) : (cutP l [2, 4, 8, 16, 2]).flatten = l := by
  have e := cut_cmd l
  rw [e]
  have s1 : l = win l 0 2 ++ l.drop 2 := by unfold win; rw [List.drop_zero, List.take_append_drop]
  have s2 : l.drop 2 = win l 2 4 ++ l.drop 6 := by unfold win; rw [show 6 = 2 + 4 from rfl, ← List.drop_drop, List.take_append_drop]
  have s3 : l.drop 6 = win l 6 8 ++ l.drop 14 := by unfold win; rw [show 14 = 6 + 8 from rfl, ← List.drop_drop, List.take_append_drop]
  have s4 : l.drop 14 = win l 14 16 ++ l.drop 30 := by unfold win; rw [show 30 = 14 + 16 from rfl, ← List.drop_drop, List.take_append_drop]
  have s5 : l.drop 30 = win l 30 2 := by unfold win; rw [List.take_of_length_le (by rw [List.length_drop]; omega)]
  conv => rhs; rw [s1, s2, s3, s4, s5]
  simp
theorem enc_dec {l : List (BitVec 8)} (he : decE l = 0) : decC l = decX l ∧ chkE (decX l) = 0 ∧ (decX l).m.length = 16 ∧ encL (decX l) = l := by
  have hC : decC l = decX l := by unfold decC; rw [if_pos he]
  have h32 : l.length = 32 := Classical.byContradiction fun h => by unfold decE at he; rw [if_pos h] at he; omega
  have h2 : ¬ (win l 30 2 ≠ [0#8, 0#8] ∧ chkE (decX l) ≠ 1) := fun h => by unfold decE at he; rw [if_neg (by omega), if_pos h] at he; omega
  have h0 : chkE (decX l) = 0 := by unfold decE at he; rw [if_neg (by omega), if_neg h2] at he; exact he
  have hz : win l 30 2 = [0#8, 0#8] := Classical.byContradiction fun h => h2 ⟨h, by omega⟩
  have w1 := win_length (l := l) (t := 2) (z := 4) (by omega)
  have w2 := win_length (l := l) (t := 6) (z := 8) (by omega)
  have w3 := win_length (l := l) (t := 14) (z := 16) (by omega)
  refine ⟨hC, h0, w3, ?_⟩
  have e1 : putL 2 4 ((decX l).d.setWidth 64) = win l 2 4 := by
    unfold decX
    dsimp only
    rw [show getV 2 (win l 2 4) 0 4 = beV (win l 2 4) from getV_be (z := 4) w1 (by omega) (by omega)]
    exact put_back4 w1
  have e2 : putL 2 8 (decX l).n = win l 6 8 := by
    unfold decX
    dsimp only
    rw [show getV 2 (win l 6 8) 0 8 = beV (win l 6 8) from getV_be (z := 8) w2 (by omega) (by omega)]
    exact put_back8 w2
  have e3 : [(decX l).k, (decX l).f] = win l 0 2 := by
    apply List.ext_getElem?
    intro i
    by_cases hi : i < 2
    · rw [win_get hi]
      rcases i with _ | _ | i
      · exact (getDs (by omega)).symm
      · exact (getDs (by omega)).symm
      · omega
    · rw [List.getElem?_eq_none (by simp; omega), List.getElem?_eq_none (by rw [win_length (by omega)]; omega)]
  have hfl : encL (decX l) = [(decX l).k, (decX l).f] ++ (putL 2 4 ((decX l).d.setWidth 64) ++ (putL 2 8 (decX l).n ++ ((decX l).m ++ [0#8, 0#8]))) := by simp [encL, encP]
  have hjoin := flat_all l h32
  rw [cut_cmd l] at hjoin
  rw [hfl, e1, e2, e3, ← hz, show (decX l).m = win l 14 16 from rfl]
  conv => rhs; rw [← hjoin]
  simp

theorem decC16 (l : List (BitVec 8)) : (decC l).m.length = 16 := by
  by_cases he : decE l = 0
  · obtain ⟨hC, _, h16, _⟩ := enc_dec he
    rw [hC]; exact h16
  · unfold decC; rw [if_neg he]; rfl

theorem CommandDecodes_spec (w : World) {p : Option Addr} {n : Nat} (c : Nat) {l : List (BitVec 8)} (ha : By w p n l) (hc : n ≤ c) : Spec Try.prog 6 #[.slice p n c] w (σ := Unit) (fun _ => True) (fun _ => .bool true) Nob (fun _ => []) := by
  refine enter Try.func6 rfl rfl (Mem.start w) ?_
  have hl := ha.len
  have hbg := ha.big
  have h16 := decC16 l
  have hcl := cmdC_length h16
  (repeat refine g_seq ?_)
  refine g_region ?_
  refine g_pu rfl rfl rfl (pu_assign rfl rfl) ?_
  refine g_nil ?_
  (repeat refine g_seq ?_)
  refine g_region ?_
  refine g_call [] rfl rfl rfl rfl rfl rfl (fun w' hm => awake10_b w') (fun _ _ => ?_)
  refine g_pu rfl rfl rfl (pu_not rfl rfl) ?_
  refine g_nil ?_
  (repeat refine g_seq ?_)
  refine g_cond_f rfl (g_skip ?_)
  (repeat refine g_seq ?_)
  refine g_region ?_
  refine g_pu rfl rfl rfl (pu_move rfl rfl) ?_
  refine g_call [12] rfl rfl rfl rfl rfl rfl (fun w' hm => Copy_b w' c (ha.m hm)) (fun x12 _ => ?_)
  refine g_know (φ := n ≤ x12.c) (fun w' hm => by have := Own.le (hm.holds 12 _ rfl); rwa [bs_length, hl] at this) (fun hxc => ?_)
  refine g_call [] rfl rfl rfl rfl rfl rfl (fun w' hm => Decode_b w' _ (l := l) (By.ow 12 rfl hm hl hbg) hxc) (fun _ _ => ?_)
  refine g_pu rfl rfl rfl (pu_move rfl rfl) ?_
  refine g_pu rfl rfl rfl (pu_extract rfl rfl rfl) ?_
  refine g_pu rfl rfl rfl (pu_extract rfl rfl rfl) ?_
  refine g_lo [3] rfl rfl rfl rfl (lo_alloc rfl) (fun b3 hb3 => ?_)
  refine g_storeL 3 (s := 20) (C := cmdC (decC l)) rfl rfl rfl rfl rfl rfl hcl rfl (oneCell_cmd _) ?_
  refine g_pu rfl rfl rfl (pu_assign rfl rfl) ?_
  refine g_nil ?_
  (repeat refine g_seq ?_)
  refine g_region ?_
  refine g_pu rfl rfl rfl (pu_move rfl rfl) ?_
  refine g_call [] rfl rfl rfl rfl rfl rfl (fun w' hm => RDecode_b w' c (ha.m hm) hc) (fun _ _ => ?_)
  refine g_pu rfl rfl rfl (pu_move rfl rfl) ?_
  refine g_pu rfl rfl rfl (pu_extract rfl rfl rfl) ?_
  refine g_pu rfl rfl rfl (pu_extract rfl rfl rfl) ?_
  refine g_lo [5] rfl rfl rfl rfl (lo_alloc rfl) (fun b5 hb5 => ?_)
  refine g_storeL 5 (s := 20) (C := cmdC (decC l)) rfl rfl rfl rfl rfl rfl hcl rfl (oneCell_cmd _) ?_
  refine g_pu rfl rfl rfl (pu_assign rfl rfl) ?_
  refine g_nil ?_
  (repeat refine g_seq ?_)
  refine g_region ?_
  refine g_pu rfl rfl rfl (pu_loadW 3 (L := cmdC (decC l)) rfl rfl rfl hcl) ?_
  refine g_pu rfl rfl rfl (pu_loadW 5 (L := cmdC (decC l)) rfl rfl rfl hcl) ?_
  refine g_pu rfl rfl rfl (pu_neqR (cmd_refl (decC l) h16) rfl rfl rfl) ?_
  refine g_pu rfl rfl rfl (pu_move rfl rfl) ?_
  first | refine g_pass rfl rfl rfl ?_ | refine g_pu rfl rfl rfl (pu_move rfl rfl) ?_
  first | refine g_pass rfl rfl rfl ?_ | refine g_pu rfl rfl rfl (pu_move rfl rfl) ?_
  refine g_pu rfl rfl rfl (pu_neq_f rfl rfl rfl (by omega)) ?_
  first | refine g_pu rfl rfl rfl (pu_pick_t rfl rfl rfl) ?_ | refine g_pu rfl rfl rfl (pu_pick_f rfl rfl rfl) ?_
  refine g_nil ?_
  (repeat refine g_seq ?_)
  refine g_cond_f rfl (g_skip ?_)
  by_cases he : decE l = 0
  · obtain ⟨hC, h0, _, hel⟩ := enc_dec he
    rw [← hC] at h0 hel
    have h32 := encL_length h16
    (repeat refine g_seq ?_)
    refine g_region ?_
    refine g_pu rfl rfl rfl (pu_move rfl rfl) ?_
    refine g_pu rfl rfl rfl (pu_neq_f rfl rfl rfl (by omega)) ?_
    refine g_nil ?_
    (repeat refine g_seq ?_)
    refine g_cond_f rfl (g_skip ?_)
    (repeat refine g_seq ?_)
    refine g_region ?_
    refine g_pu rfl rfl rfl (pu_loadW 3 (L := cmdC (decC l)) rfl rfl rfl hcl) ?_
    refine g_call [33] rfl rfl rfl rfl rfl rfl (fun w' hm => Encode_b w' (decC l) h16 h0) (fun x33 _ => ?_)
    refine g_pu rfl rfl rfl (pu_move rfl rfl) ?_
    refine g_pu rfl rfl rfl (pu_extract rfl rfl rfl) ?_
    refine g_pu rfl rfl rfl (pu_extract rfl rfl rfl) ?_
    refine g_pu rfl rfl rfl (pu_assign rfl rfl) ?_
    refine g_pu rfl rfl rfl (pu_assign rfl rfl) ?_
    refine g_nil ?_
    (repeat refine g_seq ?_)
    refine g_region ?_
    refine g_pu rfl rfl rfl (pu_move rfl rfl) ?_
    refine g_pu rfl rfl rfl (pu_eql_t rfl rfl rfl (by omega)) ?_
    refine g_pu rfl rfl rfl (pu_move rfl rfl) ?_
    first | refine g_pass rfl rfl rfl ?_ | refine g_pu rfl rfl rfl (pu_move rfl rfl) ?_
    first | refine g_pass rfl rfl rfl ?_ | refine g_pu rfl rfl rfl (pu_move rfl rfl) ?_
    refine g_call [] rfl rfl rfl rfl rfl rfl (fun w' hm => Equal_b w' _ c (By.ow 33 rfl hm h32 (by omega)) (ha.m hm)) (fun _ _ => ?_)
    rw [decide_eq_true hel]
    first | refine g_pu rfl rfl rfl (pu_pick_t rfl rfl rfl) ?_ | refine g_pu rfl rfl rfl (pu_pick_f rfl rfl rfl) ?_
    refine g_pu rfl rfl rfl (pu_assign rfl rfl) ?_
    refine g_nil ?_
    exact g_ret1 rfl rfl (fun w' hm => ⟨(), trivial, rfl, hm.grows [] trivial rfl⟩)
  · (repeat refine g_seq ?_)
    refine g_region ?_
    refine g_pu rfl rfl rfl (pu_move rfl rfl) ?_
    refine g_pu rfl rfl rfl (pu_neq_t rfl rfl rfl (by omega)) ?_
    refine g_nil ?_
    (repeat refine g_seq ?_)
    refine g_cond_t rfl ?_
    (repeat refine g_seq ?_)
    refine g_region ?_
    refine g_pu rfl rfl rfl (pu_assign rfl rfl) ?_
    refine g_nil ?_
    exact g_ret1 rfl rfl (fun w' hm => ⟨(), trivial, rfl, hm.grows [] trivial rfl⟩)
end Go.Sx

/-
  The document's numbers by eight digits: limbs and digits, differences, normal numbers. The numbers are below 2^256.
-/
import Derived.Test.YtckfeakolpjleaaF7
set_option linter.unusedVariables false
set_option linter.unusedSimpArgs false
namespace Go.Sx
open Go Go.Proofs

/-! ## Numbers by digits -/
section
variable {α : Type} (v : α → Nat) (B : Nat)
def numG : List α → Nat
  | [] => 0
  | a :: r => v a + B * numG r
variable {v B}
theorem numG_set (d : α) : ∀ (l : List α) (i : Nat) (x : α), i < l.length → numG v B (l.set i x) + B ^ i * v (l.getD i d) = numG v B l + B ^ i * v x
  | [], i, x, h => by simp at h
  | a :: r, 0, x, h => by
    simp only [List.set_cons_zero, numG, Nat.pow_zero, Nat.one_mul, List.getD_cons_zero]; omega
  | a :: r, i + 1, x, h => by
    have ih := numG_set d r i x (by simpa using h)
    simp only [List.set_cons_succ, numG, List.getD_cons_succ, Nat.pow_succ]
    have e1 : ∀ y, B ^ i * B * y = B * (B ^ i * y) := fun y => by rw [Nat.mul_comm (B ^ i), Nat.mul_assoc]
    have ih2 := congrArg (B * ·) ih
    simp only [Nat.mul_add] at ih2
    rw [e1, e1]
    omega
theorem numG_take (d : α) : ∀ (l : List α) (i : Nat), i < l.length → numG v B (l.take (i + 1)) = numG v B (l.take i) + B ^ i * v (l.getD i d)
  | [], i, h => by simp at h
  | a :: r, 0, h => by simp [numG]
  | a :: r, i + 1, h => by
    have ih := numG_take d r i (by simpa using h)
    simp only [List.take_succ_cons, numG, List.getD_cons_succ, Nat.pow_succ] at ih ⊢
    have e1 : ∀ y, B ^ i * B * y = B * (B ^ i * y) := fun y => by rw [Nat.mul_comm (B ^ i), Nat.mul_assoc]
    rw [e1, ih, Nat.mul_add]
    omega
theorem numG_split : ∀ (l : List α) (i : Nat), numG v B l = numG v B (l.take i) + B ^ i * numG v B (l.drop i)
  | [], i => by simp [numG]
  | a :: r, 0 => by simp [numG]
  | a :: r, i + 1 => by
    have ih := numG_split r i
    simp only [List.take_succ_cons, List.drop_succ_cons, numG, Nat.pow_succ]
    have e1 : ∀ y, B ^ i * B * y = B * (B ^ i * y) := fun y => by rw [Nat.mul_comm (B ^ i), Nat.mul_assoc]
    rw [e1, ih, Nat.mul_add]
    omega
theorem numG_lt (hB : 0 < B) : ∀ {l : List α}, (∀ a ∈ l, v a < B) → numG v B l < B ^ l.length
  | [], _ => by simp [numG]
  | a :: r, h => by
    have ih := numG_lt hB (l := r) (fun b hb => h b (List.mem_cons_of_mem _ hb))
    have ha := h a (by simp)
    rw [numG, List.length_cons, Nat.pow_succ]
    have : B * (numG v B r + 1) ≤ B * B ^ r.length := Nat.mul_le_mul_left _ ih
    rw [Nat.mul_add, Nat.mul_one] at this
    rw [Nat.mul_comm (B ^ r.length)]
    omega
theorem numG_digit (d : α) (hB : 0 < B) : ∀ {l : List α} {i : Nat}, (∀ a ∈ l, v a < B) → i < l.length → v (l.getD i d) = numG v B l / B ^ i % B
  | [], _, _, h => by simp at h
  | a :: r, 0, hs, h => by
    have ha := hs a (by simp)
    rw [List.getD_cons_zero, numG, Nat.pow_zero, Nat.div_one, Nat.add_mul_mod_self_left, Nat.mod_eq_of_lt ha]
  | a :: r, i + 1, hs, h => by
    have ha := hs a (by simp)
    rw [List.getD_cons_succ, numG_digit d hB (fun b hb => hs b (List.mem_cons_of_mem _ hb)) (by simpa using h), numG, Nat.pow_succ, Nat.mul_comm (B ^ i), ← Nat.div_div_eq_div_mul, Nat.add_mul_div_left _ _ hB, Nat.div_eq_of_lt ha, Nat.zero_add]
theorem numG_zero (d : α) (hd : v d = 0) : ∀ {l : List α}, (∀ k, v (l.getD k d) = 0) → numG v B l = 0
  | [], _ => rfl
  | a :: r, h => by
    have h0 : v a = 0 := h 0
    rw [numG, h0, numG_zero d hd (fun k => h (k + 1))]; omega
theorem numG_pos (d : α) (hB : 0 < B) : ∀ {l : List α} {i : Nat}, i < l.length → v (l.getD i d) ≠ 0 → numG v B l ≠ 0
  | [], _, h, _ => by simp at h
  | a :: r, 0, _, h => by
    rw [List.getD_cons_zero] at h
    rw [numG]; omega
  | a :: r, i + 1, hl, h => by
    rw [List.getD_cons_succ] at h
    have := numG_pos d hB (by simpa using hl) h
    rw [numG]
    have := Nat.mul_pos hB (Nat.pos_of_ne_zero this)
    omega
end

/-- A number's digits. -/
def digs : Nat → Nat → List (BitVec 32)
  | 0, _ => []
  | k + 1, n => BitVec.ofNat 32 n :: digs k (n / 4294967296)
def numD (l : List (BitVec 32)) : Nat := numG BitVec.toNat 4294967296 l
def numW (l : List (BitVec 64)) : Nat := numG BitVec.toNat 4294967296 l
theorem digs_length : ∀ k n, (digs k n).length = k
  | 0, _ => rfl
  | k + 1, n => by rw [digs, List.length_cons, digs_length]
theorem numD_digs : ∀ k n, n < 4294967296 ^ k → numD (digs k n) = n
  | 0, n, h => by simp at h; rw [h]; rfl
  | k + 1, n, h => by
    have ih := numD_digs k (n / 4294967296) (by rw [Nat.pow_succ] at h; exact (Nat.div_lt_iff_lt_mul (by omega)).2 h)
    unfold numD at ih ⊢
    rw [digs, numG, ih, BitVec.toNat_ofNat]
    omega
theorem digs_numD : ∀ l : List (BitVec 32), digs l.length (numD l) = l
  | [] => rfl
  | a :: r => by
    have ha := a.isLt
    have ih := digs_numD r
    unfold numD at ih ⊢
    rw [List.length_cons, digs, numG, show (a.toNat + 4294967296 * numG BitVec.toNat 4294967296 r) / 4294967296 = numG BitVec.toNat 4294967296 r by omega, ih]
    congr 1
    apply BitVec.eq_of_toNat_eq
    rw [BitVec.toNat_ofNat]
    omega
theorem digs_get : ∀ {k n i : Nat}, i < k → (digs k n)[i]? = some (BitVec.ofNat 32 (n / 4294967296 ^ i))
  | 0, _, _, h => by omega
  | k + 1, n, 0, h => by simp [digs]
  | k + 1, n, i + 1, h => by
    rw [digs, List.getElem?_cons_succ, digs_get (by omega), Nat.div_div_eq_div_mul, Nat.pow_succ, Nat.mul_comm]
theorem limbs_get? {k n i : Nat} (h : i < k) : (limbs k n)[i]? = some (BitVec.ofNat 64 (n / 18446744073709551616 ^ i)) := by
  rw [← limbs_get h]; exact getDq (by rw [limbs_length]; exact h)
theorem getDd {l : List (BitVec 32)} {i : Nat} (h : i < l.length) : l[i]? = some (l.getD i 0#32) := by
  rw [List.getD_eq_getElem?_getD, List.getElem?_eq_getElem h]; rfl
theorem numD8_lt {l : List (BitVec 32)} (h : l.length = 8) : numD l < 115792089237316195423570985008687907853269984665640564039457584007913129639936 := by
  have := numG_lt (v := BitVec.toNat) (B := 4294967296) (by decide) (l := l) (fun a _ => a.isLt)
  rw [h] at this
  exact this
/-- The document's number. -/
def dg (n : Nat) : List Value := ws (digs 8 n)
theorem dg_length (n : Nat) : (dg n).length = 8 := by rw [dg, ws_length, digs_length]
theorem dg_of {l : List (BitVec 32)} (h : l.length = 8) : ws l = dg (numD l) := by rw [dg, ← h, digs_numD]
theorem dg_num {n : Nat} (h : n < 115792089237316195423570985008687907853269984665640564039457584007913129639936) : numD (digs 8 n) = n := numD_digs 8 n h
theorem oneCell_dg (n : Nat) : ∀ u ∈ dg n, u.oneCell' = true := oneCell_ws _
theorem all_dg (n : Nat) : (dg n).all (kindIs .u32) = true := all_ws _
theorem ws_inj {l m : List (BitVec 32)} (h : ws l = ws m) : l = m := by
  unfold ws at h
  induction l generalizing m with
  | nil => cases m with
    | nil => rfl
    | cons y m => simp at h
  | cons x l ih => cases m with
    | nil => simp at h
    | cons y m =>
      simp only [List.map_cons, List.cons.injEq] at h
      rw [b32_inj h.1, ih h.2]
theorem dg_inj {n m : Nat} (hn : n < 115792089237316195423570985008687907853269984665640564039457584007913129639936) (hm : m < 115792089237316195423570985008687907853269984665640564039457584007913129639936) (h : dg n = dg m) : n = m := by
  rw [← dg_num hn, ← dg_num hm, ws_inj h]
theorem q64_32 (i : Nat) : 18446744073709551616 ^ i = 4294967296 ^ (2 * i) := by rw [Nat.pow_mul]
theorem lo_dig (x : Nat) : ((BitVec.ofNat 64 x) % 4294967296#64).setWidth 32 = BitVec.ofNat 32 x := by
  apply BitVec.eq_of_toNat_eq
  rw [BitVec.toNat_setWidth, BitVec.toNat_umod, BitVec.toNat_ofNat, BitVec.toNat_ofNat, BitVec.toNat_ofNat, show (4294967296 % 2 ^ 64 : Nat) = 4294967296 from rfl]
  omega
theorem hi_dig (x : Nat) : ((BitVec.ofNat 64 x) >>> 32).setWidth 32 = BitVec.ofNat 32 (x / 4294967296) := by
  apply BitVec.eq_of_toNat_eq
  rw [BitVec.toNat_setWidth, shr32', BitVec.toNat_ofNat, BitVec.toNat_ofNat]
  omega
theorem of_digs (x : Nat) : (BitVec.ofNat 32 x).setWidth 64 + ((BitVec.ofNat 32 (x / 4294967296)).setWidth 64) <<< 32 = BitVec.ofNat 64 x := by
  apply BitVec.eq_of_toNat_eq
  rw [BitVec.toNat_add, BitVec.toNat_shiftLeft, BitVec.toNat_setWidth, BitVec.toNat_setWidth, BitVec.toNat_ofNat, BitVec.toNat_ofNat, BitVec.toNat_ofNat, Nat.shiftLeft_eq]
  omega

theorem From_b (w : World) (n : Nat) : Spec Try.prog 17 #[.agg (el n).toArray] w (σ := Unit) (fun _ => True) (fun _ => .agg (dg n).toArray) Nob (fun _ => []) := by
  refine enter Try.func17 rfl rfl (Mem.start w) ?_
  have hfl := digs_length 8 n
  have hd : ∀ i, i < 8 → (digs 8 n)[i]? = some (BitVec.ofNat 32 (n / 4294967296 ^ i)) := fun i hi => digs_get hi
  have hl4 : ∀ i, i < 4 → (limbs 4 n)[i]? = some (BitVec.ofNat 64 (n / 4294967296 ^ (2 * i))) := fun i hi => by rw [← q64_32]; exact limbs_get? hi
  have hll := limbs_length 4 n
  have hdg : dg n = ws (digs 8 n) := rfl
  have hel : el n = qs (limbs 4 n) := rfl
  rw [hdg, hel]
  generalize digs 8 n = full at *
  generalize limbs 4 n = Z at *
  (repeat refine g_seq ?_)
  refine g_region ?_
  refine g_lo [1] rfl rfl rfl rfl (lo_box rfl rfl) (fun b1 hb1 => ?_)
  refine g_lo [2] rfl rfl rfl rfl (lo_alloc rfl) (fun b2 hb2 => ?_)
  refine g_nil ?_
  (repeat refine g_seq ?_)
  refine g_region ?_
  refine g_lo [3] rfl rfl rfl rfl (lo_alloc rfl) (fun b3 hb3 => ?_)
  refine g_nil ?_
  (repeat refine g_seq ?_)
  refine g_region ?_
  refine g_pu rfl rfl rfl (pu_assign rfl rfl) ?_
  refine g_nil ?_
  (repeat refine g_seq ?_)
  refine g_block (g_loop (σ := Nat) (fun (i : Nat) => [(1, .pointer (some ⟨b1, 0, none⟩)), (2, .pointer (some ⟨b2, 0, none⟩)), (3, .pointer (some ⟨b3, 0, none⟩)), (4, .int .i64 (i : Int))]) (fun i => [(1, .pt b1 (.cells (qs Z).toArray 23 (0, 0))), (2, .pt b2 (.cells (ws (List.replicate 8 0#32)).toArray 35 (0, 0))), (3, .pt b3 (.cells (ws (fillW 0#32 full (2 * i))).toArray 35 (0, 0)))])
    (fun i => i ≤ 4) (fun i => 4 - i) 0 ⟨rfl, rfl, rfl, rfl, trivial⟩ ⟨rfl, rfl, by unfold fillW; rw [Nat.mul_zero, List.take_zero, hfl]; rfl, trivial⟩ (by omega) ?_)
  intro i hi
  by_cases hlt : i < 4
  · (repeat refine g_seq ?_)
    refine g_region ?_
    refine g_pu rfl rfl rfl (pu_move rfl rfl) ?_
    first | refine g_pu rfl rfl rfl (pu_lss_t rfl rfl rfl (by omega)) ?_ | refine g_pu rfl rfl rfl (pu_lss_f rfl rfl rfl (by omega)) ?_ | refine g_pu rfl rfl rfl (pu_lss rfl rfl rfl) ?_
    refine g_nil ?_
    (repeat refine g_seq ?_)
    refine g_cond_t rfl (g_skip ?_)
    have h1 := hl4 i hlt
    have h2 := hd (2 * i) (by omega)
    have h3 := hd (2 * i + 1) (by omega)
    rw [Nat.pow_succ, ← Nat.div_div_eq_div_mul] at h3
    generalize n / 4294967296 ^ (2 * i) = x at h1 h2 h3
    (repeat refine g_seq ?_); refine g_block ?_
    (repeat refine g_seq ?_)
    refine g_region ?_
    refine g_pu rfl rfl rfl (pu_move rfl rfl) ?_
    refine g_pu rfl rfl rfl (pu_mulI rfl rfl rfl (by omega)) ?_
    refine g_pu rfl rfl rfl (pu_move rfl rfl) ?_
    refine g_pu rfl rfl rfl (pu_atA1 i rfl rfl rfl rfl hlt) ?_
    refine g_pu rfl rfl rfl (pu_load 1 (v := b64 (BitVec.ofNat 64 x)) rfl rfl rfl (qs_load h1)) ?_
    refine g_pu rfl rfl rfl (pu_rem64 (b := 4294967296#64) rfl rfl rfl (by decide)) ?_
    refine g_pu rfl rfl rfl (pu_conv64_32 rfl rfl) ?_
    rw [lo_dig]
    refine g_pu rfl rfl rfl (pu_atA1 (2 * i) rfl rfl rfl (by omega) (by omega)) ?_
    refine g_store 3 (v := b32 (BitVec.ofNat 32 x)) rfl rfl rfl rfl rfl rfl rfl (by rw [ws_length, fillW_length]; omega) ?_
    rw [ws_set, fillW_set h2]
    refine g_nil ?_
    (repeat refine g_seq ?_)
    refine g_region ?_
    refine g_pu rfl rfl rfl (pu_move rfl rfl) ?_
    refine g_pu rfl rfl rfl (pu_mulI rfl rfl rfl (by omega)) ?_
    refine g_pu rfl rfl rfl (pu_addI rfl rfl rfl (by omega)) ?_
    refine g_pu rfl rfl rfl (pu_move rfl rfl) ?_
    refine g_pu rfl rfl rfl (pu_atA1 i rfl rfl rfl rfl hlt) ?_
    refine g_pu rfl rfl rfl (pu_load 1 (v := b64 (BitVec.ofNat 64 x)) rfl rfl rfl (qs_load h1)) ?_
    refine g_pu rfl rfl rfl (pu_shr64 rfl rfl rfl (by omega)) ?_
    refine g_pu rfl rfl rfl (pu_conv64_32 rfl rfl) ?_
    rw [show (32 : Int).toNat = 32 from rfl, hi_dig]
    refine g_pu rfl rfl rfl (pu_atA1 (2 * i + 1) rfl rfl rfl (by omega) (by omega)) ?_
    refine g_store 3 (v := b32 (BitVec.ofNat 32 (x / 4294967296))) rfl rfl rfl rfl rfl rfl rfl (by rw [ws_length, fillW_length]; omega) ?_
    rw [ws_set, fillW_set h3]
    refine g_nil ?_
    refine g_blk ?_
    (repeat refine g_seq ?_)
    refine g_region ?_
    refine g_pu rfl rfl rfl (pu_move rfl rfl) ?_
    refine g_pu rfl rfl rfl (pu_addI rfl rfl rfl (by omega)) ?_
    refine g_pu rfl rfl rfl (pu_assign rfl rfl) ?_
    refine g_nil ?_
    exact g_round (i + 1) (by omega) (by omega) ⟨rfl, rfl, rfl, rfl, trivial⟩ ⟨rfl, rfl, rfl, trivial⟩
  · (repeat refine g_seq ?_)
    refine g_region ?_
    refine g_pu rfl rfl rfl (pu_move rfl rfl) ?_
    first | refine g_pu rfl rfl rfl (pu_lss_t rfl rfl rfl (by omega)) ?_ | refine g_pu rfl rfl rfl (pu_lss_f rfl rfl rfl (by omega)) ?_ | refine g_pu rfl rfl rfl (pu_lss rfl rfl rfl) ?_
    refine g_nil ?_
    (repeat refine g_seq ?_)
    refine g_cond_f rfl (g_exit rfl ?_)
    have e1 : 2 * i = full.length := by omega
    rw [e1, fillW_end]
    have hbl : (ws full).length = 8 := by rw [ws_length, hfl]
    (repeat refine g_seq ?_)
    refine g_region ?_
    refine g_pu rfl rfl rfl (pu_loadW 3 (L := ws full) rfl rfl rfl hbl) ?_
    refine g_storeL 2 (s := 8) (C := ws full) rfl rfl rfl rfl rfl rfl hbl rfl (oneCell_ws _) ?_
    refine g_nil ?_
    exact g_retL 2 (L := ws full) rfl hbl rfl rfl (fun w' hm => ⟨(), trivial, rfl, hm.grows [] trivial rfl⟩)

theorem To_b (w : World) (n : Nat) : Spec Try.prog 39 #[.agg (dg n).toArray] w (σ := Unit) (fun _ => True) (fun _ => .agg (el n).toArray) Nob (fun _ => []) := by
  refine enter Try.func39 rfl rfl (Mem.start w) ?_
  have hfl := limbs_length 4 n
  have hd : ∀ i, i < 8 → (digs 8 n)[i]? = some (BitVec.ofNat 32 (n / 4294967296 ^ i)) := fun i hi => digs_get hi
  have hl4 : ∀ i, i < 4 → (limbs 4 n)[i]? = some (BitVec.ofNat 64 (n / 4294967296 ^ (2 * i))) := fun i hi => by rw [← q64_32]; exact limbs_get? hi
  have hdl := digs_length 8 n
  have hdg : dg n = ws (digs 8 n) := rfl
  have hel : el n = qs (limbs 4 n) := rfl
  rw [hdg, hel]
  generalize digs 8 n = Z at *
  generalize limbs 4 n = full at *
  (repeat refine g_seq ?_)
  refine g_region ?_
  refine g_lo [1] rfl rfl rfl rfl (lo_box rfl rfl) (fun b1 hb1 => ?_)
  refine g_lo [2] rfl rfl rfl rfl (lo_alloc rfl) (fun b2 hb2 => ?_)
  refine g_nil ?_
  (repeat refine g_seq ?_)
  refine g_region ?_
  refine g_lo [3] rfl rfl rfl rfl (lo_alloc rfl) (fun b3 hb3 => ?_)
  refine g_nil ?_
  (repeat refine g_seq ?_)
  refine g_region ?_
  refine g_pu rfl rfl rfl (pu_assign rfl rfl) ?_
  refine g_nil ?_
  (repeat refine g_seq ?_)
  refine g_block (g_loop (σ := Nat) (fun (i : Nat) => [(1, .pointer (some ⟨b1, 0, none⟩)), (2, .pointer (some ⟨b2, 0, none⟩)), (3, .pointer (some ⟨b3, 0, none⟩)), (4, .int .i64 (i : Int))]) (fun i => [(1, .pt b1 (.cells (ws Z).toArray 35 (0, 0))), (2, .pt b2 (.cells (qs [0#64, 0#64, 0#64, 0#64]).toArray 23 (0, 0))), (3, .pt b3 (.cells (qs (fillW 0#64 full i)).toArray 23 (0, 0)))])
    (fun i => i ≤ 4) (fun i => 4 - i) 0 ⟨rfl, rfl, rfl, rfl, trivial⟩ ⟨rfl, rfl, by unfold fillW; rw [List.take_zero, hfl]; rfl, trivial⟩ (by omega) ?_)
  intro i hi
  by_cases hlt : i < 4
  · (repeat refine g_seq ?_)
    refine g_region ?_
    refine g_pu rfl rfl rfl (pu_move rfl rfl) ?_
    first | refine g_pu rfl rfl rfl (pu_lss_t rfl rfl rfl (by omega)) ?_ | refine g_pu rfl rfl rfl (pu_lss_f rfl rfl rfl (by omega)) ?_ | refine g_pu rfl rfl rfl (pu_lss rfl rfl rfl) ?_
    refine g_nil ?_
    (repeat refine g_seq ?_)
    refine g_cond_t rfl (g_skip ?_)
    have h1 := hl4 i hlt
    have h2 := hd (2 * i) (by omega)
    have h3 := hd (2 * i + 1) (by omega)
    rw [Nat.pow_succ, ← Nat.div_div_eq_div_mul] at h3
    generalize n / 4294967296 ^ (2 * i) = x at h1 h2 h3
    (repeat refine g_seq ?_); refine g_block ?_
    (repeat refine g_seq ?_)
    refine g_any (15, []) ?_
    refine a_pu 0 rfl rfl rfl rfl (pu_move rfl rfl) rfl rfl (by kernel_rfl) ?_
    refine a_pu 1 rfl rfl rfl rfl (pu_move rfl rfl) rfl rfl (by kernel_rfl) ?_
    refine a_pu 2 rfl rfl rfl rfl (pu_mulI rfl rfl rfl (by omega)) rfl rfl (by kernel_rfl) ?_
    refine a_pu 3 rfl rfl rfl rfl (pu_atA1 (2 * i) rfl rfl rfl (by omega) (by omega)) rfl rfl (by kernel_rfl) ?_
    refine a_pu 4 rfl rfl rfl rfl (pu_load 1 (v := b32 (BitVec.ofNat 32 x)) rfl rfl rfl (ws_load h2)) rfl rfl (by kernel_rfl) ?_
    refine a_pu 5 rfl rfl rfl rfl (pu_conv32_64 rfl rfl) rfl rfl (by kernel_rfl) ?_
    refine a_pu 6 rfl rfl rfl rfl (pu_move rfl rfl) rfl rfl (by kernel_rfl) ?_
    refine a_pu 7 rfl rfl rfl rfl (pu_mulI rfl rfl rfl (by omega)) rfl rfl (by kernel_rfl) ?_
    refine a_pu 8 rfl rfl rfl rfl (pu_addI rfl rfl rfl (by omega)) rfl rfl (by kernel_rfl) ?_
    refine a_pu 9 rfl rfl rfl rfl (pu_atA1 (2 * i + 1) rfl rfl rfl (by omega) (by omega)) rfl rfl (by kernel_rfl) ?_
    refine a_pu 10 rfl rfl rfl rfl (pu_load 1 (v := b32 (BitVec.ofNat 32 (x / 4294967296))) rfl rfl rfl (ws_load h3)) rfl rfl (by kernel_rfl) ?_
    refine a_pu 11 rfl rfl rfl rfl (pu_conv32_64 rfl rfl) rfl rfl (by kernel_rfl) ?_
    refine a_pu 12 rfl rfl rfl rfl (pu_shl64 rfl rfl rfl (by omega)) rfl rfl (by kernel_rfl) ?_
    refine a_pu 13 rfl rfl rfl rfl (pu_add64 rfl rfl rfl) rfl rfl (by kernel_rfl) ?_
    rw [show (32 : Int).toNat = 32 from rfl, of_digs]
    refine a_pu 14 rfl rfl rfl rfl (pu_atA1 i rfl rfl rfl rfl hlt) rfl rfl (by kernel_rfl) ?_
    refine a_tail [15] (by kernel_rfl) rfl rfl (by kernel_rfl) ?_
    refine g_store 3 (v := b64 (BitVec.ofNat 64 x)) rfl rfl rfl rfl rfl rfl rfl (by rw [qs_length, fillW_length]; omega) ?_
    rw [qs_set, fillW_set h1]
    refine g_nil ?_
    refine g_blk ?_
    (repeat refine g_seq ?_)
    refine g_region ?_
    refine g_pu rfl rfl rfl (pu_move rfl rfl) ?_
    refine g_pu rfl rfl rfl (pu_addI rfl rfl rfl (by omega)) ?_
    refine g_pu rfl rfl rfl (pu_assign rfl rfl) ?_
    refine g_nil ?_
    exact g_round (i + 1) (by omega) (by omega) ⟨rfl, rfl, rfl, rfl, trivial⟩ ⟨rfl, rfl, rfl, trivial⟩
  · (repeat refine g_seq ?_)
    refine g_region ?_
    refine g_pu rfl rfl rfl (pu_move rfl rfl) ?_
    first | refine g_pu rfl rfl rfl (pu_lss_t rfl rfl rfl (by omega)) ?_ | refine g_pu rfl rfl rfl (pu_lss_f rfl rfl rfl (by omega)) ?_ | refine g_pu rfl rfl rfl (pu_lss rfl rfl rfl) ?_
    refine g_nil ?_
    (repeat refine g_seq ?_)
    refine g_cond_f rfl (g_exit rfl ?_)
    have e1 : i = full.length := by omega
    rw [e1, fillW_end]
    have hbl : (qs full).length = 4 := by rw [qs_length, hfl]
    (repeat refine g_seq ?_)
    refine g_region ?_
    refine g_pu rfl rfl rfl (pu_loadW 3 (L := qs full) rfl rfl rfl hbl) ?_
    refine g_storeL 2 (s := 4) (C := qs full) rfl rfl rfl rfl rfl rfl hbl rfl (oneCell_qs _) ?_
    refine g_nil ?_
    exact g_retL 2 (L := qs full) rfl hbl rfl rfl (fun w' hm => ⟨(), trivial, rfl, hm.grows [] trivial rfl⟩)

theorem prime_b (w : World) : Spec Try.prog 42 #[] w (σ := Unit) (fun _ => True) (fun _ => .agg (dg 57896044618658097711785492504343953926634992332820282019728792003956564819949).toArray) Nob (fun _ => []) := by
  have hl : dg 57896044618658097711785492504343953926634992332820282019728792003956564819949 = ws [4294967277#32, 4294967295#32, 4294967295#32, 4294967295#32, 4294967295#32, 4294967295#32, 4294967295#32, 2147483647#32] := by rw [dg_of rfl]; congr 1
  rw [hl]
  refine enter Try.func42 rfl rfl (Mem.start w) ?_
  (repeat refine g_seq ?_)
  refine g_region ?_
  refine g_lo [0] rfl rfl rfl rfl (lo_alloc rfl) (fun b0 hb0 => ?_)
  refine g_nil ?_
  (repeat refine g_seq ?_)
  refine g_region ?_
  refine g_pu rfl rfl rfl (pu_buildA (cs := ws [4294967277#32, 4294967295#32, 4294967295#32, 4294967295#32, 4294967295#32, 4294967295#32, 4294967295#32, 2147483647#32]) rfl rfl rfl rfl rfl) ?_
  refine g_storeL 0 (s := 8) (C := ws [4294967277#32, 4294967295#32, 4294967295#32, 4294967295#32, 4294967295#32, 4294967295#32, 4294967295#32, 2147483647#32]) rfl rfl rfl rfl rfl rfl rfl rfl (oneCell_ws _) ?_
  refine g_nil ?_
  exact g_retL 0 (L := ws [4294967277#32, 4294967295#32, 4294967295#32, 4294967295#32, 4294967295#32, 4294967295#32, 4294967295#32, 2147483647#32]) rfl rfl rfl rfl (fun w' hm => ⟨(), trivial, rfl, hm.grows [] trivial rfl⟩)

theorem dstep {P V V' y s c c' x : Nat} (hset : V' = V + P * s) (h : s + y + c = x + 4294967296 * c') : V' + P * y + P * c = V + P * x + P * 4294967296 * c' := by
  have h2 : P * (s + y + c) = P * (x + 4294967296 * c') := by rw [h]
  rw [Nat.mul_add, Nat.mul_add, Nat.mul_add] at h2
  rw [Nat.mul_assoc]
  omega
theorem numD_setT {l : List (BitVec 32)} {i : Nat} (x : BitVec 32) (h : i < l.length) : numD ((l.set i x).take (i + 1)) = numD (l.take i) + 4294967296 ^ i * x.toNat := by
  unfold numD
  rw [numG_take 0#32 _ i (by rw [List.length_set]; omega), List.take_set_of_le (Nat.le_refl _)]
  congr 2
  rw [List.getD_eq_getElem?_getD, List.getElem?_set_self (by omega)]; rfl
/-- One digit's difference. -/
theorem minus_dig (x y : BitVec 32) (c : BitVec 64) (hc : c.toNat ≤ 1) : ∃ (t s : BitVec 64) (c' : BitVec 64), c'.toNat ≤ 1 ∧
    (decide ((x.setWidth 64).toNat < (y.setWidth 64 + c).toNat) = true → t = x.setWidth 64 + 4294967296#64 ∧ c' = 1#64) ∧ (decide ((x.setWidth 64).toNat < (y.setWidth 64 + c).toNat) = false → t = x.setWidth 64 ∧ c' = 0#64) ∧
    s = t - (y.setWidth 64 + c) ∧ (s.setWidth 32).toNat + y.toNat + c.toNat = x.toNat + 4294967296 * c'.toNat := by
  have hx := x.isLt
  have hy := y.isLt
  have e1 : (x.setWidth 64).toNat = x.toNat := by rw [BitVec.toNat_setWidth]; omega
  have e2 : (y.setWidth 64 + c).toNat = y.toNat + c.toNat := by rw [BitVec.toNat_add, BitVec.toNat_setWidth]; omega
  by_cases h : x.toNat < y.toNat + c.toNat
  · refine ⟨x.setWidth 64 + 4294967296#64, _, 1#64, by decide, fun _ => ⟨rfl, rfl⟩, fun h' => ?_, rfl, ?_⟩
    · rw [e1, e2, decide_eq_true h] at h'; cases h'
    · have e3 : (x.setWidth 64 + 4294967296#64).toNat = x.toNat + 4294967296 := by rw [BitVec.toNat_add, e1, show (4294967296#64).toNat = 4294967296 from rfl]; omega
      rw [BitVec.toNat_setWidth, BitVec.toNat_sub, e2, e3, show (1#64).toNat = 1 from rfl]
      omega
  · refine ⟨x.setWidth 64, _, 0#64, by decide, fun h' => ?_, fun _ => ⟨rfl, rfl⟩, rfl, ?_⟩
    · rw [e1, e2, decide_eq_false h] at h'; cases h'
    · rw [BitVec.toNat_setWidth, BitVec.toNat_sub, e2, e1, show (0#64).toNat = 0 from rfl]
      omega

theorem minus_b (w : World) (a b : Nat) (ha : a < 115792089237316195423570985008687907853269984665640564039457584007913129639936) (hb : b < 115792089237316195423570985008687907853269984665640564039457584007913129639936) : Spec Try.prog 41 #[.agg (dg a).toArray, .agg (dg b).toArray] w (σ := Unit) (fun _ => True) (fun _ => .tuple #[.agg (dg ((a + (115792089237316195423570985008687907853269984665640564039457584007913129639936 - b)) % 115792089237316195423570985008687907853269984665640564039457584007913129639936)).toArray, .bool (decide (a < b))]) Nob (fun _ => []) := by
  refine enter Try.func41 rfl rfl (Mem.start w) ?_
  have han := dg_num ha
  have hbn := dg_num hb
  have hal := digs_length 8 a
  have hbl := digs_length 8 b
  have hA : dg a = ws (digs 8 a) := rfl
  have hB : dg b = ws (digs 8 b) := rfl
  rw [hA, hB]
  generalize digs 8 a = A at *
  generalize digs 8 b = B at *
  (repeat refine g_seq ?_)
  refine g_region ?_
  refine g_lo [2] rfl rfl rfl rfl (lo_box rfl rfl) (fun b2 hb2 => ?_)
  refine g_lo [3] rfl rfl rfl rfl (lo_box rfl rfl) (fun b3 hb3 => ?_)
  refine g_lo [4] rfl rfl rfl rfl (lo_alloc rfl) (fun b4 hb4 => ?_)
  refine g_pu rfl rfl rfl (pu_assign rfl rfl) ?_
  refine g_nil ?_
  (repeat refine g_seq ?_)
  refine g_region ?_
  refine g_lo [6] rfl rfl rfl rfl (lo_alloc rfl) (fun b6 hb6 => ?_)
  refine g_nil ?_
  (repeat refine g_seq ?_)
  refine g_region ?_
  refine g_pu rfl rfl rfl (pu_assign (v := b64 0#64) rfl rfl) ?_
  refine g_nil ?_
  (repeat refine g_seq ?_)
  refine g_region ?_
  refine g_pu rfl rfl rfl (pu_assign rfl rfl) ?_
  refine g_nil ?_
  (repeat refine g_seq ?_)
  refine g_block (g_loop3 (fun (i : Nat) (m : List (BitVec 32)) (c : BitVec 64) => [(2, .pointer (some ⟨b2, 0, none⟩)), (3, .pointer (some ⟨b3, 0, none⟩)), (4, .pointer (some ⟨b4, 0, none⟩)), (6, .pointer (some ⟨b6, 0, none⟩)), (7, b64 c), (8, .int .i64 (i : Int))]) (fun i m c => [(2, .pt b2 (.cells (ws A).toArray 35 (0, 0))), (3, .pt b3 (.cells (ws B).toArray 35 (0, 0))), (4, .pt b4 (.cells (ws (List.replicate 8 0#32)).toArray 35 (0, 0))), (6, .pt b6 (.cells (ws m).toArray 35 (0, 0)))])
    (fun i m c => i ≤ 8 ∧ m.length = 8 ∧ c.toNat ≤ 1 ∧ numD (m.take i) + numD (B.take i) = numD (A.take i) + 4294967296 ^ i * c.toNat) (fun i m c => 8 - i) 0 (List.replicate 8 0#32) 0#64 ⟨rfl, rfl, rfl, rfl, rfl, rfl, trivial⟩ ⟨rfl, rfl, rfl, rfl, trivial⟩ ⟨by omega, rfl, by decide, rfl⟩ ?_)
  intro i m c ⟨hi, hm8, hc, hv⟩
  by_cases hi8 : i < 8
  · (repeat refine g_seq ?_)
    refine g_region ?_
    refine g_pu rfl rfl rfl (pu_move rfl rfl) ?_
    first | refine g_pu rfl rfl rfl (pu_lss_t rfl rfl rfl (by omega)) ?_ | refine g_pu rfl rfl rfl (pu_lss_f rfl rfl rfl (by omega)) ?_ | refine g_pu rfl rfl rfl (pu_lss rfl rfl rfl) ?_
    refine g_nil ?_
    (repeat refine g_seq ?_)
    refine g_cond_t rfl (g_skip ?_)
    have ga := getDd (l := A) (i := i) (by omega)
    have gb := getDd (l := B) (i := i) (by omega)
    have na : numD (A.take (i + 1)) = numD (A.take i) + 4294967296 ^ i * (A.getD i 0#32).toNat := numG_take 0#32 A i (by omega)
    have nb : numD (B.take (i + 1)) = numD (B.take i) + 4294967296 ^ i * (B.getD i 0#32).toNat := numG_take 0#32 B i (by omega)
    generalize A.getD i 0#32 = x at ga na
    generalize B.getD i 0#32 = y at gb nb
    obtain ⟨t, s, c', hc', ht1, ht0, hs, hsum⟩ := minus_dig x y c hc
    have st := dstep (numD_setT (l := m) (i := i) (s.setWidth 32) (by omega)) hsum
    (repeat refine g_seq ?_); refine g_block ?_
    (repeat refine g_seq ?_)
    refine g_region ?_
    refine g_pu rfl rfl rfl (pu_move rfl rfl) ?_
    refine g_pu rfl rfl rfl (pu_atA1 i rfl rfl rfl rfl hi8) ?_
    refine g_pu rfl rfl rfl (pu_load 3 (v := b32 y) rfl rfl rfl (ws_load gb)) ?_
    refine g_pu rfl rfl rfl (pu_conv32_64 rfl rfl) ?_
    refine g_pu rfl rfl rfl (pu_move rfl rfl) ?_
    refine g_pu rfl rfl rfl (pu_add64 rfl rfl rfl) ?_
    refine g_pu rfl rfl rfl (pu_assign rfl rfl) ?_
    refine g_nil ?_
    (repeat refine g_seq ?_)
    refine g_region ?_
    refine g_pu rfl rfl rfl (pu_move rfl rfl) ?_
    refine g_pu rfl rfl rfl (pu_atA1 i rfl rfl rfl rfl hi8) ?_
    refine g_pu rfl rfl rfl (pu_load 2 (v := b32 x) rfl rfl rfl (ws_load ga)) ?_
    refine g_pu rfl rfl rfl (pu_conv32_64 rfl rfl) ?_
    refine g_pu rfl rfl rfl (pu_assign rfl rfl) ?_
    refine g_nil ?_
    (repeat refine g_seq ?_)
    refine g_region ?_
    refine g_pu rfl rfl rfl (pu_assign (v := b64 0#64) rfl rfl) ?_
    refine g_nil ?_
    (repeat refine g_seq ?_)
    refine g_region ?_
    refine g_pu rfl rfl rfl (pu_move rfl rfl) ?_
    refine g_pu rfl rfl rfl (pu_move rfl rfl) ?_
    refine g_pu rfl rfl rfl (pu_lss rfl rfl rfl) ?_
    refine g_nil ?_
    refine g_join (σ := Unit) (fun _ => [(2, .pointer (some ⟨b2, 0, none⟩)), (3, .pointer (some ⟨b3, 0, none⟩)), (4, .pointer (some ⟨b4, 0, none⟩)), (6, .pointer (some ⟨b6, 0, none⟩)), (7, b64 c'), (8, .int .i64 (i : Int)), (9, b64 (y.setWidth 64 + c)), (10, b64 t)]) (fun _ => [(2, .pt b2 (.cells (ws A).toArray 35 (0, 0))), (3, .pt b3 (.cells (ws B).toArray 35 (0, 0))), (4, .pt b4 (.cells (ws (List.replicate 8 0#32)).toArray 35 (0, 0))), (6, .pt b6 (.cells (ws m).toArray 35 (0, 0)))]) (fun _ => True) ?_ ?_
    · refine g_cond (b := decide ((x.setWidth 64).toNat < (y.setWidth 64 + c).toNat)) (congrArg (fun z => some (Value.bool z)) (decide_eq_decide.2 Int.ofNat_lt)) (fun h => ?_) (fun h => ?_)
      · obtain ⟨rfl, rfl⟩ := ht1 h
        (repeat refine g_seq ?_)
        refine g_region ?_
        refine g_pu rfl rfl rfl (pu_move rfl rfl) ?_
        refine g_pu rfl rfl rfl (pu_add64 (b := 4294967296#64) rfl rfl rfl) ?_
        refine g_pu rfl rfl rfl (pu_assign rfl rfl) ?_
        refine g_nil ?_
        (repeat refine g_seq ?_)
        refine g_region ?_
        refine g_pu rfl rfl rfl (pu_assign (v := b64 1#64) rfl rfl) ?_
        refine g_nil ?_
        exact g_meet () trivial ⟨rfl, rfl, rfl, rfl, rfl, rfl, rfl, rfl, trivial⟩ ⟨rfl, rfl, rfl, rfl, trivial⟩
      · obtain ⟨rfl, rfl⟩ := ht0 h
        refine g_skip ?_
        exact g_meet () trivial ⟨rfl, rfl, rfl, rfl, rfl, rfl, rfl, rfl, trivial⟩ ⟨rfl, rfl, rfl, rfl, trivial⟩
    · intro _ _
      (repeat refine g_seq ?_)
      refine g_region ?_
      refine g_pu rfl rfl rfl (pu_move rfl rfl) ?_
      refine g_pu rfl rfl rfl (pu_move rfl rfl) ?_
      refine g_pu rfl rfl rfl (pu_move rfl rfl) ?_
      refine g_pu rfl rfl rfl (pu_sub64 rfl rfl rfl) ?_
      rw [← hs]
      refine g_pu rfl rfl rfl (pu_conv64_32 rfl rfl) ?_
      refine g_pu rfl rfl rfl (pu_atA1 i rfl rfl rfl rfl hi8) ?_
      refine g_store 6 (v := b32 (s.setWidth 32)) rfl rfl rfl rfl rfl rfl rfl (by rw [ws_length]; omega) ?_
      rw [ws_set]
      refine g_nil ?_
      refine g_blk ?_
      (repeat refine g_seq ?_)
      refine g_region ?_
      refine g_pu rfl rfl rfl (pu_move rfl rfl) ?_
      refine g_pu rfl rfl rfl (pu_addI rfl rfl rfl (by omega)) ?_
      refine g_pu rfl rfl rfl (pu_assign rfl rfl) ?_
      refine g_nil ?_
      refine g_round3 (i + 1) (m.set i (s.setWidth 32)) c' ⟨by omega, by rw [List.length_set, hm8], hc', ?_⟩ (by omega) ⟨rfl, rfl, rfl, rfl, rfl, rfl, trivial⟩ ⟨rfl, rfl, rfl, rfl, trivial⟩
      rw [na, nb, Nat.pow_succ]
      omega
  · (repeat refine g_seq ?_)
    refine g_region ?_
    refine g_pu rfl rfl rfl (pu_move rfl rfl) ?_
    first | refine g_pu rfl rfl rfl (pu_lss_t rfl rfl rfl (by omega)) ?_ | refine g_pu rfl rfl rfl (pu_lss_f rfl rfl rfl (by omega)) ?_ | refine g_pu rfl rfl rfl (pu_lss rfl rfl rfl) ?_
    refine g_nil ?_
    (repeat refine g_seq ?_)
    refine g_cond_f rfl (g_exit rfl ?_)
    have e1 : i = 8 := by omega
    subst e1
    rw [List.take_of_length_le (by omega), List.take_of_length_le (by omega), List.take_of_length_le (by omega), han, hbn, show 4294967296 ^ 8 = 115792089237316195423570985008687907853269984665640564039457584007913129639936 from rfl] at hv
    have hmlt := numD8_lt hm8
    have hR : dg ((a + (115792089237316195423570985008687907853269984665640564039457584007913129639936 - b)) % 115792089237316195423570985008687907853269984665640564039457584007913129639936) = ws m := by rw [dg_of hm8]; congr 1; omega
    have hml : (ws m).length = 8 := by rw [ws_length, hm8]
    rw [hR]
    have hce : decide (c = 1#64) = decide (a < b) := by
      apply decide_eq_decide.2
      constructor
      · intro h; rw [h, show (1#64).toNat = 1 from rfl] at hv; omega
      · intro h
        apply BitVec.eq_of_toNat_eq
        rw [show (1#64).toNat = 1 from rfl]
        omega
    (repeat refine g_seq ?_)
    refine g_region ?_
    refine g_pu rfl rfl rfl (pu_loadW 6 (L := ws m) rfl rfl rfl hml) ?_
    refine g_pu rfl rfl rfl (pu_move rfl rfl) ?_
    refine g_pu rfl rfl rfl (pu_eql64 (b := 1#64) rfl rfl rfl) ?_
    rw [hce]
    refine g_storeL 4 (s := 8) (C := ws m) rfl rfl rfl rfl rfl rfl hml rfl (oneCell_ws _) ?_
    refine g_pu rfl rfl rfl (pu_assign rfl rfl) ?_
    refine g_nil ?_
    exact g_retLT 4 (L := ws m) rfl hml rfl rfl rfl (fun w' hm => ⟨(), trivial, rfl, hm.grows [] trivial rfl⟩)

theorem RNorm_b (w : World) (a : Nat) (ha : a < 115792089237316195423570985008687907853269984665640564039457584007913129639936) : Spec Try.prog 23 #[.agg (dg a).toArray] w (σ := Unit) (fun _ => True) (fun _ => .agg (dg (a % 57896044618658097711785492504343953926634992332820282019728792003956564819949)).toArray) Nob (fun _ => []) := by
  refine enter Try.func23 rfl rfl (Mem.start w) ?_
  (repeat refine g_seq ?_)
  refine g_region ?_
  refine g_lo [1] rfl rfl rfl rfl (lo_box rfl rfl) (fun b1 hb1 => ?_)
  refine g_lo [2] rfl rfl rfl rfl (lo_alloc rfl) (fun b2 hb2 => ?_)
  refine g_nil ?_
  (repeat refine g_seq ?_)
  refine g_block (g_loop (σ := Nat) (fun m => [(1, .pointer (some ⟨b1, 0, none⟩)), (2, .pointer (some ⟨b2, 0, none⟩))]) (fun m => [(1, .pt b1 (.cells (dg m).toArray 35 (0, 0))), (2, .pt b2 (.cells (ws (List.replicate 8 0#32)).toArray 35 (0, 0)))])
    (fun m => m < 115792089237316195423570985008687907853269984665640564039457584007913129639936 ∧ m % 57896044618658097711785492504343953926634992332820282019728792003956564819949 = a % 57896044618658097711785492504343953926634992332820282019728792003956564819949) (fun m => m) a ⟨rfl, rfl, trivial⟩ ⟨rfl, rfl, trivial⟩ ⟨ha, rfl⟩ ?_)
  intro m ⟨hmq, hme⟩
  (repeat refine g_seq ?_)
  refine g_block ?_
  (repeat refine g_seq ?_)
  refine g_any (7, [5]) ?_
  refine a_pu 0 rfl rfl rfl rfl (pu_loadW 1 (L := dg m) rfl rfl rfl rfl) rfl rfl (by kernel_rfl) ?_
  refine a_pendA 6 3 3 35 ?_
  refine a_do 1 7 [] (does_call rfl rfl rfl rfl rfl (fun w' hm => prime_b w')) rfl rfl (by kernel_rfl) rfl rfl (by kernel_rfl) (by kernel_rfl) (by kernel_rfl) rfl (fun p hp => by simp only [List.mem_cons, List.not_mem_nil, or_false] at hp; subst hp; first | exact does_PA rfl rfl rfl rfl | exact does_PB rfl rfl rfl rfl rfl (by decide) (by decide) rfl rfl) ?_; rintro v_ cs_ ⟨_, _, rfl, rfl⟩
  refine a_do 2 8 [] (does_call rfl rfl rfl rfl rfl (fun w' hm => minus_b w' m 57896044618658097711785492504343953926634992332820282019728792003956564819949 hmq (by decide))) rfl rfl (by kernel_rfl) rfl rfl (by kernel_rfl) (by kernel_rfl) (by kernel_rfl) rfl (fun p hp => by simp only [List.mem_cons, List.not_mem_nil, or_false] at hp; subst hp; first | exact does_PA rfl rfl rfl rfl | exact does_PB rfl rfl rfl rfl rfl (by decide) (by decide) rfl rfl) ?_; rintro v_ cs_ ⟨_, _, rfl, rfl⟩
  refine a_pu 3 rfl rfl rfl rfl (pu_move rfl rfl) rfl rfl (by kernel_rfl) ?_
  refine a_pu 4 rfl rfl rfl rfl (pu_extract rfl rfl rfl) rfl rfl (by kernel_rfl) ?_
  first | refine a_mv 5 rfl rfl rfl rfl (fun _ => (pu_extract rfl rfl rfl)) rfl rfl rfl (by kernel_rfl) (by kernel_rfl) (by kernel_rfl) rfl ?_
  refine a_force _ (by kernel_rfl) rfl rfl rfl (by kernel_rfl) (by kernel_rfl) (by kernel_rfl) rfl (fun p hp => by simp only [List.mem_cons, List.not_mem_nil, or_false] at hp; subst hp; first | exact does_PA rfl rfl rfl rfl | exact does_PB rfl rfl rfl rfl rfl (by decide) (by decide) rfl rfl) ?_; rintro v_ cs_ ⟨b3, hb3, rfl, rfl⟩
  refine a_tail [7, 8] (by kernel_rfl) rfl rfl (by kernel_rfl) ?_
  refine g_storeL 3 (s := 8) (C := dg ((m + (115792089237316195423570985008687907853269984665640564039457584007913129639936 - 57896044618658097711785492504343953926634992332820282019728792003956564819949)) % 115792089237316195423570985008687907853269984665640564039457584007913129639936)) rfl rfl rfl rfl rfl rfl rfl rfl (oneCell_dg _) ?_
  refine g_pu rfl rfl rfl (pu_assign rfl rfl) ?_
  refine g_nil ?_
  by_cases hlt : m < 57896044618658097711785492504343953926634992332820282019728792003956564819949
  · rw [decide_eq_true hlt]
    (repeat refine g_seq ?_)
    refine g_region ?_
    refine g_pu rfl rfl rfl (pu_move rfl rfl) ?_
    refine g_nil ?_
    (repeat refine g_seq ?_)
    refine g_cond_t rfl ?_
    have hR : a % 57896044618658097711785492504343953926634992332820282019728792003956564819949 = m := by rw [← hme, Nat.mod_eq_of_lt hlt]
    rw [hR]
    (repeat refine g_seq ?_)
    refine g_region ?_
    refine g_pu rfl rfl rfl (pu_loadW 1 (L := dg m) rfl rfl rfl rfl) ?_
    refine g_storeL 2 (s := 8) (C := dg m) rfl rfl rfl rfl rfl rfl rfl rfl (oneCell_dg _) ?_
    refine g_nil ?_
    exact g_retL 2 (L := dg m) rfl rfl rfl rfl (fun w' hm => ⟨(), trivial, rfl, hm.grows [] trivial rfl⟩)
  · rw [decide_eq_false hlt]
    (repeat refine g_seq ?_)
    refine g_region ?_
    refine g_pu rfl rfl rfl (pu_move rfl rfl) ?_
    refine g_nil ?_
    (repeat refine g_seq ?_)
    refine g_cond_f rfl (g_skip ?_)
    have hd : (m + (115792089237316195423570985008687907853269984665640564039457584007913129639936 - 57896044618658097711785492504343953926634992332820282019728792003956564819949)) % 115792089237316195423570985008687907853269984665640564039457584007913129639936 = m - 57896044618658097711785492504343953926634992332820282019728792003956564819949 := by omega
    rw [hd]
    (repeat refine g_seq ?_)
    refine g_region ?_
    refine g_pu rfl rfl rfl (pu_loadW 3 (L := dg (m - 57896044618658097711785492504343953926634992332820282019728792003956564819949)) rfl rfl rfl rfl) ?_
    refine g_storeL 1 (s := 8) (C := dg (m - 57896044618658097711785492504343953926634992332820282019728792003956564819949)) rfl rfl rfl rfl rfl rfl rfl rfl (oneCell_dg _) ?_
    refine g_nil ?_
    refine g_blk ?_
    exact g_round (m - 57896044618658097711785492504343953926634992332820282019728792003956564819949) ⟨by omega, by omega⟩ (by omega) ⟨rfl, rfl, trivial⟩ ⟨rfl, rfl, trivial⟩
end Go.Sx

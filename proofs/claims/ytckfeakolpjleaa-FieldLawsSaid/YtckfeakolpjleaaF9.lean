/-
  The document's sums, differences and products by eight digits. The numbers are below 2^256.
-/
import Derived.Test.YtckfeakolpjleaaF8
set_option linter.unusedVariables false
set_option linter.unusedSimpArgs false
namespace Go.Sx
open Go Go.Proofs

/-- All digits are below 2^32. -/
def Small (W : List (BitVec 64)) : Prop := ∀ a ∈ W, a.toNat < 4294967296
theorem Small.set {W : List (BitVec 64)} (h : Small W) {i : Nat} {x : BitVec 64} (hx : x.toNat < 4294967296) : Small (W.set i x) := fun a ha => by
  rcases List.mem_or_eq_of_mem_set ha with h1 | h1
  · exact h a h1
  · rw [h1]; exact hx
theorem Small.at {W : List (BitVec 64)} (h : Small W) (i : Nat) : (W.getD i 0#64).toNat < 4294967296 := by
  rw [List.getD_eq_getElem?_getD]
  cases hg : W[i]? with
  | none => decide
  | some x => exact h x (List.mem_of_getElem? hg)
theorem small_rep (k : Nat) : Small (List.replicate k 0#64) := fun a ha => by rw [List.eq_of_mem_replicate ha]; decide
theorem rem32 (x : BitVec 64) : (x % 4294967296#64).toNat = x.toNat % 4294967296 := by rw [BitVec.toNat_umod, show (4294967296#64).toNat = 4294967296 from rfl]
theorem numW_setT {l : List (BitVec 64)} {i : Nat} (x : BitVec 64) (h : i < l.length) : numW ((l.set i x).take (i + 1)) = numW (l.take i) + 4294967296 ^ i * x.toNat := by
  unfold numW
  rw [numG_take 0#64 _ i (by rw [List.length_set]; omega), List.take_set_of_le (Nat.le_refl _)]
  congr 2
  rw [List.getD_eq_getElem?_getD, List.getElem?_set_self (by omega)]; rfl
theorem numW_take {l : List (BitVec 64)} {i : Nat} (h : i < l.length) : numW (l.take (i + 1)) = numW (l.take i) + 4294967296 ^ i * (l.getD i 0#64).toNat := numG_take 0#64 l i h
theorem numD_take {l : List (BitVec 32)} {i : Nat} (h : i < l.length) : numD (l.take (i + 1)) = numD (l.take i) + 4294967296 ^ i * (l.getD i 0#32).toNat := numG_take 0#32 l i h
theorem numW_set {l : List (BitVec 64)} {i : Nat} (x : BitVec 64) (h : i < l.length) : numW (l.set i x) + 4294967296 ^ i * (l.getD i 0#64).toNat = numW l + 4294967296 ^ i * x.toNat := numG_set 0#64 l i x h
theorem numW_split (l : List (BitVec 64)) (i : Nat) : numW l = numW (l.take i) + 4294967296 ^ i * numW (l.drop i) := numG_split l i
theorem numW_zero {l : List (BitVec 64)} (h : ∀ k, l.getD k 0#64 = 0#64) : numW l = 0 := numG_zero 0#64 rfl (fun k => by rw [h k]; rfl)
theorem numW_lt {l : List (BitVec 64)} (h : Small l) : numW l < 4294967296 ^ l.length := numG_lt (by decide) h
theorem getD_drop (l : List (BitVec 64)) (i k : Nat) : (l.drop i).getD k 0#64 = l.getD (i + k) 0#64 := by
  rw [List.getD_eq_getElem?_getD, List.getD_eq_getElem?_getD, List.getElem?_drop]
theorem cstepW {P V V' x' t c' : Nat} (hset : V' = V + P * x') (h : x' + 4294967296 * c' = t) : V' + P * 4294967296 * c' = V + P * t := by
  have h2 : P * (x' + 4294967296 * c') = P * t := by rw [h]
  rw [Nat.mul_add] at h2
  rw [Nat.mul_assoc]
  omega
/-- A sum's low digit and carry. -/
theorem carry_eq (x : BitVec 64) : (x % 4294967296#64).toNat + 4294967296 * (x >>> 32).toNat = x.toNat := by
  rw [rem32, shr32']; omega

theorem high_b (w : World) (W : List (BitVec 64)) (hW : W.length = 17) : Spec Try.prog 52 #[.agg (qs W).toArray] w (σ := Unit) (fun _ => True) (fun _ => .bool (decide (numW (W.drop 8) ≠ 0))) Nob (fun _ => []) := by
  refine enter Try.func52 rfl rfl (Mem.start w) ?_
  (repeat refine g_seq ?_)
  refine g_region ?_
  refine g_lo [1] rfl rfl rfl rfl (lo_box rfl rfl) (fun b1 hb1 => ?_)
  refine g_pu rfl rfl rfl (pu_assign rfl rfl) ?_
  refine g_nil ?_
  (repeat refine g_seq ?_)
  refine g_region ?_
  refine g_pu rfl rfl rfl (pu_assign rfl rfl) ?_
  refine g_nil ?_
  (repeat refine g_seq ?_)
  refine g_block (g_loop (σ := Nat) (fun i => [(1, .pointer (some ⟨b1, 0, none⟩)), (3, .int .i64 (i : Int))]) (fun i => [(1, .pt b1 (.cells (qs W).toArray 73 (0, 0)))]) (fun i => 8 ≤ i ∧ i ≤ 17 ∧ ∀ k, 8 ≤ k → k < i → W.getD k 0#64 = 0#64) (fun i => 17 - i) 8 ⟨rfl, rfl, trivial⟩ ⟨rfl, trivial⟩ ⟨by omega, by omega, fun k h1 h2 => by omega⟩ ?_)
  intro i ⟨h8, hi, hz⟩
  by_cases hlt : i < 17
  · (repeat refine g_seq ?_)
    refine g_region ?_
    refine g_pu rfl rfl rfl (pu_move rfl rfl) ?_
    first | refine g_pu rfl rfl rfl (pu_lss_t rfl rfl rfl (by omega)) ?_ | refine g_pu rfl rfl rfl (pu_lss_f rfl rfl rfl (by omega)) ?_ | refine g_pu rfl rfl rfl (pu_lss rfl rfl rfl) ?_
    refine g_nil ?_
    (repeat refine g_seq ?_)
    refine g_cond_t rfl (g_skip ?_)
    have hg := getDq (l := W) (i := i) (by omega)
    generalize hx : W.getD i 0#64 = x at hg
    (repeat refine g_seq ?_)
    refine g_block ?_
    by_cases h0 : 0 < x.toNat
    · have hne : numW (W.drop 8) ≠ 0 := numG_pos 0#64 (by decide) (i := i - 8) (by rw [List.length_drop]; omega) (by rw [getD_drop, show 8 + (i - 8) = i by omega, hx]; omega)
      (repeat refine g_seq ?_)
      refine g_region ?_
      refine g_pu rfl rfl rfl (pu_move rfl rfl) ?_
      refine g_pu rfl rfl rfl (pu_atA1 i rfl rfl rfl rfl hlt) ?_
      refine g_pu rfl rfl rfl (pu_load 1 (v := b64 x) rfl rfl rfl (qs_load hg)) ?_
      refine g_pu rfl rfl rfl (pu_gtr_t rfl rfl rfl (by omega)) ?_
      refine g_nil ?_
      (repeat refine g_seq ?_)
      refine g_cond_t rfl ?_
      (repeat refine g_seq ?_)
      refine g_region ?_
      refine g_pu rfl rfl rfl (pu_assign rfl rfl) ?_
      refine g_nil ?_
      exact g_ret1 rfl rfl (fun w' hm => ⟨(), trivial, by rw [decide_eq_true hne], hm.grows [] trivial rfl⟩)
    · (repeat refine g_seq ?_)
      refine g_region ?_
      refine g_pu rfl rfl rfl (pu_move rfl rfl) ?_
      refine g_pu rfl rfl rfl (pu_atA1 i rfl rfl rfl rfl hlt) ?_
      refine g_pu rfl rfl rfl (pu_load 1 (v := b64 x) rfl rfl rfl (qs_load hg)) ?_
      refine g_pu rfl rfl rfl (pu_gtr_f rfl rfl rfl (by omega)) ?_
      refine g_nil ?_
      (repeat refine g_seq ?_)
      refine g_cond_f rfl (g_skip ?_)
      refine g_blk ?_
      (repeat refine g_seq ?_)
      refine g_region ?_
      refine g_pu rfl rfl rfl (pu_move rfl rfl) ?_
      refine g_pu rfl rfl rfl (pu_addI rfl rfl rfl (by omega)) ?_
      refine g_pu rfl rfl rfl (pu_assign rfl rfl) ?_
      refine g_nil ?_
      refine g_round (i + 1) ⟨by omega, by omega, fun k h1 h2 => ?_⟩ (by omega) ⟨rfl, rfl, trivial⟩ ⟨rfl, trivial⟩
      by_cases hk : k = i
      · rw [hk, hx]; apply BitVec.eq_of_toNat_eq; rw [show (0#64).toNat = 0 from rfl]; omega
      · exact hz k h1 (by omega)
  · (repeat refine g_seq ?_)
    refine g_region ?_
    refine g_pu rfl rfl rfl (pu_move rfl rfl) ?_
    first | refine g_pu rfl rfl rfl (pu_lss_t rfl rfl rfl (by omega)) ?_ | refine g_pu rfl rfl rfl (pu_lss_f rfl rfl rfl (by omega)) ?_ | refine g_pu rfl rfl rfl (pu_lss rfl rfl rfl) ?_
    refine g_nil ?_
    (repeat refine g_seq ?_)
    refine g_cond_f rfl (g_exit rfl ?_)
    have hne : numW (W.drop 8) = 0 := numW_zero fun k => by
      rw [getD_drop]
      by_cases hk : 8 + k < i
      · exact hz _ (by omega) hk
      · rw [List.getD_eq_getElem?_getD, List.getElem?_eq_none (by omega)]; rfl
    (repeat refine g_seq ?_)
    refine g_region ?_
    refine g_pu rfl rfl rfl (pu_assign rfl rfl) ?_
    refine g_nil ?_
    exact g_ret1 rfl rfl (fun w' hm => ⟨(), trivial, by rw [decide_eq_false (fun h => h hne)], hm.grows [] trivial rfl⟩)

theorem zeros17 : Value.cells (.agg (qs (List.replicate 17 0#64)).toArray) = (qs (List.replicate 17 0#64)).toArray := rfl
theorem getD_rep (n k : Nat) : (List.replicate n 0#64).getD k 0#64 = 0#64 := by
  rw [List.getD_eq_getElem?_getD, List.getElem?_replicate]; split <;> rfl

theorem folded_b (w : World) (W : List (BitVec 64)) (hW : W.length = 17) (hs : Small W) : Spec Try.prog 40 #[.agg (qs W).toArray] w (σ := Unit) (fun _ => True) (fun _ => .agg (dg (numW W % 57896044618658097711785492504343953926634992332820282019728792003956564819949)).toArray) Nob (fun _ => []) := by
  refine enter Try.func40 rfl rfl (Mem.start w) ?_
  (repeat refine g_seq ?_)
  refine g_region ?_
  refine g_lo [1] rfl rfl rfl rfl (lo_box rfl rfl) (fun b1 hb1 => ?_)
  refine g_lo [2] rfl rfl rfl rfl (lo_alloc rfl) (fun b2 hb2 => ?_)
  refine g_nil ?_
  (repeat refine g_seq ?_)
  refine g_block (g_loop (σ := List (BitVec 64)) (fun V => [(1, .pointer (some ⟨b1, 0, none⟩)), (2, .pointer (some ⟨b2, 0, none⟩))]) (fun V => [(1, .pt b1 (.cells (qs V).toArray 73 (0, 0))), (2, .pt b2 (.cells (ws (List.replicate 8 0#32)).toArray 35 (0, 0)))])
    (fun V => V.length = 17 ∧ Small V ∧ numW V % 57896044618658097711785492504343953926634992332820282019728792003956564819949 = numW W % 57896044618658097711785492504343953926634992332820282019728792003956564819949) (fun V => numW V) W ⟨rfl, rfl, trivial⟩ ⟨rfl, rfl, trivial⟩ ⟨hW, hs, rfl⟩ ?_)
  intro V ⟨hV, hVs, hVe⟩
  have hql : (qs V).length = 17 := by rw [qs_length, hV]
  have hsp := numW_split V 8
  rw [show 4294967296 ^ 8 = 115792089237316195423570985008687907853269984665640564039457584007913129639936 from rfl] at hsp
  have hlo : numW (V.take 8) < 115792089237316195423570985008687907853269984665640564039457584007913129639936 := by
    have := numW_lt (l := V.take 8) (fun a ha => hVs a (List.mem_of_mem_take ha))
    rwa [List.length_take, hV] at this
  by_cases hh : numW (V.drop 8) = 0
  · (repeat refine g_seq ?_)
    refine g_region ?_
    refine g_pu rfl rfl rfl (pu_loadW 1 (L := qs V) rfl rfl rfl hql) ?_
    refine g_call [] rfl rfl rfl rfl rfl rfl (fun w' hm => high_b w' V hV) (fun _ _ => ?_)
    rw [decide_eq_false (fun h => h hh)]
    refine g_nil ?_
    (repeat refine g_seq ?_)
    refine g_cond_f rfl (g_exit rfl ?_)
    have hVlt : numW V < 115792089237316195423570985008687907853269984665640564039457584007913129639936 := by rw [hsp, hh]; omega
    have hfl := digs_length 8 (numW V)
    have hd : ∀ i, i < 8 → (digs 8 (numW V))[i]? = some (BitVec.ofNat 32 (numW V / 4294967296 ^ i)) := fun i hi => digs_get hi
    have hdig : ∀ i, i < 8 → (V.getD i 0#64).setWidth 32 = BitVec.ofNat 32 (numW V / 4294967296 ^ i) := fun i hi => by
      have h1 := numG_digit (v := BitVec.toNat) (B := 4294967296) 0#64 (by decide) hVs (show i < V.length by omega)
      apply BitVec.eq_of_toNat_eq
      rw [BitVec.toNat_setWidth, h1, BitVec.toNat_ofNat]
      show numW V / 4294967296 ^ i % 4294967296 % 2 ^ 32 = _
      omega
    rw [← hVe]
    have hdg : dg (numW V) = ws (digs 8 (numW V)) := rfl
    generalize hN : digs 8 (numW V) = full at *
    (repeat refine g_seq ?_)
    refine g_region ?_
    refine g_lo [6] rfl rfl rfl rfl (lo_alloc rfl) (fun b6 hb6 => ?_)
    refine g_nil ?_
    (repeat refine g_seq ?_)
    refine g_region ?_
    refine g_pu rfl rfl rfl (pu_assign rfl rfl) ?_
    refine g_nil ?_
    (repeat refine g_seq ?_)
    refine g_block (g_loop (σ := Nat) (fun (i : Nat) => [(1, .pointer (some ⟨b1, 0, none⟩)), (2, .pointer (some ⟨b2, 0, none⟩)), (6, .pointer (some ⟨b6, 0, none⟩)), (7, .int .i64 (i : Int))]) (fun i => [(1, .pt b1 (.cells (qs V).toArray 73 (0, 0))), (2, .pt b2 (.cells (ws (List.replicate 8 0#32)).toArray 35 (0, 0))), (6, .pt b6 (.cells (ws (fillW 0#32 full i)).toArray 35 (0, 0)))])
      (fun i => i ≤ 8) (fun i => 8 - i) 0 ⟨rfl, rfl, rfl, rfl, trivial⟩ ⟨rfl, rfl, by unfold fillW; rw [List.take_zero, hfl]; rfl, trivial⟩ (by omega) ?_)
    intro i hi
    by_cases hlt : i < 8
    · (repeat refine g_seq ?_)
      refine g_region ?_
      refine g_pu rfl rfl rfl (pu_move rfl rfl) ?_
      first | refine g_pu rfl rfl rfl (pu_lss_t rfl rfl rfl (by omega)) ?_ | refine g_pu rfl rfl rfl (pu_lss_f rfl rfl rfl (by omega)) ?_ | refine g_pu rfl rfl rfl (pu_lss rfl rfl rfl) ?_
      refine g_nil ?_
      (repeat refine g_seq ?_)
      refine g_cond_t rfl (g_skip ?_)
      have h1 := getDq (l := V) (i := i) (by omega)
      have h2 := hdig i hlt
      have h3 := hd i hlt
      generalize V.getD i 0#64 = x at h1 h2
      (repeat refine g_seq ?_); refine g_block ?_
      (repeat refine g_seq ?_)
      refine g_region ?_
      refine g_pu rfl rfl rfl (pu_move rfl rfl) ?_
      refine g_pu rfl rfl rfl (pu_move rfl rfl) ?_
      refine g_pu rfl rfl rfl (pu_atA1 i rfl rfl rfl rfl (by omega)) ?_
      refine g_pu rfl rfl rfl (pu_load 1 (v := b64 x) rfl rfl rfl (qs_load h1)) ?_
      refine g_pu rfl rfl rfl (pu_conv64_32 rfl rfl) ?_
      rw [h2]
      refine g_pu rfl rfl rfl (pu_atA1 i rfl rfl rfl rfl hlt) ?_
      refine g_store 6 (v := b32 (BitVec.ofNat 32 (numW V / 4294967296 ^ i))) rfl rfl rfl rfl rfl rfl rfl (by rw [ws_length, fillW_length]; omega) ?_
      rw [ws_set, fillW_set h3]
      refine g_nil ?_
      refine g_blk ?_
      (repeat refine g_seq ?_)
      refine g_region ?_
      refine g_pu rfl rfl rfl (pu_move rfl rfl) ?_
      refine g_pu rfl rfl rfl (pu_addI rfl rfl rfl (by omega)) ?_
      refine g_pu rfl rfl rfl (pu_assign rfl rfl) ?_
      refine g_nil ?_
      exact g_round (i + 1) (by omega) (by omega) ⟨rfl, rfl, rfl, rfl, trivial⟩ ⟨rfl, rfl, rfl, trivial⟩
    · (repeat refine g_seq ?_)
      refine g_region ?_
      refine g_pu rfl rfl rfl (pu_move rfl rfl) ?_
      first | refine g_pu rfl rfl rfl (pu_lss_t rfl rfl rfl (by omega)) ?_ | refine g_pu rfl rfl rfl (pu_lss_f rfl rfl rfl (by omega)) ?_ | refine g_pu rfl rfl rfl (pu_lss rfl rfl rfl) ?_
      refine g_nil ?_
      (repeat refine g_seq ?_)
      refine g_cond_f rfl (g_exit rfl ?_)
      have e1 : i = full.length := by omega
      rw [e1, fillW_end, ← hdg]
      (repeat refine g_seq ?_)
      refine g_region ?_
      refine g_pu rfl rfl rfl (pu_loadW 6 (L := dg (numW V)) rfl rfl rfl rfl) ?_
      refine g_call [] rfl rfl rfl rfl rfl rfl (fun w' hm => RNorm_b w' _ hVlt) (fun _ _ => ?_)
      refine g_storeL 2 (s := 8) (C := dg (numW V % 57896044618658097711785492504343953926634992332820282019728792003956564819949)) rfl rfl rfl rfl rfl rfl rfl rfl (oneCell_dg _) ?_
      refine g_nil ?_
      exact g_retL 2 (L := dg (numW V % 57896044618658097711785492504343953926634992332820282019728792003956564819949)) rfl rfl rfl rfl (fun w' hm => ⟨(), trivial, rfl, hm.grows [] trivial rfl⟩)
  · (repeat refine g_seq ?_)
    refine g_region ?_
    refine g_pu rfl rfl rfl (pu_loadW 1 (L := qs V) rfl rfl rfl hql) ?_
    refine g_call [] rfl rfl rfl rfl rfl rfl (fun w' hm => high_b w' V hV) (fun _ _ => ?_)
    rw [decide_eq_true hh]
    refine g_nil ?_
    (repeat refine g_seq ?_)
    refine g_cond_t rfl (g_skip ?_)
    (repeat refine g_seq ?_); refine g_block ?_
    (repeat refine g_seq ?_)
    refine g_region ?_
    refine g_lo [3] rfl rfl rfl rfl (lo_alloc rfl) (fun b3 hb3 => ?_)
    refine g_nil ?_
    (repeat refine g_seq ?_)
    refine g_region ?_
    refine g_pu rfl rfl rfl (pu_assign (v := b64 0#64) rfl rfl) ?_
    refine g_nil ?_
    (repeat refine g_seq ?_)
    refine g_region ?_
    refine g_pu rfl rfl rfl (pu_assign rfl rfl) ?_
    refine g_nil ?_
    (repeat refine g_seq ?_)
    refine g_block (g_loop3 (fun (i : Nat) (X : List (BitVec 64)) (c : BitVec 64) => [(1, .pointer (some ⟨b1, 0, none⟩)), (2, .pointer (some ⟨b2, 0, none⟩)), (3, .pointer (some ⟨b3, 0, none⟩)), (4, b64 c), (5, .int .i64 (i : Int))]) (fun i X c => [(1, .pt b1 (.cells (qs V).toArray 73 (0, 0))), (2, .pt b2 (.cells (ws (List.replicate 8 0#32)).toArray 35 (0, 0))), (3, .pt b3 (.cells (qs X).toArray 73 (0, 0)))])
      (fun i X c => i ≤ 9 ∧ X.length = 17 ∧ Small X ∧ (∀ k, i ≤ k → X.getD k 0#64 = 0#64) ∧ c.toNat ≤ 40 ∧ numW (X.take i) + 4294967296 ^ i * c.toNat = numW ((V.take 8).take i) + 38 * numW ((V.drop 8).take i)) (fun i _ _ => 9 - i) 0 (List.replicate 17 0#64) 0#64 ⟨rfl, rfl, rfl, rfl, rfl, trivial⟩ ⟨rfl, rfl, rfl, trivial⟩ ⟨by omega, rfl, small_rep 17, fun k _ => getD_rep 17 k, by decide, rfl⟩ ?_)
    intro i X c ⟨hi, hX, hXs, hXz, hc, hv⟩
    by_cases hlt : i < 9
    · (repeat refine g_seq ?_)
      refine g_region ?_
      refine g_pu rfl rfl rfl (pu_move rfl rfl) ?_
      first | refine g_pu rfl rfl rfl (pu_lss_t rfl rfl rfl (by omega)) ?_ | refine g_pu rfl rfl rfl (pu_lss_f rfl rfl rfl (by omega)) ?_ | refine g_pu rfl rfl rfl (pu_lss rfl rfl rfl) ?_
      refine g_nil ?_
      (repeat refine g_seq ?_)
      refine g_cond_t rfl (g_skip ?_)
      have gh := getDq (l := V) (i := i + 8) (by omega)
      have hhs := hVs.at (i + 8)
      have nh : numW ((V.drop 8).take (i + 1)) = numW ((V.drop 8).take i) + 4294967296 ^ i * (V.getD (i + 8) 0#64).toNat := by
        rw [numW_take (by rw [List.length_drop]; omega), getD_drop, Nat.add_comm 8]
      generalize V.getD (i + 8) 0#64 = y at gh hhs nh
      (repeat refine g_seq ?_); refine g_block ?_
      (repeat refine g_seq ?_)
      refine g_region ?_
      refine g_pu rfl rfl rfl (pu_move rfl rfl) ?_
      refine g_pu rfl rfl rfl (pu_lss rfl rfl rfl) ?_
      refine g_nil ?_
      refine g_join (σ := BitVec 64) (fun d => [(1, .pointer (some ⟨b1, 0, none⟩)), (2, .pointer (some ⟨b2, 0, none⟩)), (3, .pointer (some ⟨b3, 0, none⟩)), (4, b64 d), (5, .int .i64 (i : Int))]) (fun d => [(1, .pt b1 (.cells (qs V).toArray 73 (0, 0))), (2, .pt b2 (.cells (ws (List.replicate 8 0#32)).toArray 35 (0, 0))), (3, .pt b3 (.cells (qs X).toArray 73 (0, 0)))]) (fun d => d.toNat ≤ 40 + 4294967295 ∧ numW ((V.take 8).take (i + 1)) + 4294967296 ^ i * c.toNat = numW ((V.take 8).take i) + 4294967296 ^ i * d.toNat) ?_ ?_
      · by_cases h8 : i < 8
        · refine g_cond_t (congrArg (fun z => some (Value.bool z)) (decide_eq_true (by omega))) ?_
          have gl := getDq (l := V) (i := i) (by omega)
          have hls := hVs.at i
          have nl : numW ((V.take 8).take (i + 1)) = numW ((V.take 8).take i) + 4294967296 ^ i * (V.getD i 0#64).toNat := by
            rw [numW_take (by rw [List.length_take]; omega)]
            congr 3
            rw [List.getD_eq_getElem?_getD, List.getD_eq_getElem?_getD, List.getElem?_take, if_pos h8]
          generalize V.getD i 0#64 = x at gl hls nl
          (repeat refine g_seq ?_)
          refine g_region ?_
          refine g_pu rfl rfl rfl (pu_move rfl rfl) ?_
          refine g_pu rfl rfl rfl (pu_move rfl rfl) ?_
          refine g_pu rfl rfl rfl (pu_atA1 i rfl rfl rfl rfl (by omega)) ?_
          refine g_pu rfl rfl rfl (pu_load 1 (v := b64 x) rfl rfl rfl (qs_load gl)) ?_
          refine g_pu rfl rfl rfl (pu_add64 rfl rfl rfl) ?_
          refine g_pu rfl rfl rfl (pu_assign rfl rfl) ?_
          refine g_nil ?_
          have hd : (c + x).toNat = c.toNat + x.toNat := by rw [BitVec.toNat_add]; omega
          refine g_meet (c + x) ⟨by omega, ?_⟩ ⟨rfl, rfl, rfl, rfl, rfl, trivial⟩ ⟨rfl, rfl, rfl, trivial⟩
          rw [nl, hd, Nat.mul_add]
          omega
        · refine g_cond_f (congrArg (fun z => some (Value.bool z)) (decide_eq_false (by omega))) ?_
          refine g_skip ?_
          refine g_meet c ⟨by omega, ?_⟩ ⟨rfl, rfl, rfl, rfl, rfl, trivial⟩ ⟨rfl, rfl, rfl, trivial⟩
          rw [List.take_of_length_le (show (V.take 8).length ≤ i + 1 by rw [List.length_take]; omega), List.take_of_length_le (show (V.take 8).length ≤ i by rw [List.length_take]; omega)]
      · intro d ⟨hd, hdv⟩
        have h38 : (38#64 * y).toNat = 38 * y.toNat := by rw [BitVec.toNat_mul, show (38#64).toNat = 38 from rfl]; omega
        have hsum : (d + 38#64 * y).toNat = d.toNat + 38 * y.toNat := by rw [BitVec.toNat_add, h38]; omega
        have hce := carry_eq (d + 38#64 * y)
        have hrs : ((d + 38#64 * y) % 4294967296#64).toNat < 4294967296 := by rw [rem32]; omega
        have st := cstepW (numW_setT (l := X) (i := i) ((d + 38#64 * y) % 4294967296#64) (by omega)) hce
        have hc2 : ((d + 38#64 * y) >>> 32).toNat ≤ 40 := by rw [shr32', hsum]; omega
        rw [hsum] at st
        (repeat refine g_seq ?_)
        refine g_region ?_
        refine g_pu rfl rfl rfl (pu_move rfl rfl) ?_
        refine g_pu rfl rfl rfl (pu_move rfl rfl) ?_
        refine g_pu rfl rfl rfl (pu_addI rfl rfl rfl (by omega)) ?_
        refine g_pu rfl rfl rfl (pu_atA1 (i + 8) rfl rfl rfl (by omega) (by omega)) ?_
        refine g_pu rfl rfl rfl (pu_load 1 (v := b64 y) rfl rfl rfl (qs_load gh)) ?_
        refine g_pu rfl rfl rfl (pu_mul64 (a := 38#64) rfl rfl rfl) ?_
        refine g_pu rfl rfl rfl (pu_add64 rfl rfl rfl) ?_
        refine g_pu rfl rfl rfl (pu_assign rfl rfl) ?_
        refine g_nil ?_
        (repeat refine g_seq ?_)
        refine g_region ?_
        refine g_pu rfl rfl rfl (pu_move rfl rfl) ?_
        refine g_pu rfl rfl rfl (pu_move rfl rfl) ?_
        refine g_pu rfl rfl rfl (pu_rem64 (b := 4294967296#64) rfl rfl rfl (by decide)) ?_
        refine g_pu rfl rfl rfl (pu_atA1 i rfl rfl rfl rfl (by omega)) ?_
        refine g_store 3 (v := b64 ((d + 38#64 * y) % 4294967296#64)) rfl rfl rfl rfl rfl rfl rfl (by rw [qs_length]; omega) ?_
        rw [qs_set]
        refine g_nil ?_
        (repeat refine g_seq ?_)
        refine g_region ?_
        refine g_pu rfl rfl rfl (pu_move rfl rfl) ?_
        refine g_pu rfl rfl rfl (pu_shr64 rfl rfl rfl (by omega)) ?_
        refine g_pu rfl rfl rfl (pu_assign rfl rfl) ?_
        refine g_nil ?_
        refine g_blk ?_
        (repeat refine g_seq ?_)
        refine g_region ?_
        refine g_pu rfl rfl rfl (pu_move rfl rfl) ?_
        refine g_pu rfl rfl rfl (pu_addI rfl rfl rfl (by omega)) ?_
        refine g_pu rfl rfl rfl (pu_assign rfl rfl) ?_
        refine g_nil ?_
        refine g_round3 (i + 1) (X.set i ((d + 38#64 * y) % 4294967296#64)) ((d + 38#64 * y) >>> 32) ⟨by omega, by rw [List.length_set, hX], hXs.set hrs, fun k hk => by rw [getD_set _ _ _ _ (by omega)]; exact hXz k (by omega), hc2, ?_⟩ (by omega) ⟨rfl, rfl, rfl, rfl, rfl, trivial⟩ ⟨rfl, rfl, rfl, trivial⟩
        rw [Nat.pow_succ, st, nh, Nat.mul_add, Nat.mul_add]
        have e2 : 4294967296 ^ i * (38 * y.toNat) = 38 * (4294967296 ^ i * y.toNat) := by rw [Nat.mul_left_comm]
        rw [e2]
        omega
    · (repeat refine g_seq ?_)
      refine g_region ?_
      refine g_pu rfl rfl rfl (pu_move rfl rfl) ?_
      first | refine g_pu rfl rfl rfl (pu_lss_t rfl rfl rfl (by omega)) ?_ | refine g_pu rfl rfl rfl (pu_lss_f rfl rfl rfl (by omega)) ?_ | refine g_pu rfl rfl rfl (pu_lss rfl rfl rfl) ?_
      refine g_nil ?_
      (repeat refine g_seq ?_)
      refine g_cond_f rfl (g_exit rfl ?_)
      have e1 : i = 9 := by omega
      subst e1
      rw [List.take_of_length_le (show (V.take 8).length ≤ 9 by rw [List.length_take]; omega), List.take_of_length_le (show (V.drop 8).length ≤ 9 by rw [List.length_drop]; omega)] at hv
      have hz9 : numW ((X.set 9 c).drop 10) = 0 := numW_zero fun k => by
        rw [getD_drop, getD_set _ _ _ _ (by omega)]
        exact hXz _ (by omega)
      have hsp2 := numW_split (X.set 9 c) 10
      rw [hz9, numW_setT c (show 9 < X.length by omega), Nat.mul_zero, Nat.add_zero, hv] at hsp2
      have hql2 : (qs (X.set 9 c)).length = 17 := by rw [qs_length, List.length_set, hX]
      (repeat refine g_seq ?_)
      refine g_region ?_
      refine g_pu rfl rfl rfl (pu_move rfl rfl) ?_
      refine g_pu rfl rfl rfl (pu_atA1 9 rfl rfl rfl rfl (by omega)) ?_
      refine g_store 3 (v := b64 c) rfl rfl rfl rfl rfl rfl rfl (by rw [qs_length]; omega) ?_
      rw [qs_set]
      refine g_nil ?_
      (repeat refine g_seq ?_)
      refine g_region ?_
      refine g_pu rfl rfl rfl (pu_loadW 3 (L := qs (X.set 9 c)) rfl rfl rfl hql2) ?_
      refine g_storeL 1 (s := 17) (C := qs (X.set 9 c)) rfl rfl rfl rfl rfl rfl hql2 hql (oneCell_qs _) ?_
      refine g_nil ?_
      refine g_blk ?_
      exact g_round (X.set 9 c) ⟨by rw [List.length_set, hX], hXs.set (by omega), by omega⟩ (by omega) ⟨rfl, rfl, trivial⟩ ⟨rfl, rfl, trivial⟩

theorem RAdd_b (w : World) (a b : Nat) (ha : a < 115792089237316195423570985008687907853269984665640564039457584007913129639936) (hb : b < 115792089237316195423570985008687907853269984665640564039457584007913129639936) : Spec Try.prog 29 #[.agg (dg a).toArray, .agg (dg b).toArray] w (σ := Unit) (fun _ => True) (fun _ => .agg (dg ((a + b) % 57896044618658097711785492504343953926634992332820282019728792003956564819949)).toArray) Nob (fun _ => []) := by
  refine enter Try.func29 rfl rfl (Mem.start w) ?_
  have han := dg_num ha
  have hbn := dg_num hb
  have hal := digs_length 8 a
  have hbl := digs_length 8 b
  have hA : dg a = ws (digs 8 a) := rfl
  have hB : dg b = ws (digs 8 b) := rfl
  rw [hA, hB]
  generalize digs 8 a = A at *
  generalize digs 8 b = B at *
  (repeat refine g_seq ?_)
  refine g_region ?_
  refine g_lo [2] rfl rfl rfl rfl (lo_box rfl rfl) (fun b2 hb2 => ?_)
  refine g_lo [3] rfl rfl rfl rfl (lo_box rfl rfl) (fun b3 hb3 => ?_)
  refine g_lo [4] rfl rfl rfl rfl (lo_alloc rfl) (fun b4 hb4 => ?_)
  refine g_nil ?_
  (repeat refine g_seq ?_)
  refine g_region ?_
  refine g_lo [5] rfl rfl rfl rfl (lo_alloc rfl) (fun b5 hb5 => ?_)
  refine g_nil ?_
  (repeat refine g_seq ?_)
  refine g_region ?_
  refine g_pu rfl rfl rfl (pu_assign (v := b64 0#64) rfl rfl) ?_
  refine g_nil ?_
  (repeat refine g_seq ?_)
  refine g_region ?_
  refine g_pu rfl rfl rfl (pu_assign rfl rfl) ?_
  refine g_nil ?_
  (repeat refine g_seq ?_)
  refine g_block (g_loop3 (fun (i : Nat) (X : List (BitVec 64)) (c : BitVec 64) => [(2, .pointer (some ⟨b2, 0, none⟩)), (3, .pointer (some ⟨b3, 0, none⟩)), (4, .pointer (some ⟨b4, 0, none⟩)), (5, .pointer (some ⟨b5, 0, none⟩)), (6, b64 c), (7, .int .i64 (i : Int))]) (fun i X c => [(2, .pt b2 (.cells (ws A).toArray 35 (0, 0))), (3, .pt b3 (.cells (ws B).toArray 35 (0, 0))), (4, .pt b4 (.cells (ws (List.replicate 8 0#32)).toArray 35 (0, 0))), (5, .pt b5 (.cells (qs X).toArray 73 (0, 0)))])
    (fun i X c => i ≤ 8 ∧ X.length = 17 ∧ Small X ∧ (∀ k, i ≤ k → X.getD k 0#64 = 0#64) ∧ c.toNat ≤ 1 ∧ numW (X.take i) + 4294967296 ^ i * c.toNat = numD (A.take i) + numD (B.take i)) (fun i _ _ => 8 - i) 0 (List.replicate 17 0#64) 0#64 ⟨rfl, rfl, rfl, rfl, rfl, rfl, trivial⟩ ⟨rfl, rfl, rfl, rfl, trivial⟩ ⟨by omega, rfl, small_rep 17, fun k _ => getD_rep 17 k, by decide, rfl⟩ ?_)
  intro i X c ⟨hi, hX, hXs, hXz, hc, hv⟩
  by_cases hlt : i < 8
  · (repeat refine g_seq ?_)
    refine g_region ?_
    refine g_pu rfl rfl rfl (pu_move rfl rfl) ?_
    first | refine g_pu rfl rfl rfl (pu_lss_t rfl rfl rfl (by omega)) ?_ | refine g_pu rfl rfl rfl (pu_lss_f rfl rfl rfl (by omega)) ?_ | refine g_pu rfl rfl rfl (pu_lss rfl rfl rfl) ?_
    refine g_nil ?_
    (repeat refine g_seq ?_)
    refine g_cond_t rfl (g_skip ?_)
    have ga := getDd (l := A) (i := i) (by omega)
    have gb := getDd (l := B) (i := i) (by omega)
    have na := numD_take (l := A) (i := i) (by omega)
    have nb := numD_take (l := B) (i := i) (by omega)
    generalize A.getD i 0#32 = x at ga na
    generalize B.getD i 0#32 = y at gb nb
    have hx := x.isLt
    have hy := y.isLt
    have hsum : (c + x.setWidth 64 + y.setWidth 64).toNat = c.toNat + x.toNat + y.toNat := by
      rw [BitVec.toNat_add, BitVec.toNat_add, BitVec.toNat_setWidth, BitVec.toNat_setWidth]; omega
    have hce := carry_eq (c + x.setWidth 64 + y.setWidth 64)
    have hrs : ((c + x.setWidth 64 + y.setWidth 64) % 4294967296#64).toNat < 4294967296 := by rw [rem32]; omega
    have hc2 : ((c + x.setWidth 64 + y.setWidth 64) >>> 32).toNat ≤ 1 := by rw [shr32', hsum]; omega
    have st := cstepW (numW_setT (l := X) (i := i) ((c + x.setWidth 64 + y.setWidth 64) % 4294967296#64) (by omega)) hce
    rw [hsum] at st
    generalize hS : c + x.setWidth 64 + y.setWidth 64 = s at *
    (repeat refine g_seq ?_); refine g_block ?_
    (repeat refine g_seq ?_)
    refine g_any (12, []) ?_
    refine a_pu 0 rfl rfl rfl rfl (pu_move rfl rfl) rfl rfl (by kernel_rfl) ?_
    refine a_pu 1 rfl rfl rfl rfl (pu_move rfl rfl) rfl rfl (by kernel_rfl) ?_
    refine a_pu 2 rfl rfl rfl rfl (pu_atA1 i rfl rfl rfl rfl hlt) rfl rfl (by kernel_rfl) ?_
    refine a_pu 3 rfl rfl rfl rfl (pu_load 2 (v := b32 x) rfl rfl rfl (ws_load ga)) rfl rfl (by kernel_rfl) ?_
    refine a_pu 4 rfl rfl rfl rfl (pu_conv32_64 rfl rfl) rfl rfl (by kernel_rfl) ?_
    refine a_pu 5 rfl rfl rfl rfl (pu_add64 rfl rfl rfl) rfl rfl (by kernel_rfl) ?_
    refine a_pu 6 rfl rfl rfl rfl (pu_move rfl rfl) rfl rfl (by kernel_rfl) ?_
    refine a_pu 7 rfl rfl rfl rfl (pu_atA1 i rfl rfl rfl rfl hlt) rfl rfl (by kernel_rfl) ?_
    refine a_pu 8 rfl rfl rfl rfl (pu_load 3 (v := b32 y) rfl rfl rfl (ws_load gb)) rfl rfl (by kernel_rfl) ?_
    refine a_pu 9 rfl rfl rfl rfl (pu_conv32_64 rfl rfl) rfl rfl (by kernel_rfl) ?_
    refine a_pu 10 rfl rfl rfl rfl (pu_add64 rfl rfl rfl) rfl rfl (by kernel_rfl) ?_
    rw [hS]
    refine a_pu 11 rfl rfl rfl rfl (pu_assign rfl rfl) rfl rfl (by kernel_rfl) ?_
    refine a_done (by kernel_rfl) ?_
    (repeat refine g_seq ?_)
    refine g_region ?_
    refine g_pu rfl rfl rfl (pu_move rfl rfl) ?_
    refine g_pu rfl rfl rfl (pu_move rfl rfl) ?_
    refine g_pu rfl rfl rfl (pu_rem64 (b := 4294967296#64) rfl rfl rfl (by decide)) ?_
    refine g_pu rfl rfl rfl (pu_atA1 i rfl rfl rfl rfl (by omega)) ?_
    refine g_store 5 (v := b64 (s % 4294967296#64)) rfl rfl rfl rfl rfl rfl rfl (by rw [qs_length]; omega) ?_
    rw [qs_set]
    refine g_nil ?_
    (repeat refine g_seq ?_)
    refine g_region ?_
    refine g_pu rfl rfl rfl (pu_move rfl rfl) ?_
    refine g_pu rfl rfl rfl (pu_shr64 rfl rfl rfl (by omega)) ?_
    refine g_pu rfl rfl rfl (pu_assign rfl rfl) ?_
    refine g_nil ?_
    refine g_blk ?_
    (repeat refine g_seq ?_)
    refine g_region ?_
    refine g_pu rfl rfl rfl (pu_move rfl rfl) ?_
    refine g_pu rfl rfl rfl (pu_addI rfl rfl rfl (by omega)) ?_
    refine g_pu rfl rfl rfl (pu_assign rfl rfl) ?_
    refine g_nil ?_
    refine g_round3 (i + 1) (X.set i (s % 4294967296#64)) (s >>> 32) ⟨by omega, by rw [List.length_set, hX], hXs.set hrs, fun k hk => by rw [getD_set _ _ _ _ (by omega)]; exact hXz k (by omega), hc2, ?_⟩ (by omega) ⟨rfl, rfl, rfl, rfl, rfl, rfl, trivial⟩ ⟨rfl, rfl, rfl, rfl, trivial⟩
    rw [Nat.pow_succ, st, na, nb, Nat.mul_add, Nat.mul_add]
    omega
  · (repeat refine g_seq ?_)
    refine g_region ?_
    refine g_pu rfl rfl rfl (pu_move rfl rfl) ?_
    first | refine g_pu rfl rfl rfl (pu_lss_t rfl rfl rfl (by omega)) ?_ | refine g_pu rfl rfl rfl (pu_lss_f rfl rfl rfl (by omega)) ?_ | refine g_pu rfl rfl rfl (pu_lss rfl rfl rfl) ?_
    refine g_nil ?_
    (repeat refine g_seq ?_)
    refine g_cond_f rfl (g_exit rfl ?_)
    have e1 : i = 8 := by omega
    subst e1
    rw [List.take_of_length_le (show A.length ≤ 8 by omega), List.take_of_length_le (show B.length ≤ 8 by omega), han, hbn] at hv
    have hz9 : numW ((X.set 8 c).drop 9) = 0 := numW_zero fun k => by
      rw [getD_drop, getD_set _ _ _ _ (by omega)]
      exact hXz _ (by omega)
    have hsp2 := numW_split (X.set 8 c) 9
    rw [hz9, numW_setT c (show 8 < X.length by omega), Nat.mul_zero, Nat.add_zero, hv] at hsp2
    have hql2 : (qs (X.set 8 c)).length = 17 := by rw [qs_length, List.length_set, hX]
    rw [← hsp2]
    (repeat refine g_seq ?_)
    refine g_region ?_
    refine g_pu rfl rfl rfl (pu_move rfl rfl) ?_
    refine g_pu rfl rfl rfl (pu_atA1 8 rfl rfl rfl rfl (by omega)) ?_
    refine g_store 5 (v := b64 c) rfl rfl rfl rfl rfl rfl rfl (by rw [qs_length]; omega) ?_
    rw [qs_set]
    refine g_nil ?_
    (repeat refine g_seq ?_)
    refine g_region ?_
    refine g_pu rfl rfl rfl (pu_loadW 5 (L := qs (X.set 8 c)) rfl rfl rfl hql2) ?_
    refine g_call [] rfl rfl rfl rfl rfl rfl (fun w' hm => folded_b w' (X.set 8 c) (by rw [List.length_set, hX]) (hXs.set (by omega))) (fun _ _ => ?_)
    refine g_storeL 4 (s := 8) (C := dg (numW (X.set 8 c) % 57896044618658097711785492504343953926634992332820282019728792003956564819949)) rfl rfl rfl rfl rfl rfl rfl rfl (oneCell_dg _) ?_
    refine g_nil ?_
    exact g_retL 4 (L := dg (numW (X.set 8 c) % 57896044618658097711785492504343953926634992332820282019728792003956564819949)) rfl rfl rfl rfl (fun w' hm => ⟨(), trivial, rfl, hm.grows [] trivial rfl⟩)

theorem mul32_lt (x y : BitVec 32) : x.toNat * y.toNat ≤ 18446744065119617025 := Nat.mul_le_mul (show x.toNat ≤ 4294967295 by omega) (show y.toNat ≤ 4294967295 by omega)

theorem RMul_b (w : World) (a b : Nat) (ha : a < 115792089237316195423570985008687907853269984665640564039457584007913129639936) (hb : b < 115792089237316195423570985008687907853269984665640564039457584007913129639936) : Spec Try.prog 20 #[.agg (dg a).toArray, .agg (dg b).toArray] w (σ := Unit) (fun _ => True) (fun _ => .agg (dg ((a * b) % 57896044618658097711785492504343953926634992332820282019728792003956564819949)).toArray) Nob (fun _ => []) := by
  refine enter Try.func20 rfl rfl (Mem.start w) ?_
  have han := dg_num ha
  have hbn := dg_num hb
  have hal := digs_length 8 a
  have hbl := digs_length 8 b
  have hA : dg a = ws (digs 8 a) := rfl
  have hB : dg b = ws (digs 8 b) := rfl
  rw [hA, hB]
  generalize digs 8 a = A at *
  generalize digs 8 b = B at *
  (repeat refine g_seq ?_)
  refine g_region ?_
  refine g_lo [2] rfl rfl rfl rfl (lo_box rfl rfl) (fun b2 hb2 => ?_)
  refine g_lo [3] rfl rfl rfl rfl (lo_box rfl rfl) (fun b3 hb3 => ?_)
  refine g_lo [4] rfl rfl rfl rfl (lo_alloc rfl) (fun b4 hb4 => ?_)
  refine g_nil ?_
  (repeat refine g_seq ?_)
  refine g_region ?_
  refine g_lo [5] rfl rfl rfl rfl (lo_alloc rfl) (fun b5 hb5 => ?_)
  refine g_nil ?_
  (repeat refine g_seq ?_)
  refine g_region ?_
  refine g_pu rfl rfl rfl (pu_assign rfl rfl) ?_
  refine g_nil ?_
  (repeat refine g_seq ?_)
  refine g_block (g_loop2 (fun (i : Nat) (X : List (BitVec 64)) => [(2, .pointer (some ⟨b2, 0, none⟩)), (3, .pointer (some ⟨b3, 0, none⟩)), (4, .pointer (some ⟨b4, 0, none⟩)), (5, .pointer (some ⟨b5, 0, none⟩)), (6, .int .i64 (i : Int))]) (fun i X => [(2, .pt b2 (.cells (ws A).toArray 35 (0, 0))), (3, .pt b3 (.cells (ws B).toArray 35 (0, 0))), (4, .pt b4 (.cells (ws (List.replicate 8 0#32)).toArray 35 (0, 0))), (5, .pt b5 (.cells (qs X).toArray 73 (0, 0)))])
    (fun i X => i ≤ 8 ∧ X.length = 17 ∧ Small X ∧ (∀ k, i + 8 ≤ k → X.getD k 0#64 = 0#64) ∧ numW X = numD (A.take i) * b) (fun i _ => 8 - i) 0 (List.replicate 17 0#64) ⟨rfl, rfl, rfl, rfl, rfl, trivial⟩ ⟨rfl, rfl, rfl, rfl, trivial⟩ ⟨by omega, rfl, small_rep 17, fun k _ => getD_rep 17 k, by rw [numW_zero (getD_rep 17)]; simp [numD, numG]⟩ ?_)
  intro i X ⟨hi, hX, hXs, hXz, hv⟩
  by_cases hlt : i < 8
  · (repeat refine g_seq ?_)
    refine g_region ?_
    refine g_pu rfl rfl rfl (pu_move rfl rfl) ?_
    first | refine g_pu rfl rfl rfl (pu_lss_t rfl rfl rfl (by omega)) ?_ | refine g_pu rfl rfl rfl (pu_lss_f rfl rfl rfl (by omega)) ?_ | refine g_pu rfl rfl rfl (pu_lss rfl rfl rfl) ?_
    refine g_nil ?_
    (repeat refine g_seq ?_)
    refine g_cond_t rfl (g_skip ?_)
    have ga := getDd (l := A) (i := i) (by omega)
    have na := numD_take (l := A) (i := i) (by omega)
    generalize A.getD i 0#32 = x at ga na
    have hx := x.isLt
    (repeat refine g_seq ?_); refine g_block ?_
    (repeat refine g_seq ?_)
    refine g_region ?_
    refine g_pu rfl rfl rfl (pu_assign (v := b64 0#64) rfl rfl) ?_
    refine g_nil ?_
    (repeat refine g_seq ?_)
    refine g_region ?_
    refine g_pu rfl rfl rfl (pu_assign rfl rfl) ?_
    refine g_nil ?_
    (repeat refine g_seq ?_)
    refine g_block (g_loop3 (fun (j : Nat) (V : List (BitVec 64)) (c : BitVec 64) => [(2, .pointer (some ⟨b2, 0, none⟩)), (3, .pointer (some ⟨b3, 0, none⟩)), (4, .pointer (some ⟨b4, 0, none⟩)), (5, .pointer (some ⟨b5, 0, none⟩)), (6, .int .i64 (i : Int)), (7, b64 c), (8, .int .i64 (j : Int))]) (fun j V c => [(2, .pt b2 (.cells (ws A).toArray 35 (0, 0))), (3, .pt b3 (.cells (ws B).toArray 35 (0, 0))), (4, .pt b4 (.cells (ws (List.replicate 8 0#32)).toArray 35 (0, 0))), (5, .pt b5 (.cells (qs V).toArray 73 (0, 0)))])
      (fun j V c => j ≤ 8 ∧ V.length = 17 ∧ Small V ∧ (∀ k, i + 8 ≤ k → V.getD k 0#64 = 0#64) ∧ c.toNat < 4294967296 ∧ numW V + 4294967296 ^ (i + j) * c.toNat = numW X + 4294967296 ^ i * (x.toNat * numD (B.take j))) (fun j _ _ => 8 - j) 0 X 0#64 ⟨rfl, rfl, rfl, rfl, rfl, rfl, rfl, trivial⟩ ⟨rfl, rfl, rfl, rfl, trivial⟩ ⟨by omega, hX, hXs, hXz, by decide, by simp [numD, numG]⟩ ?_)
    intro j V c ⟨hj, hV, hVs, hVz, hc, hVv⟩
    by_cases hj8 : j < 8
    · (repeat refine g_seq ?_)
      refine g_region ?_
      refine g_pu rfl rfl rfl (pu_move rfl rfl) ?_
      first | refine g_pu rfl rfl rfl (pu_lss_t rfl rfl rfl (by omega)) ?_ | refine g_pu rfl rfl rfl (pu_lss_f rfl rfl rfl (by omega)) ?_ | refine g_pu rfl rfl rfl (pu_lss rfl rfl rfl) ?_
      refine g_nil ?_
      (repeat refine g_seq ?_)
      refine g_cond_t rfl (g_skip ?_)
      have gb := getDd (l := B) (i := j) (by omega)
      have nb := numD_take (l := B) (i := j) (by omega)
      generalize B.getD j 0#32 = y at gb nb
      have hy := y.isLt
      have gk := getDq (l := V) (i := i + j) (by omega)
      have hz := hVs.at (i + j)
      have ns := fun s => numW_set (l := V) (i := i + j) s (by omega)
      generalize V.getD (i + j) 0#64 = z at gk hz ns
      have hxy := mul32_lt x y
      have hp : (x.setWidth 64 * y.setWidth 64).toNat = x.toNat * y.toNat := by
        rw [BitVec.toNat_mul, BitVec.toNat_setWidth, BitVec.toNat_setWidth, Nat.mod_eq_of_lt (show x.toNat < 2 ^ 64 by omega), Nat.mod_eq_of_lt (show y.toNat < 2 ^ 64 by omega)]
        exact Nat.mod_eq_of_lt (by omega)
      have hsum : (c + z + x.setWidth 64 * y.setWidth 64).toNat = c.toNat + z.toNat + x.toNat * y.toNat := by
        rw [BitVec.toNat_add, BitVec.toNat_add, hp]; omega
      have hce := carry_eq (c + z + x.setWidth 64 * y.setWidth 64)
      have hrs : ((c + z + x.setWidth 64 * y.setWidth 64) % 4294967296#64).toNat < 4294967296 := by rw [rem32]; omega
      have hc2 : ((c + z + x.setWidth 64 * y.setWidth 64) >>> 32).toNat < 4294967296 := by rw [shr32']; have := (c + z + x.setWidth 64 * y.setWidth 64).isLt; omega
      have ns := ns ((c + z + x.setWidth 64 * y.setWidth 64) % 4294967296#64)
      rw [hsum] at hce
      generalize hS : c + z + x.setWidth 64 * y.setWidth 64 = s at *
      have st := congrArg (4294967296 ^ (i + j) * ·) hce
      simp only [Nat.mul_add] at st
      (repeat refine g_seq ?_); refine g_block ?_
      (repeat refine g_seq ?_)
      refine g_any (18, []) ?_
      refine a_pu 0 rfl rfl rfl rfl (pu_move rfl rfl) rfl rfl (by kernel_rfl) ?_
      refine a_pu 1 rfl rfl rfl rfl (pu_move rfl rfl) rfl rfl (by kernel_rfl) ?_
      refine a_pu 2 rfl rfl rfl rfl (pu_move rfl rfl) rfl rfl (by kernel_rfl) ?_
      refine a_pu 3 rfl rfl rfl rfl (pu_addI rfl rfl rfl (by omega)) rfl rfl (by kernel_rfl) ?_
      refine a_pu 4 rfl rfl rfl rfl (pu_atA1 (i + j) rfl rfl rfl (by omega) (by omega)) rfl rfl (by kernel_rfl) ?_
      refine a_pu 5 rfl rfl rfl rfl (pu_load 5 (v := b64 z) rfl rfl rfl (qs_load gk)) rfl rfl (by kernel_rfl) ?_
      refine a_pu 6 rfl rfl rfl rfl (pu_add64 rfl rfl rfl) rfl rfl (by kernel_rfl) ?_
      refine a_pu 7 rfl rfl rfl rfl (pu_move rfl rfl) rfl rfl (by kernel_rfl) ?_
      refine a_pu 8 rfl rfl rfl rfl (pu_atA1 i rfl rfl rfl rfl hlt) rfl rfl (by kernel_rfl) ?_
      refine a_pu 9 rfl rfl rfl rfl (pu_load 2 (v := b32 x) rfl rfl rfl (ws_load ga)) rfl rfl (by kernel_rfl) ?_
      refine a_pu 10 rfl rfl rfl rfl (pu_conv32_64 rfl rfl) rfl rfl (by kernel_rfl) ?_
      refine a_pu 11 rfl rfl rfl rfl (pu_move rfl rfl) rfl rfl (by kernel_rfl) ?_
      refine a_pu 12 rfl rfl rfl rfl (pu_atA1 j rfl rfl rfl rfl hj8) rfl rfl (by kernel_rfl) ?_
      refine a_pu 13 rfl rfl rfl rfl (pu_load 3 (v := b32 y) rfl rfl rfl (ws_load gb)) rfl rfl (by kernel_rfl) ?_
      refine a_pu 14 rfl rfl rfl rfl (pu_conv32_64 rfl rfl) rfl rfl (by kernel_rfl) ?_
      refine a_pu 15 rfl rfl rfl rfl (pu_mul64 rfl rfl rfl) rfl rfl (by kernel_rfl) ?_
      refine a_pu 16 rfl rfl rfl rfl (pu_add64 rfl rfl rfl) rfl rfl (by kernel_rfl) ?_
      rw [hS]
      refine a_pu 17 rfl rfl rfl rfl (pu_assign rfl rfl) rfl rfl (by kernel_rfl) ?_
      refine a_done (by kernel_rfl) ?_
      (repeat refine g_seq ?_)
      refine g_region ?_
      refine g_pu rfl rfl rfl (pu_move rfl rfl) ?_
      refine g_pu rfl rfl rfl (pu_move rfl rfl) ?_
      refine g_pu rfl rfl rfl (pu_addI rfl rfl rfl (by omega)) ?_
      refine g_pu rfl rfl rfl (pu_move rfl rfl) ?_
      refine g_pu rfl rfl rfl (pu_rem64 (b := 4294967296#64) rfl rfl rfl (by decide)) ?_
      refine g_pu rfl rfl rfl (pu_atA1 (i + j) rfl rfl rfl (by omega) (by omega)) ?_
      refine g_store 5 (v := b64 (s % 4294967296#64)) rfl rfl rfl rfl rfl rfl rfl (by rw [qs_length]; omega) ?_
      rw [qs_set]
      refine g_nil ?_
      (repeat refine g_seq ?_)
      refine g_region ?_
      refine g_pu rfl rfl rfl (pu_move rfl rfl) ?_
      refine g_pu rfl rfl rfl (pu_shr64 rfl rfl rfl (by omega)) ?_
      refine g_pu rfl rfl rfl (pu_assign rfl rfl) ?_
      refine g_nil ?_
      refine g_blk ?_
      (repeat refine g_seq ?_)
      refine g_region ?_
      refine g_pu rfl rfl rfl (pu_move rfl rfl) ?_
      refine g_pu rfl rfl rfl (pu_addI rfl rfl rfl (by omega)) ?_
      refine g_pu rfl rfl rfl (pu_assign rfl rfl) ?_
      refine g_nil ?_
      refine g_round3 (j + 1) (V.set (i + j) (s % 4294967296#64)) (s >>> 32) ⟨by omega, by rw [List.length_set, hV], hVs.set hrs, fun k hk => by rw [getD_set _ _ _ _ (by omega)]; exact hVz k hk, hc2, ?_⟩ (by omega) ⟨rfl, rfl, rfl, rfl, rfl, rfl, rfl, trivial⟩ ⟨rfl, rfl, rfl, rfl, trivial⟩
      rw [show i + (j + 1) = i + j + 1 by omega, Nat.pow_succ, nb, Nat.mul_add, Nat.mul_add, Nat.mul_assoc]
      have e1 : 4294967296 ^ i * (x.toNat * (4294967296 ^ j * y.toNat)) = 4294967296 ^ (i + j) * (x.toNat * y.toNat) := by
        rw [Nat.pow_add, Nat.mul_left_comm x.toNat, Nat.mul_assoc]
      rw [e1]
      omega
    · (repeat refine g_seq ?_)
      refine g_region ?_
      refine g_pu rfl rfl rfl (pu_move rfl rfl) ?_
      first | refine g_pu rfl rfl rfl (pu_lss_t rfl rfl rfl (by omega)) ?_ | refine g_pu rfl rfl rfl (pu_lss_f rfl rfl rfl (by omega)) ?_ | refine g_pu rfl rfl rfl (pu_lss rfl rfl rfl) ?_
      refine g_nil ?_
      (repeat refine g_seq ?_)
      refine g_cond_f rfl (g_exit rfl ?_)
      have e1 : j = 8 := by omega
      subst e1
      rw [List.take_of_length_le (show B.length ≤ 8 by omega), hbn] at hVv
      have ns := numW_set (l := V) (i := i + 8) c (by omega)
      rw [hVz (i + 8) (by omega), show (0#64).toNat = 0 from rfl, Nat.mul_zero] at ns
      (repeat refine g_seq ?_)
      refine g_region ?_
      refine g_pu rfl rfl rfl (pu_move rfl rfl) ?_
      refine g_pu rfl rfl rfl (pu_addI rfl rfl rfl (by omega)) ?_
      refine g_pu rfl rfl rfl (pu_move rfl rfl) ?_
      refine g_pu rfl rfl rfl (pu_atA1 (i + 8) rfl rfl rfl (by omega) (by omega)) ?_
      refine g_store 5 (v := b64 c) rfl rfl rfl rfl rfl rfl rfl (by rw [qs_length]; omega) ?_
      rw [qs_set]
      refine g_nil ?_
      refine g_blk ?_
      (repeat refine g_seq ?_)
      refine g_region ?_
      refine g_pu rfl rfl rfl (pu_move rfl rfl) ?_
      refine g_pu rfl rfl rfl (pu_addI rfl rfl rfl (by omega)) ?_
      refine g_pu rfl rfl rfl (pu_assign rfl rfl) ?_
      refine g_nil ?_
      refine g_round2 (i + 1) (V.set (i + 8) c) ⟨by omega, by rw [List.length_set, hV], hVs.set hc, fun k hk => by rw [getD_set _ _ _ _ (by omega)]; exact hVz k (by omega), ?_⟩ (by omega) ⟨rfl, rfl, rfl, rfl, rfl, trivial⟩ ⟨rfl, rfl, rfl, rfl, trivial⟩
      rw [na, Nat.add_mul, ← hv, Nat.mul_assoc]
      omega
  · (repeat refine g_seq ?_)
    refine g_region ?_
    refine g_pu rfl rfl rfl (pu_move rfl rfl) ?_
    first | refine g_pu rfl rfl rfl (pu_lss_t rfl rfl rfl (by omega)) ?_ | refine g_pu rfl rfl rfl (pu_lss_f rfl rfl rfl (by omega)) ?_ | refine g_pu rfl rfl rfl (pu_lss rfl rfl rfl) ?_
    refine g_nil ?_
    (repeat refine g_seq ?_)
    refine g_cond_f rfl (g_exit rfl ?_)
    have e1 : i = 8 := by omega
    subst e1
    rw [List.take_of_length_le (show A.length ≤ 8 by omega), han] at hv
    have hql : (qs X).length = 17 := by rw [qs_length, hX]
    rw [← hv]
    (repeat refine g_seq ?_)
    refine g_region ?_
    refine g_pu rfl rfl rfl (pu_loadW 5 (L := qs X) rfl rfl rfl hql) ?_
    refine g_call [] rfl rfl rfl rfl rfl rfl (fun w' hm => folded_b w' X hX hXs) (fun _ _ => ?_)
    refine g_storeL 4 (s := 8) (C := dg (numW X % 57896044618658097711785492504343953926634992332820282019728792003956564819949)) rfl rfl rfl rfl rfl rfl rfl rfl (oneCell_dg _) ?_
    refine g_nil ?_
    exact g_retL 4 (L := dg (numW X % 57896044618658097711785492504343953926634992332820282019728792003956564819949)) rfl rfl rfl rfl (fun w' hm => ⟨(), trivial, rfl, hm.grows [] trivial rfl⟩)

theorem RSub_b (w : World) (a b : Nat) (ha : a < 115792089237316195423570985008687907853269984665640564039457584007913129639936) (hb : b < 115792089237316195423570985008687907853269984665640564039457584007913129639936) : Spec Try.prog 32 #[.agg (dg a).toArray, .agg (dg b).toArray] w (σ := Unit) (fun _ => True) (fun _ => .agg (dg ((a + (57896044618658097711785492504343953926634992332820282019728792003956564819949 - b % 57896044618658097711785492504343953926634992332820282019728792003956564819949)) % 57896044618658097711785492504343953926634992332820282019728792003956564819949)).toArray) Nob (fun _ => []) := by
  refine enter Try.func32 rfl rfl (Mem.start w) ?_
  have hra : a % 57896044618658097711785492504343953926634992332820282019728792003956564819949 < 115792089237316195423570985008687907853269984665640564039457584007913129639936 := by omega
  have hrb : b % 57896044618658097711785492504343953926634992332820282019728792003956564819949 < 115792089237316195423570985008687907853269984665640564039457584007913129639936 := by omega
  have h38 : dg 38 = ws [38#32, 0#32, 0#32, 0#32, 0#32, 0#32, 0#32, 0#32] := by rw [dg_of rfl]; congr 1
  (repeat refine g_seq ?_)
  refine g_region ?_
  refine g_lo [2] rfl rfl rfl rfl (lo_box rfl rfl) (fun b2 hb2 => ?_)
  refine g_lo [3] rfl rfl rfl rfl (lo_box rfl rfl) (fun b3 hb3 => ?_)
  refine g_lo [4] rfl rfl rfl rfl (lo_alloc rfl) (fun b4 hb4 => ?_)
  refine g_nil ?_
  (repeat refine g_seq ?_)
  refine g_any (9, [7]) ?_
  refine a_pu 0 rfl rfl rfl rfl (pu_loadW 2 (L := dg a) rfl rfl rfl rfl) rfl rfl (by kernel_rfl) ?_
  refine a_pu 2 rfl rfl rfl rfl (pu_loadW 3 (L := dg b) rfl rfl rfl rfl) rfl rfl (by kernel_rfl) ?_
  refine a_pendA 8 5 5 35 ?_
  refine a_do 1 9 [] (does_call rfl rfl rfl rfl rfl (fun w' hm => RNorm_b w' a ha)) rfl rfl (by kernel_rfl) rfl rfl (by kernel_rfl) (by kernel_rfl) (by kernel_rfl) rfl (fun p hp => by simp only [List.mem_cons, List.not_mem_nil, or_false] at hp; subst hp; first | exact does_PA rfl rfl rfl rfl | exact does_PB rfl rfl rfl rfl rfl (by decide) (by decide) rfl rfl) ?_; rintro v_ cs_ ⟨_, _, rfl, rfl⟩
  refine a_do 3 11 [] (does_call rfl rfl rfl rfl rfl (fun w' hm => RNorm_b w' b hb)) rfl rfl (by kernel_rfl) rfl rfl (by kernel_rfl) (by kernel_rfl) (by kernel_rfl) rfl (fun p hp => by simp only [List.mem_cons, List.not_mem_nil, or_false] at hp; subst hp; first | exact does_PA rfl rfl rfl rfl | exact does_PB rfl rfl rfl rfl rfl (by decide) (by decide) rfl rfl) ?_; rintro v_ cs_ ⟨_, _, rfl, rfl⟩
  refine a_do 4 12 [] (does_call rfl rfl rfl rfl rfl (fun w' hm => minus_b w' _ _ hra hrb)) rfl rfl (by kernel_rfl) rfl rfl (by kernel_rfl) (by kernel_rfl) (by kernel_rfl) rfl (fun p hp => by simp only [List.mem_cons, List.not_mem_nil, or_false] at hp; subst hp; first | exact does_PA rfl rfl rfl rfl | exact does_PB rfl rfl rfl rfl rfl (by decide) (by decide) rfl rfl) ?_; rintro v_ cs_ ⟨_, _, rfl, rfl⟩
  refine a_pu 5 rfl rfl rfl rfl (pu_move rfl rfl) rfl rfl (by kernel_rfl) ?_
  refine a_pu 6 rfl rfl rfl rfl (pu_extract rfl rfl rfl) rfl rfl (by kernel_rfl) ?_
  first | refine a_mv 7 rfl rfl rfl rfl (fun _ => (pu_extract rfl rfl rfl)) rfl rfl rfl (by kernel_rfl) (by kernel_rfl) (by kernel_rfl) rfl ?_
  refine a_force _ (by kernel_rfl) rfl rfl rfl (by kernel_rfl) (by kernel_rfl) (by kernel_rfl) rfl (fun p hp => by simp only [List.mem_cons, List.not_mem_nil, or_false] at hp; subst hp; first | exact does_PA rfl rfl rfl rfl | exact does_PB rfl rfl rfl rfl rfl (by decide) (by decide) rfl rfl) ?_; rintro v_ cs_ ⟨b5, hb5, rfl, rfl⟩
  refine a_tail [9, 10] (by kernel_rfl) rfl rfl (by kernel_rfl) ?_
  refine g_storeL 5 (s := 8) (C := dg ((a % 57896044618658097711785492504343953926634992332820282019728792003956564819949 + (115792089237316195423570985008687907853269984665640564039457584007913129639936 - b % 57896044618658097711785492504343953926634992332820282019728792003956564819949)) % 115792089237316195423570985008687907853269984665640564039457584007913129639936)) rfl rfl rfl rfl rfl rfl rfl rfl (oneCell_dg _) ?_
  refine g_pu rfl rfl rfl (pu_assign rfl rfl) ?_
  refine g_nil ?_
  have hd1 : (a % 57896044618658097711785492504343953926634992332820282019728792003956564819949 + (115792089237316195423570985008687907853269984665640564039457584007913129639936 - b % 57896044618658097711785492504343953926634992332820282019728792003956564819949)) % 115792089237316195423570985008687907853269984665640564039457584007913129639936 < 115792089237316195423570985008687907853269984665640564039457584007913129639936 := by omega
  by_cases hlt : a % 57896044618658097711785492504343953926634992332820282019728792003956564819949 < b % 57896044618658097711785492504343953926634992332820282019728792003956564819949
  · rw [decide_eq_true hlt]
    have hR : (a + (57896044618658097711785492504343953926634992332820282019728792003956564819949 - b % 57896044618658097711785492504343953926634992332820282019728792003956564819949)) % 57896044618658097711785492504343953926634992332820282019728792003956564819949 = ((a % 57896044618658097711785492504343953926634992332820282019728792003956564819949 + (115792089237316195423570985008687907853269984665640564039457584007913129639936 - b % 57896044618658097711785492504343953926634992332820282019728792003956564819949)) % 115792089237316195423570985008687907853269984665640564039457584007913129639936 + (115792089237316195423570985008687907853269984665640564039457584007913129639936 - 38)) % 115792089237316195423570985008687907853269984665640564039457584007913129639936 % 57896044618658097711785492504343953926634992332820282019728792003956564819949 := by omega
    have hd2 : ((a % 57896044618658097711785492504343953926634992332820282019728792003956564819949 + (115792089237316195423570985008687907853269984665640564039457584007913129639936 - b % 57896044618658097711785492504343953926634992332820282019728792003956564819949)) % 115792089237316195423570985008687907853269984665640564039457584007913129639936 + (115792089237316195423570985008687907853269984665640564039457584007913129639936 - 38)) % 115792089237316195423570985008687907853269984665640564039457584007913129639936 < 115792089237316195423570985008687907853269984665640564039457584007913129639936 := by omega
    rw [hR]
    generalize (a % 57896044618658097711785492504343953926634992332820282019728792003956564819949 + (115792089237316195423570985008687907853269984665640564039457584007913129639936 - b % 57896044618658097711785492504343953926634992332820282019728792003956564819949)) % 115792089237316195423570985008687907853269984665640564039457584007913129639936 = d at *
    (repeat refine g_seq ?_)
    refine g_region ?_
    refine g_pu rfl rfl rfl (pu_move rfl rfl) ?_
    refine g_nil ?_
    (repeat refine g_seq ?_)
    refine g_cond_t rfl ?_
    (repeat refine g_seq ?_)
    refine g_region ?_
    refine g_pu rfl rfl rfl (pu_loadW 5 (L := dg d) rfl rfl rfl rfl) ?_
    refine g_pu rfl rfl rfl (pu_buildA' (cs := dg 38) rfl rfl (by rw [h38]; rfl)) ?_
    refine g_call [] rfl rfl rfl rfl rfl rfl (fun w' hm => minus_b w' d 38 hd1 (by decide)) (fun _ _ => ?_)
    refine g_pu rfl rfl rfl (pu_move rfl rfl) ?_
    refine g_pu rfl rfl rfl (pu_extract rfl rfl rfl) ?_
    refine g_pu rfl rfl rfl (pu_extract rfl rfl rfl) ?_
    refine g_storeL 5 (s := 8) (C := dg ((d + (115792089237316195423570985008687907853269984665640564039457584007913129639936 - 38)) % 115792089237316195423570985008687907853269984665640564039457584007913129639936)) rfl rfl rfl rfl rfl rfl rfl rfl (oneCell_dg _) ?_
    refine g_nil ?_
    (repeat refine g_seq ?_)
    refine g_region ?_
    refine g_pu rfl rfl rfl (pu_loadW 5 (L := dg ((d + (115792089237316195423570985008687907853269984665640564039457584007913129639936 - 38)) % 115792089237316195423570985008687907853269984665640564039457584007913129639936)) rfl rfl rfl rfl) ?_
    refine g_call [] rfl rfl rfl rfl rfl rfl (fun w' hm => RNorm_b w' _ hd2) (fun _ _ => ?_)
    refine g_storeL 4 (s := 8) (C := dg ((d + (115792089237316195423570985008687907853269984665640564039457584007913129639936 - 38)) % 115792089237316195423570985008687907853269984665640564039457584007913129639936 % 57896044618658097711785492504343953926634992332820282019728792003956564819949)) rfl rfl rfl rfl rfl rfl rfl rfl (oneCell_dg _) ?_
    refine g_nil ?_
    exact g_retL 4 (L := dg ((d + (115792089237316195423570985008687907853269984665640564039457584007913129639936 - 38)) % 115792089237316195423570985008687907853269984665640564039457584007913129639936 % 57896044618658097711785492504343953926634992332820282019728792003956564819949)) rfl rfl rfl rfl (fun w' hm => ⟨(), trivial, rfl, hm.grows [] trivial rfl⟩)
  · rw [decide_eq_false hlt]
    have hR : (a + (57896044618658097711785492504343953926634992332820282019728792003956564819949 - b % 57896044618658097711785492504343953926634992332820282019728792003956564819949)) % 57896044618658097711785492504343953926634992332820282019728792003956564819949 = (a % 57896044618658097711785492504343953926634992332820282019728792003956564819949 + (115792089237316195423570985008687907853269984665640564039457584007913129639936 - b % 57896044618658097711785492504343953926634992332820282019728792003956564819949)) % 115792089237316195423570985008687907853269984665640564039457584007913129639936 % 57896044618658097711785492504343953926634992332820282019728792003956564819949 := by omega
    rw [hR]
    generalize (a % 57896044618658097711785492504343953926634992332820282019728792003956564819949 + (115792089237316195423570985008687907853269984665640564039457584007913129639936 - b % 57896044618658097711785492504343953926634992332820282019728792003956564819949)) % 115792089237316195423570985008687907853269984665640564039457584007913129639936 = d at *
    (repeat refine g_seq ?_)
    refine g_region ?_
    refine g_pu rfl rfl rfl (pu_move rfl rfl) ?_
    refine g_nil ?_
    (repeat refine g_seq ?_)
    refine g_cond_f rfl (g_skip ?_)
    (repeat refine g_seq ?_)
    refine g_region ?_
    refine g_pu rfl rfl rfl (pu_loadW 5 (L := dg d) rfl rfl rfl rfl) ?_
    refine g_call [] rfl rfl rfl rfl rfl rfl (fun w' hm => RNorm_b w' _ hd1) (fun _ _ => ?_)
    refine g_storeL 4 (s := 8) (C := dg (d % 57896044618658097711785492504343953926634992332820282019728792003956564819949)) rfl rfl rfl rfl rfl rfl rfl rfl (oneCell_dg _) ?_
    refine g_nil ?_
    exact g_retL 4 (L := dg (d % 57896044618658097711785492504343953926634992332820282019728792003956564819949)) rfl rfl rfl rfl (fun w' hm => ⟨(), trivial, rfl, hm.grows [] trivial rfl⟩)
end Go.Sx

import Derived.Test.YteblmnpklcdnpaaW5
set_option linter.unusedVariables false
set_option linter.unusedSimpArgs false
/-
  The same by each key, of the document. The lists fit memory.
-/
namespace Go.Sx
open Go Go.Proofs

theorem RAll_s (w : World) {p q : Option Addr} {n m : Nat} (c d : Nat) {b : List (BitVec 8)} {L : List Value} {ks : List (List (BitVec 8))} (hb : By w p n b) (ha : ByL w q m L ks) : Spec Try.prog 19 #[.slice p n c, .slice q m d, .bool true] w (σ := Ow) (fun _ => True) (fun x => .tuple #[x.sl (allV zS b ks).length, .int .i64 (allE b ks)]) Nob (fun x => [x.ck 5 1 (bs (allV zS b ks))]) := by
  have hbl := hb.len
  subst hbl
  refine enter Try.func19 rfl rfl (Mem.start w) ?_
  have hLn := ha.len
  have hbig := ha.big
  have hln := ha.lenL
  (repeat refine g_seq ?_)
  refine g_region ?_
  refine g_pu rfl rfl rfl (pu_assign rfl rfl) ?_
  refine g_pu rfl rfl rfl (pu_assign rfl rfl) ?_
  refine g_nil ?_
  (repeat refine g_seq ?_)
  refine g_region ?_
  refine g_lo [11] rfl rfl rfl rfl (lo_make (n := 32) (c := 32) rfl rfl rfl (by omega) (by omega) (by omega) rfl) (fun b11 hb11 => ?_)
  refine g_pu rfl rfl rfl (pu_move rfl rfl) ?_
  refine g_call [] rfl rfl rfl rfl rfl rfl (fun w' hm => fits07_b w' (some ⟨b11, 0, none⟩) p 32 b.length 32 c) (fun _ _ => ?_)
  refine g_pu rfl rfl rfl (pu_not rfl rfl) ?_
  refine g_nil ?_
  by_cases h1 : fitsB 32 b.length = true
  · obtain ⟨_, f2, f3⟩ := (fitsB_iff _ _).1 h1
    rw [h1]
    (repeat refine g_seq ?_)
    refine g_cond_f rfl (g_skip ?_)
    (repeat refine g_seq ?_)
    refine g_region ?_
    refine g_pu rfl rfl rfl (pu_assign rfl rfl) ?_
    refine g_nil ?_
    (repeat refine g_seq ?_)
    refine g_block (g_loop (σ := Nat) (fun i => [(0, .slice p b.length c), (1, .slice q m d), (2, .bool true), (8, .int .i64 (i : Int))]) (fun _ => []) (fun i => i ≤ m ∧ w32 (ks.take i) = true) (fun i => m - i) 0 ⟨rfl, rfl, rfl, rfl, trivial⟩ trivial ⟨by omega, rfl⟩ ?_)
    intro i ⟨hi, hw⟩
    by_cases hlt : i < m
    · (repeat refine g_seq ?_)
      refine g_region ?_
      refine g_pu rfl rfl rfl (pu_move rfl rfl) ?_
      refine g_pu rfl rfl rfl (pu_move rfl rfl) ?_
      first | refine g_pu rfl rfl rfl (pu_len rfl rfl) ?_ | refine g_pu rfl rfl rfl (pu_lenS rfl rfl) ?_
      first | refine g_pu rfl rfl rfl (pu_lss_t rfl rfl rfl (by omega)) ?_ | refine g_pu rfl rfl rfl (pu_lss_f rfl rfl rfl (by omega)) ?_ | refine g_pu rfl rfl rfl (pu_lss rfl rfl rfl) ?_
      refine g_nil ?_
      (repeat refine g_seq ?_)
      refine g_cond_t rfl (g_skip ?_)
      have h2 : ks[i]? = some ks[i] := List.getElem?_eq_getElem (by omega)
      have hmem := List.getElem_mem (l := ks) (n := i) (by omega)
      have ht := w32_take h2
      generalize ks[i] = k at h2 hmem ht
      obtain ⟨kq, km, kc, hL, hkq⟩ := ha.at h2
      have hkl := hkq.len
      rw [hw, Bool.true_and] at ht
      (repeat refine g_seq ?_); refine g_block ?_
      by_cases h32 : km = 32
      · (repeat refine g_seq ?_)
        refine g_region ?_
        refine g_pu rfl rfl rfl (pu_move rfl rfl) ?_
        refine g_pu rfl rfl rfl (pu_move rfl rfl) ?_
        refine g_pu rfl rfl rfl (pu_atM1 i (fun w' hm => (ha.m hm).rd) rfl rfl rfl rfl hlt (by omega)) ?_
        refine g_pu rfl rfl rfl (pu_rdM (fun w' hm => (ha.m hm).rd) rfl rfl hL) ?_
        first | refine g_pu rfl rfl rfl (pu_len rfl rfl) ?_ | refine g_pu rfl rfl rfl (pu_lenS rfl rfl) ?_
        first | refine g_pu rfl rfl rfl (pu_neq_t rfl rfl rfl (by omega)) ?_ | refine g_pu rfl rfl rfl (pu_neq_f rfl rfl rfl (by omega)) ?_ | refine g_pu rfl rfl rfl (pu_neq rfl rfl rfl) ?_
        refine g_nil ?_
        (repeat refine g_seq ?_)
        refine g_cond_f rfl (g_skip ?_)
        refine g_blk ?_
        (repeat refine g_seq ?_)
        refine g_region ?_
        refine g_pu rfl rfl rfl (pu_move rfl rfl) ?_
        refine g_pu rfl rfl rfl (pu_addI rfl rfl rfl (by omega)) ?_
        refine g_pu rfl rfl rfl (pu_assign rfl rfl) ?_
        refine g_nil ?_
        exact g_round (i + 1) ⟨by omega, by rw [ht, hkl, h32]; rfl⟩ (by omega) ⟨rfl, rfl, rfl, rfl, trivial⟩ trivial
      · have hno : ¬ allOk b ks = true := fun h => h32 (by
          unfold allOk at h
          rw [Bool.and_eq_true] at h
          rw [← hkl]
          exact w32_mem h.2 hmem)
        have hV : allV zS b ks = [] := if_neg hno
        have hE : allE b ks = 2 := if_neg hno
        rw [hV, hE]
        (repeat refine g_seq ?_)
        refine g_region ?_
        refine g_pu rfl rfl rfl (pu_move rfl rfl) ?_
        refine g_pu rfl rfl rfl (pu_move rfl rfl) ?_
        refine g_pu rfl rfl rfl (pu_atM1 i (fun w' hm => (ha.m hm).rd) rfl rfl rfl rfl hlt (by omega)) ?_
        refine g_pu rfl rfl rfl (pu_rdM (fun w' hm => (ha.m hm).rd) rfl rfl hL) ?_
        first | refine g_pu rfl rfl rfl (pu_len rfl rfl) ?_ | refine g_pu rfl rfl rfl (pu_lenS rfl rfl) ?_
        first | refine g_pu rfl rfl rfl (pu_neq_t rfl rfl rfl (by omega)) ?_ | refine g_pu rfl rfl rfl (pu_neq_f rfl rfl rfl (by omega)) ?_ | refine g_pu rfl rfl rfl (pu_neq rfl rfl rfl) ?_
        refine g_nil ?_
        (repeat refine g_seq ?_)
        refine g_cond_t rfl ?_
        (repeat refine g_seq ?_)
        refine g_region ?_
        refine g_pu rfl rfl rfl (pu_assign rfl rfl) ?_
        refine g_pu rfl rfl rfl (pu_assign rfl rfl) ?_
        refine g_nil ?_
        refine g_nilOwn 90 5 1 rfl ?_
        exact g_ret2 rfl rfl rfl (fun w' hm => ⟨⟨none, 0⟩, trivial, rfl, hm.grows [90] ⟨rfl, trivial⟩ rfl⟩)
    · (repeat refine g_seq ?_)
      refine g_region ?_
      refine g_pu rfl rfl rfl (pu_move rfl rfl) ?_
      refine g_pu rfl rfl rfl (pu_move rfl rfl) ?_
      first | refine g_pu rfl rfl rfl (pu_len rfl rfl) ?_ | refine g_pu rfl rfl rfl (pu_lenS rfl rfl) ?_
      first | refine g_pu rfl rfl rfl (pu_lss_t rfl rfl rfl (by omega)) ?_ | refine g_pu rfl rfl rfl (pu_lss_f rfl rfl rfl (by omega)) ?_ | refine g_pu rfl rfl rfl (pu_lss rfl rfl rfl) ?_
      refine g_nil ?_
      (repeat refine g_seq ?_)
      refine g_cond_f rfl (g_exit rfl ?_)
      rw [List.take_of_length_le (by omega)] at hw
      have hok : allOk b ks = true := by unfold allOk; rw [h1, hw]; rfl
      have hV : allV zS b ks = wfold zS ks b := if_pos hok
      have hE : allE b ks = 0 := if_pos hok
      rw [hV, hE]
      (repeat refine g_seq ?_)
      refine g_region ?_
      refine g_pu rfl rfl rfl (pu_move rfl rfl) ?_
      refine g_call [28] rfl rfl rfl rfl rfl rfl (fun w' hm => Copy_b w' c (hb.m hm)) (fun x28 _ => ?_)
      refine g_pu rfl rfl rfl (pu_assign rfl rfl) ?_
      refine g_nil ?_
      (repeat refine g_seq ?_)
      refine g_region ?_
      refine g_pu rfl rfl rfl (pu_assign rfl rfl) ?_
      refine g_nil ?_
      (repeat refine g_seq ?_)
      refine g_block (g_loop3 (fun (i : Nat) (l : List (BitVec 8)) (y : Ow) => [(1, .slice q m d), (2, .bool true), (9, y.sl b.length), (10, .int .i64 (i : Int))]) (fun _ l y => [(28, y.ck 5 1 (bs l))]) (fun i l _ => i ≤ m ∧ l.length = b.length ∧ l = wfold zS (ks.take i) b) (fun i _ _ => m - i) 0 b x28 ⟨rfl, rfl, rfl, rfl, trivial⟩ ⟨rfl, trivial⟩ ⟨by omega, rfl, rfl⟩ ?_)
      intro i l y ⟨hi, hll, hl⟩
      by_cases hlt2 : i < m
      · (repeat refine g_seq ?_)
        refine g_region ?_
        refine g_pu rfl rfl rfl (pu_move rfl rfl) ?_
        refine g_pu rfl rfl rfl (pu_move rfl rfl) ?_
        first | refine g_pu rfl rfl rfl (pu_len rfl rfl) ?_ | refine g_pu rfl rfl rfl (pu_lenS rfl rfl) ?_
        first | refine g_pu rfl rfl rfl (pu_lss_t rfl rfl rfl (by omega)) ?_ | refine g_pu rfl rfl rfl (pu_lss_f rfl rfl rfl (by omega)) ?_ | refine g_pu rfl rfl rfl (pu_lss rfl rfl rfl) ?_
        refine g_nil ?_
        (repeat refine g_seq ?_)
        refine g_cond_t rfl (g_skip ?_)
        have h2 : ks[i]? = some ks[i] := List.getElem?_eq_getElem (by omega)
        have hk32 := w32_mem hw (List.getElem_mem (l := ks) (n := i) (by omega))
        have hft := wfold_take (zs := zS) h2 b
        generalize ks[i] = k at h2 hk32 hft
        obtain ⟨kq, km, kc, hL, hkq⟩ := ha.at h2
        have hkl := hkq.len
        rw [← hl] at hft
        have hfk : fitsB k.length l.length = true := by rw [hk32, hll]; exact h1
        obtain ⟨e1, e2⟩ := rds_ok (key := k) (b := l) (zs := zS) rfl hfk
        have hrl := rdsL_length k zS (l := l) (by omega)
        rw [hkl, hll] at e1
        (repeat refine g_seq ?_); refine g_block ?_
        (repeat refine g_seq ?_)
        refine g_region ?_
        refine g_pu rfl rfl rfl (pu_move rfl rfl) ?_
        refine g_nil ?_
        (repeat refine g_seq ?_)
        refine g_cond_t rfl ?_
        (repeat refine g_seq ?_)
        refine g_region ?_
        refine g_pu rfl rfl rfl (pu_move rfl rfl) ?_
        refine g_pu rfl rfl rfl (pu_move rfl rfl) ?_
        refine g_pu rfl rfl rfl (pu_atM1 i (fun w' hm => (ha.m hm).rd) rfl rfl rfl rfl hlt2 (by omega)) ?_
        refine g_pu rfl rfl rfl (pu_rdM (fun w' hm => (ha.m hm).rd) rfl rfl hL) ?_
        refine g_pu rfl rfl rfl (pu_move rfl rfl) ?_
        refine g_call [42] rfl rfl rfl rfl rfl rfl (fun w' hm => RSeal_b w' kc y.c (hkq.m hm) (By.ow 28 rfl hm hll (by omega)) (by have h9 := Own.le (hm.holds 28 _ rfl); rw [bs_length, hll] at h9; exact h9)) (fun x42 _ => ?_)
        rw [e1, e2, hrl, hll]
        refine g_pu rfl rfl rfl (pu_move rfl rfl) ?_
        refine g_pu rfl rfl rfl (pu_extract rfl rfl rfl) ?_
        refine g_pu rfl rfl rfl (pu_extract rfl rfl rfl) ?_
        refine g_pu rfl rfl rfl (pu_assign rfl rfl) ?_
        refine g_nil ?_
        refine g_retag 42 28 _ rfl rfl ?_
        refine g_blk ?_
        (repeat refine g_seq ?_)
        refine g_region ?_
        refine g_pu rfl rfl rfl (pu_move rfl rfl) ?_
        refine g_pu rfl rfl rfl (pu_addI rfl rfl rfl (by omega)) ?_
        refine g_pu rfl rfl rfl (pu_assign rfl rfl) ?_
        refine g_nil ?_
        exact g_round3 (i + 1) (rdsL k zS l) x42 ⟨by omega, by rw [hrl, hll], hft.symm⟩ (by omega) ⟨rfl, rfl, rfl, rfl, trivial⟩ ⟨rfl, trivial⟩
      · (repeat refine g_seq ?_)
        refine g_region ?_
        refine g_pu rfl rfl rfl (pu_move rfl rfl) ?_
        refine g_pu rfl rfl rfl (pu_move rfl rfl) ?_
        first | refine g_pu rfl rfl rfl (pu_len rfl rfl) ?_ | refine g_pu rfl rfl rfl (pu_lenS rfl rfl) ?_
        first | refine g_pu rfl rfl rfl (pu_lss_t rfl rfl rfl (by omega)) ?_ | refine g_pu rfl rfl rfl (pu_lss_f rfl rfl rfl (by omega)) ?_ | refine g_pu rfl rfl rfl (pu_lss rfl rfl rfl) ?_
        refine g_nil ?_
        (repeat refine g_seq ?_)
        refine g_cond_f rfl (g_exit rfl ?_)
        rw [List.take_of_length_le (by omega)] at hl
        rw [← hl, hll]
        (repeat refine g_seq ?_)
        refine g_region ?_
        refine g_pu rfl rfl rfl (pu_move rfl rfl) ?_
        refine g_pu rfl rfl rfl (pu_assign rfl rfl) ?_
        refine g_pu rfl rfl rfl (pu_assign rfl rfl) ?_
        refine g_nil ?_
        exact g_ret2 rfl rfl rfl (fun w' hm => ⟨y, trivial, rfl, hm.grows [28] ⟨rfl, trivial⟩ rfl⟩)
  · have hno : ¬ allOk b ks = true := fun h => h1 (by
      unfold allOk at h
      rw [Bool.and_eq_true] at h
      exact h.1)
    have hV : allV zS b ks = [] := if_neg hno
    have hE : allE b ks = 2 := if_neg hno
    rw [Bool.eq_false_iff.2 h1, hV, hE]
    (repeat refine g_seq ?_)
    refine g_cond_t rfl ?_
    (repeat refine g_seq ?_)
    refine g_region ?_
    refine g_pu rfl rfl rfl (pu_assign rfl rfl) ?_
    refine g_pu rfl rfl rfl (pu_assign rfl rfl) ?_
    refine g_nil ?_
    refine g_nilOwn 90 5 1 rfl ?_
    exact g_ret2 rfl rfl rfl (fun w' hm => ⟨⟨none, 0⟩, trivial, rfl, hm.grows [90] ⟨rfl, trivial⟩ rfl⟩)

theorem RAll_o (w : World) {p q : Option Addr} {n m : Nat} (c d : Nat) {b : List (BitVec 8)} {L : List Value} {ks : List (List (BitVec 8))} (hb : By w p n b) (ha : ByL w q m L ks) : Spec Try.prog 19 #[.slice p n c, .slice q m d, .bool false] w (σ := Ow) (fun _ => True) (fun x => .tuple #[x.sl (allV zO b ks).length, .int .i64 (allE b ks)]) Nob (fun x => [x.ck 5 1 (bs (allV zO b ks))]) := by
  have hbl := hb.len
  subst hbl
  refine enter Try.func19 rfl rfl (Mem.start w) ?_
  have hLn := ha.len
  have hbig := ha.big
  have hln := ha.lenL
  (repeat refine g_seq ?_)
  refine g_region ?_
  refine g_pu rfl rfl rfl (pu_assign rfl rfl) ?_
  refine g_pu rfl rfl rfl (pu_assign rfl rfl) ?_
  refine g_nil ?_
  (repeat refine g_seq ?_)
  refine g_region ?_
  refine g_lo [11] rfl rfl rfl rfl (lo_make (n := 32) (c := 32) rfl rfl rfl (by omega) (by omega) (by omega) rfl) (fun b11 hb11 => ?_)
  refine g_pu rfl rfl rfl (pu_move rfl rfl) ?_
  refine g_call [] rfl rfl rfl rfl rfl rfl (fun w' hm => fits07_b w' (some ⟨b11, 0, none⟩) p 32 b.length 32 c) (fun _ _ => ?_)
  refine g_pu rfl rfl rfl (pu_not rfl rfl) ?_
  refine g_nil ?_
  by_cases h1 : fitsB 32 b.length = true
  · obtain ⟨_, f2, f3⟩ := (fitsB_iff _ _).1 h1
    rw [h1]
    (repeat refine g_seq ?_)
    refine g_cond_f rfl (g_skip ?_)
    (repeat refine g_seq ?_)
    refine g_region ?_
    refine g_pu rfl rfl rfl (pu_assign rfl rfl) ?_
    refine g_nil ?_
    (repeat refine g_seq ?_)
    refine g_block (g_loop (σ := Nat) (fun i => [(0, .slice p b.length c), (1, .slice q m d), (2, .bool false), (8, .int .i64 (i : Int))]) (fun _ => []) (fun i => i ≤ m ∧ w32 (ks.take i) = true) (fun i => m - i) 0 ⟨rfl, rfl, rfl, rfl, trivial⟩ trivial ⟨by omega, rfl⟩ ?_)
    intro i ⟨hi, hw⟩
    by_cases hlt : i < m
    · (repeat refine g_seq ?_)
      refine g_region ?_
      refine g_pu rfl rfl rfl (pu_move rfl rfl) ?_
      refine g_pu rfl rfl rfl (pu_move rfl rfl) ?_
      first | refine g_pu rfl rfl rfl (pu_len rfl rfl) ?_ | refine g_pu rfl rfl rfl (pu_lenS rfl rfl) ?_
      first | refine g_pu rfl rfl rfl (pu_lss_t rfl rfl rfl (by omega)) ?_ | refine g_pu rfl rfl rfl (pu_lss_f rfl rfl rfl (by omega)) ?_ | refine g_pu rfl rfl rfl (pu_lss rfl rfl rfl) ?_
      refine g_nil ?_
      (repeat refine g_seq ?_)
      refine g_cond_t rfl (g_skip ?_)
      have h2 : ks[i]? = some ks[i] := List.getElem?_eq_getElem (by omega)
      have hmem := List.getElem_mem (l := ks) (n := i) (by omega)
      have ht := w32_take h2
      generalize ks[i] = k at h2 hmem ht
      obtain ⟨kq, km, kc, hL, hkq⟩ := ha.at h2
      have hkl := hkq.len
      rw [hw, Bool.true_and] at ht
      (repeat refine g_seq ?_); refine g_block ?_
      by_cases h32 : km = 32
      · (repeat refine g_seq ?_)
        refine g_region ?_
        refine g_pu rfl rfl rfl (pu_move rfl rfl) ?_
        refine g_pu rfl rfl rfl (pu_move rfl rfl) ?_
        refine g_pu rfl rfl rfl (pu_atM1 i (fun w' hm => (ha.m hm).rd) rfl rfl rfl rfl hlt (by omega)) ?_
        refine g_pu rfl rfl rfl (pu_rdM (fun w' hm => (ha.m hm).rd) rfl rfl hL) ?_
        first | refine g_pu rfl rfl rfl (pu_len rfl rfl) ?_ | refine g_pu rfl rfl rfl (pu_lenS rfl rfl) ?_
        first | refine g_pu rfl rfl rfl (pu_neq_t rfl rfl rfl (by omega)) ?_ | refine g_pu rfl rfl rfl (pu_neq_f rfl rfl rfl (by omega)) ?_ | refine g_pu rfl rfl rfl (pu_neq rfl rfl rfl) ?_
        refine g_nil ?_
        (repeat refine g_seq ?_)
        refine g_cond_f rfl (g_skip ?_)
        refine g_blk ?_
        (repeat refine g_seq ?_)
        refine g_region ?_
        refine g_pu rfl rfl rfl (pu_move rfl rfl) ?_
        refine g_pu rfl rfl rfl (pu_addI rfl rfl rfl (by omega)) ?_
        refine g_pu rfl rfl rfl (pu_assign rfl rfl) ?_
        refine g_nil ?_
        exact g_round (i + 1) ⟨by omega, by rw [ht, hkl, h32]; rfl⟩ (by omega) ⟨rfl, rfl, rfl, rfl, trivial⟩ trivial
      · have hno : ¬ allOk b ks = true := fun h => h32 (by
          unfold allOk at h
          rw [Bool.and_eq_true] at h
          rw [← hkl]
          exact w32_mem h.2 hmem)
        have hV : allV zO b ks = [] := if_neg hno
        have hE : allE b ks = 2 := if_neg hno
        rw [hV, hE]
        (repeat refine g_seq ?_)
        refine g_region ?_
        refine g_pu rfl rfl rfl (pu_move rfl rfl) ?_
        refine g_pu rfl rfl rfl (pu_move rfl rfl) ?_
        refine g_pu rfl rfl rfl (pu_atM1 i (fun w' hm => (ha.m hm).rd) rfl rfl rfl rfl hlt (by omega)) ?_
        refine g_pu rfl rfl rfl (pu_rdM (fun w' hm => (ha.m hm).rd) rfl rfl hL) ?_
        first | refine g_pu rfl rfl rfl (pu_len rfl rfl) ?_ | refine g_pu rfl rfl rfl (pu_lenS rfl rfl) ?_
        first | refine g_pu rfl rfl rfl (pu_neq_t rfl rfl rfl (by omega)) ?_ | refine g_pu rfl rfl rfl (pu_neq_f rfl rfl rfl (by omega)) ?_ | refine g_pu rfl rfl rfl (pu_neq rfl rfl rfl) ?_
        refine g_nil ?_
        (repeat refine g_seq ?_)
        refine g_cond_t rfl ?_
        (repeat refine g_seq ?_)
        refine g_region ?_
        refine g_pu rfl rfl rfl (pu_assign rfl rfl) ?_
        refine g_pu rfl rfl rfl (pu_assign rfl rfl) ?_
        refine g_nil ?_
        refine g_nilOwn 90 5 1 rfl ?_
        exact g_ret2 rfl rfl rfl (fun w' hm => ⟨⟨none, 0⟩, trivial, rfl, hm.grows [90] ⟨rfl, trivial⟩ rfl⟩)
    · (repeat refine g_seq ?_)
      refine g_region ?_
      refine g_pu rfl rfl rfl (pu_move rfl rfl) ?_
      refine g_pu rfl rfl rfl (pu_move rfl rfl) ?_
      first | refine g_pu rfl rfl rfl (pu_len rfl rfl) ?_ | refine g_pu rfl rfl rfl (pu_lenS rfl rfl) ?_
      first | refine g_pu rfl rfl rfl (pu_lss_t rfl rfl rfl (by omega)) ?_ | refine g_pu rfl rfl rfl (pu_lss_f rfl rfl rfl (by omega)) ?_ | refine g_pu rfl rfl rfl (pu_lss rfl rfl rfl) ?_
      refine g_nil ?_
      (repeat refine g_seq ?_)
      refine g_cond_f rfl (g_exit rfl ?_)
      rw [List.take_of_length_le (by omega)] at hw
      have hok : allOk b ks = true := by unfold allOk; rw [h1, hw]; rfl
      have hV : allV zO b ks = wfold zO ks b := if_pos hok
      have hE : allE b ks = 0 := if_pos hok
      rw [hV, hE]
      (repeat refine g_seq ?_)
      refine g_region ?_
      refine g_pu rfl rfl rfl (pu_move rfl rfl) ?_
      refine g_call [28] rfl rfl rfl rfl rfl rfl (fun w' hm => Copy_b w' c (hb.m hm)) (fun x28 _ => ?_)
      refine g_pu rfl rfl rfl (pu_assign rfl rfl) ?_
      refine g_nil ?_
      (repeat refine g_seq ?_)
      refine g_region ?_
      refine g_pu rfl rfl rfl (pu_assign rfl rfl) ?_
      refine g_nil ?_
      (repeat refine g_seq ?_)
      refine g_block (g_loop3 (fun (i : Nat) (l : List (BitVec 8)) (y : Ow) => [(1, .slice q m d), (2, .bool false), (9, y.sl b.length), (10, .int .i64 (i : Int))]) (fun _ l y => [(28, y.ck 5 1 (bs l))]) (fun i l _ => i ≤ m ∧ l.length = b.length ∧ l = wfold zO (ks.take i) b) (fun i _ _ => m - i) 0 b x28 ⟨rfl, rfl, rfl, rfl, trivial⟩ ⟨rfl, trivial⟩ ⟨by omega, rfl, rfl⟩ ?_)
      intro i l y ⟨hi, hll, hl⟩
      by_cases hlt2 : i < m
      · (repeat refine g_seq ?_)
        refine g_region ?_
        refine g_pu rfl rfl rfl (pu_move rfl rfl) ?_
        refine g_pu rfl rfl rfl (pu_move rfl rfl) ?_
        first | refine g_pu rfl rfl rfl (pu_len rfl rfl) ?_ | refine g_pu rfl rfl rfl (pu_lenS rfl rfl) ?_
        first | refine g_pu rfl rfl rfl (pu_lss_t rfl rfl rfl (by omega)) ?_ | refine g_pu rfl rfl rfl (pu_lss_f rfl rfl rfl (by omega)) ?_ | refine g_pu rfl rfl rfl (pu_lss rfl rfl rfl) ?_
        refine g_nil ?_
        (repeat refine g_seq ?_)
        refine g_cond_t rfl (g_skip ?_)
        have h2 : ks[i]? = some ks[i] := List.getElem?_eq_getElem (by omega)
        have hk32 := w32_mem hw (List.getElem_mem (l := ks) (n := i) (by omega))
        have hft := wfold_take (zs := zO) h2 b
        generalize ks[i] = k at h2 hk32 hft
        obtain ⟨kq, km, kc, hL, hkq⟩ := ha.at h2
        have hkl := hkq.len
        rw [← hl] at hft
        have hfk : fitsB k.length l.length = true := by rw [hk32, hll]; exact h1
        obtain ⟨e1, e2⟩ := rds_ok (key := k) (b := l) (zs := zO) rfl hfk
        have hrl := rdsL_length k zO (l := l) (by omega)
        rw [hkl, hll] at e1
        (repeat refine g_seq ?_); refine g_block ?_
        (repeat refine g_seq ?_)
        refine g_region ?_
        refine g_pu rfl rfl rfl (pu_move rfl rfl) ?_
        refine g_nil ?_
        (repeat refine g_seq ?_)
        refine g_cond_f rfl ?_
        (repeat refine g_seq ?_)
        refine g_region ?_
        refine g_pu rfl rfl rfl (pu_move rfl rfl) ?_
        refine g_pu rfl rfl rfl (pu_move rfl rfl) ?_
        refine g_pu rfl rfl rfl (pu_atM1 i (fun w' hm => (ha.m hm).rd) rfl rfl rfl rfl hlt2 (by omega)) ?_
        refine g_pu rfl rfl rfl (pu_rdM (fun w' hm => (ha.m hm).rd) rfl rfl hL) ?_
        refine g_pu rfl rfl rfl (pu_move rfl rfl) ?_
        refine g_call [51] rfl rfl rfl rfl rfl rfl (fun w' hm => ROpen_b w' kc y.c (hkq.m hm) (By.ow 28 rfl hm hll (by omega)) (by have h9 := Own.le (hm.holds 28 _ rfl); rw [bs_length, hll] at h9; exact h9)) (fun x51 _ => ?_)
        rw [e1, e2, hrl, hll]
        refine g_pu rfl rfl rfl (pu_move rfl rfl) ?_
        refine g_pu rfl rfl rfl (pu_extract rfl rfl rfl) ?_
        refine g_pu rfl rfl rfl (pu_extract rfl rfl rfl) ?_
        refine g_pu rfl rfl rfl (pu_assign rfl rfl) ?_
        refine g_nil ?_
        refine g_retag 51 28 _ rfl rfl ?_
        refine g_blk ?_
        (repeat refine g_seq ?_)
        refine g_region ?_
        refine g_pu rfl rfl rfl (pu_move rfl rfl) ?_
        refine g_pu rfl rfl rfl (pu_addI rfl rfl rfl (by omega)) ?_
        refine g_pu rfl rfl rfl (pu_assign rfl rfl) ?_
        refine g_nil ?_
        exact g_round3 (i + 1) (rdsL k zO l) x51 ⟨by omega, by rw [hrl, hll], hft.symm⟩ (by omega) ⟨rfl, rfl, rfl, rfl, trivial⟩ ⟨rfl, trivial⟩
      · (repeat refine g_seq ?_)
        refine g_region ?_
        refine g_pu rfl rfl rfl (pu_move rfl rfl) ?_
        refine g_pu rfl rfl rfl (pu_move rfl rfl) ?_
        first | refine g_pu rfl rfl rfl (pu_len rfl rfl) ?_ | refine g_pu rfl rfl rfl (pu_lenS rfl rfl) ?_
        first | refine g_pu rfl rfl rfl (pu_lss_t rfl rfl rfl (by omega)) ?_ | refine g_pu rfl rfl rfl (pu_lss_f rfl rfl rfl (by omega)) ?_ | refine g_pu rfl rfl rfl (pu_lss rfl rfl rfl) ?_
        refine g_nil ?_
        (repeat refine g_seq ?_)
        refine g_cond_f rfl (g_exit rfl ?_)
        rw [List.take_of_length_le (by omega)] at hl
        rw [← hl, hll]
        (repeat refine g_seq ?_)
        refine g_region ?_
        refine g_pu rfl rfl rfl (pu_move rfl rfl) ?_
        refine g_pu rfl rfl rfl (pu_assign rfl rfl) ?_
        refine g_pu rfl rfl rfl (pu_assign rfl rfl) ?_
        refine g_nil ?_
        exact g_ret2 rfl rfl rfl (fun w' hm => ⟨y, trivial, rfl, hm.grows [28] ⟨rfl, trivial⟩ rfl⟩)
  · have hno : ¬ allOk b ks = true := fun h => h1 (by
      unfold allOk at h
      rw [Bool.and_eq_true] at h
      exact h.1)
    have hV : allV zO b ks = [] := if_neg hno
    have hE : allE b ks = 2 := if_neg hno
    rw [Bool.eq_false_iff.2 h1, hV, hE]
    (repeat refine g_seq ?_)
    refine g_cond_t rfl ?_
    (repeat refine g_seq ?_)
    refine g_region ?_
    refine g_pu rfl rfl rfl (pu_assign rfl rfl) ?_
    refine g_pu rfl rfl rfl (pu_assign rfl rfl) ?_
    refine g_nil ?_
    refine g_nilOwn 90 5 1 rfl ?_
    exact g_ret2 rfl rfl rfl (fun w' hm => ⟨⟨none, 0⟩, trivial, rfl, hm.grows [90] ⟨rfl, trivial⟩ rfl⟩)
end Go.Sx

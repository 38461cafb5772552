import Derived.Test.YtkonbclggbcffaaGreatZcKY2
import Derived.Test.YtkonbclggbcffaaGreatZcXC
import Derived.Test.YtkonbclggbcffaaGreatZcYA
set_option linter.unusedVariables false
set_option linter.unusedSimpArgs false
/-
  The document's schedule, the payload keys, and a step against a step. The lists fit memory.
-/
namespace Go.Sx
open Go Go.Proofs

def rchR : List (List (BitVec 8)) → List (BitVec 8) → List (List (BitVec 8)) → Int × List HopS
  | [], _, _ => (0, [])
  | pub :: r, al, sc => if (chP pub sc).2 = 0 then comb [(al, (chP pub sc).1)] (rchR r (xmV (kBlind (chP pub sc).1) al) (sc ++ [kBlind (chP pub sc).1])) else ((chP pub sc).2, [])
def rchP (k : List (BitVec 8)) (pubs : List (List (BitVec 8))) : Int × List HopS := if okS k pubs = true then rchR pubs (xmV k nine) [k] else (2, [])
theorem rchR_shape (pubs : List (List (BitVec 8))) (al : List (BitVec 8)) (sc : List (List (BitVec 8))) : (rchR pubs al sc).1 = 0 ∨ (rchR pubs al sc).2 = [] := by
  cases pubs with
  | nil => exact .inl rfl
  | cons pub r =>
    unfold rchR
    split
    · exact comb_shape _ _
    · exact .inr rfl
theorem bad32_at {ls : List (List (BitVec 8))} {i : Nat} {l : List (BitVec 8)} (h : ls[i]? = some l) : bad32 (ls.take (i + 1)) = (bad32 (ls.take i) || (l.length != 32)) := by
  unfold bad32
  rw [List.take_add_one, h, List.any_append]; simp

theorem RSchedule_b (w : World) {p q : Option Addr} {n m : Nat} (c d : Nat) {k : List (BitVec 8)} {L : List Value} {pubs : List (List (BitVec 8))} (hk : By w p n k) (ha : ByL w q m L pubs) :
    Spec Tryz.prog 10 #[.slice p n c, .slice q m d] w (σ := Ow) (fun _ => True) (fun x => .tuple #[x.sl (rchP k pubs).2.length, .int .i64 (rchP k pubs).1]) Nob (fun x => [x.ck 42 192 (bs (stepsL (rchP k pubs).2))]) := by
  refine enter Tryz.func10 rfl rfl (Mem.start w) ?_
  have hkl := hk.len
  have hkb := hk.big
  have hLn := ha.len
  have hbig := ha.big
  have hln := ha.lenL
  have hbad : ¬ okS k pubs = true → rchP k pubs = (2, []) := fun h => if_neg h
  (repeat refine g_seq ?_)
  refine g_region ?_
  refine g_pu rfl rfl rfl (pu_assign rfl rfl) ?_
  refine g_pu rfl rfl rfl (pu_assign rfl rfl) ?_
  refine g_nil ?_
  by_cases hn32 : n = 32
  · by_cases hm1 : m < 1
    · have hm0 : m = 0 := by omega
      rw [hbad (fun h => by have := (okS_iff _ _).1 h; omega)]
      (repeat refine g_seq ?_)
      refine g_region ?_
      refine g_pu rfl rfl rfl (pu_move rfl rfl) ?_
      first | refine g_pu rfl rfl rfl (pu_len rfl rfl) ?_ | refine g_pu rfl rfl rfl (pu_lenS rfl rfl) ?_
      first | refine g_pu rfl rfl rfl (pu_neq_t rfl rfl rfl (by omega)) ?_ | refine g_pu rfl rfl rfl (pu_neq_f rfl rfl rfl (by omega)) ?_ | refine g_pu rfl rfl rfl (pu_neq rfl rfl rfl) ?_
      refine g_pu rfl rfl rfl (pu_move rfl rfl) ?_
      first | refine g_pass rfl rfl rfl ?_ | refine g_pu rfl rfl rfl (pu_move rfl rfl) ?_
      first | refine g_pass rfl rfl rfl ?_ | refine g_pu rfl rfl rfl (pu_len rfl rfl) ?_ | refine g_pu rfl rfl rfl (pu_lenS rfl rfl) ?_
      first | refine g_pass rfl rfl rfl ?_ | refine g_pu rfl rfl rfl (pu_eql_t rfl rfl rfl (by omega)) ?_ | refine g_pu rfl rfl rfl (pu_eql_f rfl rfl rfl (by omega)) ?_ | refine g_pu rfl rfl rfl (pu_eql rfl rfl rfl) ?_
      first | refine g_pu rfl rfl rfl (pu_pick_t rfl rfl rfl) ?_ | refine g_pu rfl rfl rfl (pu_pick_f rfl rfl rfl) ?_
      refine g_pu rfl rfl rfl (pu_move rfl rfl) ?_
      first | refine g_pass rfl rfl rfl ?_ | refine g_pu rfl rfl rfl (pu_move rfl rfl) ?_
      first | refine g_pass rfl rfl rfl ?_ | refine g_pu rfl rfl rfl (pu_len rfl rfl) ?_ | refine g_pu rfl rfl rfl (pu_lenS rfl rfl) ?_
      first | refine g_pass rfl rfl rfl ?_ | refine g_pu rfl rfl rfl (pu_gtr_t rfl rfl rfl (by omega)) ?_ | refine g_pu rfl rfl rfl (pu_gtr_f rfl rfl rfl (by omega)) ?_ | refine g_pu rfl rfl rfl (pu_gtr rfl rfl rfl) ?_
      first | refine g_pu rfl rfl rfl (pu_pick_t rfl rfl rfl) ?_ | refine g_pu rfl rfl rfl (pu_pick_f rfl rfl rfl) ?_
      refine g_nil ?_
      (repeat refine g_seq ?_)
      refine g_cond_t rfl ?_
      (repeat refine g_seq ?_)
      refine g_region ?_
      refine g_pu rfl rfl rfl (pu_assign rfl rfl) ?_
      refine g_pu rfl rfl rfl (pu_assign rfl rfl) ?_
      refine g_nil ?_
      refine g_nilOwn 90 42 192 rfl ?_
      exact g_ret2 rfl rfl rfl (fun w' hm => ⟨⟨none, 0⟩, trivial, rfl, hm.grows [90] ⟨rfl, trivial⟩ rfl⟩)
    · by_cases hm5 : m > 5
      · rw [hbad (fun h => by have := (okS_iff _ _).1 h; omega)]
        (repeat refine g_seq ?_)
        refine g_region ?_
        refine g_pu rfl rfl rfl (pu_move rfl rfl) ?_
        first | refine g_pu rfl rfl rfl (pu_len rfl rfl) ?_ | refine g_pu rfl rfl rfl (pu_lenS rfl rfl) ?_
        first | refine g_pu rfl rfl rfl (pu_neq_t rfl rfl rfl (by omega)) ?_ | refine g_pu rfl rfl rfl (pu_neq_f rfl rfl rfl (by omega)) ?_ | refine g_pu rfl rfl rfl (pu_neq rfl rfl rfl) ?_
        refine g_pu rfl rfl rfl (pu_move rfl rfl) ?_
        first | refine g_pass rfl rfl rfl ?_ | refine g_pu rfl rfl rfl (pu_move rfl rfl) ?_
        first | refine g_pass rfl rfl rfl ?_ | refine g_pu rfl rfl rfl (pu_len rfl rfl) ?_ | refine g_pu rfl rfl rfl (pu_lenS rfl rfl) ?_
        first | refine g_pass rfl rfl rfl ?_ | refine g_pu rfl rfl rfl (pu_eql_t rfl rfl rfl (by omega)) ?_ | refine g_pu rfl rfl rfl (pu_eql_f rfl rfl rfl (by omega)) ?_ | refine g_pu rfl rfl rfl (pu_eql rfl rfl rfl) ?_
        first | refine g_pu rfl rfl rfl (pu_pick_t rfl rfl rfl) ?_ | refine g_pu rfl rfl rfl (pu_pick_f rfl rfl rfl) ?_
        refine g_pu rfl rfl rfl (pu_move rfl rfl) ?_
        first | refine g_pass rfl rfl rfl ?_ | refine g_pu rfl rfl rfl (pu_move rfl rfl) ?_
        first | refine g_pass rfl rfl rfl ?_ | refine g_pu rfl rfl rfl (pu_len rfl rfl) ?_ | refine g_pu rfl rfl rfl (pu_lenS rfl rfl) ?_
        first | refine g_pass rfl rfl rfl ?_ | refine g_pu rfl rfl rfl (pu_gtr_t rfl rfl rfl (by omega)) ?_ | refine g_pu rfl rfl rfl (pu_gtr_f rfl rfl rfl (by omega)) ?_ | refine g_pu rfl rfl rfl (pu_gtr rfl rfl rfl) ?_
        first | refine g_pu rfl rfl rfl (pu_pick_t rfl rfl rfl) ?_ | refine g_pu rfl rfl rfl (pu_pick_f rfl rfl rfl) ?_
        refine g_nil ?_
        (repeat refine g_seq ?_)
        refine g_cond_t rfl ?_
        (repeat refine g_seq ?_)
        refine g_region ?_
        refine g_pu rfl rfl rfl (pu_assign rfl rfl) ?_
        refine g_pu rfl rfl rfl (pu_assign rfl rfl) ?_
        refine g_nil ?_
        refine g_nilOwn 90 42 192 rfl ?_
        exact g_ret2 rfl rfl rfl (fun w' hm => ⟨⟨none, 0⟩, trivial, rfl, hm.grows [90] ⟨rfl, trivial⟩ rfl⟩)
      · (repeat refine g_seq ?_)
        refine g_region ?_
        refine g_pu rfl rfl rfl (pu_move rfl rfl) ?_
        first | refine g_pu rfl rfl rfl (pu_len rfl rfl) ?_ | refine g_pu rfl rfl rfl (pu_lenS rfl rfl) ?_
        first | refine g_pu rfl rfl rfl (pu_neq_t rfl rfl rfl (by omega)) ?_ | refine g_pu rfl rfl rfl (pu_neq_f rfl rfl rfl (by omega)) ?_ | refine g_pu rfl rfl rfl (pu_neq rfl rfl rfl) ?_
        refine g_pu rfl rfl rfl (pu_move rfl rfl) ?_
        first | refine g_pass rfl rfl rfl ?_ | refine g_pu rfl rfl rfl (pu_move rfl rfl) ?_
        first | refine g_pass rfl rfl rfl ?_ | refine g_pu rfl rfl rfl (pu_len rfl rfl) ?_ | refine g_pu rfl rfl rfl (pu_lenS rfl rfl) ?_
        first | refine g_pass rfl rfl rfl ?_ | refine g_pu rfl rfl rfl (pu_eql_t rfl rfl rfl (by omega)) ?_ | refine g_pu rfl rfl rfl (pu_eql_f rfl rfl rfl (by omega)) ?_ | refine g_pu rfl rfl rfl (pu_eql rfl rfl rfl) ?_
        first | refine g_pu rfl rfl rfl (pu_pick_t rfl rfl rfl) ?_ | refine g_pu rfl rfl rfl (pu_pick_f rfl rfl rfl) ?_
        refine g_pu rfl rfl rfl (pu_move rfl rfl) ?_
        first | refine g_pass rfl rfl rfl ?_ | refine g_pu rfl rfl rfl (pu_move rfl rfl) ?_
        first | refine g_pass rfl rfl rfl ?_ | refine g_pu rfl rfl rfl (pu_len rfl rfl) ?_ | refine g_pu rfl rfl rfl (pu_lenS rfl rfl) ?_
        first | refine g_pass rfl rfl rfl ?_ | refine g_pu rfl rfl rfl (pu_gtr_t rfl rfl rfl (by omega)) ?_ | refine g_pu rfl rfl rfl (pu_gtr_f rfl rfl rfl (by omega)) ?_ | refine g_pu rfl rfl rfl (pu_gtr rfl rfl rfl) ?_
        first | refine g_pu rfl rfl rfl (pu_pick_t rfl rfl rfl) ?_ | refine g_pu rfl rfl rfl (pu_pick_f rfl rfl rfl) ?_
        refine g_nil ?_
        (repeat refine g_seq ?_)
        refine g_cond_f rfl (g_skip ?_)
        (repeat refine g_seq ?_)
        refine g_region ?_
        refine g_pu rfl rfl rfl (pu_assign rfl rfl) ?_
        refine g_nil ?_
        (repeat refine g_seq ?_)
        refine g_block (g_loop (σ := Nat) (fun i => [(0, .slice p n c), (1, .slice q m d), (6, .int .i64 (i : Int))]) (fun _ => []) (fun i => i ≤ m ∧ bad32 (pubs.take i) = false) (fun i => m - i) 0 ⟨rfl, rfl, rfl, trivial⟩ trivial ⟨by omega, rfl⟩ ?_)
        intro i ⟨hi, hno⟩
        by_cases hlt : i < m
        · (repeat refine g_seq ?_)
          refine g_region ?_
          refine g_pu rfl rfl rfl (pu_move rfl rfl) ?_
          refine g_pu rfl rfl rfl (pu_move rfl rfl) ?_
          first | refine g_pu rfl rfl rfl (pu_len rfl rfl) ?_ | refine g_pu rfl rfl rfl (pu_lenS rfl rfl) ?_
          first | refine g_pu rfl rfl rfl (pu_lss_t rfl rfl rfl (by omega)) ?_ | refine g_pu rfl rfl rfl (pu_lss_f rfl rfl rfl (by omega)) ?_ | refine g_pu rfl rfl rfl (pu_lss rfl rfl rfl) ?_
          refine g_nil ?_
          (repeat refine g_seq ?_)
          refine g_cond_t rfl (g_skip ?_)
          have hl : pubs[i]? = some pubs[i] := List.getElem?_eq_getElem (by omega)
          have hmem := List.getElem_mem (l := pubs) (n := i) (by omega)
          have ht := bad32_at hl
          generalize pubs[i] = l at hl hmem ht
          obtain ⟨kq, km, kc, hL, hkq⟩ := ha.at hl
          have hll := hkq.len
          rw [hno, Bool.false_or] at ht
          (repeat refine g_seq ?_); refine g_block ?_
          by_cases h32 : km = 32
          · (repeat refine g_seq ?_)
            refine g_region ?_
            refine g_pu rfl rfl rfl (pu_move rfl rfl) ?_
            refine g_pu rfl rfl rfl (pu_move rfl rfl) ?_
            refine g_pu rfl rfl rfl (pu_atM1 i (fun w' hm => (ha.m hm).rd) rfl rfl rfl rfl hlt (by omega)) ?_
            refine g_pu rfl rfl rfl (pu_rdM (fun w' hm => (ha.m hm).rd) rfl rfl hL) ?_
            first | refine g_pu rfl rfl rfl (pu_len rfl rfl) ?_ | refine g_pu rfl rfl rfl (pu_lenS rfl rfl) ?_
            first | refine g_pu rfl rfl rfl (pu_neq_t rfl rfl rfl (by omega)) ?_ | refine g_pu rfl rfl rfl (pu_neq_f rfl rfl rfl (by omega)) ?_ | refine g_pu rfl rfl rfl (pu_neq rfl rfl rfl) ?_
            refine g_nil ?_
            (repeat refine g_seq ?_)
            refine g_cond_f rfl (g_skip ?_)
            refine g_blk ?_
            (repeat refine g_seq ?_)
            refine g_region ?_
            refine g_pu rfl rfl rfl (pu_move rfl rfl) ?_
            refine g_pu rfl rfl rfl (pu_addI rfl rfl rfl (by omega)) ?_
            refine g_pu rfl rfl rfl (pu_assign rfl rfl) ?_
            refine g_nil ?_
            exact g_round (i + 1) ⟨by omega, by rw [ht, hll, h32]; rfl⟩ (by omega) ⟨rfl, rfl, rfl, trivial⟩ trivial
          · rw [hbad (fun h => by
              have h1 := ((okS_iff _ _).1 h).2.2.2
              have h2 : bad32 pubs = true := List.any_eq_true.2 ⟨l, hmem, by rw [hll]; exact bne_iff_ne.2 h32⟩
              rw [h1] at h2; cases h2)]
            (repeat refine g_seq ?_)
            refine g_region ?_
            refine g_pu rfl rfl rfl (pu_move rfl rfl) ?_
            refine g_pu rfl rfl rfl (pu_move rfl rfl) ?_
            refine g_pu rfl rfl rfl (pu_atM1 i (fun w' hm => (ha.m hm).rd) rfl rfl rfl rfl hlt (by omega)) ?_
            refine g_pu rfl rfl rfl (pu_rdM (fun w' hm => (ha.m hm).rd) rfl rfl hL) ?_
            first | refine g_pu rfl rfl rfl (pu_len rfl rfl) ?_ | refine g_pu rfl rfl rfl (pu_lenS rfl rfl) ?_
            first | refine g_pu rfl rfl rfl (pu_neq_t rfl rfl rfl (by omega)) ?_ | refine g_pu rfl rfl rfl (pu_neq_f rfl rfl rfl (by omega)) ?_ | refine g_pu rfl rfl rfl (pu_neq rfl rfl rfl) ?_
            refine g_nil ?_
            (repeat refine g_seq ?_)
            refine g_cond_t rfl ?_
            (repeat refine g_seq ?_)
            refine g_region ?_
            refine g_pu rfl rfl rfl (pu_assign rfl rfl) ?_
            refine g_pu rfl rfl rfl (pu_assign rfl rfl) ?_
            refine g_nil ?_
            refine g_nilOwn 90 42 192 rfl ?_
            exact g_ret2 rfl rfl rfl (fun w' hm => ⟨⟨none, 0⟩, trivial, rfl, hm.grows [90] ⟨rfl, trivial⟩ rfl⟩)
        · (repeat refine g_seq ?_)
          refine g_region ?_
          refine g_pu rfl rfl rfl (pu_move rfl rfl) ?_
          refine g_pu rfl rfl rfl (pu_move rfl rfl) ?_
          first | refine g_pu rfl rfl rfl (pu_len rfl rfl) ?_ | refine g_pu rfl rfl rfl (pu_lenS rfl rfl) ?_
          first | refine g_pu rfl rfl rfl (pu_lss_t rfl rfl rfl (by omega)) ?_ | refine g_pu rfl rfl rfl (pu_lss_f rfl rfl rfl (by omega)) ?_ | refine g_pu rfl rfl rfl (pu_lss rfl rfl rfl) ?_
          refine g_nil ?_
          (repeat refine g_seq ?_)
          refine g_cond_f rfl (g_exit rfl ?_)
          rw [List.take_of_length_le (by omega)] at hno
          have hT : rchP k pubs = rchR pubs (xmV k nine) [k] := if_pos ((okS_iff _ _).2 ⟨by omega, by omega, by omega, hno⟩)
          rw [hT]
          generalize hTT : rchR pubs (xmV k nine) [k] = T
          have hvl := xmV_length k nine
          have hvb : (bs (xmV k nine)).length = 32 := by rw [bs_length, hvl]
          subst hn32
          (repeat refine g_seq ?_)
          refine g_region ?_
          refine g_pu rfl rfl rfl (pu_move rfl rfl) ?_
          refine g_call [] rfl rfl rfl rfl rfl rfl (fun w' hm => RPublic_b w' c (hk.m hm)) (fun _ _ => ?_)
          refine g_pu rfl rfl rfl (pu_move rfl rfl) ?_
          refine g_pu rfl rfl rfl (pu_extract rfl rfl rfl) ?_
          refine g_pu rfl rfl rfl (pu_extract rfl rfl rfl) ?_
          refine g_lo [7] rfl rfl rfl rfl (lo_alloc rfl) (fun b7 hb7 => ?_)
          refine g_storeL 7 (s := 32) (C := bs (xmV k nine)) rfl rfl rfl rfl rfl rfl hvb rfl (oneCell_bs _) ?_
          refine g_pu rfl rfl rfl (pu_assign rfl rfl) ?_
          refine g_nil ?_
          (repeat refine g_seq ?_)
          refine g_region ?_
          refine g_pu rfl rfl rfl (pu_move rfl rfl) ?_
          refine g_call [48] rfl rfl rfl rfl rfl rfl (fun w' hm => Copy_b w' c (hk.m hm)) (fun x48 _ => ?_)
          refine g_lo [49] rfl rfl rfl rfl (lo_buildSlice rfl rfl (by decide) (by decide) rfl rfl) (fun b49 hb49 => ?_)
          refine g_own 49 (L := [x48.sl 32]) (J := []) (c := 1) (s := 1) rfl (by simp) (by omega) ?_
          refine g_pu rfl rfl rfl (pu_assign rfl rfl) ?_
          refine g_nil ?_
          (repeat refine g_seq ?_)
          refine g_region ?_
          refine g_pu rfl rfl rfl (pu_assign rfl rfl) ?_
          refine g_nil ?_
          refine g_nilOwn 90 42 192 rfl ?_
          refine g_bagC [48] 91 (E := 5) (xs := [(x48, k)]) ⟨.inl rfl, rfl, trivial⟩ rfl ?_
          have hv1 : [x48.sl 32] = vals [(x48, k)] := by show _ = [x48.sl k.length]; rw [hkl]
          rw [hv1]
          (repeat refine g_seq ?_)
          refine g_region ?_
          refine g_pu rfl rfl rfl (pu_assign rfl rfl) ?_
          refine g_nil ?_
          (repeat refine g_seq ?_)
          refine g_block (g_loop3 (fun (i : Nat) (l : List (BitVec 8) × List HopS) (y : Ow × List Otm × Ow) => [(1, .slice q m d), (7, .pointer (some ⟨b7, 0, none⟩)), (9, y.1.sl (i + 1)), (10, y.2.2.sl i), (11, .int .i64 (i : Int))])
            (fun i l y => [(7, .pt b7 (.cells (bs l.1).toArray 35 (0, 0))), (49, y.1.ck 22 1 (vals y.2.1)), (91, .fact (BSC y.2.1) (BagC 5 y.2.1)), (90, y.2.2.ck 42 192 (bs (stepsL l.2)))])
            (fun i l y => i ≤ m ∧ l.1.length = 32 ∧ y.2.1.length = i + 1 ∧ l.2.length = i ∧ (∀ x ∈ y.2.1, x.2.length = 32) ∧ (∀ h ∈ l.2, h.1.length = 32 ∧ h.2.length = 32) ∧ comb l.2 (rchR (pubs.drop i) l.1 (conts y.2.1)) = T) (fun i _ _ => m - i) 0 (xmV k nine, []) (⟨some ⟨b49, 0, none⟩, 1⟩, [(x48, k)], ⟨none, 0⟩) ⟨rfl, rfl, rfl, rfl, rfl, trivial⟩ ⟨rfl, rfl, rfl, rfl, trivial⟩ ⟨by omega, hvl, rfl, rfl, fun x h => by rw [List.mem_singleton.1 h]; exact hkl, fun _ h => by simp at h, by
              rw [← hTT, List.drop_zero]
              exact comb_nil _ (rchR_shape _ _ _)⟩ ?_)
          rintro i ⟨al, acc⟩ ⟨ys, cl, xs⟩ ⟨hi, hal, hcl, hac, hc32, hh32, hT⟩
          dsimp only at hal hcl hac hc32 hh32 hT ⊢
          by_cases hlt : i < m
          · (repeat refine g_seq ?_)
            refine g_region ?_
            refine g_pu rfl rfl rfl (pu_move rfl rfl) ?_
            refine g_pu rfl rfl rfl (pu_move rfl rfl) ?_
            first | refine g_pu rfl rfl rfl (pu_len rfl rfl) ?_ | refine g_pu rfl rfl rfl (pu_lenS rfl rfl) ?_
            first | refine g_pu rfl rfl rfl (pu_lss_t rfl rfl rfl (by omega)) ?_ | refine g_pu rfl rfl rfl (pu_lss_f rfl rfl rfl (by omega)) ?_ | refine g_pu rfl rfl rfl (pu_lss rfl rfl rfl) ?_
            refine g_nil ?_
            (repeat refine g_seq ?_)
            refine g_cond_t rfl (g_skip ?_)
            have hpb : pubs[i]? = some pubs[i] := List.getElem?_eq_getElem (by omega)
            have hdr : pubs.drop i = pubs[i] :: pubs.drop (i + 1) := List.drop_eq_getElem_cons (by omega)
            generalize pubs[i] = pub at hpb hdr
            obtain ⟨kq, km, kc, hL, hkq⟩ := ha.at hpb
            rw [hdr] at hT
            unfold rchR at hT
            have hchl := chP_length pub (conts cl)
            have hchb : (bs (chP pub (conts cl)).1).length = 32 := by rw [bs_length, hchl]
            (repeat refine g_seq ?_); refine g_block ?_
            (repeat refine g_seq ?_)
            refine g_region ?_
            refine g_pu rfl rfl rfl (pu_move rfl rfl) ?_
            refine g_pu rfl rfl rfl (pu_move rfl rfl) ?_
            refine g_pu rfl rfl rfl (pu_atM1 i (fun w' hm => (ha.m hm).rd) rfl rfl rfl rfl hlt (by omega)) ?_
            refine g_pu rfl rfl rfl (pu_rdM (fun w' hm => (ha.m hm).rd) rfl rfl hL) ?_
            refine g_pu rfl rfl rfl (pu_move rfl rfl) ?_
            refine g_call [] rfl rfl rfl rfl rfl rfl (fun w' hm => RChain_b w' kc ys.c (ks := conts cl) (hkq.m hm) (BagC.byl 49 91 rfl rfl hm hcl (fun x hx => by have := hc32 x hx; omega) (by omega))) (fun _ _ => ?_)
            refine g_pu rfl rfl rfl (pu_move rfl rfl) ?_
            refine g_pu rfl rfl rfl (pu_extract rfl rfl rfl) ?_
            refine g_pu rfl rfl rfl (pu_extract rfl rfl rfl) ?_
            refine g_lo [12] rfl rfl rfl rfl (lo_alloc rfl) (fun b12 hb12 => ?_)
            refine g_storeL 12 (s := 32) (C := bs (chP pub (conts cl)).1) rfl rfl rfl rfl rfl rfl hchb rfl (oneCell_bs _) ?_
            refine g_pu rfl rfl rfl (pu_assign rfl rfl) ?_
            refine g_nil ?_
            generalize hch : chP pub (conts cl) = ch at hT hchl hchb
            obtain ⟨s, f⟩ := ch
            dsimp only at hT hchl hchb ⊢
            by_cases hf : f = 0
            · subst hf
              rw [if_pos rfl, comb_comb] at hT
              (repeat refine g_seq ?_)
              refine g_region ?_
              refine g_pu rfl rfl rfl (pu_move rfl rfl) ?_
              first | refine g_pu rfl rfl rfl (pu_neq_t rfl rfl rfl (by omega)) ?_ | refine g_pu rfl rfl rfl (pu_neq_f rfl rfl rfl (by omega)) ?_ | refine g_pu rfl rfl rfl (pu_neq rfl rfl rfl) ?_
              refine g_nil ?_
              (repeat refine g_seq ?_)
              refine g_cond_f rfl (g_skip ?_)
              have htl : (bs (stL' al s)).length = 192 := by rw [bs_length, stL'_length hal hchl]
              have hab : (bs al).length = 32 := by rw [bs_length, hal]
              have hol : (bs (ofV s)).length = 128 := by rw [bs_length, ofV_length]
              have hsl := stepsL_length hh32
              have hsq : seqCells 192 0 [(0, Value.agg (bs (stL' al s)).toArray)] = some (bs (stL' al s)) := by simp only [seqCells, Value.cells, List.size_toArray, htl]; simp [List.append_nil]
              have hxl := xmV_length (kBlind s) al
              have hxb : (bs (xmV (kBlind s) al)).length = 32 := by rw [bs_length, hxl]
              have hobl : ((ofV s).drop 96).take 32 = kBlind s := by rw [ofV_32 hchl, ksL_blind]
              (repeat refine g_seq ?_)
              refine g_region ?_
              refine g_pu rfl rfl rfl (pu_sliceA rfl rfl) ?_
              refine g_call [] rfl rfl rfl rfl rfl rfl (fun w' hm => ROf12_b w' 32 (s := s) (By.full 12 rfl hm hchl (by omega))) (fun _ _ => ?_)
              refine g_pu rfl rfl rfl (pu_move rfl rfl) ?_
              refine g_pu rfl rfl rfl (pu_extract rfl rfl rfl) ?_
              refine g_pu rfl rfl rfl (pu_extract rfl rfl rfl) ?_
              refine g_lo [14] rfl rfl rfl rfl (lo_alloc rfl) (fun b14 hb14 => ?_)
              refine g_storeL 14 (s := 128) (C := bs (ofV s)) rfl rfl rfl rfl rfl rfl hol (by rw [List.length_replicate]) (oneCell_bs _) ?_
              refine g_pu rfl rfl rfl (pu_assign rfl rfl) ?_
              refine g_nil ?_
              (repeat refine g_seq ?_)
              refine g_region ?_
              refine g_pu rfl rfl rfl (pu_loadW 14 (L := bs (ofV s)) rfl rfl rfl hol) ?_
              refine g_pu rfl rfl rfl (pu_loadW 7 (L := bs al) rfl rfl rfl hab) ?_
              refine g_pu rfl rfl rfl (pu_loadW 12 (L := bs s) rfl rfl rfl hchb) ?_
              refine g_pu rfl rfl rfl (pu_buildS (cs := bs (stL' al s)) rfl rfl (fill_step hal hchl rfl)) ?_
              refine g_lo [16] rfl rfl rfl rfl (lo_alloc rfl) (fun b16 hb16 => ?_)
              refine g_storeL 16 (s := 192) (C := bs (stL' al s)) rfl rfl rfl rfl rfl rfl htl (by rw [List.length_replicate]) (oneCell_bs _) ?_
              refine g_nil ?_
              (repeat refine g_seq ?_)
              refine g_region ?_
              refine g_pu rfl rfl rfl (pu_move rfl rfl) ?_
              refine g_pu rfl rfl rfl (pu_loadW 16 (L := bs (stL' al s)) rfl rfl rfl htl) ?_
              refine g_lo [79] rfl rfl rfl rfl (lo_buildSlice rfl rfl (by decide) (by decide) rfl hsq) (fun b79 hb79 => ?_)
              refine g_append 90 (s := 192) (bs (stL' al s)) rfl rfl rfl (by omega) rfl rfl rfl rfl rfl (by rw [bs_length, hsl, hac]) (fun w' hm => hm.rowA 79 rfl) (by rw [htl]) (oneCell_bs _) (by omega) (by omega) (fun p1 c1 => ?_)
              rw [← bs_append, ← stepsL_snoc acc (al, s)]
              refine g_pu rfl rfl rfl (pu_assign rfl rfl) ?_
              refine g_nil ?_
              (repeat refine g_seq ?_)
              refine g_region ?_
              refine g_pu rfl rfl rfl (pu_move rfl rfl) ?_
              refine g_pu rfl rfl rfl (pu_fieldAddr (by decide) rfl rfl) ?_
              refine g_pu rfl rfl rfl (pu_sliceA rfl rfl) ?_
              refine g_call [84] rfl rfl rfl rfl rfl rfl (fun w' hm => Copy_b w' 32 (By.sub 14 rfl hm hobl (kBlind_length s) (by omega))) (fun x84 _ => ?_)
              refine g_lo [85] rfl rfl rfl rfl (lo_buildSlice rfl rfl (by decide) (by decide) rfl rfl) (fun b85 hb85 => ?_)
              refine g_append1 49 [x84.sl 32] rfl rfl rfl rfl rfl rfl rfl rfl (by rw [vals_length, hcl]) (fun w' hm => hm.rowA 85 rfl) rfl (fun u hu => by rw [List.mem_singleton.1 hu]; rfl) (by omega) (by omega) (fun p2 c2 => ?_)
              refine g_pu rfl rfl rfl (pu_assign rfl rfl) ?_
              refine g_nil ?_
              refine g_bagSnoc 91 84 (E := 5) rfl rfl (by decide) rfl ?_
              have hvs : vals cl ++ [x84.sl 32] = vals (cl ++ [(x84, kBlind s)]) := by
                rw [vals_append]
                show _ = vals cl ++ [x84.sl (kBlind s).length]
                rw [kBlind_length]
              rw [hvs]
              have hcs : conts (cl ++ [(x84, kBlind s)]) = conts cl ++ [kBlind s] := by rw [conts_append]; rfl
              have hcl2 : (cl ++ [(x84, kBlind s)]).length = i + 1 + 1 := by simp [hcl]
              have hc32' : ∀ x ∈ cl ++ [(x84, kBlind s)], x.2.length = 32 := fun x hx => by
                rcases List.mem_append.1 hx with h1 | h1
                · exact hc32 x h1
                · rw [List.mem_singleton.1 h1]; exact kBlind_length s
              have hh32' : ∀ h ∈ acc ++ [(al, s)], h.1.length = 32 ∧ h.2.length = 32 := fun h hx => by
                rcases List.mem_append.1 hx with h1 | h1
                · exact hh32 h h1
                · rw [List.mem_singleton.1 h1]; exact ⟨hal, hchl⟩
              rw [← hcs] at hT
              generalize cl ++ [(x84, kBlind s)] = cl' at hT hcl2 hc32' hcs
              (repeat refine g_seq ?_)
              refine g_region ?_
              refine g_pu rfl rfl rfl (pu_loadW 16 (L := bs (stL' al s)) rfl rfl rfl htl) ?_
              refine g_call [] rfl rfl rfl rfl rfl rfl (fun w' hm => RNext12_b w' hal hchl) (fun _ _ => ?_)
              refine g_pu rfl rfl rfl (pu_move rfl rfl) ?_
              refine g_pu rfl rfl rfl (pu_extract rfl rfl rfl) ?_
              refine g_pu rfl rfl rfl (pu_extract rfl rfl rfl) ?_
              refine g_storeL 7 (s := 32) (C := bs (xmV (kBlind s) al)) rfl rfl rfl rfl rfl rfl hxb hab (oneCell_bs _) ?_
              refine g_nil ?_
              refine g_blk ?_
              (repeat refine g_seq ?_)
              refine g_region ?_
              refine g_pu rfl rfl rfl (pu_move rfl rfl) ?_
              refine g_pu rfl rfl rfl (pu_addI rfl rfl rfl (by omega)) ?_
              refine g_pu rfl rfl rfl (pu_assign rfl rfl) ?_
              refine g_nil ?_
              exact g_round3 (i + 1) (xmV (kBlind s) al, acc ++ [(al, s)]) (⟨p2, c2⟩, cl', ⟨p1, c1⟩) ⟨by omega, hxl, hcl2, by simp [hac], hc32', hh32', hT⟩ (by omega) ⟨rfl, rfl, rfl, rfl, rfl, trivial⟩ ⟨rfl, rfl, rfl, rfl, trivial⟩
            · rw [if_neg hf, comb_ne hf] at hT
              rw [← hT]
              (repeat refine g_seq ?_)
              refine g_region ?_
              refine g_pu rfl rfl rfl (pu_move rfl rfl) ?_
              refine g_pu rfl rfl rfl (pu_neq_t rfl rfl rfl hf) ?_
              refine g_nil ?_
              (repeat refine g_seq ?_)
              refine g_cond_t rfl ?_
              (repeat refine g_seq ?_)
              refine g_region ?_
              refine g_pu rfl rfl rfl (pu_move rfl rfl) ?_
              refine g_pu rfl rfl rfl (pu_assign rfl rfl) ?_
              refine g_pu rfl rfl rfl (pu_assign rfl rfl) ?_
              refine g_nil ?_
              refine g_nilOwn 92 42 192 rfl ?_
              exact g_ret2 rfl rfl rfl (fun w' hm => ⟨⟨none, 0⟩, trivial, rfl, hm.grows [92] ⟨rfl, trivial⟩ rfl⟩)
          · (repeat refine g_seq ?_)
            refine g_region ?_
            refine g_pu rfl rfl rfl (pu_move rfl rfl) ?_
            refine g_pu rfl rfl rfl (pu_move rfl rfl) ?_
            first | refine g_pu rfl rfl rfl (pu_len rfl rfl) ?_ | refine g_pu rfl rfl rfl (pu_lenS rfl rfl) ?_
            first | refine g_pu rfl rfl rfl (pu_lss_t rfl rfl rfl (by omega)) ?_ | refine g_pu rfl rfl rfl (pu_lss_f rfl rfl rfl (by omega)) ?_ | refine g_pu rfl rfl rfl (pu_lss rfl rfl rfl) ?_
            refine g_nil ?_
            (repeat refine g_seq ?_)
            refine g_cond_f rfl (g_exit rfl ?_)
            have hdr : pubs.drop i = [] := List.drop_of_length_le (by omega)
            rw [hdr] at hT
            have hTT2 : T = (0, acc) := by rw [← hT]; unfold rchR comb; simp
            rw [hTT2]
            have hac' : (0, acc).2.length = i := hac
            (repeat refine g_seq ?_)
            refine g_region ?_
            refine g_pu rfl rfl rfl (pu_move rfl rfl) ?_
            refine g_pu rfl rfl rfl (pu_assign rfl rfl) ?_
            refine g_pu rfl rfl rfl (pu_assign rfl rfl) ?_
            refine g_nil ?_
            exact g_ret2 rfl rfl rfl (fun w' hm => ⟨xs, trivial, by rw [hac'], hm.grows [90] ⟨rfl, trivial⟩ rfl⟩)
  · rw [hbad (fun h => by have := (okS_iff _ _).1 h; omega)]
    (repeat refine g_seq ?_)
    refine g_region ?_
    refine g_pu rfl rfl rfl (pu_move rfl rfl) ?_
    first | refine g_pu rfl rfl rfl (pu_len rfl rfl) ?_ | refine g_pu rfl rfl rfl (pu_lenS rfl rfl) ?_
    first | refine g_pu rfl rfl rfl (pu_neq_t rfl rfl rfl (by omega)) ?_ | refine g_pu rfl rfl rfl (pu_neq_f rfl rfl rfl (by omega)) ?_ | refine g_pu rfl rfl rfl (pu_neq rfl rfl rfl) ?_
    refine g_pu rfl rfl rfl (pu_move rfl rfl) ?_
    first | refine g_pass rfl rfl rfl ?_ | refine g_pu rfl rfl rfl (pu_move rfl rfl) ?_
    first | refine g_pass rfl rfl rfl ?_ | refine g_pu rfl rfl rfl (pu_len rfl rfl) ?_ | refine g_pu rfl rfl rfl (pu_lenS rfl rfl) ?_
    first | refine g_pass rfl rfl rfl ?_ | refine g_pu rfl rfl rfl (pu_eql_t rfl rfl rfl (by omega)) ?_ | refine g_pu rfl rfl rfl (pu_eql_f rfl rfl rfl (by omega)) ?_ | refine g_pu rfl rfl rfl (pu_eql rfl rfl rfl) ?_
    first | refine g_pu rfl rfl rfl (pu_pick_t rfl rfl rfl) ?_ | refine g_pu rfl rfl rfl (pu_pick_f rfl rfl rfl) ?_
    refine g_pu rfl rfl rfl (pu_move rfl rfl) ?_
    first | refine g_pass rfl rfl rfl ?_ | refine g_pu rfl rfl rfl (pu_move rfl rfl) ?_
    first | refine g_pass rfl rfl rfl ?_ | refine g_pu rfl rfl rfl (pu_len rfl rfl) ?_ | refine g_pu rfl rfl rfl (pu_lenS rfl rfl) ?_
    first | refine g_pass rfl rfl rfl ?_ | refine g_pu rfl rfl rfl (pu_gtr_t rfl rfl rfl (by omega)) ?_ | refine g_pu rfl rfl rfl (pu_gtr_f rfl rfl rfl (by omega)) ?_ | refine g_pu rfl rfl rfl (pu_gtr rfl rfl rfl) ?_
    first | refine g_pu rfl rfl rfl (pu_pick_t rfl rfl rfl) ?_ | refine g_pu rfl rfl rfl (pu_pick_f rfl rfl rfl) ?_
    refine g_nil ?_
    (repeat refine g_seq ?_)
    refine g_cond_t rfl ?_
    (repeat refine g_seq ?_)
    refine g_region ?_
    refine g_pu rfl rfl rfl (pu_assign rfl rfl) ?_
    refine g_pu rfl rfl rfl (pu_assign rfl rfl) ?_
    refine g_nil ?_
    refine g_nilOwn 90 42 192 rfl ?_
    exact g_ret2 rfl rfl rfl (fun w' hm => ⟨⟨none, 0⟩, trivial, rfl, hm.grows [90] ⟨rfl, trivial⟩ rfl⟩)
theorem stepsL_get {l : List HopS} (ho : ∀ h ∈ l, h.1.length = 32 ∧ h.2.length = 32) {i : Nat} {h : HopS} (hi : l[i]? = some h) : ((stepsL l).drop (i * 192)).take 192 = stL' h.1 h.2 := by
  have hlt := (List.getElem?_eq_some_iff.1 hi).1
  have hm := ho h (List.mem_of_getElem? hi)
  have e : l = l.take i ++ h :: l.drop (i + 1) := by
    rw [← (List.getElem?_eq_some_iff.1 hi).2, ← List.drop_eq_getElem_cons hlt, List.take_append_drop]
  have hl : (stepsL (l.take i)).length = i * 192 := by
    rw [stepsL_length (fun x hx => ho x (List.mem_of_mem_take hx)), List.length_take, Nat.min_eq_left (by omega)]
  have e2 : stepsL l = stepsL (l.take i) ++ (stL' h.1 h.2 ++ stepsL (l.drop (i + 1))) := by
    conv => lhs; rw [e]
    simp [stepsL]
  rw [e2]
  exact drop_mid hl (stL'_length hm.1 hm.2)
theorem Pays_b (w : World) {q : Option Addr} {m : Nat} (d : Nat) {l : List HopS} (hq : RdV w q (bs (stepsL l))) (hl : l.length = m) (ho : ∀ h ∈ l, h.1.length = 32 ∧ h.2.length = 32) (hmb : m ≤ 1000) :
    Spec Tryz.prog 11 #[.slice q m d] w (σ := Ow × List Otm) (fun s => conts s.2 = l.map fun h => kPay h.2) (fun s => s.1.sl s.2.length) Nob (fun s => [s.1.ck 22 1 (vals s.2), .fact (BSC s.2) (BagC 5 s.2)]) := by
  refine enter Tryz.func11 rfl rfl (Mem.start w) ?_
  have hsl := stepsL_length ho
  have hbl : (bs (stepsL l)).length = m * 192 := by rw [bs_length, hsl, hl]
  (repeat refine g_seq ?_)
  refine g_region ?_
  refine g_pu rfl rfl rfl (pu_assign rfl rfl) ?_
  refine g_nil ?_
  (repeat refine g_seq ?_)
  refine g_region ?_
  refine g_pu rfl rfl rfl (pu_assign rfl rfl) ?_
  refine g_nil ?_
  refine g_nilOwn 90 22 1 rfl (g_noBag 91 5 rfl ?_)
  (repeat refine g_seq ?_)
  refine g_region ?_
  refine g_pu rfl rfl rfl (pu_move rfl rfl) ?_
  first | refine g_pu rfl rfl rfl (pu_len rfl rfl) ?_ | refine g_pu rfl rfl rfl (pu_lenS rfl rfl) ?_
  refine g_pu rfl rfl rfl (pu_move rfl rfl) ?_
  refine g_nil ?_
  (repeat refine g_seq ?_)
  refine g_block (g_loop2 (fun (i : Nat) (y : Ow × List Otm) => [(3, y.1.sl i), (6, .slice q m d), (7, .int .i64 (m : Int)), (8, .int .i64 (i : Int))]) (fun i y => [(90, y.1.ck 22 1 (vals y.2)), (91, .fact (BSC y.2) (BagC 5 y.2))]) (fun i y => i ≤ m ∧ conts y.2 = (l.take i).map fun h => kPay h.2) (fun i _ => m - i) 0 (⟨none, 0⟩, []) ⟨rfl, rfl, rfl, rfl, trivial⟩ ⟨rfl, rfl, trivial⟩ ⟨by omega, rfl⟩ ?_)
  rintro i ⟨y, cl⟩ ⟨hi, hc⟩
  dsimp only at hc ⊢
  have hcl : cl.length = i := by
    have := congrArg List.length hc
    rw [conts_length, List.length_map, List.length_take] at this
    omega
  by_cases hlt : i < m
  · (repeat refine g_seq ?_)
    refine g_region ?_
    first | refine g_pu rfl rfl rfl (pu_lss_t rfl rfl rfl (by omega)) ?_ | refine g_pu rfl rfl rfl (pu_lss_f rfl rfl rfl (by omega)) ?_ | refine g_pu rfl rfl rfl (pu_lss rfl rfl rfl) ?_
    refine g_nil ?_
    (repeat refine g_seq ?_)
    refine g_cond_t rfl (g_skip ?_)
    have h1 : l[i]? = some l[i] := List.getElem?_eq_getElem (by omega)
    have hh := ho l[i] (List.getElem_mem (by omega))
    generalize l[i] = h at h1 hh
    have hg := bs_cut (stepsL_get ho h1)
    have htl : (bs (stL' h.1 h.2)).length = 192 := by rw [bs_length, stL'_length hh.1 hh.2]
    (repeat refine g_seq ?_); refine g_block ?_
    (repeat refine g_seq ?_)
    refine g_region ?_
    refine g_pu rfl rfl rfl (pu_atM i (s := 192) (L := bs (stepsL l)) (fun w' hm => hq.mem0 hm) rfl rfl rfl rfl hlt (by omega)) ?_
    refine g_pu rfl rfl rfl (pu_rdMA (L := bs (stepsL l)) (j := i * 192) (s := 192) (fun w' hm => hq.mem0 hm) rfl rfl (by omega) (by omega)) ?_
    rw [hg]
    refine g_lo [5] rfl rfl rfl rfl (lo_alloc rfl) (fun b5 hb5 => ?_)
    refine g_storeL 5 (s := 192) (C := bs (stL' h.1 h.2)) rfl rfl rfl rfl rfl rfl htl (by rw [List.length_replicate]) (oneCell_bs _) ?_
    refine g_nil ?_
    (repeat refine g_seq ?_)
    refine g_region ?_
    refine g_pu rfl rfl rfl (pu_move rfl rfl) ?_
    refine g_pu rfl rfl rfl (pu_fieldAddr (by decide) rfl rfl) ?_
    refine g_pu rfl rfl rfl (pu_fieldAddr (by decide) rfl rfl) ?_
    refine g_pu rfl rfl rfl (pu_sliceA rfl rfl) ?_
    refine g_call [16] rfl rfl rfl rfl rfl rfl (fun w' hm => SClone_b w' 32 (By.sub 5 rfl hm (stL'_pay hh.2) (kPay_length h.2) (by omega))) (fun x16 _ => ?_)
    refine g_lo [17] rfl rfl rfl rfl (lo_buildSlice rfl rfl (by decide) (by decide) rfl rfl) (fun b17 hb17 => ?_)
    refine g_append1 90 [x16.sl 32] rfl rfl rfl rfl rfl rfl rfl rfl (by rw [vals_length, hcl]) (fun w' hm => hm.rowA 17 rfl) rfl (fun u hu => by rw [List.mem_singleton.1 hu]; rfl) (by omega) (by omega) (fun p2 c2 => ?_)
    refine g_pu rfl rfl rfl (pu_assign rfl rfl) ?_
    refine g_nil ?_
    refine g_bagSnoc 91 16 (E := 5) rfl rfl (by decide) rfl ?_
    have hvs : vals cl ++ [x16.sl 32] = vals (cl ++ [(x16, kPay h.2)]) := by
      rw [vals_append]
      show _ = vals cl ++ [x16.sl (kPay h.2).length]
      rw [kPay_length]
    rw [hvs]
    refine g_blk ?_
    (repeat refine g_seq ?_)
    refine g_region ?_
    refine g_pu rfl rfl rfl (pu_addI rfl rfl rfl (by omega)) ?_
    refine g_pu rfl rfl rfl (pu_move rfl rfl) ?_
    refine g_nil ?_
    exact g_round2 (i + 1) (⟨p2, c2⟩, cl ++ [(x16, kPay h.2)]) ⟨by omega, by rw [conts_append, hc, List.take_add_one, h1]; simp [conts]⟩ (by omega) ⟨rfl, rfl, rfl, rfl, trivial⟩ ⟨rfl, rfl, trivial⟩
  · (repeat refine g_seq ?_)
    refine g_region ?_
    first | refine g_pu rfl rfl rfl (pu_lss_t rfl rfl rfl (by omega)) ?_ | refine g_pu rfl rfl rfl (pu_lss_f rfl rfl rfl (by omega)) ?_ | refine g_pu rfl rfl rfl (pu_lss rfl rfl rfl) ?_
    refine g_nil ?_
    (repeat refine g_seq ?_)
    refine g_cond_f rfl (g_exit rfl ?_)
    have e1 : i = m := by omega
    subst e1
    rw [List.take_of_length_le (by omega)] at hc
    (repeat refine g_seq ?_)
    refine g_region ?_
    refine g_pu rfl rfl rfl (pu_move rfl rfl) ?_
    refine g_pu rfl rfl rfl (pu_assign rfl rfl) ?_
    refine g_nil ?_
    exact g_ret1 rfl rfl (fun w' hm => ⟨(y, cl), hc, by rw [← hcl], hm.grows [90, 91] ⟨rfl, rfl, trivial⟩ rfl⟩)
end Go.Sx

/-
  Lists of bytes joined: bytes.Join without a separator, the codec's Join and its reference's. The whole takes at most 2^47 bytes.
-/
import Derived.Test.YteblmnpklcdnpaaC5
set_option linter.unusedVariables false
set_option linter.unusedSimpArgs false
namespace Go.Sx
open Go Go.Proofs

theorem flat_take {ls : List (List (BitVec 8))} {j : Nat} {l : List (BitVec 8)} (h : ls[j]? = some l) : (ls.take (j + 1)).flatten = (ls.take j).flatten ++ l := by
  rw [List.take_add_one, h]; simp
theorem flat_le (ls : List (List (BitVec 8))) (j : Nat) : (ls.take j).flatten.length ≤ ls.flatten.length := by
  have h := congrArg (fun l => l.flatten.length) (List.take_append_drop j ls)
  simp only [List.flatten_append, List.length_append] at h
  omega

theorem BJoin_b (w : World) {p : Option Addr} {n : Nat} (c : Nat) {L : List Value} {ls : List (List (BitVec 8))} (ha : ByL w p n L ls) (hc : n ≤ c) (hlen : ls.flatten.length ≤ 281474976710656) :
    Spec Try.prog 59 #[.slice p n c, .slice none 0 0] w (σ := Ow) (fun _ => True) (fun x => x.sl ls.flatten.length) Nob (fun x => [x.ck 5 1 (bs ls.flatten)]) := by
  refine enter Try.func59 rfl rfl (Mem.start w) ?_
  have hn := ha.len
  have hbig := ha.big
  have hln := ha.lenL
  (repeat refine g_seq ?_)
  refine g_region ?_
  refine g_pu rfl rfl rfl (pu_assign rfl rfl) ?_
  refine g_nil ?_
  by_cases h0 : n = 0
  · have hl0 : ls = [] := List.eq_nil_of_length_eq_zero (by omega)
    subst hl0
    (repeat refine g_seq ?_)
    refine g_region ?_
    refine g_pu rfl rfl rfl (pu_move rfl rfl) ?_
    first | refine g_pu rfl rfl rfl (pu_len rfl rfl) ?_ | refine g_pu rfl rfl rfl (pu_lenS rfl rfl) ?_
    first | refine g_pu rfl rfl rfl (pu_eql_t rfl rfl rfl (by omega)) ?_ | refine g_pu rfl rfl rfl (pu_eql_f rfl rfl rfl (by omega)) ?_ | refine g_pu rfl rfl rfl (pu_eql rfl rfl rfl) ?_
    refine g_nil ?_
    (repeat refine g_seq ?_)
    refine g_cond_t rfl ?_
    (repeat refine g_seq ?_)
    refine g_region ?_
    refine g_lo [15] rfl rfl rfl rfl (lo_buildSlice0 rfl) (fun b15 hb15 => ?_)
    refine g_pu rfl rfl rfl (pu_assign rfl rfl) ?_
    refine g_nil ?_
    refine g_own 15 (L := []) (J := []) (c := 0) (s := 1) rfl (by simp) (by omega) ?_
    exact g_ret1 rfl rfl (fun w' hm => ⟨⟨some ⟨b15, 0, none⟩, 0⟩, trivial, rfl, hm.grows [15] ⟨rfl, trivial⟩ rfl⟩)
  · (repeat refine g_seq ?_)
    refine g_region ?_
    refine g_pu rfl rfl rfl (pu_move rfl rfl) ?_
    first | refine g_pu rfl rfl rfl (pu_len rfl rfl) ?_ | refine g_pu rfl rfl rfl (pu_lenS rfl rfl) ?_
    first | refine g_pu rfl rfl rfl (pu_eql_t rfl rfl rfl (by omega)) ?_ | refine g_pu rfl rfl rfl (pu_eql_f rfl rfl rfl (by omega)) ?_ | refine g_pu rfl rfl rfl (pu_eql rfl rfl rfl) ?_
    refine g_nil ?_
    (repeat refine g_seq ?_)
    refine g_cond_f rfl (g_skip ?_)
    obtain ⟨l0, r, rfl⟩ : ∃ l0 r, ls = l0 :: r := by
      cases ls with
      | nil => simp at hln; omega
      | cons a r => exact ⟨a, r, rfl⟩
    obtain ⟨q, m, cc, hL, hq⟩ := ha.at (i := 0) (l := l0) rfl
    have hq1 := hq.len
    have hq2 := hq.big
    by_cases h1 : n = 1
    · (repeat refine g_seq ?_)
      refine g_region ?_
      refine g_pu rfl rfl rfl (pu_move rfl rfl) ?_
      first | refine g_pu rfl rfl rfl (pu_len rfl rfl) ?_ | refine g_pu rfl rfl rfl (pu_lenS rfl rfl) ?_
      first | refine g_pu rfl rfl rfl (pu_eql_t rfl rfl rfl (by omega)) ?_ | refine g_pu rfl rfl rfl (pu_eql_f rfl rfl rfl (by omega)) ?_ | refine g_pu rfl rfl rfl (pu_eql rfl rfl rfl) ?_
      refine g_nil ?_
      (repeat refine g_seq ?_)
      refine g_cond_t rfl ?_
      have hr : r = [] := List.eq_nil_of_length_eq_zero (by simp at hln; omega)
      subst hr
      refine g_nilOwn 22 5 1 rfl ?_
      (repeat refine g_seq ?_)
      refine g_region ?_
      refine g_pu rfl rfl rfl (pu_move rfl rfl) ?_
      refine g_pu rfl rfl rfl (pu_atM1 0 (fun w' hm => (ha.m hm).rd) rfl rfl rfl rfl (by omega) (by omega)) ?_
      refine g_pu rfl rfl rfl (pu_rdM (fun w' hm => (ha.m hm).rd) rfl rfl hL) ?_
      refine g_append1 22 (bs l0) rfl rfl rfl rfl rfl rfl rfl rfl rfl (fun w' hm => (hq.m hm).rd) (by rw [bs_length, hq1]) (oneCell_bs l0) (by omega) (by omega) (fun p' c' => ?_)
      refine g_pu rfl rfl rfl (pu_assign rfl rfl) ?_
      refine g_nil ?_
      exact g_ret1 rfl rfl (fun w' hm => ⟨⟨p', c'⟩, trivial, by simp [Ow.sl, hq1], by simpa [Ow.ck] using hm.grows [22] (cs := [.fact (At p') (Own 5 1 p' c' ([] ++ bs l0))]) ⟨rfl, trivial⟩ rfl⟩)
    · (repeat refine g_seq ?_)
      refine g_region ?_
      refine g_pu rfl rfl rfl (pu_move rfl rfl) ?_
      first | refine g_pu rfl rfl rfl (pu_len rfl rfl) ?_ | refine g_pu rfl rfl rfl (pu_lenS rfl rfl) ?_
      first | refine g_pu rfl rfl rfl (pu_eql_t rfl rfl rfl (by omega)) ?_ | refine g_pu rfl rfl rfl (pu_eql_f rfl rfl rfl (by omega)) ?_ | refine g_pu rfl rfl rfl (pu_eql rfl rfl rfl) ?_
      refine g_nil ?_
      (repeat refine g_seq ?_)
      refine g_cond_f rfl (g_skip ?_)
      generalize hT : (l0 :: r).flatten.length = T at hlen
      (repeat refine g_seq ?_)
      refine g_region ?_
      refine g_pu rfl rfl rfl (pu_assign rfl rfl) ?_
      refine g_nil ?_
      refine g_seq ?_
      refine g_join (σ := Unit) (fun _ => [(0, .slice p n c), (1, .slice none 0 0), (5, .int .i64 0)]) (fun _ => []) (fun _ => True) ?_ (fun _ _ => ?_)
      · (repeat refine g_seq ?_)
        refine g_region ?_
        refine g_pu rfl rfl rfl (pu_move rfl rfl) ?_
        first | refine g_pu rfl rfl rfl (pu_len rfl rfl) ?_ | refine g_pu rfl rfl rfl (pu_lenS rfl rfl) ?_
        first | refine g_pu rfl rfl rfl (pu_gtr_t rfl rfl rfl (by omega)) ?_ | refine g_pu rfl rfl rfl (pu_gtr_f rfl rfl rfl (by omega)) ?_ | refine g_pu rfl rfl rfl (pu_gtr rfl rfl rfl) ?_
        refine g_nil ?_
        (repeat refine g_seq ?_)
        refine g_cond_f rfl (g_skip ?_)
        exact g_meet () trivial ⟨rfl, rfl, rfl, trivial⟩ trivial
      · (repeat refine g_seq ?_)
        (repeat refine g_seq ?_)
        refine g_region ?_
        refine g_pu rfl rfl rfl (pu_move rfl rfl) ?_
        first | refine g_pu rfl rfl rfl (pu_len rfl rfl) ?_ | refine g_pu rfl rfl rfl (pu_lenS rfl rfl) ?_
        refine g_pu rfl rfl rfl (pu_move rfl rfl) ?_
        refine g_nil ?_
        refine g_block (g_loop (σ := Nat) (fun j => [(0, .slice p n c), (1, .slice none 0 0), (5, .int .i64 ((((l0 :: r).take j).flatten.length : Nat) : Int)), (42, .slice p n c), (43, .int .i64 (n : Int)), (44, .int .i64 (j : Int))]) (fun _ => []) (fun j => j ≤ n) (fun j => n - j) 0 ⟨rfl, rfl, rfl, rfl, rfl, rfl, trivial⟩ trivial (by omega) ?_)
        intro j hj
        by_cases hlt : j < n
        · (repeat refine g_seq ?_)
          refine g_region ?_
          first | refine g_pu rfl rfl rfl (pu_lss_t rfl rfl rfl (by omega)) ?_ | refine g_pu rfl rfl rfl (pu_lss_f rfl rfl rfl (by omega)) ?_ | refine g_pu rfl rfl rfl (pu_lss rfl rfl rfl) ?_
          refine g_nil ?_
          (repeat refine g_seq ?_)
          refine g_cond_t rfl (g_skip ?_)
          have hl : (l0 :: r)[j]? = some (l0 :: r)[j] := List.getElem?_eq_getElem (by omega)
          generalize (l0 :: r)[j] = b at hl
          obtain ⟨q2, m2, c2, hL2, hq'⟩ := ha.at hl
          have hq3 := hq'.len
          have hft := congrArg List.length (flat_take hl)
          rw [List.length_append] at hft
          have hle := flat_le (l0 :: r) (j + 1)
          rw [hT] at hle
          (repeat refine g_seq ?_); refine g_block ?_
          (repeat refine g_seq ?_)
          refine g_region ?_
          refine g_pu rfl rfl rfl (pu_atM1 j (fun w' hm => (ha.m hm).rd) rfl rfl rfl rfl hlt (by omega)) ?_
          refine g_pu rfl rfl rfl (pu_rdM (fun w' hm => (ha.m hm).rd) rfl rfl hL2) ?_
          refine g_pu rfl rfl rfl (pu_assign rfl rfl) ?_
          refine g_nil ?_
          (repeat refine g_seq ?_)
          refine g_region ?_
          refine g_pu rfl rfl rfl (pu_move rfl rfl) ?_
          first | refine g_pu rfl rfl rfl (pu_len rfl rfl) ?_ | refine g_pu rfl rfl rfl (pu_lenS rfl rfl) ?_
          refine g_pu rfl rfl rfl (pu_move rfl rfl) ?_
          refine g_pu rfl rfl rfl (pu_subI rfl rfl rfl (by omega)) ?_
          first | refine g_pu rfl rfl rfl (pu_gtr_t rfl rfl rfl (by omega)) ?_ | refine g_pu rfl rfl rfl (pu_gtr_f rfl rfl rfl (by omega)) ?_ | refine g_pu rfl rfl rfl (pu_gtr rfl rfl rfl) ?_
          refine g_nil ?_
          (repeat refine g_seq ?_)
          refine g_cond_f rfl (g_skip ?_)
          (repeat refine g_seq ?_)
          refine g_region ?_
          refine g_pu rfl rfl rfl (pu_move rfl rfl) ?_
          refine g_pu rfl rfl rfl (pu_move rfl rfl) ?_
          first | refine g_pu rfl rfl rfl (pu_len rfl rfl) ?_ | refine g_pu rfl rfl rfl (pu_lenS rfl rfl) ?_
          refine g_pu rfl rfl rfl (pu_addI rfl rfl rfl (by omega)) ?_
          refine g_pu rfl rfl rfl (pu_assign rfl rfl) ?_
          refine g_nil ?_
          refine g_blk ?_
          (repeat refine g_seq ?_)
          refine g_region ?_
          refine g_pu rfl rfl rfl (pu_addI rfl rfl rfl (by omega)) ?_
          refine g_pu rfl rfl rfl (pu_move rfl rfl) ?_
          refine g_nil ?_
          exact g_round (j + 1) (by omega) (by omega) ⟨rfl, rfl, congrArg (fun z => some (Value.int .i64 z)) (by omega), rfl, rfl, rfl, trivial⟩ trivial
        · (repeat refine g_seq ?_)
          refine g_region ?_
          first | refine g_pu rfl rfl rfl (pu_lss_t rfl rfl rfl (by omega)) ?_ | refine g_pu rfl rfl rfl (pu_lss_f rfl rfl rfl (by omega)) ?_ | refine g_pu rfl rfl rfl (pu_lss rfl rfl rfl) ?_
          refine g_nil ?_
          (repeat refine g_seq ?_)
          refine g_cond_f rfl (g_exit rfl ?_)
          have e1 : n = j := by omega
          subst e1
          rw [List.take_of_length_le (by omega), hT]
          have hm0 : m ≤ T := by rw [← hT]; simp; omega
          (repeat refine g_seq ?_)
          refine g_region ?_
          refine g_pu rfl rfl rfl (pu_move rfl rfl) ?_
          refine g_lo [60] rfl rfl rfl rfl (lo_mnz (n := T) rfl rfl rfl (by omega)) (fun r60 h60 => ?_)
          refine g_pu rfl rfl rfl (pu_move rfl rfl) ?_
          refine g_pu rfl rfl rfl (pu_move rfl rfl) ?_
          refine g_pu rfl rfl rfl (pu_slice_hm T T rfl rfl rfl rfl rfl rfl (by omega) h60.2.1) ?_
          refine g_pu rfl rfl rfl (pu_assign rfl rfl) ?_
          refine g_nil ?_
          obtain ⟨b60, cs⟩ := r60
          obtain ⟨_, hcs, hcs2⟩ := h60
          dsimp only at hcs hcs2 ⊢
          (repeat refine g_seq ?_)
          refine g_region ?_
          refine g_pu rfl rfl rfl (pu_move rfl rfl) ?_
          refine g_pu rfl rfl rfl (pu_move rfl rfl) ?_
          refine g_pu rfl rfl rfl (pu_atM1 0 (fun w' hm => (ha.m hm).rd) rfl rfl rfl rfl (by omega) (by omega)) ?_
          refine g_pu rfl rfl rfl (pu_rdM (fun w' hm => (ha.m hm).rd) rfl rfl hL) ?_
          refine g_copy 60 (bs l0) rfl rfl rfl rfl rfl rfl rfl (fun w' hm => (hq.m hm).rd) (by rw [bs_length, hq1]) (by omega) (oneCell_bs l0) ?_
          have hmin : Nat.min m T = m := Nat.min_eq_left hm0
          rw [hmin, show cs.take 0 ++ (bs l0).take m ++ cs.drop (0 + m) = bs ((l0 :: r).take 1).flatten ++ cs.drop m by simp [bs_take, ← hq1]]
          refine g_pu rfl rfl rfl (pu_assign rfl rfl) ?_
          refine g_nil ?_
          have hcut := ha.cut hc 1
          simp only [List.drop_succ_cons, List.drop_zero] at hcut
          have hrl : r.length = n - 1 := by simp at hln; omega
          (repeat refine g_seq ?_)
          refine g_region ?_
          refine g_pu rfl rfl rfl (pu_move rfl rfl) ?_
          refine g_pu rfl rfl rfl (pu_slice_l 1 rfl rfl rfl rfl (by omega)) ?_
          first | refine g_pu rfl rfl rfl (pu_len rfl rfl) ?_ | refine g_pu rfl rfl rfl (pu_lenS rfl rfl) ?_
          refine g_pu rfl rfl rfl (pu_move rfl rfl) ?_
          refine g_nil ?_
          refine g_block (g_loop2 (fun (j : Nat) (_ : List Value) => [(1, .slice none 0 0), (8, .slice (some ⟨b60, 0, none⟩) T T), (9, .int .i64 ((((l0 :: r).take (j + 1)).flatten.length : Nat) : Int)), (70, .slice (cutp p c 1 1) (n - 1) (c - 1)), (71, .int .i64 ((n - 1 : Nat) : Int)), (72, .int .i64 (j : Int))]) (fun j J => [(60, .pt b60 (.cells (bs ((l0 :: r).take (j + 1)).flatten ++ J).toArray 5 (0, 0)))]) (fun j J => j ≤ n - 1 ∧ T ≤ ((l0 :: r).take (j + 1)).flatten.length + J.length) (fun j _ => n - j) 0 (cs.drop m) ⟨rfl, rfl, by simp [hq1]; rfl, rfl, rfl, rfl, trivial⟩ ⟨rfl, trivial⟩ ⟨by omega, by simp; omega⟩ ?_)
          intro j J ⟨hj2, hJ⟩
          by_cases hlt2 : j < n - 1
          · (repeat refine g_seq ?_)
            refine g_region ?_
            first | refine g_pu rfl rfl rfl (pu_lss_t rfl rfl rfl (by omega)) ?_ | refine g_pu rfl rfl rfl (pu_lss_f rfl rfl rfl (by omega)) ?_ | refine g_pu rfl rfl rfl (pu_lss rfl rfl rfl) ?_
            refine g_nil ?_
            (repeat refine g_seq ?_)
            refine g_cond_t rfl (g_skip ?_)
            have hl : r[j]? = some r[j] := List.getElem?_eq_getElem (by simp at hln; omega)
            generalize r[j] = b at hl
            obtain ⟨q2, m2, c2, hL2, hq'⟩ := hcut.at hl
            have hq3 := hq'.len
            have hft0 := flat_take (ls := l0 :: r) (j := j + 1) (l := b) (by simpa using hl)
            have hft := congrArg List.length hft0
            rw [List.length_append] at hft
            have hle := flat_le (l0 :: r) (j + 1 + 1)
            rw [hT] at hle
            generalize hpre : ((l0 :: r).take (j + 1)).flatten = pre at hft hft0 hJ
            obtain ⟨off, hoff, hoffT⟩ : ∃ off, cutp (some ⟨b60, 0, none⟩) T pre.length 1 = some ⟨b60, off, none⟩ ∧ ((pre.length < T ∧ off = pre.length) ∨ (pre.length = T ∧ off = 0)) := by
              unfold cutp
              by_cases h : T = pre.length
              · rw [if_pos h]; exact ⟨0, rfl, .inr ⟨h.symm, rfl⟩⟩
              · rw [if_neg h]; exact ⟨pre.length, by simp [Addr.add_lit], .inl ⟨by omega, rfl⟩⟩
            (repeat refine g_seq ?_); refine g_block ?_
            (repeat refine g_seq ?_)
            refine g_region ?_
            refine g_pu rfl rfl rfl (pu_atM1 j (fun w' hm => (hcut.m hm).rd) rfl rfl rfl rfl (by omega) (by rw [hcut.len]; omega)) ?_
            refine g_pu rfl rfl rfl (pu_rdM (fun w' hm => (hcut.m hm).rd) rfl rfl hL2) ?_
            refine g_pu rfl rfl rfl (pu_assign rfl rfl) ?_
            refine g_nil ?_
            (repeat refine g_seq ?_)
            refine g_region ?_
            refine g_pu rfl rfl rfl (pu_move rfl rfl) ?_
            refine g_pu rfl rfl rfl (pu_move rfl rfl) ?_
            refine g_pu rfl rfl rfl (pu_move rfl rfl) ?_
            refine g_pu rfl rfl rfl (pu_slice_l pre.length rfl rfl rfl rfl (by omega)) ?_
            rw [hoff]
            refine g_pu rfl rfl rfl (pu_move rfl rfl) ?_
            refine g_copy 60 (L := bs pre ++ J) [] rfl rfl rfl rfl rfl rfl rfl (fun w' hm => RdV.nil _ _) rfl (by rw [List.length_append, bs_length]; omega) (fun u hu => by simp at hu) ?_
            rw [show Nat.min 0 (T - pre.length) = 0 from Nat.min_eq_left (by omega), show (bs pre ++ J).take off ++ [].take 0 ++ (bs pre ++ J).drop (off + 0) = bs pre ++ J by simp]
            refine g_pu rfl rfl rfl (pu_addI rfl rfl rfl (by omega)) ?_
            refine g_pu rfl rfl rfl (pu_assign rfl rfl) ?_
            refine g_nil ?_
            have hmin : Nat.min m2 (T - pre.length) = m2 := Nat.min_eq_left (by omega)
            have hrow : (bs pre ++ J).take off ++ (bs b).take (Nat.min m2 (T - pre.length)) ++ (bs pre ++ J).drop (off + Nat.min m2 (T - pre.length)) = bs (pre ++ b) ++ J.drop m2 := by
              rw [hmin, List.take_of_length_le (l := bs b) (by rw [bs_length]; omega)]
              rcases hoffT with ⟨h, rfl⟩ | ⟨h, rfl⟩
              · rw [show pre.length = (bs pre).length by rw [bs_length], List.take_left, List.drop_length_add_append, bs_append]
              · have hb0 : b = [] := List.eq_nil_of_length_eq_zero (by omega)
                subst hb0
                have hm2 : m2 = 0 := by simp at hq3; omega
                subst hm2
                simp [bs]
            (repeat refine g_seq ?_)
            refine g_region ?_
            refine g_pu rfl rfl rfl (pu_move rfl rfl) ?_
            refine g_pu rfl rfl rfl (pu_move rfl rfl) ?_
            refine g_pu rfl rfl rfl (pu_move rfl rfl) ?_
            refine g_pu rfl rfl rfl (pu_slice_l pre.length rfl rfl rfl (by simp) (by omega)) ?_
            rw [hoff]
            refine g_pu rfl rfl rfl (pu_move rfl rfl) ?_
            refine g_copy 60 (L := bs pre ++ J) (bs b) rfl rfl rfl rfl rfl rfl rfl (fun w' hm => (hq'.m hm).rd) (by rw [bs_length, hq3]) (by rw [List.length_append, bs_length]; omega) (oneCell_bs b) ?_
            rw [hrow, hmin]
            refine g_pu rfl rfl rfl (pu_addI rfl rfl rfl (by omega)) ?_
            refine g_pu rfl rfl rfl (pu_assign rfl rfl) ?_
            refine g_nil ?_
            refine g_blk ?_
            (repeat refine g_seq ?_)
            refine g_region ?_
            refine g_pu rfl rfl rfl (pu_addI rfl rfl rfl (by omega)) ?_
            refine g_pu rfl rfl rfl (pu_move rfl rfl) ?_
            refine g_nil ?_
            refine g_round2 (j + 1) (J.drop m2) ⟨by omega, by rw [hft0, List.length_append, List.length_drop]; omega⟩ (by omega) ⟨rfl, rfl, ?_, rfl, rfl, rfl, trivial⟩ ⟨by rw [hft0]; rfl, trivial⟩
            rw [hft0, List.length_append, hq3]
            exact congrArg (fun z => some (Value.int .i64 z)) (by simp)
          · (repeat refine g_seq ?_)
            refine g_region ?_
            first | refine g_pu rfl rfl rfl (pu_lss_t rfl rfl rfl (by omega)) ?_ | refine g_pu rfl rfl rfl (pu_lss_f rfl rfl rfl (by omega)) ?_ | refine g_pu rfl rfl rfl (pu_lss rfl rfl rfl) ?_
            refine g_nil ?_
            (repeat refine g_seq ?_)
            refine g_cond_f rfl (g_exit rfl ?_)
            (repeat refine g_seq ?_)
            refine g_region ?_
            refine g_pu rfl rfl rfl (pu_move rfl rfl) ?_
            refine g_pu rfl rfl rfl (pu_assign rfl rfl) ?_
            refine g_nil ?_
            have e2 : j + 1 = (l0 :: r).length := by omega
            rw [e2, List.take_of_length_le (Nat.le_refl _)] at hJ ⊢
            rw [hT] at hJ
            refine g_own 60 (L := bs (l0 :: r).flatten) (J := J) (c := T) (s := 1) rfl ⟨by rw [bs_length]; omega, by rw [List.length_append, bs_length]; omega⟩ (by omega) ?_
            exact g_ret1 rfl rfl (fun w' hm => ⟨⟨some ⟨b60, 0, none⟩, T⟩, trivial, rfl, hm.grows [60] ⟨rfl, trivial⟩ rfl⟩)

theorem Join_b (w : World) {p : Option Addr} {n : Nat} (c : Nat) {L : List Value} {ls : List (List (BitVec 8))} (ha : ByL w p n L ls) (hc : n ≤ c) (hlen : ls.flatten.length ≤ 281474976710656) :
    Spec Try.prog 48 #[.slice p n c] w (σ := Ow) (fun _ => True) (fun x => x.sl ls.flatten.length) Nob (fun x => [x.ck 5 1 (bs ls.flatten)]) := by
  refine enter Try.func48 rfl rfl (Mem.start w) ?_
  (repeat refine g_seq ?_)
  refine g_region ?_
  refine g_pu rfl rfl rfl (pu_assign rfl rfl) ?_
  refine g_nil ?_
  (repeat refine g_seq ?_)
  refine g_region ?_
  refine g_pu rfl rfl rfl (pu_move rfl rfl) ?_
  refine g_call [4] rfl rfl rfl rfl rfl rfl (fun w' hm => BJoin_b w' c (ha.m hm) hc hlen) (fun x4 _ => ?_)
  refine g_pu rfl rfl rfl (pu_assign rfl rfl) ?_
  refine g_nil ?_
  exact g_ret1 rfl rfl (fun w' hm => ⟨x4, trivial, rfl, hm.grows [4] ⟨rfl, trivial⟩ rfl⟩)

end Go.Sx

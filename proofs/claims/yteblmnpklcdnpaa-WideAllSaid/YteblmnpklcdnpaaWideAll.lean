import Derived.Test.YteblmnpklcdnpaaW6
import Derived.Test.YteblmnpklcdnpaaC2
set_option linter.unusedVariables false
set_option linter.unusedSimpArgs false
/-
  WideAll: layers of seals by several keys come off by the same keys backwards. The lists fit memory.
-/
namespace Go.Sx
open Go Go.Proofs

theorem ByL.preW {w : World} {q : Option Addr} {m : Nat} {L : List Value} {ls : List (List (BitVec 8))} (h : ByL w q m L ls) {j : Nat} (hj : j ≤ m) : ByL w q j (L.take j) (ls.take j) := by
  have hL := h.len
  have hl := h.lenL
  have hb := h.big
  refine ⟨RdV.take (L' := L.drop j) (by rw [List.take_append_drop]; exact h.rd), by rw [List.length_take]; omega, ⟨by rw [List.length_take, List.length_take]; omega, fun i v l hv hl => ?_⟩, by omega⟩
  have hv' : L[i]? = some v := by
    rw [List.getElem?_take] at hv
    split at hv
    · exact hv
    · cases hv
  have hl' : ls[i]? = some l := by
    rw [List.getElem?_take] at hl
    split at hl
    · exact hl
    · cases hl
  exact h.els.2 i v l hv' hl'
def bkk (ks : List (List (BitVec 8))) (s : Nat) : List (List (BitVec 8)) := (ks.drop s).reverse
theorem bkk_step {ks : List (List (BitVec 8))} {s : Nat} {k : List (BitVec 8)} (h : ks[s]? = some k) : bkk ks s = bkk ks (s + 1) ++ [k] := by
  unfold bkk
  have hi := List.getElem?_eq_some_iff.1 h
  rw [List.drop_eq_getElem_cons hi.1, hi.2, List.reverse_cons]
theorem allV_le (zs : List Int) (b : List (BitVec 8)) (ks : List (List (BitVec 8))) : (allV zs b ks).length ≤ 4096 := by
  by_cases h : allOk b ks = true
  · have h2 := h
    unfold allOk at h2
    rw [Bool.and_eq_true] at h2
    obtain ⟨_, f2, f3⟩ := (fitsB_iff _ _).1 h2.1
    have hV : allV zs b ks = wfold zs ks b := if_pos h
    rw [hV, wfold_length zs ks f2]; exact f3
  · have hV : allV zs b ks = [] := if_neg h
    rw [hV]; simp
theorem all_back {b : List (BitVec 8)} {ks : List (List (BitVec 8))} (h : allOk b ks = true) : allE (allV zS b ks) ks.reverse = 0 ∧ allV zO (allV zS b ks) ks.reverse = b := by
  have h2 := h
  unfold allOk at h2
  rw [Bool.and_eq_true] at h2
  obtain ⟨_, f2, f3⟩ := (fitsB_iff _ _).1 h2.1
  have hV : allV zS b ks = wfold zS ks b := if_pos h
  have hl := wfold_length zS ks f2
  have h3 : allOk (allV zS b ks) ks.reverse = true := by
    unfold allOk
    rw [hV, hl, h2.1]
    unfold w32
    rw [List.all_reverse]
    exact h2.2
  have hV2 : allV zO (allV zS b ks) ks.reverse = wfold zO ks.reverse (allV zS b ks) := if_pos h3
  refine ⟨if_pos h3, ?_⟩
  rw [hV2, hV]
  exact wfold_back (zs := zS) (zr := zO) rfl ks f2

theorem WideAll_spec (w : World) {p q : Option Addr} {n m : Nat} (c d : Nat) {b : List (BitVec 8)} {L : List Value} {ks : List (List (BitVec 8))} (hb : By w p n b) (ha : ByL w q m L ks) (hmd : m ≤ d) : Spec Try.prog 5 #[.slice p n c, .slice q m d] w (σ := Unit) (fun _ => True) (fun _ => .bool true) Nob (fun _ => []) := by
  refine enter Try.func5 rfl rfl (Mem.start w) ?_
  have hbl := hb.len
  have hbg := hb.big
  (repeat refine g_seq ?_)
  refine g_region ?_
  refine g_pu rfl rfl rfl (pu_assign rfl rfl) ?_
  refine g_nil ?_
  (repeat refine g_seq ?_)
  refine g_region ?_
  refine g_call [] rfl rfl rfl rfl rfl rfl (fun w' hm => awake07_b w') (fun _ _ => ?_)
  refine g_pu rfl rfl rfl (pu_not rfl rfl) ?_
  refine g_nil ?_
  (repeat refine g_seq ?_)
  refine g_cond_f rfl (g_skip ?_)
  refine g_seq ?_
  refine g_join (σ := Nat × List Value × List (List (BitVec 8))) (fun x => [(0, .slice p n c), (1, .slice q x.1 d)]) (fun _ => []) (fun x => ByL w q x.1 x.2.1 x.2.2) ?_ (fun x hx => ?_)
  · by_cases h4 : m > 4
    · (repeat refine g_seq ?_)
      refine g_region ?_
      refine g_pu rfl rfl rfl (pu_move rfl rfl) ?_
      first | refine g_pu rfl rfl rfl (pu_len rfl rfl) ?_ | refine g_pu rfl rfl rfl (pu_lenS rfl rfl) ?_
      first | refine g_pu rfl rfl rfl (pu_gtr_t rfl rfl rfl (by omega)) ?_ | refine g_pu rfl rfl rfl (pu_gtr_f rfl rfl rfl (by omega)) ?_ | refine g_pu rfl rfl rfl (pu_gtr rfl rfl rfl) ?_
      refine g_nil ?_
      (repeat refine g_seq ?_)
      refine g_cond_t rfl ?_
      (repeat refine g_seq ?_)
      refine g_region ?_
      refine g_pu rfl rfl rfl (pu_move rfl rfl) ?_
      refine g_pu rfl rfl rfl (pu_slice_h 4 rfl rfl rfl rfl (by omega)) ?_
      refine g_pu rfl rfl rfl (pu_assign rfl rfl) ?_
      refine g_nil ?_
      exact g_meet (4, L.take 4, ks.take 4) (ha.preW (by omega)) ⟨rfl, rfl, trivial⟩ trivial
    · (repeat refine g_seq ?_)
      refine g_region ?_
      refine g_pu rfl rfl rfl (pu_move rfl rfl) ?_
      first | refine g_pu rfl rfl rfl (pu_len rfl rfl) ?_ | refine g_pu rfl rfl rfl (pu_lenS rfl rfl) ?_
      first | refine g_pu rfl rfl rfl (pu_gtr_t rfl rfl rfl (by omega)) ?_ | refine g_pu rfl rfl rfl (pu_gtr_f rfl rfl rfl (by omega)) ?_ | refine g_pu rfl rfl rfl (pu_gtr rfl rfl rfl) ?_
      refine g_nil ?_
      (repeat refine g_seq ?_)
      refine g_cond_f rfl (g_skip ?_)
      exact g_meet (m, L, ks) ha ⟨rfl, rfl, trivial⟩ trivial
  obtain ⟨m1, L1, ls⟩ := x
  dsimp only at hx ⊢
  have hb1 := hx.big
  have hxl := hx.lenL
  have hxn := hx.len
  have hs1 := allV_le zS b ls
  have hs2 := allV_le zO b ls
  (repeat refine g_seq ?_)
  refine g_region ?_
  refine g_pu rfl rfl rfl (pu_move rfl rfl) ?_
  refine g_call [25] rfl rfl rfl rfl rfl rfl (fun w' hm => Copy_b w' c (hb.m hm)) (fun x25 _ => ?_)
  refine g_pu rfl rfl rfl (pu_move rfl rfl) ?_
  refine g_call [27, 127] rfl rfl rfl rfl rfl rfl (fun w' hm => Copies_b w' d (hx.m hm)) (fun x27 h27 => ?_)
  refine g_call [28] rfl rfl rfl rfl rfl rfl (fun w' hm => SealAll_b w' x25.c x27.c (By.ow 25 rfl hm hbl hbg) (Owl.by 27 127 rfl rfl hm h27.1 (by omega))) (fun x28 _ => ?_)
  refine g_pu rfl rfl rfl (pu_move rfl rfl) ?_
  refine g_pu rfl rfl rfl (pu_extract rfl rfl rfl) ?_
  refine g_pu rfl rfl rfl (pu_extract rfl rfl rfl) ?_
  refine g_pu rfl rfl rfl (pu_assign rfl rfl) ?_
  refine g_pu rfl rfl rfl (pu_assign rfl rfl) ?_
  refine g_nil ?_
  (repeat refine g_seq ?_)
  refine g_region ?_
  refine g_pu rfl rfl rfl (pu_move rfl rfl) ?_
  refine g_pu rfl rfl rfl (pu_move rfl rfl) ?_
  refine g_call [34] rfl rfl rfl rfl rfl rfl (fun w' hm => RAll_s w' c d (hb.m hm) (hx.m hm)) (fun x34 _ => ?_)
  refine g_pu rfl rfl rfl (pu_move rfl rfl) ?_
  refine g_pu rfl rfl rfl (pu_extract rfl rfl rfl) ?_
  refine g_pu rfl rfl rfl (pu_extract rfl rfl rfl) ?_
  refine g_pu rfl rfl rfl (pu_assign rfl rfl) ?_
  refine g_pu rfl rfl rfl (pu_assign rfl rfl) ?_
  refine g_nil ?_
  (repeat refine g_seq ?_)
  refine g_region ?_
  refine g_pu rfl rfl rfl (pu_move rfl rfl) ?_
  refine g_call [39] rfl rfl rfl rfl rfl rfl (fun w' hm => Copy_b w' c (hb.m hm)) (fun x39 _ => ?_)
  refine g_pu rfl rfl rfl (pu_move rfl rfl) ?_
  refine g_call [41, 141] rfl rfl rfl rfl rfl rfl (fun w' hm => Copies_b w' d (hx.m hm)) (fun x41 h41 => ?_)
  refine g_call [42] rfl rfl rfl rfl rfl rfl (fun w' hm => OpenAll_b w' x39.c x41.c (By.ow 39 rfl hm hbl hbg) (Owl.by 41 141 rfl rfl hm h41.1 (by omega))) (fun x42 _ => ?_)
  refine g_pu rfl rfl rfl (pu_move rfl rfl) ?_
  refine g_pu rfl rfl rfl (pu_extract rfl rfl rfl) ?_
  refine g_pu rfl rfl rfl (pu_extract rfl rfl rfl) ?_
  refine g_pu rfl rfl rfl (pu_assign rfl rfl) ?_
  refine g_pu rfl rfl rfl (pu_assign rfl rfl) ?_
  refine g_nil ?_
  (repeat refine g_seq ?_)
  refine g_region ?_
  refine g_pu rfl rfl rfl (pu_move rfl rfl) ?_
  refine g_pu rfl rfl rfl (pu_move rfl rfl) ?_
  refine g_call [48] rfl rfl rfl rfl rfl rfl (fun w' hm => RAll_o w' c d (hb.m hm) (hx.m hm)) (fun x48 _ => ?_)
  refine g_pu rfl rfl rfl (pu_move rfl rfl) ?_
  refine g_pu rfl rfl rfl (pu_extract rfl rfl rfl) ?_
  refine g_pu rfl rfl rfl (pu_extract rfl rfl rfl) ?_
  refine g_pu rfl rfl rfl (pu_assign rfl rfl) ?_
  refine g_pu rfl rfl rfl (pu_assign rfl rfl) ?_
  refine g_nil ?_
  (repeat refine g_seq ?_)
  refine g_region ?_
  refine g_pu rfl rfl rfl (pu_move rfl rfl) ?_
  refine g_pu rfl rfl rfl (pu_move rfl rfl) ?_
  refine g_pu rfl rfl rfl (pu_move rfl rfl) ?_
  refine g_pu rfl rfl rfl (pu_move rfl rfl) ?_
  refine g_call [] rfl rfl rfl rfl rfl rfl (fun w' hm => told07_t w' x28.c x34.c (allE b ls) (By.ow 28 rfl hm rfl (by omega)) (By.ow 34 rfl hm rfl (by omega))) (fun _ _ => ?_)
  refine g_pu rfl rfl rfl (pu_not rfl rfl) ?_
  refine g_pu rfl rfl rfl (pu_move rfl rfl) ?_
  first | refine g_pass rfl rfl rfl ?_ | refine g_pu rfl rfl rfl (pu_move rfl rfl) ?_
  first | refine g_pass rfl rfl rfl ?_ | refine g_pu rfl rfl rfl (pu_move rfl rfl) ?_
  first | refine g_pass rfl rfl rfl ?_ | refine g_pu rfl rfl rfl (pu_move rfl rfl) ?_
  first | refine g_pass rfl rfl rfl ?_ | refine g_pu rfl rfl rfl (pu_move rfl rfl) ?_
  refine g_call [] rfl rfl rfl rfl rfl rfl (fun w' hm => told07_t w' x42.c x48.c (allE b ls) (By.ow 42 rfl hm rfl (by omega)) (By.ow 48 rfl hm rfl (by omega))) (fun _ _ => ?_)
  first | refine g_pass rfl rfl rfl ?_ | refine g_pu rfl rfl rfl (pu_not rfl rfl) ?_
  first | refine g_pu rfl rfl rfl (pu_pick_t rfl rfl rfl) ?_ | refine g_pu rfl rfl rfl (pu_pick_f rfl rfl rfl) ?_
  refine g_nil ?_
  (repeat refine g_seq ?_)
  refine g_cond_f rfl (g_skip ?_)
  by_cases hok : allOk b ls = true
  · have hE : allE b ls = 0 := if_pos hok
    obtain ⟨e1, e2⟩ := all_back hok
    rw [hE]
    (repeat refine g_seq ?_)
    refine g_region ?_
    refine g_pu rfl rfl rfl (pu_move rfl rfl) ?_
    first | refine g_pu rfl rfl rfl (pu_neq_t rfl rfl rfl (by omega)) ?_ | refine g_pu rfl rfl rfl (pu_neq_f rfl rfl rfl (by omega)) ?_ | refine g_pu rfl rfl rfl (pu_neq rfl rfl rfl) ?_
    refine g_nil ?_
    (repeat refine g_seq ?_)
    refine g_cond_f rfl (g_skip ?_)
    (repeat refine g_seq ?_)
    refine g_region ?_
    refine g_pu rfl rfl rfl (pu_assign rfl rfl) ?_
    refine g_nil ?_
    refine g_nilOwn 90 22 1 rfl ?_
    refine g_noEls 91 rfl ?_
    (repeat refine g_seq ?_)
    refine g_region ?_
    refine g_pu rfl rfl rfl (pu_move rfl rfl) ?_
    first | refine g_pu rfl rfl rfl (pu_len rfl rfl) ?_ | refine g_pu rfl rfl rfl (pu_lenS rfl rfl) ?_
    refine g_pu rfl rfl rfl (pu_subI rfl rfl rfl (by omega)) ?_
    refine g_pu rfl rfl rfl (pu_assign rfl rfl) ?_
    refine g_nil ?_
    (repeat refine g_seq ?_)
    refine g_block (g_loop2 (fun (s : Nat) (x : Owl) => [(0, .slice p n c), (1, .slice q m1 d), (5, x28.sl (allV zS b ls).length), (13, x.sl (m1 - s)), (14, .int .i64 ((s : Int) - 1))]) (fun s x => [(28, x28.ck 5 1 (bs (allV zS b ls))), (90, x.ck 22), (91, x.ckE (bkk ls s))]) (fun s x => s ≤ m1 ∧ x.ok (m1 - s)) (fun s _ => s) m1 ⟨none, 0, [], Nob⟩ ⟨rfl, rfl, rfl, by rw [Nat.sub_self]; rfl, rfl, trivial⟩ ⟨rfl, rfl, by unfold bkk; rw [List.drop_of_length_le (by omega)]; rfl, trivial⟩ ⟨by omega, by rw [Nat.sub_self]; exact ⟨rfl, rfl⟩⟩ ?_)
    intro s x ⟨hs, hxo⟩
    by_cases hlt : 0 < s
    · (repeat refine g_seq ?_)
      refine g_region ?_
      refine g_pu rfl rfl rfl (pu_move rfl rfl) ?_
      first | refine g_pu rfl rfl rfl (pu_geq_t rfl rfl rfl (by omega)) ?_ | refine g_pu rfl rfl rfl (pu_geq_f rfl rfl rfl (by omega)) ?_ | refine g_pu rfl rfl rfl (pu_geq rfl rfl rfl) ?_
      refine g_nil ?_
      (repeat refine g_seq ?_)
      refine g_cond_t rfl (g_skip ?_)
      have hl : ls[s - 1]? = some ls[s - 1] := List.getElem?_eq_getElem (by omega)
      have hst := bkk_step hl
      rw [show s - 1 + 1 = s by omega] at hst
      obtain ⟨kq, km, kc, hL, hkq⟩ := hx.at hl
      (repeat refine g_seq ?_); refine g_block ?_
      (repeat refine g_seq ?_)
      refine g_region ?_
      refine g_pu rfl rfl rfl (pu_move rfl rfl) ?_
      refine g_pu rfl rfl rfl (pu_move rfl rfl) ?_
      refine g_pu rfl rfl rfl (pu_move rfl rfl) ?_
      refine g_pu rfl rfl rfl (pu_atM1 (s - 1) (fun w' hm => (hx.m hm).rd) rfl rfl rfl (by omega) (by omega) (by omega)) ?_
      refine g_pu rfl rfl rfl (pu_rdM (fun w' hm => (hx.m hm).rd) rfl rfl hL) ?_
      refine g_call [79] rfl rfl rfl rfl rfl rfl (fun w' hm => Copy_b w' kc (hkq.m hm)) (fun x79 _ => ?_)
      refine g_lo [80] rfl rfl rfl rfl (lo_buildSlice rfl rfl (by decide) (by decide) rfl rfl) (fun b80 hb80 => ?_)
      refine g_append1 90 [x79.sl km] rfl rfl rfl rfl rfl rfl rfl rfl hxo.1 (fun w' hm => hm.row 80 (J := []) rfl) rfl (fun u hu => by obtain rfl := List.mem_singleton.1 hu; rfl) (by omega) (by omega) (fun p' c' => ?_)
      refine g_pu rfl rfl rfl (pu_assign rfl rfl) ?_
      refine g_nil ?_
      refine g_join_el 91 79 (S := x.S) (L := x.L) (ls := bkk ls s) (x := x79) (n := km) (l := ls[s - 1]) rfl rfl hkq.len hkq.big rfl ?_
      refine g_blk ?_
      (repeat refine g_seq ?_)
      refine g_region ?_
      refine g_pu rfl rfl rfl (pu_move rfl rfl) ?_
      refine g_pu rfl rfl rfl (pu_subI rfl rfl rfl (by omega)) ?_
      refine g_pu rfl rfl rfl (pu_assign rfl rfl) ?_
      refine g_nil ?_
      refine g_round2 (s - 1) (⟨p', c', x.L ++ [x79.sl km], fun j => x.S j ∨ At x79.p j⟩ : Owl) ⟨by omega, by rw [List.length_append, hxo.1]; show m1 - s + 1 = _; omega, by simp [hxo.2, Ow.sl, isSl]⟩ (by omega) ⟨rfl, rfl, rfl, by rw [show m1 - (s - 1) = m1 - s + 1 by omega]; rfl, by rw [show (((s - 1 : Nat) : Int) - 1) = (s : Int) - 1 - 1 by omega]; rfl, trivial⟩ ⟨rfl, rfl, by rw [hst]; rfl, trivial⟩
    · (repeat refine g_seq ?_)
      refine g_region ?_
      refine g_pu rfl rfl rfl (pu_move rfl rfl) ?_
      first | refine g_pu rfl rfl rfl (pu_geq_t rfl rfl rfl (by omega)) ?_ | refine g_pu rfl rfl rfl (pu_geq_f rfl rfl rfl (by omega)) ?_ | refine g_pu rfl rfl rfl (pu_geq rfl rfl rfl) ?_
      refine g_nil ?_
      (repeat refine g_seq ?_)
      refine g_cond_f rfl (g_exit rfl ?_)
      have es : s = 0 := by omega
      subst es
      rw [Nat.sub_zero] at hxo ⊢
      rw [show bkk ls 0 = ls.reverse from rfl]
      (repeat refine g_seq ?_)
      refine g_region ?_
      refine g_pu rfl rfl rfl (pu_move rfl rfl) ?_
      refine g_pu rfl rfl rfl (pu_move rfl rfl) ?_
      refine g_call [85] rfl rfl rfl rfl rfl rfl (fun w' hm => OpenAll_b w' x28.c x.c (By.ow 28 rfl hm rfl (by omega)) (Owl.by 90 91 rfl rfl hm hxo.1 (by omega))) (fun x85 _ => ?_)
      rw [e1, e2]
      refine g_pu rfl rfl rfl (pu_move rfl rfl) ?_
      refine g_pu rfl rfl rfl (pu_extract rfl rfl rfl) ?_
      refine g_pu rfl rfl rfl (pu_extract rfl rfl rfl) ?_
      refine g_pu rfl rfl rfl (pu_assign rfl rfl) ?_
      refine g_pu rfl rfl rfl (pu_assign rfl rfl) ?_
      refine g_nil ?_
      (repeat refine g_seq ?_)
      refine g_region ?_
      refine g_pu rfl rfl rfl (pu_move rfl rfl) ?_
      first | refine g_pu rfl rfl rfl (pu_eql_t rfl rfl rfl (by omega)) ?_ | refine g_pu rfl rfl rfl (pu_eql_f rfl rfl rfl (by omega)) ?_ | refine g_pu rfl rfl rfl (pu_eql rfl rfl rfl) ?_
      refine g_pu rfl rfl rfl (pu_move rfl rfl) ?_
      first | refine g_pass rfl rfl rfl ?_ | refine g_pu rfl rfl rfl (pu_move rfl rfl) ?_
      first | refine g_pass rfl rfl rfl ?_ | refine g_pu rfl rfl rfl (pu_move rfl rfl) ?_
      refine g_call [] rfl rfl rfl rfl rfl rfl (fun w' hm => Equal_b w' x85.c c (By.ow 85 rfl hm rfl (by omega)) (hb.m hm)) (fun _ _ => ?_)
      rw [decide_eq_true (rfl : b = b)]
      first | refine g_pu rfl rfl rfl (pu_pick_t rfl rfl rfl) ?_ | refine g_pu rfl rfl rfl (pu_pick_f rfl rfl rfl) ?_
      refine g_pu rfl rfl rfl (pu_assign rfl rfl) ?_
      refine g_nil ?_
      exact g_ret1 rfl rfl (fun w' hm => ⟨(), trivial, rfl, hm.grows [] trivial rfl⟩)
  · have hE : allE b ls = 2 := if_neg hok
    rw [hE]
    (repeat refine g_seq ?_)
    refine g_region ?_
    refine g_pu rfl rfl rfl (pu_move rfl rfl) ?_
    first | refine g_pu rfl rfl rfl (pu_neq_t rfl rfl rfl (by omega)) ?_ | refine g_pu rfl rfl rfl (pu_neq_f rfl rfl rfl (by omega)) ?_ | refine g_pu rfl rfl rfl (pu_neq rfl rfl rfl) ?_
    refine g_nil ?_
    (repeat refine g_seq ?_)
    refine g_cond_t rfl ?_
    (repeat refine g_seq ?_)
    refine g_region ?_
    refine g_pu rfl rfl rfl (pu_assign rfl rfl) ?_
    refine g_nil ?_
    exact g_ret1 rfl rfl (fun w' hm => ⟨(), trivial, rfl, hm.grows [] trivial rfl⟩)
end Go.Sx

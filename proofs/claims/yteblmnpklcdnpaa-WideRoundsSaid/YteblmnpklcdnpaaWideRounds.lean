import Derived.Test.YteblmnpklcdnpaaW4
import Derived.Test.YteblmnpklcdnpaaWideSeals
set_option linter.unusedVariables false
set_option linter.unusedSimpArgs false
/-
  WideRounds: the rounds of the wide cipher are the document's, and the same rounds backwards undo them. The lists fit memory.
-/
namespace Go.Sx
open Go Go.Proofs

def iz (zs : List Int) : List Value := zs.map (Value.int .i64)
theorem iz_length (zs : List Int) : (iz zs).length = zs.length := by simp [iz]
theorem oneCell_iz (zs : List Int) : ∀ u ∈ iz zs, u.oneCell' = true := fun u hu => by obtain ⟨z, _, rfl⟩ := List.mem_map.1 hu; rfl
theorem iz_append (a b : List Int) : iz (a ++ b) = iz a ++ iz b := by simp [iz]
theorem okZ_rev (zs : List Int) : okZ zs.reverse = okZ zs := by unfold okZ; rw [List.all_reverse]
/-- The list backwards, from place s on. -/
def bk (zs : List Int) (s : Nat) : List Int := (zs.drop s).reverse
theorem bk_step {zs : List Int} {s : Nat} {z : Int} (h : zs[s]? = some z) : bk zs s = bk zs (s + 1) ++ [z] := by
  unfold bk
  have hi := List.getElem?_eq_some_iff.1 h
  rw [List.drop_eq_getElem_cons hi.1, hi.2, List.reverse_cons]
theorem rds_back {key b : List (BitVec 8)} {zs : List Int} (h1 : okZ zs = true) (h2 : fitsB key.length b.length = true) : rdsE key.length (rdsV key b zs).length zs.reverse = 0 ∧ rdsV key (rdsV key b zs) zs.reverse = b := by
  have hl := rds_len h1 h2
  have h3 : fitsB key.length (rdsV key b zs).length = true := by rw [hl]; exact h2
  obtain ⟨e1, e2⟩ := rds_ok (key := key) (b := rdsV key b zs) (zs := zs.reverse) (by rw [okZ_rev]; exact h1) h3
  refine ⟨e1, ?_⟩
  rw [e2, (rds_ok h1 h2).2]
  exact rdsL_back key zs ((fitsB_iff _ _).1 h2).2.1
theorem rdsV_le (key b : List (BitVec 8)) (zs : List Int) : (rdsV key b zs).length ≤ 4096 := by
  by_cases h1 : okZ zs = true
  · exact rdsV_small key b zs h1
  · rw [(rds_z h1).2]; simp

theorem WideRounds_spec (w : World) {p q r : Option Addr} {n m k : Nat} (c d e : Nat) {key b : List (BitVec 8)} {zs : List Int} (hk : By w p n key) (hb : By w q m b) (hr : RdV w r (zs.map (Value.int .i64))) (hz : zs.length = k) (hmd : m ≤ d) (hke : k ≤ e) :
    Spec Try.prog 3 #[.slice p n c, .slice q m d, .slice r k e] w (σ := Unit) (fun _ => True) (fun _ => .bool true) Nob (fun _ => []) := by
  refine enter Try.func3 rfl rfl (Mem.start w) ?_
  have hkl := hk.len
  have hbl := hb.len
  have hkg := hk.big
  have hbg := hb.big
  (repeat refine g_seq ?_)
  refine g_region ?_
  refine g_pu rfl rfl rfl (pu_assign rfl rfl) ?_
  refine g_nil ?_
  (repeat refine g_seq ?_)
  refine g_region ?_
  refine g_call [] rfl rfl rfl rfl rfl rfl (fun w' hm => awake07_b w') (fun _ _ => ?_)
  refine g_pu rfl rfl rfl (pu_not rfl rfl) ?_
  refine g_nil ?_
  (repeat refine g_seq ?_)
  refine g_cond_f rfl (g_skip ?_)
  refine g_seq ?_
  refine g_join (σ := Nat × List Int) (fun x => [(0, .slice p n c), (1, .slice q m d), (2, .slice r x.1 e)]) (fun _ => []) (fun x => RdV w r (iz x.2) ∧ x.2.length = x.1 ∧ x.1 ≤ 12) ?_ (fun x hx => ?_)
  · by_cases h12 : k > 12
    · (repeat refine g_seq ?_)
      refine g_region ?_
      refine g_pu rfl rfl rfl (pu_move rfl rfl) ?_
      first | refine g_pu rfl rfl rfl (pu_len rfl rfl) ?_ | refine g_pu rfl rfl rfl (pu_lenS rfl rfl) ?_
      first | refine g_pu rfl rfl rfl (pu_gtr_t rfl rfl rfl (by omega)) ?_ | refine g_pu rfl rfl rfl (pu_gtr_f rfl rfl rfl (by omega)) ?_ | refine g_pu rfl rfl rfl (pu_gtr rfl rfl rfl) ?_
      refine g_nil ?_
      (repeat refine g_seq ?_)
      refine g_cond_t rfl ?_
      (repeat refine g_seq ?_)
      refine g_region ?_
      refine g_pu rfl rfl rfl (pu_move rfl rfl) ?_
      refine g_pu rfl rfl rfl (pu_slice_h 12 rfl rfl rfl rfl (by omega)) ?_
      refine g_pu rfl rfl rfl (pu_assign rfl rfl) ?_
      refine g_nil ?_
      exact g_meet (12, zs.take 12) ⟨RdV.take (L' := iz (zs.drop 12)) (by rw [← iz_append, List.take_append_drop]; exact hr), by rw [List.length_take]; omega, by omega⟩ ⟨rfl, rfl, rfl, trivial⟩ trivial
    · (repeat refine g_seq ?_)
      refine g_region ?_
      refine g_pu rfl rfl rfl (pu_move rfl rfl) ?_
      first | refine g_pu rfl rfl rfl (pu_len rfl rfl) ?_ | refine g_pu rfl rfl rfl (pu_lenS rfl rfl) ?_
      first | refine g_pu rfl rfl rfl (pu_gtr_t rfl rfl rfl (by omega)) ?_ | refine g_pu rfl rfl rfl (pu_gtr_f rfl rfl rfl (by omega)) ?_ | refine g_pu rfl rfl rfl (pu_gtr rfl rfl rfl) ?_
      refine g_nil ?_
      (repeat refine g_seq ?_)
      refine g_cond_f rfl (g_skip ?_)
      exact g_meet (k, zs) ⟨hr, hz, by omega⟩ ⟨rfl, rfl, rfl, trivial⟩ trivial
  obtain ⟨k1, ys⟩ := x
  obtain ⟨hy, hyl, hk12⟩ := hx
  dsimp only at hy hyl hk12 ⊢
  have hs1 := rdsV_le key b ys
  (repeat refine g_seq ?_)
  refine g_region ?_
  refine g_pu rfl rfl rfl (pu_move rfl rfl) ?_
  refine g_call [23] rfl rfl rfl rfl rfl rfl (fun w' hm => Copy_b w' c (hk.m hm)) (fun x23 _ => ?_)
  refine g_pu rfl rfl rfl (pu_move rfl rfl) ?_
  refine g_call [25] rfl rfl rfl rfl rfl rfl (fun w' hm => Copy_b w' d (hb.m hm)) (fun x25 _ => ?_)
  refine g_lo [26] rfl rfl rfl rfl (lo_buildSlice0 rfl) (fun b26 hb26 => ?_)
  refine g_own 26 (L := []) (J := []) (c := 0) (s := 1) rfl (by simp) (by omega) ?_
  refine g_pu rfl rfl rfl (pu_move rfl rfl) ?_
  refine g_append1 26 (n := 0) (m := k1) (iz ys) rfl rfl rfl rfl rfl rfl rfl rfl rfl (fun w' hm => hy.mem0 hm) (by rw [iz_length, hyl]) (oneCell_iz _) (by omega) (by omega) (fun p8 c8 => ?_)
  rw [List.nil_append, Nat.zero_add]
  refine g_call [29] rfl rfl rfl rfl rfl rfl (fun w' hm => WRounds_b w' x23.c x25.c c8 (zs := ys) (By.ow 23 rfl hm hkl hkg) (By.ow 25 rfl hm hbl hbg) (Own.rd (hm.holds 26 _ rfl)) hyl (by omega)) (fun x29 _ => ?_)
  refine g_pu rfl rfl rfl (pu_move rfl rfl) ?_
  refine g_pu rfl rfl rfl (pu_extract rfl rfl rfl) ?_
  refine g_pu rfl rfl rfl (pu_extract rfl rfl rfl) ?_
  refine g_pu rfl rfl rfl (pu_assign rfl rfl) ?_
  refine g_pu rfl rfl rfl (pu_assign rfl rfl) ?_
  refine g_nil ?_
  (repeat refine g_seq ?_)
  refine g_region ?_
  refine g_pu rfl rfl rfl (pu_move rfl rfl) ?_
  refine g_pu rfl rfl rfl (pu_move rfl rfl) ?_
  refine g_pu rfl rfl rfl (pu_move rfl rfl) ?_
  refine g_call [36] rfl rfl rfl rfl rfl rfl (fun w' hm => RRounds_b w' c d e (zs := ys) (hk.m hm) (hb.m hm) (hy.mem0 hm) hyl (by omega) hmd) (fun x36 _ => ?_)
  refine g_pu rfl rfl rfl (pu_move rfl rfl) ?_
  refine g_pu rfl rfl rfl (pu_extract rfl rfl rfl) ?_
  refine g_pu rfl rfl rfl (pu_extract rfl rfl rfl) ?_
  refine g_pu rfl rfl rfl (pu_assign rfl rfl) ?_
  refine g_pu rfl rfl rfl (pu_assign rfl rfl) ?_
  refine g_nil ?_
  (repeat refine g_seq ?_)
  refine g_region ?_
  refine g_pu rfl rfl rfl (pu_move rfl rfl) ?_
  refine g_pu rfl rfl rfl (pu_move rfl rfl) ?_
  refine g_pu rfl rfl rfl (pu_move rfl rfl) ?_
  refine g_pu rfl rfl rfl (pu_move rfl rfl) ?_
  refine g_call [] rfl rfl rfl rfl rfl rfl (fun w' hm => told07_t w' x29.c x36.c (rdsE n m ys) (By.ow 29 rfl hm rfl (by omega)) (By.ow 36 rfl hm rfl (by omega))) (fun _ _ => ?_)
  refine g_pu rfl rfl rfl (pu_not rfl rfl) ?_
  refine g_nil ?_
  (repeat refine g_seq ?_)
  refine g_cond_f rfl (g_skip ?_)
  by_cases hE : rdsE n m ys = 0
  · have hok : okZ ys = true ∧ fitsB n m = true := by
      unfold rdsE at hE
      split at hE
      · rename_i h1
        split at hE
        · rename_i h2; exact ⟨h1, h2⟩
        · cases hE
      · cases hE
    have hf := hok.2
    rw [← hkl, ← hbl] at hf
    obtain ⟨e1, e2⟩ := rds_back hok.1 hf
    rw [hkl] at e1
    rw [hE]
    (repeat refine g_seq ?_)
    refine g_region ?_
    refine g_pu rfl rfl rfl (pu_move rfl rfl) ?_
    first | refine g_pu rfl rfl rfl (pu_neq_t rfl rfl rfl (by omega)) ?_ | refine g_pu rfl rfl rfl (pu_neq_f rfl rfl rfl (by omega)) ?_ | refine g_pu rfl rfl rfl (pu_neq rfl rfl rfl) ?_
    refine g_nil ?_
    (repeat refine g_seq ?_)
    refine g_cond_f rfl (g_skip ?_)
    (repeat refine g_seq ?_)
    refine g_region ?_
    refine g_pu rfl rfl rfl (pu_assign rfl rfl) ?_
    refine g_nil ?_
    refine g_nilOwn 90 3 1 rfl ?_
    (repeat refine g_seq ?_)
    refine g_region ?_
    refine g_pu rfl rfl rfl (pu_move rfl rfl) ?_
    first | refine g_pu rfl rfl rfl (pu_len rfl rfl) ?_ | refine g_pu rfl rfl rfl (pu_lenS rfl rfl) ?_
    refine g_pu rfl rfl rfl (pu_subI rfl rfl rfl (by omega)) ?_
    refine g_pu rfl rfl rfl (pu_assign rfl rfl) ?_
    refine g_nil ?_
    (repeat refine g_seq ?_)
    refine g_block (g_loop2 (fun (s : Nat) (y : Ow) => [(0, .slice p n c), (1, .slice q m d), (2, .slice r k1 e), (7, x29.sl (rdsV key b ys).length), (11, y.sl (k1 - s)), (12, .int .i64 ((s : Int) - 1))]) (fun s y => [(29, x29.ck 5 1 (bs (rdsV key b ys))), (90, y.ck 3 1 (iz (bk ys s)))]) (fun s _ => s ≤ k1) (fun s _ => s) k1 ⟨none, 0⟩ ⟨rfl, rfl, rfl, rfl, by rw [Nat.sub_self]; rfl, rfl, trivial⟩ ⟨rfl, by unfold bk; rw [List.drop_of_length_le (by omega)]; rfl, trivial⟩ (by omega) ?_)
    intro s y hs
    by_cases hlt : 0 < s
    · (repeat refine g_seq ?_)
      refine g_region ?_
      refine g_pu rfl rfl rfl (pu_move rfl rfl) ?_
      first | refine g_pu rfl rfl rfl (pu_geq_t rfl rfl rfl (by omega)) ?_ | refine g_pu rfl rfl rfl (pu_geq_f rfl rfl rfl (by omega)) ?_ | refine g_pu rfl rfl rfl (pu_geq rfl rfl rfl) ?_
      refine g_nil ?_
      (repeat refine g_seq ?_)
      refine g_cond_t rfl (g_skip ?_)
      have h1 : ys[s - 1]? = some ys[s - 1] := List.getElem?_eq_getElem (by omega)
      have hst := bk_step h1
      rw [show s - 1 + 1 = s by omega] at hst
      have h2 : (iz ys)[s - 1]? = some (.int .i64 ys[s - 1]) := by unfold iz; rw [List.getElem?_map, h1]; rfl
      have hbk : (bk ys s).length = k1 - s := by unfold bk; rw [List.length_reverse, List.length_drop, hyl]
      generalize ys[s - 1] = z at h1 h2 hst
      (repeat refine g_seq ?_); refine g_block ?_
      (repeat refine g_seq ?_)
      refine g_region ?_
      refine g_pu rfl rfl rfl (pu_move rfl rfl) ?_
      refine g_pu rfl rfl rfl (pu_move rfl rfl) ?_
      refine g_pu rfl rfl rfl (pu_move rfl rfl) ?_
      refine g_pu rfl rfl rfl (pu_atM1 (s - 1) (fun w' hm => hy.mem0 hm) rfl rfl rfl (by omega) (by omega) (by rw [iz_length]; omega)) ?_
      refine g_pu rfl rfl rfl (pu_rdM (fun w' hm => hy.mem0 hm) rfl rfl h2) ?_
      refine g_lo [59] rfl rfl rfl rfl (lo_buildSlice rfl rfl (by decide) (by decide) rfl rfl) (fun b59 hb59 => ?_)
      refine g_append1 90 (iz [z]) rfl rfl rfl rfl rfl rfl rfl rfl (by rw [iz_length, hbk]) (fun w' hm => hm.rowA 59 rfl) rfl (oneCell_iz _) (by omega) (by omega) (fun p' c' => ?_)
      rw [← iz_append, ← hst, show k1 - s + 1 = k1 - (s - 1) by omega]
      refine g_pu rfl rfl rfl (pu_assign rfl rfl) ?_
      refine g_nil ?_
      refine g_blk ?_
      (repeat refine g_seq ?_)
      refine g_region ?_
      refine g_pu rfl rfl rfl (pu_move rfl rfl) ?_
      refine g_pu rfl rfl rfl (pu_subI rfl rfl rfl (by omega)) ?_
      refine g_pu rfl rfl rfl (pu_assign rfl rfl) ?_
      refine g_nil ?_
      exact g_round2 (s - 1) (⟨p', c'⟩ : Ow) (by omega) (by omega) ⟨rfl, rfl, rfl, rfl, rfl, by rw [show (((s - 1 : Nat) : Int) - 1) = (s : Int) - 1 - 1 by omega]; rfl, trivial⟩ ⟨rfl, rfl, trivial⟩
    · (repeat refine g_seq ?_)
      refine g_region ?_
      refine g_pu rfl rfl rfl (pu_move rfl rfl) ?_
      first | refine g_pu rfl rfl rfl (pu_geq_t rfl rfl rfl (by omega)) ?_ | refine g_pu rfl rfl rfl (pu_geq_f rfl rfl rfl (by omega)) ?_ | refine g_pu rfl rfl rfl (pu_geq rfl rfl rfl) ?_
      refine g_nil ?_
      (repeat refine g_seq ?_)
      refine g_cond_f rfl (g_exit rfl ?_)
      have es : s = 0 := by omega
      subst es
      rw [Nat.sub_zero, show bk ys 0 = ys.reverse from rfl]
      (repeat refine g_seq ?_)
      refine g_region ?_
      refine g_pu rfl rfl rfl (pu_move rfl rfl) ?_
      refine g_pu rfl rfl rfl (pu_move rfl rfl) ?_
      refine g_pu rfl rfl rfl (pu_move rfl rfl) ?_
      refine g_call [65] rfl rfl rfl rfl rfl rfl (fun w' hm => WRounds_b w' c x29.c y.c (zs := ys.reverse) (hk.m hm) (By.ow 29 rfl hm rfl (by omega)) (Own.rd (hm.holds 90 _ rfl)) (by rw [List.length_reverse, hyl]) (by omega)) (fun x65 _ => ?_)
      rw [e1, e2]
      refine g_pu rfl rfl rfl (pu_move rfl rfl) ?_
      refine g_pu rfl rfl rfl (pu_extract rfl rfl rfl) ?_
      refine g_pu rfl rfl rfl (pu_extract rfl rfl rfl) ?_
      refine g_pu rfl rfl rfl (pu_assign rfl rfl) ?_
      refine g_pu rfl rfl rfl (pu_assign rfl rfl) ?_
      refine g_nil ?_
      (repeat refine g_seq ?_)
      refine g_region ?_
      refine g_pu rfl rfl rfl (pu_move rfl rfl) ?_
      first | refine g_pu rfl rfl rfl (pu_eql_t rfl rfl rfl (by omega)) ?_ | refine g_pu rfl rfl rfl (pu_eql_f rfl rfl rfl (by omega)) ?_ | refine g_pu rfl rfl rfl (pu_eql rfl rfl rfl) ?_
      refine g_pu rfl rfl rfl (pu_move rfl rfl) ?_
      first | refine g_pass rfl rfl rfl ?_ | refine g_pu rfl rfl rfl (pu_move rfl rfl) ?_
      first | refine g_pass rfl rfl rfl ?_ | refine g_pu rfl rfl rfl (pu_move rfl rfl) ?_
      refine g_call [] rfl rfl rfl rfl rfl rfl (fun w' hm => Equal_b w' x65.c d (By.ow 65 rfl hm rfl (by omega)) (hb.m hm)) (fun _ _ => ?_)
      rw [decide_eq_true (rfl : b = b)]
      first | refine g_pu rfl rfl rfl (pu_pick_t rfl rfl rfl) ?_ | refine g_pu rfl rfl rfl (pu_pick_f rfl rfl rfl) ?_
      refine g_pu rfl rfl rfl (pu_assign rfl rfl) ?_
      refine g_nil ?_
      exact g_ret1 rfl rfl (fun w' hm => ⟨(), trivial, rfl, hm.grows [] trivial rfl⟩)
  · (repeat refine g_seq ?_)
    refine g_region ?_
    refine g_pu rfl rfl rfl (pu_move rfl rfl) ?_
    refine g_pu rfl rfl rfl (pu_neq_t rfl rfl rfl hE) ?_
    refine g_nil ?_
    (repeat refine g_seq ?_)
    refine g_cond_t rfl ?_
    (repeat refine g_seq ?_)
    refine g_region ?_
    refine g_pu rfl rfl rfl (pu_assign rfl rfl) ?_
    refine g_nil ?_
    exact g_ret1 rfl rfl (fun w' hm => ⟨(), trivial, rfl, hm.grows [] trivial rfl⟩)
end Go.Sx

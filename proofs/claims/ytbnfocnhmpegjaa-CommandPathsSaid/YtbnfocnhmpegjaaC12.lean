/-
  Cutting bytes into pieces, of the codec and of its reference. At most 2^47 / 24 sizes.
-/
import Derived.Test.YtbnfocnhmpegjaaC11
set_option linter.unusedVariables false
set_option linter.unusedSimpArgs false
namespace Go.Sx
open Go Go.Proofs

theorem Cut_b (w : World) {p q : Option Addr} {n m : Nat} (c d : Nat) {l : List (BitVec 8)} (ns : List Int) (ha : By w p n l) (hc : n ≤ c) (hq : RdV w q (is ns)) (hm : ns.length = m) (hbm : m * 24 ≤ 140737488355328) :
    Spec Try.prog 30 #[.slice p n c, .slice q m d] w (σ := Owl) (Owl.ok (cutV l ns).length) (fun x => .tuple #[x.sl (cutV l ns).length, .int .i64 (cutE l ns)]) Nob (fun x => [x.ck 45, x.ckE (cutV l ns)]) := by
  refine enter Try.func30 rfl rfl (Mem.start w) ?_
  have hn := ha.len
  have hbig := ha.big
  have hisl := is_length ns
  (repeat refine g_seq ?_)
  refine g_region ?_
  refine g_pu rfl rfl rfl (pu_assign rfl rfl) ?_
  refine g_pu rfl rfl rfl (pu_assign rfl rfl) ?_
  refine g_nil ?_
  (repeat refine g_seq ?_)
  refine g_region ?_
  refine g_pu rfl rfl rfl (pu_move rfl rfl) ?_
  first | refine g_pu rfl rfl rfl (pu_len rfl rfl) ?_ | refine g_pu rfl rfl rfl (pu_lenS rfl rfl) ?_
  refine g_pu rfl rfl rfl (pu_move rfl rfl) ?_
  refine g_nil ?_
  refine g_block (g_loop (σ := Nat) (fun (i : Nat) => [(0, .slice p n c), (1, .slice q m d), (11, .slice q m d), (12, .int .i64 (m : Int)), (13, .int .i64 (i : Int))]) (fun i => []) (fun i => i ≤ m ∧ (ns.take i).any (· < 0) = false) (fun i => m - i) 0 ⟨rfl, rfl, rfl, rfl, rfl, trivial⟩ trivial ⟨by omega, rfl⟩ ?_)
  intro i ⟨hi, hok⟩
  by_cases hlt : i < m
  · (repeat refine g_seq ?_)
    refine g_region ?_
    first | refine g_pu rfl rfl rfl (pu_lss_t rfl rfl rfl (by omega)) ?_ | refine g_pu rfl rfl rfl (pu_lss_f rfl rfl rfl (by omega)) ?_ | refine g_pu rfl rfl rfl (pu_lss rfl rfl rfl) ?_
    refine g_nil ?_
    (repeat refine g_seq ?_)
    refine g_cond_t rfl (g_skip ?_)
    have hz : ns[i]? = some ns[i] := List.getElem?_eq_getElem (by omega)
    generalize ns[i] = z at hz
    (repeat refine g_seq ?_); refine g_block ?_
    (repeat refine g_seq ?_)
    refine g_region ?_
    refine g_pu rfl rfl rfl (pu_atM1 i (fun w' hm => hq.mem0 hm) rfl rfl rfl rfl hlt (by omega)) ?_
    refine g_pu rfl rfl rfl (pu_rdM (fun w' hm => hq.mem0 hm) rfl rfl (is_get hz)) ?_
    refine g_pu rfl rfl rfl (pu_assign rfl rfl) ?_
    refine g_nil ?_
    by_cases hneg : z < 0
    · (repeat refine g_seq ?_)
      refine g_region ?_
      refine g_pu rfl rfl rfl (pu_move rfl rfl) ?_
      refine g_pu rfl rfl rfl (pu_lss_t rfl rfl rfl hneg) ?_
      refine g_nil ?_
      (repeat refine g_seq ?_)
      refine g_cond_t rfl ?_
      (repeat refine g_seq ?_)
      refine g_region ?_
      refine g_pu rfl rfl rfl (pu_assign rfl rfl) ?_
      refine g_pu rfl rfl rfl (pu_assign rfl rfl) ?_
      refine g_nil ?_
      have hb : ns.any (· < 0) = true := List.any_eq_true.2 ⟨z, List.mem_of_getElem? hz, by simpa using hneg⟩
      obtain ⟨hE, hV⟩ := cut_bad (l := l) hb
      rw [hE, hV]
      refine g_nilOwn 90 45 1 rfl (g_noEls 91 rfl ?_)
      exact g_ret2 rfl rfl rfl (fun w' hm => ⟨⟨none, 0, [], Nob⟩, ⟨rfl, rfl⟩, rfl, hm.grows [90, 91] ⟨rfl, rfl, trivial⟩ rfl⟩)
    · (repeat refine g_seq ?_)
      refine g_region ?_
      refine g_pu rfl rfl rfl (pu_move rfl rfl) ?_
      refine g_pu rfl rfl rfl (pu_lss_f rfl rfl rfl hneg) ?_
      refine g_nil ?_
      (repeat refine g_seq ?_)
      refine g_cond_f rfl (g_skip ?_)
      refine g_blk ?_
      (repeat refine g_seq ?_)
      refine g_region ?_
      refine g_pu rfl rfl rfl (pu_addI rfl rfl rfl (by omega)) ?_
      refine g_pu rfl rfl rfl (pu_move rfl rfl) ?_
      refine g_nil ?_
      refine g_round (i + 1) ⟨by omega, ?_⟩ (by omega) ⟨rfl, rfl, rfl, rfl, rfl, trivial⟩ trivial
      rw [List.take_add_one, hz, List.any_append, hok]
      simpa using hneg
  · (repeat refine g_seq ?_)
    refine g_region ?_
    first | refine g_pu rfl rfl rfl (pu_lss_t rfl rfl rfl (by omega)) ?_ | refine g_pu rfl rfl rfl (pu_lss_f rfl rfl rfl (by omega)) ?_ | refine g_pu rfl rfl rfl (pu_lss rfl rfl rfl) ?_
    refine g_nil ?_
    (repeat refine g_seq ?_)
    refine g_cond_f rfl (g_exit rfl ?_)
    have e1 : i = m := by omega
    subst e1
    rw [List.take_of_length_le (by omega)] at hok
    (repeat refine g_seq ?_)
    refine g_region ?_
    refine g_pu rfl rfl rfl (pu_assign rfl rfl) ?_
    refine g_nil ?_
    refine g_nilOwn 90 45 1 rfl (g_noEls 91 rfl ?_)
    (repeat refine g_seq ?_)
    refine g_region ?_
    refine g_pu rfl rfl rfl (pu_move rfl rfl) ?_
    first | refine g_pu rfl rfl rfl (pu_len rfl rfl) ?_ | refine g_pu rfl rfl rfl (pu_lenS rfl rfl) ?_
    refine g_pu rfl rfl rfl (pu_move rfl rfl) ?_
    refine g_nil ?_
    refine g_block (g_loop2 (fun (j : Nat) (x : Owl × Option Addr × Nat) => [(0, .slice x.2.1 (n - cutS (ns.take j)) x.2.2), (8, x.1.sl j), (20, .slice q i d), (21, .int .i64 (i : Int)), (22, .int .i64 (j : Int))]) (fun j x => [(90, x.1.ck 45), (91, x.1.ckE (cutP l (ns.take j)))])
      (fun j x => j ≤ i ∧ cutS (ns.take j) ≤ n ∧ x.1.ok j ∧ By w x.2.1 (n - cutS (ns.take j)) (l.drop (cutS (ns.take j))) ∧ n - cutS (ns.take j) ≤ x.2.2) (fun j _ => i - j) 0 (⟨none, 0, [], Nob⟩, p, c) ⟨rfl, rfl, rfl, rfl, rfl, trivial⟩ ⟨rfl, rfl, trivial⟩ ⟨by omega, by simp [cutS], ⟨rfl, rfl⟩, by simpa [cutS] using ha, by simpa [cutS] using hc⟩ ?_)
    rintro j ⟨x, p', c'⟩ ⟨hj, hs, hx, hb, hc'⟩
    dsimp only at hx hb hc' ⊢
    by_cases hlt2 : j < i
    · (repeat refine g_seq ?_)
      refine g_region ?_
      first | refine g_pu rfl rfl rfl (pu_lss_t rfl rfl rfl (by omega)) ?_ | refine g_pu rfl rfl rfl (pu_lss_f rfl rfl rfl (by omega)) ?_ | refine g_pu rfl rfl rfl (pu_lss rfl rfl rfl) ?_
      refine g_nil ?_
      (repeat refine g_seq ?_)
      refine g_cond_t rfl (g_skip ?_)
      have hz : ns[j]? = some ns[j] := List.getElem?_eq_getElem (by omega)
      generalize ns[j] = z at hz
      have hz0 := any_lt hok hz
      have hS := cutS_at hz
      have hP := cutP_at (l := l) hz
      have hle := cutS_take_le ns (j + 1)
      generalize hsj : cutS (ns.take j) = s at hS hP hs hb hc'
      obtain ⟨k, rfl⟩ : ∃ k : Nat, z = (k : Int) := ⟨z.toNat, by omega⟩
      simp only [Int.toNat_natCast] at hS hP
      (repeat refine g_seq ?_); refine g_block ?_
      (repeat refine g_seq ?_)
      refine g_region ?_
      refine g_pu rfl rfl rfl (pu_atM1 j (fun w' hm => hq.mem0 hm) rfl rfl rfl rfl hlt2 (by omega)) ?_
      refine g_pu rfl rfl rfl (pu_rdM (fun w' hm => hq.mem0 hm) rfl rfl (is_get hz)) ?_
      refine g_pu rfl rfl rfl (pu_assign rfl rfl) ?_
      refine g_nil ?_
      by_cases hgt : n - s < k
      · (repeat refine g_seq ?_)
        refine g_region ?_
        refine g_pu rfl rfl rfl (pu_move rfl rfl) ?_
        refine g_pu rfl rfl rfl (pu_move rfl rfl) ?_
        first | refine g_pu rfl rfl rfl (pu_len rfl rfl) ?_ | refine g_pu rfl rfl rfl (pu_lenS rfl rfl) ?_
        refine g_pu rfl rfl rfl (pu_gtr_t rfl rfl rfl (by omega)) ?_
        refine g_nil ?_
        (repeat refine g_seq ?_)
        refine g_cond_t rfl ?_
        (repeat refine g_seq ?_)
        refine g_region ?_
        refine g_pu rfl rfl rfl (pu_assign rfl rfl) ?_
        refine g_pu rfl rfl rfl (pu_assign rfl rfl) ?_
        refine g_nil ?_
        obtain ⟨hE, hV⟩ := cut_off (l := l) hok (by omega)
        rw [hE, hV]
        refine g_nilOwn 92 45 1 rfl (g_noEls 93 rfl ?_)
        exact g_ret2 rfl rfl rfl (fun w' hm => ⟨⟨none, 0, [], Nob⟩, ⟨rfl, rfl⟩, rfl, hm.grows [92, 93] ⟨rfl, rfl, trivial⟩ rfl⟩)
      · (repeat refine g_seq ?_)
        refine g_region ?_
        refine g_pu rfl rfl rfl (pu_move rfl rfl) ?_
        refine g_pu rfl rfl rfl (pu_move rfl rfl) ?_
        first | refine g_pu rfl rfl rfl (pu_len rfl rfl) ?_ | refine g_pu rfl rfl rfl (pu_lenS rfl rfl) ?_
        refine g_pu rfl rfl rfl (pu_gtr_f rfl rfl rfl (by omega)) ?_
        refine g_nil ?_
        (repeat refine g_seq ?_)
        refine g_cond_f rfl (g_skip ?_)
        have hfst := hb.fst k (by omega)
        have hnext := hb.cut hc' k
        rw [List.drop_drop] at hnext
        (repeat refine g_seq ?_)
        refine g_region ?_
        refine g_pu rfl rfl rfl (pu_move rfl rfl) ?_
        refine g_pu rfl rfl rfl (pu_move rfl rfl) ?_
        refine g_pu rfl rfl rfl (pu_move rfl rfl) ?_
        refine g_pu rfl rfl rfl (pu_slice_h k rfl rfl rfl rfl (by omega)) ?_
        refine g_call [34] rfl rfl rfl rfl rfl rfl (fun w' hm => Clone_b w' _ (hfst.m hm)) (fun x34 _ => ?_)
        refine g_lo [35] rfl rfl rfl rfl (lo_buildSlice rfl rfl (by decide) (by decide) rfl rfl) (fun b35 hb35 => ?_)
        refine g_append1 90 [x34.sl k] rfl rfl rfl rfl rfl rfl rfl rfl hx.1 (fun w' hm => hm.row 35 (J := []) rfl) rfl (fun u hu => by obtain rfl := List.mem_singleton.1 hu; rfl) (by omega) (by omega) (fun p2 c2 => ?_)
        refine g_pu rfl rfl rfl (pu_assign rfl rfl) ?_
        refine g_nil ?_
        refine g_join_el 91 34 (S := x.S) (L := x.L) (ls := cutP l (ns.take j)) (x := x34) (n := k) (l := (l.drop s).take k) rfl rfl hfst.len hfst.big rfl ?_
        (repeat refine g_seq ?_)
        refine g_region ?_
        refine g_pu rfl rfl rfl (pu_move rfl rfl) ?_
        refine g_pu rfl rfl rfl (pu_move rfl rfl) ?_
        refine g_pu rfl rfl rfl (pu_slice_l k rfl rfl rfl rfl (by omega)) ?_
        refine g_pu rfl rfl rfl (pu_assign rfl rfl) ?_
        refine g_nil ?_
        refine g_blk ?_
        (repeat refine g_seq ?_)
        refine g_region ?_
        refine g_pu rfl rfl rfl (pu_addI rfl rfl rfl (by omega)) ?_
        refine g_pu rfl rfl rfl (pu_move rfl rfl) ?_
        refine g_nil ?_
        refine g_round2 (j + 1) ((⟨p2, c2, x.L ++ [x34.sl k], fun j => x.S j ∨ At x34.p j⟩ : Owl), cutp p' c' k 1, c' - k) ⟨by omega, by omega, ⟨by simp [hx.1], by simp [hx.2, Ow.sl, isSl]⟩, ?_, ?_⟩ (by omega) ⟨by rw [hS, Nat.sub_add_eq]; rfl, rfl, rfl, rfl, rfl, trivial⟩ ⟨rfl, by rw [hP]; rfl, trivial⟩
        · rw [hS, Nat.sub_add_eq]; exact hnext
        · dsimp only; omega
    · (repeat refine g_seq ?_)
      refine g_region ?_
      first | refine g_pu rfl rfl rfl (pu_lss_t rfl rfl rfl (by omega)) ?_ | refine g_pu rfl rfl rfl (pu_lss_f rfl rfl rfl (by omega)) ?_ | refine g_pu rfl rfl rfl (pu_lss rfl rfl rfl) ?_
      refine g_nil ?_
      (repeat refine g_seq ?_)
      refine g_cond_f rfl (g_exit rfl ?_)
      have e2 : j = i := by omega
      subst e2
      have htk : ns.take j = ns := List.take_of_length_le (by omega)
      rw [htk] at hs hb hc' ⊢
      by_cases hend : cutS ns = n
      · (repeat refine g_seq ?_)
        refine g_region ?_
        refine g_pu rfl rfl rfl (pu_move rfl rfl) ?_
        first | refine g_pu rfl rfl rfl (pu_len rfl rfl) ?_ | refine g_pu rfl rfl rfl (pu_lenS rfl rfl) ?_
        refine g_pu rfl rfl rfl (pu_gtr_f rfl rfl rfl (by omega)) ?_
        refine g_nil ?_
        (repeat refine g_seq ?_)
        refine g_cond_f rfl (g_skip ?_)
        (repeat refine g_seq ?_)
        refine g_region ?_
        refine g_pu rfl rfl rfl (pu_move rfl rfl) ?_
        refine g_pu rfl rfl rfl (pu_assign rfl rfl) ?_
        refine g_pu rfl rfl rfl (pu_assign rfl rfl) ?_
        refine g_nil ?_
        obtain ⟨hE, hV⟩ := cut_ok (l := l) hok (by omega)
        rw [hE, hV, cutP_length, hm]
        exact g_ret2 rfl rfl rfl (fun w' hm => ⟨x, hx, rfl, hm.grows [90, 91] ⟨rfl, rfl, trivial⟩ rfl⟩)
      · (repeat refine g_seq ?_)
        refine g_region ?_
        refine g_pu rfl rfl rfl (pu_move rfl rfl) ?_
        first | refine g_pu rfl rfl rfl (pu_len rfl rfl) ?_ | refine g_pu rfl rfl rfl (pu_lenS rfl rfl) ?_
        refine g_pu rfl rfl rfl (pu_gtr_t rfl rfl rfl (by omega)) ?_
        refine g_nil ?_
        (repeat refine g_seq ?_)
        refine g_cond_t rfl ?_
        (repeat refine g_seq ?_)
        refine g_region ?_
        refine g_pu rfl rfl rfl (pu_assign rfl rfl) ?_
        refine g_pu rfl rfl rfl (pu_assign rfl rfl) ?_
        refine g_nil ?_
        obtain ⟨hE, hV⟩ := cut_off (l := l) hok (by omega)
        rw [hE, hV]
        refine g_nilOwn 92 45 1 rfl (g_noEls 93 rfl ?_)
        exact g_ret2 rfl rfl rfl (fun w' hm => ⟨⟨none, 0, [], Nob⟩, ⟨rfl, rfl⟩, rfl, hm.grows [92, 93] ⟨rfl, rfl, trivial⟩ rfl⟩)

end Go.Sx

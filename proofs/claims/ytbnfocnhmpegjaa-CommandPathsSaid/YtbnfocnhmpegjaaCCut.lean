/-
  Cutting bytes, the pieces as slices of the run's own. The empty list of codec.
-/
import Derived.Test.YtbnfocnhmpegjaaC12
import Derived.Test.YtbnfocnhmpegjaaCC
set_option linter.unusedVariables false
set_option linter.unusedSimpArgs false
namespace Go.Sx
open Go Go.Proofs

theorem vals_append (xs ys : List Otm) : vals (xs ++ ys) = vals xs ++ vals ys := by simp [vals]
theorem conts_append (xs ys : List Otm) : conts (xs ++ ys) = conts xs ++ conts ys := by simp [conts]
theorem BSC_append {xs ys : List Otm} {j : Nat} : BSC (xs ++ ys) j ↔ BSC xs j ∨ BSC ys j := by
  constructor
  · rintro ⟨x, hx, hj⟩
    exact (List.mem_append.1 hx).imp (fun h => ⟨x, h, hj⟩) (fun h => ⟨x, h, hj⟩)
  · rintro (⟨x, hx, hj⟩ | ⟨x, hx, hj⟩)
    · exact ⟨x, List.mem_append_left _ hx, hj⟩
    · exact ⟨x, List.mem_append_right _ hx, hj⟩
theorem BagC.two {E : TypeId} {xs ys : List Otm} {w : World} (h : BagC E xs w) (h' : BagC E ys w) (hd : ∀ j, BSC xs j → ¬ BSC ys j) : BagC E (xs ++ ys) w :=
  ⟨fun x hx => (List.mem_append.1 hx).elim (h.1 x) (h'.1 x), List.pairwise_append.2 ⟨h.2, h'.2, fun a ha b hb j hj hj2 => hd j ⟨a, ha, hj⟩ ⟨b, hb, hj2⟩⟩⟩
theorem BagC.nil (E : TypeId) (w : World) : BagC E [] w := ⟨fun _ h => by simp at h, List.Pairwise.nil⟩
theorem BSC_one {x : Otm} {j : Nat} : BSC [x] j ↔ At x.1.p j := by
  constructor
  · rintro ⟨y, hy, hj⟩
    obtain rfl := List.mem_singleton.1 hy
    exact hj
  · exact fun h => ⟨x, by simp, h⟩
section
variable {P : Program} {fn : Func} {R : Ending → World → Prop} {N : Nat} {w0 : World} {D : Blocks} {e : List (Nat × Value)} {M : List (Nat × Ck)} {k : List It}
theorem g_noBag (t : Nat) (E : TypeId) (hf : fresh M [t] = true) (h : G P fn R N w0 D e ((t, .fact (BSC []) (BagC E [])) :: M) k) : G P fn R N w0 D e M k :=
  fun a w hs hm => h a w hs (hm.free t _ hf (BagC.nil E w) BagC.loc (fun j hj => by obtain ⟨x, hx, _⟩ := hj; simp at hx))
/-- One more slice of one's own in the bag. -/
theorem g_bagSnoc (tE tx : Nat) {E F : TypeId} {xs : List Otm} {x : Ow} {l : List (BitVec 8)} (hME : mget M tE = some (.fact (BSC xs) (BagC E xs))) (hMx : mget M tx = some (x.ck F 1 (bs l))) (hne : tE ≠ tx)
    (hf : fresh (gone [tE, tx] M) [tE] = true)
    (h : G P fn R N w0 D e ((tE, .fact (BSC (xs ++ [(x, l)])) (BagC E (xs ++ [(x, l)]))) :: gone [tE, tx] M) k) : G P fn R N w0 D e M k := by
  refine g_merge [tE, tx] tE (.fact (BSC (xs ++ [(x, l)])) (BagC E (xs ++ [(x, l)]))) hf (fun w hm => ?_) BagC.loc (fun j hj => ?_) h
  · refine BagC.two (E := E) (hm.holds _ _ hME) ⟨fun z hz => ?_, by simp⟩ (fun j hj hj2 => hm.apart tE _ tx _ hME hMx hne j hj (BSC_one.1 hj2))
    obtain rfl := List.mem_singleton.1 hz
    exact ⟨F, OwnO.of (hm.holds _ _ hMx)⟩
  · rcases BSC_append.1 hj with hj | hj
    · exact ⟨tE, by simp, _, hME, hj⟩
    · exact ⟨tx, by simp, _, hMx, BSC_one.1 hj⟩
/-- Two bags are one. -/
theorem g_bagJoin (t1 t2 : Nat) {E F : TypeId} {xs ys : List Otm} (h1 : mget M t1 = some (.fact (BSC xs) (BagC E xs))) (h2 : mget M t2 = some (.fact (BSC ys) (BagC F ys))) (hne : t1 ≠ t2)
    (hf : fresh (gone [t1, t2] M) [t1] = true)
    (h : G P fn R N w0 D e ((t1, .fact (BSC (xs ++ ys)) (BagC E (xs ++ ys))) :: gone [t1, t2] M) k) : G P fn R N w0 D e M k := by
  refine g_merge [t1, t2] t1 (.fact (BSC (xs ++ ys)) (BagC E (xs ++ ys))) hf (fun w hm => ?_) BagC.loc (fun j hj => ?_) h
  · exact BagC.two (E := E) (hm.holds _ _ h1) (hm.holds _ _ h2) (fun j hj hj2 => hm.apart t1 _ t2 _ h1 h2 hne j hj hj2)
  · rcases BSC_append.1 hj with hj | hj
    · exact ⟨t1, by simp, _, h1, hj⟩
    · exact ⟨t2, by simp, _, h2, hj⟩
end

theorem CutC_b (w : World) {p q : Option Addr} {n m : Nat} (c d : Nat) {l : List (BitVec 8)} (ns : List Int) (ha : By w p n l) (hc : n ≤ c) (hq : RdV w q (is ns)) (hm : ns.length = m) (hbm : m * 24 ≤ 140737488355328) :
    Spec Try.prog 30 #[.slice p n c, .slice q m d] w (σ := Ow × List Otm) (fun s => conts s.2 = cutV l ns) (fun s => .tuple #[s.1.sl s.2.length, .int .i64 (cutE l ns)]) Nob (fun s => [s.1.ck 45 1 (vals s.2), .fact (BSC s.2) (BagC 5 s.2)]) := by
  refine enter Try.func30 rfl rfl (Mem.start w) ?_
  have hn := ha.len
  have hbig := ha.big
  have hisl := is_length ns
  (repeat refine g_seq ?_)
  refine g_region ?_
  refine g_pu rfl rfl rfl (pu_assign rfl rfl) ?_
  refine g_pu rfl rfl rfl (pu_assign rfl rfl) ?_
  refine g_nil ?_
  (repeat refine g_seq ?_)
  refine g_region ?_
  refine g_pu rfl rfl rfl (pu_move rfl rfl) ?_
  first | refine g_pu rfl rfl rfl (pu_len rfl rfl) ?_ | refine g_pu rfl rfl rfl (pu_lenS rfl rfl) ?_
  refine g_pu rfl rfl rfl (pu_move rfl rfl) ?_
  refine g_nil ?_
  refine g_block (g_loop (σ := Nat) (fun (i : Nat) => [(0, .slice p n c), (1, .slice q m d), (11, .slice q m d), (12, .int .i64 (m : Int)), (13, .int .i64 (i : Int))]) (fun i => []) (fun i => i ≤ m ∧ (ns.take i).any (· < 0) = false) (fun i => m - i) 0 ⟨rfl, rfl, rfl, rfl, rfl, trivial⟩ trivial ⟨by omega, rfl⟩ ?_)
  intro i ⟨hi, hok⟩
  by_cases hlt : i < m
  · (repeat refine g_seq ?_)
    refine g_region ?_
    first | refine g_pu rfl rfl rfl (pu_lss_t rfl rfl rfl (by omega)) ?_ | refine g_pu rfl rfl rfl (pu_lss_f rfl rfl rfl (by omega)) ?_ | refine g_pu rfl rfl rfl (pu_lss rfl rfl rfl) ?_
    refine g_nil ?_
    (repeat refine g_seq ?_)
    refine g_cond_t rfl (g_skip ?_)
    have hz : ns[i]? = some ns[i] := List.getElem?_eq_getElem (by omega)
    generalize ns[i] = z at hz
    (repeat refine g_seq ?_); refine g_block ?_
    (repeat refine g_seq ?_)
    refine g_region ?_
    refine g_pu rfl rfl rfl (pu_atM1 i (fun w' hm => hq.mem0 hm) rfl rfl rfl rfl hlt (by omega)) ?_
    refine g_pu rfl rfl rfl (pu_rdM (fun w' hm => hq.mem0 hm) rfl rfl (is_get hz)) ?_
    refine g_pu rfl rfl rfl (pu_assign rfl rfl) ?_
    refine g_nil ?_
    by_cases hneg : z < 0
    · (repeat refine g_seq ?_)
      refine g_region ?_
      refine g_pu rfl rfl rfl (pu_move rfl rfl) ?_
      refine g_pu rfl rfl rfl (pu_lss_t rfl rfl rfl hneg) ?_
      refine g_nil ?_
      (repeat refine g_seq ?_)
      refine g_cond_t rfl ?_
      (repeat refine g_seq ?_)
      refine g_region ?_
      refine g_pu rfl rfl rfl (pu_assign rfl rfl) ?_
      refine g_pu rfl rfl rfl (pu_assign rfl rfl) ?_
      refine g_nil ?_
      have hb : ns.any (· < 0) = true := List.any_eq_true.2 ⟨z, List.mem_of_getElem? hz, by simpa using hneg⟩
      obtain ⟨hE, hV⟩ := cut_bad (l := l) hb
      rw [hE, hV]
      refine g_nilOwn 90 45 1 rfl (g_noBag 91 5 rfl ?_)
      exact g_ret2 rfl rfl rfl (fun w' hm => ⟨(⟨none, 0⟩, []), rfl, rfl, hm.grows [90, 91] ⟨rfl, rfl, trivial⟩ rfl⟩)
    · (repeat refine g_seq ?_)
      refine g_region ?_
      refine g_pu rfl rfl rfl (pu_move rfl rfl) ?_
      refine g_pu rfl rfl rfl (pu_lss_f rfl rfl rfl hneg) ?_
      refine g_nil ?_
      (repeat refine g_seq ?_)
      refine g_cond_f rfl (g_skip ?_)
      refine g_blk ?_
      (repeat refine g_seq ?_)
      refine g_region ?_
      refine g_pu rfl rfl rfl (pu_addI rfl rfl rfl (by omega)) ?_
      refine g_pu rfl rfl rfl (pu_move rfl rfl) ?_
      refine g_nil ?_
      refine g_round (i + 1) ⟨by omega, ?_⟩ (by omega) ⟨rfl, rfl, rfl, rfl, rfl, trivial⟩ trivial
      rw [List.take_add_one, hz, List.any_append, hok]
      simpa using hneg
  · (repeat refine g_seq ?_)
    refine g_region ?_
    first | refine g_pu rfl rfl rfl (pu_lss_t rfl rfl rfl (by omega)) ?_ | refine g_pu rfl rfl rfl (pu_lss_f rfl rfl rfl (by omega)) ?_ | refine g_pu rfl rfl rfl (pu_lss rfl rfl rfl) ?_
    refine g_nil ?_
    (repeat refine g_seq ?_)
    refine g_cond_f rfl (g_exit rfl ?_)
    have e1 : i = m := by omega
    subst e1
    rw [List.take_of_length_le (by omega)] at hok
    (repeat refine g_seq ?_)
    refine g_region ?_
    refine g_pu rfl rfl rfl (pu_assign rfl rfl) ?_
    refine g_nil ?_
    refine g_nilOwn 90 45 1 rfl (g_noBag 91 5 rfl ?_)
    (repeat refine g_seq ?_)
    refine g_region ?_
    refine g_pu rfl rfl rfl (pu_move rfl rfl) ?_
    first | refine g_pu rfl rfl rfl (pu_len rfl rfl) ?_ | refine g_pu rfl rfl rfl (pu_lenS rfl rfl) ?_
    refine g_pu rfl rfl rfl (pu_move rfl rfl) ?_
    refine g_nil ?_
    refine g_block (g_loop2 (fun (j : Nat) (x : (Ow × List Otm) × Option Addr × Nat) => [(0, .slice x.2.1 (n - cutS (ns.take j)) x.2.2), (8, x.1.1.sl j), (20, .slice q i d), (21, .int .i64 (i : Int)), (22, .int .i64 (j : Int))]) (fun j x => [(90, x.1.1.ck 45 1 (vals x.1.2)), (91, .fact (BSC x.1.2) (BagC 5 x.1.2))])
      (fun j x => j ≤ i ∧ cutS (ns.take j) ≤ n ∧ conts x.1.2 = cutP l (ns.take j) ∧ By w x.2.1 (n - cutS (ns.take j)) (l.drop (cutS (ns.take j))) ∧ n - cutS (ns.take j) ≤ x.2.2) (fun j _ => i - j) 0 ((⟨none, 0⟩, []), p, c) ⟨rfl, rfl, rfl, rfl, rfl, trivial⟩ ⟨rfl, rfl, trivial⟩ ⟨by omega, by simp [cutS], rfl, by simpa [cutS] using ha, by simpa [cutS] using hc⟩ ?_)
    rintro j ⟨⟨x, xs⟩, p', c'⟩ ⟨hj, hs, hx, hb, hc'⟩
    dsimp only at hx hb hc' ⊢
    have hxl : xs.length = j := by
      have := congrArg List.length hx
      rw [conts_length, cutP_length, List.length_take] at this
      omega
    by_cases hlt2 : j < i
    · (repeat refine g_seq ?_)
      refine g_region ?_
      first | refine g_pu rfl rfl rfl (pu_lss_t rfl rfl rfl (by omega)) ?_ | refine g_pu rfl rfl rfl (pu_lss_f rfl rfl rfl (by omega)) ?_ | refine g_pu rfl rfl rfl (pu_lss rfl rfl rfl) ?_
      refine g_nil ?_
      (repeat refine g_seq ?_)
      refine g_cond_t rfl (g_skip ?_)
      have hz : ns[j]? = some ns[j] := List.getElem?_eq_getElem (by omega)
      generalize ns[j] = z at hz
      have hz0 := any_lt hok hz
      have hS := cutS_at hz
      have hP := cutP_at (l := l) hz
      have hle := cutS_take_le ns (j + 1)
      generalize hsj : cutS (ns.take j) = s at hS hP hs hb hc'
      obtain ⟨k, rfl⟩ : ∃ k : Nat, z = (k : Int) := ⟨z.toNat, by omega⟩
      simp only [Int.toNat_natCast] at hS hP
      (repeat refine g_seq ?_); refine g_block ?_
      (repeat refine g_seq ?_)
      refine g_region ?_
      refine g_pu rfl rfl rfl (pu_atM1 j (fun w' hm => hq.mem0 hm) rfl rfl rfl rfl hlt2 (by omega)) ?_
      refine g_pu rfl rfl rfl (pu_rdM (fun w' hm => hq.mem0 hm) rfl rfl (is_get hz)) ?_
      refine g_pu rfl rfl rfl (pu_assign rfl rfl) ?_
      refine g_nil ?_
      by_cases hgt : n - s < k
      · (repeat refine g_seq ?_)
        refine g_region ?_
        refine g_pu rfl rfl rfl (pu_move rfl rfl) ?_
        refine g_pu rfl rfl rfl (pu_move rfl rfl) ?_
        first | refine g_pu rfl rfl rfl (pu_len rfl rfl) ?_ | refine g_pu rfl rfl rfl (pu_lenS rfl rfl) ?_
        refine g_pu rfl rfl rfl (pu_gtr_t rfl rfl rfl (by omega)) ?_
        refine g_nil ?_
        (repeat refine g_seq ?_)
        refine g_cond_t rfl ?_
        (repeat refine g_seq ?_)
        refine g_region ?_
        refine g_pu rfl rfl rfl (pu_assign rfl rfl) ?_
        refine g_pu rfl rfl rfl (pu_assign rfl rfl) ?_
        refine g_nil ?_
        obtain ⟨hE, hV⟩ := cut_off (l := l) hok (by omega)
        rw [hE, hV]
        refine g_nilOwn 92 45 1 rfl (g_noBag 93 5 rfl ?_)
        exact g_ret2 rfl rfl rfl (fun w' hm => ⟨(⟨none, 0⟩, []), rfl, rfl, hm.grows [92, 93] ⟨rfl, rfl, trivial⟩ rfl⟩)
      · (repeat refine g_seq ?_)
        refine g_region ?_
        refine g_pu rfl rfl rfl (pu_move rfl rfl) ?_
        refine g_pu rfl rfl rfl (pu_move rfl rfl) ?_
        first | refine g_pu rfl rfl rfl (pu_len rfl rfl) ?_ | refine g_pu rfl rfl rfl (pu_lenS rfl rfl) ?_
        refine g_pu rfl rfl rfl (pu_gtr_f rfl rfl rfl (by omega)) ?_
        refine g_nil ?_
        (repeat refine g_seq ?_)
        refine g_cond_f rfl (g_skip ?_)
        have hfst := hb.fst k (by omega)
        have hnext := hb.cut hc' k
        rw [List.drop_drop] at hnext
        (repeat refine g_seq ?_)
        refine g_region ?_
        refine g_pu rfl rfl rfl (pu_move rfl rfl) ?_
        refine g_pu rfl rfl rfl (pu_move rfl rfl) ?_
        refine g_pu rfl rfl rfl (pu_move rfl rfl) ?_
        refine g_pu rfl rfl rfl (pu_slice_h k rfl rfl rfl rfl (by omega)) ?_
        refine g_call [34] rfl rfl rfl rfl rfl rfl (fun w' hm => Clone_b w' _ (hfst.m hm)) (fun x34 _ => ?_)
        refine g_lo [35] rfl rfl rfl rfl (lo_buildSlice rfl rfl (by decide) (by decide) rfl rfl) (fun b35 hb35 => ?_)
        refine g_append1 90 [x34.sl k] rfl rfl rfl rfl rfl rfl rfl rfl (by rw [vals_length, hxl]) (fun w' hm => hm.row 35 (J := []) rfl) rfl (fun u hu => by obtain rfl := List.mem_singleton.1 hu; rfl) (by omega) (by omega) (fun p2 c2 => ?_)
        refine g_pu rfl rfl rfl (pu_assign rfl rfl) ?_
        refine g_nil ?_
        refine g_bagSnoc 91 34 (xs := xs) (x := x34) (l := (l.drop s).take k) rfl rfl (by decide) rfl ?_
        (repeat refine g_seq ?_)
        refine g_region ?_
        refine g_pu rfl rfl rfl (pu_move rfl rfl) ?_
        refine g_pu rfl rfl rfl (pu_move rfl rfl) ?_
        refine g_pu rfl rfl rfl (pu_slice_l k rfl rfl rfl rfl (by omega)) ?_
        refine g_pu rfl rfl rfl (pu_assign rfl rfl) ?_
        refine g_nil ?_
        refine g_blk ?_
        (repeat refine g_seq ?_)
        refine g_region ?_
        refine g_pu rfl rfl rfl (pu_addI rfl rfl rfl (by omega)) ?_
        refine g_pu rfl rfl rfl (pu_move rfl rfl) ?_
        refine g_nil ?_
        have hkl : ((l.drop s).take k).length = k := hfst.len
        refine g_round2 (j + 1) (((⟨p2, c2⟩ : Ow), xs ++ [(x34, (l.drop s).take k)]), cutp p' c' k 1, c' - k) ⟨by omega, by omega, by dsimp only; rw [conts_append, hx, hP]; rfl, ?_, ?_⟩ (by omega) ⟨by rw [hS, Nat.sub_add_eq]; rfl, rfl, rfl, rfl, rfl, trivial⟩ ⟨by dsimp only; rw [vals_append, show vals [(x34, (l.drop s).take k)] = [x34.sl k] by simp [vals, hkl]]; rfl, rfl, trivial⟩
        · rw [hS, Nat.sub_add_eq]; exact hnext
        · dsimp only; omega
    · (repeat refine g_seq ?_)
      refine g_region ?_
      first | refine g_pu rfl rfl rfl (pu_lss_t rfl rfl rfl (by omega)) ?_ | refine g_pu rfl rfl rfl (pu_lss_f rfl rfl rfl (by omega)) ?_ | refine g_pu rfl rfl rfl (pu_lss rfl rfl rfl) ?_
      refine g_nil ?_
      (repeat refine g_seq ?_)
      refine g_cond_f rfl (g_exit rfl ?_)
      have e2 : j = i := by omega
      have htk : ns.take j = ns := List.take_of_length_le (by omega)
      rw [htk] at hs hb hc' hx ⊢
      by_cases hend : cutS ns = n
      · (repeat refine g_seq ?_)
        refine g_region ?_
        refine g_pu rfl rfl rfl (pu_move rfl rfl) ?_
        first | refine g_pu rfl rfl rfl (pu_len rfl rfl) ?_ | refine g_pu rfl rfl rfl (pu_lenS rfl rfl) ?_
        refine g_pu rfl rfl rfl (pu_gtr_f rfl rfl rfl (by omega)) ?_
        refine g_nil ?_
        (repeat refine g_seq ?_)
        refine g_cond_f rfl (g_skip ?_)
        (repeat refine g_seq ?_)
        refine g_region ?_
        refine g_pu rfl rfl rfl (pu_move rfl rfl) ?_
        refine g_pu rfl rfl rfl (pu_assign rfl rfl) ?_
        refine g_pu rfl rfl rfl (pu_assign rfl rfl) ?_
        refine g_nil ?_
        obtain ⟨hE, hV⟩ := cut_ok (l := l) hok (by omega)
        rw [hE, hV]
        exact g_ret2 rfl rfl rfl (fun w' hm => ⟨(x, xs), hx, by rw [hxl], hm.grows [90, 91] ⟨rfl, rfl, trivial⟩ rfl⟩)
      · (repeat refine g_seq ?_)
        refine g_region ?_
        refine g_pu rfl rfl rfl (pu_move rfl rfl) ?_
        first | refine g_pu rfl rfl rfl (pu_len rfl rfl) ?_ | refine g_pu rfl rfl rfl (pu_lenS rfl rfl) ?_
        refine g_pu rfl rfl rfl (pu_gtr_t rfl rfl rfl (by omega)) ?_
        refine g_nil ?_
        (repeat refine g_seq ?_)
        refine g_cond_t rfl ?_
        (repeat refine g_seq ?_)
        refine g_region ?_
        refine g_pu rfl rfl rfl (pu_assign rfl rfl) ?_
        refine g_pu rfl rfl rfl (pu_assign rfl rfl) ?_
        refine g_nil ?_
        obtain ⟨hE, hV⟩ := cut_off (l := l) hok (by omega)
        rw [hE, hV]
        refine g_nilOwn 92 45 1 rfl (g_noBag 93 5 rfl ?_)
        exact g_ret2 rfl rfl rfl (fun w' hm => ⟨(⟨none, 0⟩, []), rfl, rfl, hm.grows [92, 93] ⟨rfl, rfl, trivial⟩ rfl⟩)
end Go.Sx

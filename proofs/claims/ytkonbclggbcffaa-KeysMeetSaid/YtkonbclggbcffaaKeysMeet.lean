import Derived.Test.YtkonbclggbcffaaKY4
set_option linter.unusedVariables false
set_option linter.unusedSimpArgs false
/-
  KeysMeet: sender and hops come to the same keys, each hop by its private key alone. No condition.
-/
namespace Go.Sx
open Go Go.Proofs

theorem BasB.own {u k : List (BitVec 8)} : leB 32 (readN (xmV k u)) = xmV k u := by
  unfold xmV
  rw [readN_leB (xmN_lt k u)]
theorem chR_bas : ∀ (ks : List (List (BitVec 8))) {p u : List (BitVec 8)}, (∀ k ∈ ks, k.length = 32) → p.length = 32 → BasB u → chR ks (xmV p u) = (xmV p (ks.foldl (fun u k => xmV k u) u), 0)
  | [], _, _, _, _, _ => rfl
  | k :: r, p, u, hk, hp, hu => by
    have hk32 := hk k (by simp)
    have e : chR (k :: r) (xmV p u) = if xmE k (xmV p u) = 0 then chR r (xmV k (xmV p u)) else (zero32, xmE k (xmV p u)) := rfl
    rw [e, (hu.mul hp).e hk32, if_pos rfl, xmV_comm hp hk32 hu.1, chR_bas r (fun x hx => hk x (List.mem_cons_of_mem _ hx)) hp (hu.mul hk32)]
    rfl
/-- What sender and hops come to. -/
def meetL : List (List (BitVec 8)) → List (BitVec 8) → List HopS
  | [], _ => []
  | p :: r, al => (al, xmV p al) :: meetL r (xmV (kBlind (xmV p al)) al)
theorem rch_meet : ∀ (privs : List (List (BitVec 8))) {al : List (BitVec 8)} {sc : List (List (BitVec 8))}, (∀ k ∈ privs, k.length = 32) → (∀ k ∈ sc, k.length = 32) → al = sc.foldl (fun u k => xmV k u) nine → rchR (privs.map fun p => xmV p nine) al sc = (0, meetL privs al)
  | [], _, _, _, _, _ => rfl
  | p :: r, al, sc, hp, hs, ha => by
    have hp32 := hp p (by simp)
    have hc : chP (xmV p nine) sc = (xmV p al, 0) := by
      have h1 : chP (xmV p nine) sc = chR sc (leB 32 (readN (xmV p nine))) := if_pos ⟨xmV_length _ _, List.all_eq_true.2 fun k hk => by rw [hs k hk]; rfl⟩
      rw [h1, BasB.own, chR_bas sc hs hp32 basB_nine, ← ha]
    rw [List.map_cons]
    unfold rchR
    rw [hc, if_pos rfl, rch_meet r (fun k hk => hp k (List.mem_cons_of_mem _ hk)) (fun k hk => by
      rcases List.mem_append.1 hk with h1 | h1
      · exact hs k h1
      · rw [List.mem_singleton.1 h1]; exact kBlind_length _) (by rw [List.foldl_append, ← ha]; rfl)]
    rfl
theorem sch_meet {k : List (BitVec 8)} {privs : List (List (BitVec 8))} (hk : k.length = 32) (hp : ∀ p ∈ privs, p.length = 32) (h1 : 1 ≤ privs.length) (h5 : privs.length ≤ 5) : rchP k (privs.map fun p => xmV p nine) = (0, meetL privs (xmV k nine)) := by
  have hok : okS k (privs.map fun p => xmV p nine) = true := (okS_iff _ _).2 ⟨hk, by rw [List.length_map]; exact h1, by rw [List.length_map]; exact h5, by
    unfold bad32
    rw [List.any_eq_false]
    intro l hl
    obtain ⟨p, _, rfl⟩ := List.mem_map.1 hl
    rw [xmV_length]; decide⟩
  unfold rchP
  rw [if_pos hok]
  exact rch_meet privs hp (fun x hx => by rw [List.mem_singleton.1 hx]; exact hk) rfl
theorem meetL_length : ∀ (privs : List (List (BitVec 8))) (al : List (BitVec 8)), (meetL privs al).length = privs.length
  | [], _ => rfl
  | _ :: r, _ => by simp [meetL, meetL_length r]
theorem meetL_drop {privs : List (List (BitVec 8))} {i : Nat} {p al : List (BitVec 8)} (h : privs[i]? = some p) : meetL (privs.drop i) al = (al, xmV p al) :: meetL (privs.drop (i + 1)) (xmV (kBlind (xmV p al)) al) := by
  have hi := (List.getElem?_eq_some_iff.1 h)
  rw [List.drop_eq_getElem_cons hi.1, hi.2]
  rfl
theorem keys_reflD (d : Nat) (L : List (BitVec 8)) (hL : L.length = 128) (w : World) : (Op.equalIn (d + 3) 26 (.agg (bs L).toArray) (.agg (bs L).toArray)).run Try.prog w = .ok true w := by
  have hfs : (Try.prog.fieldsOf 26).toList.map (fun f => (f.type, f.offset)) = [(24, 0), (24, 32), (24, 64), (24, 96)] := by kernel_rfl
  have hu : Try.prog.underlying 26 = some (.struct (Try.prog.fieldsOf 26)) := by kernel_rfl
  rw [run_equalIn_struct w (d + 2) _ _ _ hu (by kernel_rfl)]
  refine eqFields_refl _ _ w _ fun f hf => ?_
  have hmem : (f.type, f.offset) ∈ [((24 : Nat), 0), (24, 32), (24, 64), (24, 96)] := by
    rw [← hfs]; exact List.mem_map.2 ⟨f, hf, rfl⟩
  have key : ∀ off, off + 32 ≤ 128 → ∃ v, (part 24 (bs L).toArray off).run Try.prog w = .ok v w ∧ (Op.equalIn (d + 2) 24 v v).run Try.prog w = .ok true w := fun off ho => by
    have e := bs_ext L off 32
    refine ⟨.agg (bs ((L.drop off).take 32)).toArray, ?_, run_eqA_refl d w (Und.h (P := Try.prog) (t := 24)) (Und.h (P := Try.prog) (t := 5)) (One.h (P := Try.prog) (t := 5)) (bs ((L.drop off).take 32)) (all_bs _) (by rw [bs_length, List.length_take, List.length_drop]; omega)⟩
    simp [part, run_isAgg (Agg.h (P := Try.prog) (t := 24)), run_size (Siz.h (P := Try.prog) (t := 24)), e]
    rw [bs_drop, bs_take]
  simp only [List.mem_cons, Prod.mk.injEq, List.not_mem_nil, or_false] at hmem
  rcases hmem with ⟨h1, h2⟩ | ⟨h1, h2⟩ | ⟨h1, h2⟩ | ⟨h1, h2⟩ <;> rw [h1, h2] <;> exact key _ (by omega)
theorem step_refl (L : List (BitVec 8)) (hL : L.length = 192) (w : World) : (Op.equal 43 (.agg (bs L).toArray) (.agg (bs L).toArray)).run Try.prog w = .ok true w := by
  obtain ⟨d, hd⟩ : ∃ d, Op.maxDepth = d + 4 := ⟨_, rfl⟩
  have hfs : (Try.prog.fieldsOf 43).toList.map (fun f => (f.type, f.offset)) = [(26, 0), (24, 128), (24, 160)] := by kernel_rfl
  have hu : Try.prog.underlying 43 = some (.struct (Try.prog.fieldsOf 43)) := by kernel_rfl
  rw [Op.equal, hd, run_equalIn_struct w (d + 3) _ _ _ hu (by kernel_rfl)]
  refine eqFields_refl _ _ w _ fun f hf => ?_
  have hmem : (f.type, f.offset) ∈ [((26 : Nat), 0), (24, 128), (24, 160)] := by
    rw [← hfs]; exact List.mem_map.2 ⟨f, hf, rfl⟩
  have key : ∀ off, off + 32 ≤ 192 → ∃ v, (part 24 (bs L).toArray off).run Try.prog w = .ok v w ∧ (Op.equalIn (d + 3) 24 v v).run Try.prog w = .ok true w := fun off ho => by
    have e := bs_ext L off 32
    refine ⟨.agg (bs ((L.drop off).take 32)).toArray, ?_, run_eqA_refl (d + 1) w (Und.h (P := Try.prog) (t := 24)) (Und.h (P := Try.prog) (t := 5)) (One.h (P := Try.prog) (t := 5)) (bs ((L.drop off).take 32)) (all_bs _) (by rw [bs_length, List.length_take, List.length_drop]; omega)⟩
    simp [part, run_isAgg (Agg.h (P := Try.prog) (t := 24)), run_size (Siz.h (P := Try.prog) (t := 24)), e]
    rw [bs_drop, bs_take]
  simp only [List.mem_cons, Prod.mk.injEq, List.not_mem_nil, or_false] at hmem
  rcases hmem with ⟨h1, h2⟩ | ⟨h1, h2⟩ | ⟨h1, h2⟩ <;> rw [h1, h2]
  · refine ⟨.agg (bs ((L.drop 0).take 128)).toArray, ?_, keys_reflD d _ (by rw [List.length_take, List.length_drop]; omega) w⟩
    simp [part, run_isAgg (Agg.h (P := Try.prog) (t := 26)), run_size (Siz.h (P := Try.prog) (t := 26))]
    simp [bs_take]
  · exact key _ (by omega)
  · exact key _ (by omega)

theorem shPublic_b (w : World) {p : Option Addr} {n : Nat} (c : Nat) {k : List (BitVec 8)} (hk : By w p n k) : Spec Try.prog 11 #[.slice p n c] w (σ := Unit) (fun _ => True) (fun _ => .tuple #[.agg (bs (xmV k nine)).toArray, .int .i64 (xmE k nine)]) Nob (fun _ => []) := by
  refine enter Try.func11 rfl rfl (Mem.start w) ?_
  have hbl : (bs (xmV k nine)).length = 32 := by rw [bs_length, xmV_length]
  have hE : xmE k nine = 0 ∨ xmE k nine = 2 := by
    by_cases h : k.length = 32
    · exact .inl (pub_ok h)
    · exact .inr (if_neg (fun h2 => h h2.1))
  (repeat refine g_seq ?_)
  refine g_region ?_
  refine g_lo [2] rfl rfl rfl rfl (lo_alloc rfl) (fun b2 hb2 => ?_)
  refine g_pu rfl rfl rfl (pu_assign rfl rfl) ?_
  refine g_nil ?_
  (repeat refine g_seq ?_)
  refine g_region ?_
  refine g_pu rfl rfl rfl (pu_move rfl rfl) ?_
  refine g_call [] rfl rfl rfl rfl rfl rfl (fun w' hm => RPublic_b w' c (hk.m hm)) (fun _ _ => ?_)
  refine g_pu rfl rfl rfl (pu_move rfl rfl) ?_
  refine g_pu rfl rfl rfl (pu_extract rfl rfl rfl) ?_
  refine g_pu rfl rfl rfl (pu_extract rfl rfl rfl) ?_
  refine g_lo [4] rfl rfl rfl rfl (lo_alloc rfl) (fun b4 hb4 => ?_)
  refine g_storeL 4 (s := 32) (C := bs (xmV k nine)) rfl rfl rfl rfl rfl rfl hbl rfl (oneCell_bs _) ?_
  refine g_pu rfl rfl rfl (pu_assign rfl rfl) ?_
  refine g_nil ?_
  (repeat refine g_seq ?_)
  refine g_region ?_
  refine g_pu rfl rfl rfl (pu_loadW 4 (L := bs (xmV k nine)) rfl rfl rfl hbl) ?_
  refine g_pu rfl rfl rfl (pu_move rfl rfl) ?_
  refine g_storeL 2 (s := 32) (C := bs (xmV k nine)) rfl rfl rfl rfl rfl rfl hbl rfl (oneCell_bs _) ?_
  refine g_pu rfl rfl rfl (pu_assign rfl rfl) ?_
  refine g_nil ?_
  exact g_retLT 2 (L := bs (xmV k nine)) rfl hbl rfl rfl rfl (fun w' hm => ⟨(), trivial, rfl, hm.grows [] trivial rfl⟩)
theorem stepsM_get {l : List HopS} (ho : ∀ h ∈ l, h.1.length = 32 ∧ h.2.length = 32) {i : Nat} {h : HopS} {r : List HopS} (hi : l.drop i = h :: r) : l[i]? = some h := by
  have := congrArg (fun x => x[0]?) hi
  simpa [List.getElem?_drop] using this
theorem ByL.preM {w : World} {q : Option Addr} {m : Nat} {L : List Value} {ls : List (List (BitVec 8))} (h : ByL w q m L ls) {j : Nat} (hj : j ≤ m) : ByL w q j (L.take j) (ls.take j) := by
  refine ⟨?_, by rw [List.length_take, h.len, Nat.min_eq_left hj], ?_, by have := h.big; omega⟩
  · exact RdV.fst h.rd
  · refine ⟨by rw [List.length_take, List.length_take, h.els.1], fun i v l hv hl => ?_⟩
    have hi : i < j := by
      have := (List.getElem?_eq_some_iff.1 hv).1
      rw [List.length_take] at this; omega
    rw [List.getElem?_take_of_lt hi] at hv hl
    exact h.els.2 i v l hv hl

theorem KeysMeet_spec (w : World) {p q : Option Addr} {n m : Nat} (c d : Nat) {k : List (BitVec 8)} {L : List Value} {ks : List (List (BitVec 8))} (hk : By w p n k) (ha : ByL w q m L ks) (hmd : m ≤ d) : Spec Try.prog 4 #[.slice p n c, .slice q m d] w (σ := Unit) (fun _ => True) (fun _ => .bool true) Nob (fun _ => []) := by
  refine enter Try.func4 rfl rfl (Mem.start w) ?_
  have hkl := hk.len
  have hkb := hk.big
  (repeat refine g_seq ?_)
  refine g_region ?_
  refine g_pu rfl rfl rfl (pu_assign rfl rfl) ?_
  refine g_nil ?_
  (repeat refine g_seq ?_)
  refine g_region ?_
  refine g_call [] rfl rfl rfl rfl rfl rfl (fun w' hm => awake12_b w') (fun _ _ => ?_)
  refine g_pu rfl rfl rfl (pu_not rfl rfl) ?_
  refine g_nil ?_
  (repeat refine g_seq ?_)
  refine g_cond_f rfl (g_skip ?_)
  refine g_seq ?_
  refine g_join (σ := Nat × List Value × List (List (BitVec 8))) (fun x => [(0, .slice p n c), (1, .slice q x.1 d)]) (fun _ => []) (fun x => ByL w q x.1 x.2.1 x.2.2 ∧ x.1 ≤ 3) ?_ (fun x hx => ?_)
  · by_cases h4 : m > 3
    · (repeat refine g_seq ?_)
      refine g_region ?_
      refine g_pu rfl rfl rfl (pu_move rfl rfl) ?_
      first | refine g_pu rfl rfl rfl (pu_len rfl rfl) ?_ | refine g_pu rfl rfl rfl (pu_lenS rfl rfl) ?_
      first | refine g_pu rfl rfl rfl (pu_gtr_t rfl rfl rfl (by omega)) ?_ | refine g_pu rfl rfl rfl (pu_gtr_f rfl rfl rfl (by omega)) ?_ | refine g_pu rfl rfl rfl (pu_gtr rfl rfl rfl) ?_
      refine g_nil ?_
      (repeat refine g_seq ?_)
      refine g_cond_t rfl ?_
      (repeat refine g_seq ?_)
      refine g_region ?_
      refine g_pu rfl rfl rfl (pu_move rfl rfl) ?_
      refine g_pu rfl rfl rfl (pu_slice_h 3 rfl rfl rfl rfl (by omega)) ?_
      refine g_pu rfl rfl rfl (pu_assign rfl rfl) ?_
      refine g_nil ?_
      exact g_meet (3, L.take 3, ks.take 3) ⟨ha.preM (by omega), by omega⟩ ⟨rfl, rfl, trivial⟩ trivial
    · (repeat refine g_seq ?_)
      refine g_region ?_
      refine g_pu rfl rfl rfl (pu_move rfl rfl) ?_
      first | refine g_pu rfl rfl rfl (pu_len rfl rfl) ?_ | refine g_pu rfl rfl rfl (pu_lenS rfl rfl) ?_
      first | refine g_pu rfl rfl rfl (pu_gtr_t rfl rfl rfl (by omega)) ?_ | refine g_pu rfl rfl rfl (pu_gtr_f rfl rfl rfl (by omega)) ?_ | refine g_pu rfl rfl rfl (pu_gtr rfl rfl rfl) ?_
      refine g_nil ?_
      (repeat refine g_seq ?_)
      refine g_cond_f rfl (g_skip ?_)
      exact g_meet (m, L, ks) ⟨ha, by omega⟩ ⟨rfl, rfl, trivial⟩ trivial
  obtain ⟨N, L1, ls⟩ := x
  obtain ⟨hx, hN3⟩ := hx
  dsimp only at hx hN3 ⊢
  have hb1 := hx.big
  have hxl := hx.lenL
  have hxn := hx.len
  (repeat refine g_seq ?_)
  refine g_region ?_
  refine g_pu rfl rfl rfl (pu_assign rfl rfl) ?_
  refine g_nil ?_
  refine g_nilOwn 90 22 1 rfl (g_noBag 91 5 rfl ?_)
  (repeat refine g_seq ?_)
  refine g_region ?_
  refine g_pu rfl rfl rfl (pu_move rfl rfl) ?_
  first | refine g_pu rfl rfl rfl (pu_len rfl rfl) ?_ | refine g_pu rfl rfl rfl (pu_lenS rfl rfl) ?_
  refine g_pu rfl rfl rfl (pu_move rfl rfl) ?_
  refine g_nil ?_
  (repeat refine g_seq ?_)
  refine g_block (g_loop2 (fun (i : Nat) (y : Ow × List Otm) => [(0, .slice p n c), (1, .slice q N d), (5, y.1.sl i), (24, .slice q N d), (25, .int .i64 (N : Int)), (26, .int .i64 (i : Int))]) (fun i y => [(90, y.1.ck 22 1 (vals y.2)), (91, .fact (BSC y.2) (BagC 5 y.2))]) (fun i y => i ≤ N ∧ conts y.2 = (ls.take i).map (fun p => xmV p nine) ∧ (∀ p ∈ ls.take i, p.length = 32)) (fun i _ => N - i) 0 (⟨none, 0⟩, []) ⟨rfl, rfl, rfl, rfl, rfl, rfl, trivial⟩ ⟨rfl, rfl, trivial⟩ ⟨by omega, rfl, fun _ h => by simp at h⟩ ?_)
  rintro i ⟨y, cl⟩ ⟨hi, hc, h32⟩
  dsimp only at hc ⊢
  have hcl : cl.length = i := by
    have := congrArg List.length hc
    rw [conts_length, List.length_map, List.length_take] at this
    omega
  by_cases hlt : i < N
  · (repeat refine g_seq ?_)
    refine g_region ?_
    first | refine g_pu rfl rfl rfl (pu_lss_t rfl rfl rfl (by omega)) ?_ | refine g_pu rfl rfl rfl (pu_lss_f rfl rfl rfl (by omega)) ?_ | refine g_pu rfl rfl rfl (pu_lss rfl rfl rfl) ?_
    refine g_nil ?_
    (repeat refine g_seq ?_)
    refine g_cond_t rfl (g_skip ?_)
    have hl : ls[i]? = some ls[i] := List.getElem?_eq_getElem (by omega)
    generalize ls[i] = pk at hl
    obtain ⟨kq, km, kc, hL, hkq⟩ := hx.at hl
    have hpl := hkq.len
    have hvl := xmV_length pk nine
    have hvb : (bs (xmV pk nine)).length = 32 := by rw [bs_length, hvl]
    (repeat refine g_seq ?_); refine g_block ?_
    (repeat refine g_seq ?_)
    refine g_region ?_
    refine g_pu rfl rfl rfl (pu_atM1 i (fun w' hm => (hx.m hm).rd) rfl rfl rfl rfl hlt (by omega)) ?_
    refine g_pu rfl rfl rfl (pu_rdM (fun w' hm => (hx.m hm).rd) rfl rfl hL) ?_
    refine g_pu rfl rfl rfl (pu_assign rfl rfl) ?_
    refine g_nil ?_
    (repeat refine g_seq ?_)
    refine g_region ?_
    refine g_pu rfl rfl rfl (pu_move rfl rfl) ?_
    refine g_call [] rfl rfl rfl rfl rfl rfl (fun w' hm => RPublic_b w' kc (hkq.m hm)) (fun _ _ => ?_)
    refine g_pu rfl rfl rfl (pu_move rfl rfl) ?_
    refine g_pu rfl rfl rfl (pu_extract rfl rfl rfl) ?_
    refine g_pu rfl rfl rfl (pu_extract rfl rfl rfl) ?_
    refine g_lo [8] rfl rfl rfl rfl (lo_alloc rfl) (fun q8 hb8 => ?_)
    refine g_storeL 8 (s := 32) (C := bs (xmV pk nine)) rfl rfl rfl rfl rfl rfl hvb rfl (oneCell_bs _) ?_
    refine g_pu rfl rfl rfl (pu_assign rfl rfl) ?_
    refine g_nil ?_
    by_cases hk32 : pk.length = 32
    · rw [pub_ok hk32]
      (repeat refine g_seq ?_)
      refine g_region ?_
      refine g_pu rfl rfl rfl (pu_move rfl rfl) ?_
      first | refine g_pu rfl rfl rfl (pu_neq_t rfl rfl rfl (by omega)) ?_ | refine g_pu rfl rfl rfl (pu_neq_f rfl rfl rfl (by omega)) ?_ | refine g_pu rfl rfl rfl (pu_neq rfl rfl rfl) ?_
      refine g_nil ?_
      (repeat refine g_seq ?_)
      refine g_cond_f rfl (g_skip ?_)
      (repeat refine g_seq ?_)
      refine g_region ?_
      refine g_pu rfl rfl rfl (pu_move rfl rfl) ?_
      refine g_pu rfl rfl rfl (pu_sliceA rfl rfl) ?_
      refine g_call [39] rfl rfl rfl rfl rfl rfl (fun w' hm => Copy_b w' 32 (By.full 8 rfl hm hvl (by omega))) (fun x39 _ => ?_)
      refine g_lo [40] rfl rfl rfl rfl (lo_buildSlice rfl rfl (by decide) (by decide) rfl rfl) (fun b40 hb40 => ?_)
      refine g_append1 90 [x39.sl 32] rfl rfl rfl rfl rfl rfl rfl rfl (by rw [vals_length, hcl]) (fun w' hm => hm.rowA 40 rfl) rfl (fun u hu => by rw [List.mem_singleton.1 hu]; rfl) (by omega) (by omega) (fun p2 c2 => ?_)
      refine g_pu rfl rfl rfl (pu_assign rfl rfl) ?_
      refine g_nil ?_
      refine g_bagSnoc 91 39 (E := 5) rfl rfl (by decide) rfl ?_
      have hvs : vals cl ++ [x39.sl 32] = vals (cl ++ [(x39, xmV pk nine)]) := by
        rw [vals_append]
        show _ = vals cl ++ [x39.sl (xmV pk nine).length]
        rw [hvl]
      rw [hvs]
      refine g_blk ?_
      (repeat refine g_seq ?_)
      refine g_region ?_
      refine g_pu rfl rfl rfl (pu_addI rfl rfl rfl (by omega)) ?_
      refine g_pu rfl rfl rfl (pu_move rfl rfl) ?_
      refine g_nil ?_
      exact g_round2 (i + 1) (⟨p2, c2⟩, cl ++ [(x39, xmV pk nine)]) ⟨by omega, by rw [conts_append, hc, List.take_add_one, hl]; simp [conts], fun x hx' => by
        rw [List.take_add_one, hl] at hx'
        rcases List.mem_append.1 hx' with h1 | h1
        · exact h32 x h1
        · rw [List.mem_singleton.1 h1]; exact hk32⟩ (by omega) ⟨rfl, rfl, rfl, rfl, rfl, rfl, trivial⟩ ⟨rfl, rfl, trivial⟩
    · have hE : xmE pk nine = 2 := if_neg (fun h => hk32 h.1)
      rw [hE]
      (repeat refine g_seq ?_)
      refine g_region ?_
      refine g_pu rfl rfl rfl (pu_move rfl rfl) ?_
      first | refine g_pu rfl rfl rfl (pu_neq_t rfl rfl rfl (by omega)) ?_ | refine g_pu rfl rfl rfl (pu_neq_f rfl rfl rfl (by omega)) ?_ | refine g_pu rfl rfl rfl (pu_neq rfl rfl rfl) ?_
      refine g_nil ?_
      (repeat refine g_seq ?_)
      refine g_cond_t rfl ?_
      (repeat refine g_seq ?_)
      refine g_region ?_
      refine g_pu rfl rfl rfl (pu_assign rfl rfl) ?_
      refine g_nil ?_
      exact g_ret1 rfl rfl (fun w' hm => ⟨(), trivial, rfl, hm.grows [] trivial rfl⟩)
  · (repeat refine g_seq ?_)
    refine g_region ?_
    first | refine g_pu rfl rfl rfl (pu_lss_t rfl rfl rfl (by omega)) ?_ | refine g_pu rfl rfl rfl (pu_lss_f rfl rfl rfl (by omega)) ?_ | refine g_pu rfl rfl rfl (pu_lss rfl rfl rfl) ?_
    refine g_nil ?_
    (repeat refine g_seq ?_)
    refine g_cond_f rfl (g_exit rfl ?_)
    have e1 : i = N := by omega
    subst e1
    rw [List.take_of_length_le (by omega)] at hc h32
    have hc32 : ∀ x ∈ cl, x.2.length = 32 := fun x hx' => by
      have h1 : x.2 ∈ conts cl := List.mem_map.2 ⟨x, hx', rfl⟩
      rw [hc] at h1
      obtain ⟨g, _, e⟩ := List.mem_map.1 h1
      rw [← e]; exact xmV_length _ _
    (repeat refine g_seq ?_)
    refine g_region ?_
    refine g_pu rfl rfl rfl (pu_move rfl rfl) ?_
    refine g_call [45] rfl rfl rfl rfl rfl rfl (fun w' hm => Copy_b w' c (hk.m hm)) (fun x45 _ => ?_)
    refine g_pu rfl rfl rfl (pu_move rfl rfl) ?_
    refine g_call [47] rfl rfl rfl rfl rfl rfl (fun w' hm => Schedule_b w' x45.c y.c (pubs := conts cl) (By.ow 45 rfl hm hkl hkb) (BagC.byl 90 91 rfl rfl hm hcl (fun x hx' => by have := hc32 x hx'; omega) (by omega))) (fun x47 _ => ?_)
    rw [schP_rch, hc]
    refine g_pu rfl rfl rfl (pu_move rfl rfl) ?_
    refine g_pu rfl rfl rfl (pu_extract rfl rfl rfl) ?_
    refine g_pu rfl rfl rfl (pu_extract rfl rfl rfl) ?_
    refine g_pu rfl rfl rfl (pu_assign rfl rfl) ?_
    refine g_pu rfl rfl rfl (pu_assign rfl rfl) ?_
    refine g_nil ?_
    by_cases hgo : k.length = 32 ∧ 1 ≤ i
    · obtain ⟨hk32, hi1⟩ := hgo
      have hS := sch_meet hk32 h32 (by omega) (by omega)
      have hok := rchP_ok (k := k) (pubs := ls.map fun p => xmV p nine)
      rw [hS] at hok ⊢
      dsimp only at hok ⊢
      have hml := meetL_length ls (xmV k nine)
      rw [hxl] at hml
      have hvl := xmV_length k nine
      have hvb : (bs (xmV k nine)).length = 32 := by rw [bs_length, hvl]
      generalize hTT : meetL ls (xmV k nine) = T at hok hml
      have hsl := stepsL_length hok
      have hsb : (bs (stepsL T)).length = i * 192 := by rw [bs_length, hsl, hml]
      rw [hml]
      (repeat refine g_seq ?_)
      refine g_region ?_
      refine g_pu rfl rfl rfl (pu_move rfl rfl) ?_
      first | refine g_pu rfl rfl rfl (pu_neq_t rfl rfl rfl (by omega)) ?_ | refine g_pu rfl rfl rfl (pu_neq_f rfl rfl rfl (by omega)) ?_ | refine g_pu rfl rfl rfl (pu_neq rfl rfl rfl) ?_
      refine g_nil ?_
      (repeat refine g_seq ?_)
      refine g_cond_f rfl (g_skip ?_)
      (repeat refine g_seq ?_)
      refine g_region ?_
      refine g_pu rfl rfl rfl (pu_move rfl rfl) ?_
      refine g_call [] rfl rfl rfl rfl rfl rfl (fun w' hm => shPublic_b w' c (hk.m hm)) (fun _ _ => ?_)
      rw [pub_ok hk32]
      refine g_pu rfl rfl rfl (pu_move rfl rfl) ?_
      refine g_pu rfl rfl rfl (pu_extract rfl rfl rfl) ?_
      refine g_pu rfl rfl rfl (pu_extract rfl rfl rfl) ?_
      refine g_lo [12] rfl rfl rfl rfl (lo_alloc rfl) (fun b12 hb12 => ?_)
      refine g_storeL 12 (s := 32) (C := bs (xmV k nine)) rfl rfl rfl rfl rfl rfl hvb rfl (oneCell_bs _) ?_
      refine g_pu rfl rfl rfl (pu_assign rfl rfl) ?_
      refine g_nil ?_
      (repeat refine g_seq ?_)
      refine g_region ?_
      refine g_pu rfl rfl rfl (pu_move rfl rfl) ?_
      first | refine g_pu rfl rfl rfl (pu_len rfl rfl) ?_ | refine g_pu rfl rfl rfl (pu_lenS rfl rfl) ?_
      refine g_pu rfl rfl rfl (pu_move rfl rfl) ?_
      refine g_nil ?_
      (repeat refine g_seq ?_)
      refine g_block (g_loop2 (fun (j : Nat) (al : List (BitVec 8)) => [(10, x47.sl i), (11, .int .i64 0), (12, .pointer (some ⟨b12, 0, none⟩)), (65, .slice q i d), (66, .int .i64 (i : Int)), (67, .int .i64 (j : Int))]) (fun j al => [(12, .pt b12 (.cells (bs al).toArray 24 (0, 0))), (47, x47.ck 43 192 (bs (stepsL T)))]) (fun j al => j ≤ i ∧ BasB al ∧ T.drop j = meetL (ls.drop j) al) (fun j _ => i - j) 0 (xmV k nine) ⟨rfl, rfl, rfl, rfl, rfl, rfl, trivial⟩ ⟨rfl, rfl, trivial⟩ ⟨by omega, basB_nine.mul hk32, by rw [List.drop_zero, List.drop_zero, hTT]⟩ ?_)
      intro j al ⟨hj, hal, hTd⟩
      by_cases hlt2 : j < i
      · (repeat refine g_seq ?_)
        refine g_region ?_
        first | refine g_pu rfl rfl rfl (pu_lss_t rfl rfl rfl (by omega)) ?_ | refine g_pu rfl rfl rfl (pu_lss_f rfl rfl rfl (by omega)) ?_ | refine g_pu rfl rfl rfl (pu_lss rfl rfl rfl) ?_
        refine g_nil ?_
        (repeat refine g_seq ?_)
        refine g_cond_t rfl (g_skip ?_)
        have hl : ls[j]? = some ls[j] := List.getElem?_eq_getElem (by omega)
        have hpk32 := h32 ls[j] (List.getElem_mem (by omega))
        generalize ls[j] = pk at hl hpk32
        obtain ⟨kq, km, kc, hL, hkq⟩ := hx.at hl
        have hpl := hkq.len
        have hkb2 := hkq.big
        rw [meetL_drop hl] at hTd
        have hget := stepsM_get hok hTd
        have hnx : T.drop (j + 1) = meetL (ls.drop (j + 1)) (xmV (kBlind (xmV pk al)) al) := by
          have := congrArg List.tail hTd
          rwa [List.tail_drop] at this
        have hsv := xmV_length pk al
        have hE := hal.e hpk32
        have hV : plV pk al = stL' al (xmV pk al) := if_pos hE
        have hg := bs_cut (stepsL_get hok hget)
        dsimp only at hg
        have hE2 : xmE (kBlind (xmV pk al)) al = 0 := hal.e (kBlind_length _)
        have hal2 := hal.mul (k := kBlind (xmV pk al)) (kBlind_length _)
        have hab : (bs al).length = 32 := by rw [bs_length, hal.1]
        generalize hs : xmV pk al = s at hsv hV hg hE2 hal2 hnx
        have hL192 := stL'_length hal.1 hsv
        have htl : (bs (stL' al s)).length = 192 := by rw [bs_length, hL192]
        have hxb : (bs (xmV (kBlind s) al)).length = 32 := by rw [bs_length, xmV_length]
        (repeat refine g_seq ?_); refine g_block ?_
        (repeat refine g_seq ?_)
        refine g_region ?_
        refine g_pu rfl rfl rfl (pu_move rfl rfl) ?_
        refine g_pu rfl rfl rfl (pu_atM1 j (fun w' hm => (hx.m hm).rd) rfl rfl rfl rfl hlt2 (by omega)) ?_
        refine g_pu rfl rfl rfl (pu_rdM (fun w' hm => (hx.m hm).rd) rfl rfl hL) ?_
        refine g_pu rfl rfl rfl (pu_assign rfl rfl) ?_
        refine g_pu rfl rfl rfl (pu_assign rfl rfl) ?_
        refine g_nil ?_
        (repeat refine g_seq ?_)
        refine g_any (8, [6]) ?_
        refine a_pu 0 rfl rfl rfl rfl (pu_move rfl rfl) rfl rfl (by kernel_rfl) ?_
        refine a_pu 2 rfl rfl rfl rfl (pu_sliceA rfl rfl) rfl rfl (by kernel_rfl) ?_
        refine a_pendA 7 15 15 43 ?_
        refine a_do 1 74 [74] (does_call rfl rfl rfl rfl rfl (fun w' hm => Copy_b w' kc (hkq.m hm))) rfl rfl (by kernel_rfl) rfl rfl (by kernel_rfl) (by kernel_rfl) (by kernel_rfl) rfl (fun p hp => by simp only [List.mem_cons, List.not_mem_nil, or_false] at hp; subst hp; first | exact does_PA rfl rfl rfl rfl | exact does_PB rfl rfl rfl rfl rfl (by decide) (by decide) rfl rfl) ?_; rintro v_ cs_ ⟨x74, _, rfl, rfl⟩
        refine a_do 3 76 [] (does_call rfl rfl rfl rfl rfl (fun w' hm => Peel_b w' x74.c 32 (k := pk) (a := al) (By.ow 74 rfl hm hpl hkb2) (By.full 12 rfl hm hal.1 (by omega)))) rfl rfl (by kernel_rfl) rfl rfl (by kernel_rfl) (by kernel_rfl) (by kernel_rfl) rfl (fun p hp => by simp only [List.mem_cons, List.not_mem_nil, or_false] at hp; subst hp; first | exact does_PA rfl rfl rfl rfl | exact does_PB rfl rfl rfl rfl rfl (by decide) (by decide) rfl rfl) ?_; rintro v_ cs_ ⟨_, _, rfl, rfl⟩
        rw [hV, hE]
        refine a_pu 4 rfl rfl rfl rfl (pu_move rfl rfl) rfl rfl (by kernel_rfl) ?_
        refine a_pu 5 rfl rfl rfl rfl (pu_extract rfl rfl rfl) rfl rfl (by kernel_rfl) ?_
        first | refine a_mv 6 rfl rfl rfl rfl (fun _ => (pu_extract rfl rfl rfl)) rfl rfl rfl (by kernel_rfl) (by kernel_rfl) (by kernel_rfl) rfl ?_
        refine a_force _ (by kernel_rfl) rfl rfl rfl (by kernel_rfl) (by kernel_rfl) (by kernel_rfl) rfl (fun p hp => by simp only [List.mem_cons, List.not_mem_nil, or_false] at hp; subst hp; first | exact does_PA rfl rfl rfl rfl | exact does_PB rfl rfl rfl rfl rfl (by decide) (by decide) rfl rfl) ?_; rintro v_ cs_ ⟨b15, hb15, rfl, rfl⟩
        refine a_tail [8, 9] (by kernel_rfl) rfl rfl (by kernel_rfl) ?_
        refine g_storeL 15 (s := 192) (C := bs (stL' al s)) rfl rfl rfl rfl rfl rfl htl (by rw [List.length_replicate]) (oneCell_bs _) ?_
        refine g_pu rfl rfl rfl (pu_assign rfl rfl) ?_
        refine g_nil ?_
        (repeat refine g_seq ?_)
        refine g_any (14, []) ?_
        refine a_pu 0 rfl rfl rfl rfl (pu_move rfl rfl) rfl rfl (by kernel_rfl) ?_
        first | refine a_pu 1 rfl rfl rfl rfl (pu_neq_t rfl rfl rfl (by omega)) rfl rfl (by kernel_rfl) ?_ | refine a_pu 1 rfl rfl rfl rfl (pu_neq_f rfl rfl rfl (by omega)) rfl rfl (by kernel_rfl) ?_ | refine a_pu 1 rfl rfl rfl rfl (pu_neq rfl rfl rfl) rfl rfl (by kernel_rfl) ?_
        refine a_pu 2 rfl rfl rfl rfl (pu_move rfl rfl) rfl rfl (by kernel_rfl) ?_
        first | refine a_pass 3 rfl rfl rfl rfl rfl rfl (by kernel_rfl) ?_ | refine a_pu 3 rfl rfl rfl rfl (pu_move rfl rfl) rfl rfl (by kernel_rfl) ?_
        first | refine a_pass 4 rfl rfl rfl rfl rfl rfl (by kernel_rfl) ?_ | refine a_pu 4 rfl rfl rfl rfl (pu_neq_t rfl rfl rfl (by omega)) rfl rfl (by kernel_rfl) ?_ | refine a_pu 4 rfl rfl rfl rfl (pu_neq_f rfl rfl rfl (by omega)) rfl rfl (by kernel_rfl) ?_ | refine a_pu 4 rfl rfl rfl rfl (pu_neq rfl rfl rfl) rfl rfl (by kernel_rfl) ?_
        first | refine a_pu 5 rfl rfl rfl rfl (pu_pick_t rfl rfl rfl) rfl rfl (by kernel_rfl) ?_ | refine a_pu 5 rfl rfl rfl rfl (pu_pick_f rfl rfl rfl) rfl rfl (by kernel_rfl) ?_
        refine a_pu 6 rfl rfl rfl rfl (pu_move rfl rfl) rfl rfl (by kernel_rfl) ?_
        refine a_pu 7 rfl rfl rfl rfl (pu_loadW 15 (L := bs (stL' al s)) rfl rfl rfl htl) rfl rfl (by kernel_rfl) ?_
        first | refine a_pass 8 rfl rfl rfl rfl rfl rfl (by kernel_rfl) ?_ | refine a_pu 8 rfl rfl rfl rfl (pu_move rfl rfl) rfl rfl (by kernel_rfl) ?_
        first | refine a_pass 9 rfl rfl rfl rfl rfl rfl (by kernel_rfl) ?_ | refine a_pu 9 rfl rfl rfl rfl (pu_move rfl rfl) rfl rfl (by kernel_rfl) ?_
        refine a_pu 10 rfl rfl rfl rfl (pu_atM j (s := 192) (L := bs (stepsL T)) (fun w' hm => Ow.rd (t := 47) rfl hm) rfl rfl rfl rfl hlt2 (by omega)) rfl rfl (by kernel_rfl) ?_
        refine a_pu 11 rfl rfl rfl rfl (pu_rdMA (L := bs (stepsL T)) (j := j * 192) (s := 192) (fun w' hm => Ow.rd (t := 47) rfl hm) rfl rfl (by omega) (by omega)) rfl rfl (by kernel_rfl) ?_
        rw [hg]
        refine a_pu 12 rfl rfl rfl rfl (pu_neqR (step_refl _ hL192) rfl rfl rfl) rfl rfl (by kernel_rfl) ?_
        first | refine a_pu 13 rfl rfl rfl rfl (pu_pick_t rfl rfl rfl) rfl rfl (by kernel_rfl) ?_ | refine a_pu 13 rfl rfl rfl rfl (pu_pick_f rfl rfl rfl) rfl rfl (by kernel_rfl) ?_
        refine a_done (by kernel_rfl) ?_
        (repeat refine g_seq ?_)
        refine g_cond_f rfl (g_skip ?_)
        (repeat refine g_seq ?_)
        refine g_region ?_
        refine g_pu rfl rfl rfl (pu_loadW 15 (L := bs (stL' al s)) rfl rfl rfl htl) ?_
        refine g_call [] rfl rfl rfl rfl rfl rfl (fun w' hm => Next12_b w' hal.1 hsv) (fun _ _ => ?_)
        rw [hE2]
        refine g_pu rfl rfl rfl (pu_move rfl rfl) ?_
        refine g_pu rfl rfl rfl (pu_extract rfl rfl rfl) ?_
        refine g_pu rfl rfl rfl (pu_extract rfl rfl rfl) ?_
        refine g_storeL 12 (s := 32) (C := bs (xmV (kBlind s) al)) rfl rfl rfl rfl rfl rfl hxb hab (oneCell_bs _) ?_
        refine g_pu rfl rfl rfl (pu_assign rfl rfl) ?_
        refine g_nil ?_
        refine g_blk ?_
        (repeat refine g_seq ?_)
        refine g_region ?_
        refine g_pu rfl rfl rfl (pu_addI rfl rfl rfl (by omega)) ?_
        refine g_pu rfl rfl rfl (pu_move rfl rfl) ?_
        refine g_nil ?_
        exact g_round2 (j + 1) (xmV (kBlind s) al) ⟨by omega, hal2, hnx⟩ (by omega) ⟨rfl, rfl, rfl, rfl, rfl, rfl, trivial⟩ ⟨rfl, rfl, trivial⟩
      · (repeat refine g_seq ?_)
        refine g_region ?_
        first | refine g_pu rfl rfl rfl (pu_lss_t rfl rfl rfl (by omega)) ?_ | refine g_pu rfl rfl rfl (pu_lss_f rfl rfl rfl (by omega)) ?_ | refine g_pu rfl rfl rfl (pu_lss rfl rfl rfl) ?_
        refine g_nil ?_
        (repeat refine g_seq ?_)
        refine g_cond_f rfl (g_exit rfl ?_)
        (repeat refine g_seq ?_)
        refine g_region ?_
        refine g_pu rfl rfl rfl (pu_assign rfl rfl) ?_
        refine g_nil ?_
        exact g_ret1 rfl rfl (fun w' hm => ⟨(), trivial, rfl, hm.grows [] trivial rfl⟩)
    · have hS : rchP k (ls.map fun p => xmV p nine) = (2, []) := if_neg (fun h => hgo (by
        have h1 := (okS_iff _ _).1 h
        rw [List.length_map] at h1
        exact ⟨h1.1, by omega⟩))
      rw [hS]
      (repeat refine g_seq ?_)
      refine g_region ?_
      refine g_pu rfl rfl rfl (pu_move rfl rfl) ?_
      first | refine g_pu rfl rfl rfl (pu_neq_t rfl rfl rfl (by omega)) ?_ | refine g_pu rfl rfl rfl (pu_neq_f rfl rfl rfl (by omega)) ?_ | refine g_pu rfl rfl rfl (pu_neq rfl rfl rfl) ?_
      refine g_nil ?_
      (repeat refine g_seq ?_)
      refine g_cond_t rfl ?_
      by_cases hk32 : k.length = 32
      · have hi0 : i = 0 := by
          rcases Nat.eq_zero_or_pos i with h | h
          · exact h
          · exact absurd ⟨hk32, h⟩ hgo
        subst hi0
        (repeat refine g_seq ?_)
        refine g_region ?_
        refine g_pu rfl rfl rfl (pu_move rfl rfl) ?_
        first | refine g_pu rfl rfl rfl (pu_len rfl rfl) ?_ | refine g_pu rfl rfl rfl (pu_lenS rfl rfl) ?_
        first | refine g_pu rfl rfl rfl (pu_neq_t rfl rfl rfl (by omega)) ?_ | refine g_pu rfl rfl rfl (pu_neq_f rfl rfl rfl (by omega)) ?_ | refine g_pu rfl rfl rfl (pu_neq rfl rfl rfl) ?_
        refine g_pu rfl rfl rfl (pu_move rfl rfl) ?_
        first | refine g_pass rfl rfl rfl ?_ | refine g_pu rfl rfl rfl (pu_move rfl rfl) ?_
        first | refine g_pass rfl rfl rfl ?_ | refine g_pu rfl rfl rfl (pu_len rfl rfl) ?_ | refine g_pu rfl rfl rfl (pu_lenS rfl rfl) ?_
        first | refine g_pass rfl rfl rfl ?_ | refine g_pu rfl rfl rfl (pu_eql_t rfl rfl rfl (by omega)) ?_ | refine g_pu rfl rfl rfl (pu_eql_f rfl rfl rfl (by omega)) ?_ | refine g_pu rfl rfl rfl (pu_eql rfl rfl rfl) ?_
        first | refine g_pu rfl rfl rfl (pu_pick_t rfl rfl rfl) ?_ | refine g_pu rfl rfl rfl (pu_pick_f rfl rfl rfl) ?_
        refine g_pu rfl rfl rfl (pu_assign rfl rfl) ?_
        refine g_nil ?_
        exact g_ret1 rfl rfl (fun w' hm => ⟨(), trivial, rfl, hm.grows [] trivial rfl⟩)
      · have hn32 : n ≠ 32 := by omega
        (repeat refine g_seq ?_)
        refine g_region ?_
        refine g_pu rfl rfl rfl (pu_move rfl rfl) ?_
        first | refine g_pu rfl rfl rfl (pu_len rfl rfl) ?_ | refine g_pu rfl rfl rfl (pu_lenS rfl rfl) ?_
        first | refine g_pu rfl rfl rfl (pu_neq_t rfl rfl rfl (by omega)) ?_ | refine g_pu rfl rfl rfl (pu_neq_f rfl rfl rfl (by omega)) ?_ | refine g_pu rfl rfl rfl (pu_neq rfl rfl rfl) ?_
        refine g_pu rfl rfl rfl (pu_move rfl rfl) ?_
        first | refine g_pass rfl rfl rfl ?_ | refine g_pu rfl rfl rfl (pu_move rfl rfl) ?_
        first | refine g_pass rfl rfl rfl ?_ | refine g_pu rfl rfl rfl (pu_len rfl rfl) ?_ | refine g_pu rfl rfl rfl (pu_lenS rfl rfl) ?_
        first | refine g_pass rfl rfl rfl ?_ | refine g_pu rfl rfl rfl (pu_eql_t rfl rfl rfl (by omega)) ?_ | refine g_pu rfl rfl rfl (pu_eql_f rfl rfl rfl (by omega)) ?_ | refine g_pu rfl rfl rfl (pu_eql rfl rfl rfl) ?_
        first | refine g_pu rfl rfl rfl (pu_pick_t rfl rfl rfl) ?_ | refine g_pu rfl rfl rfl (pu_pick_f rfl rfl rfl) ?_
        refine g_pu rfl rfl rfl (pu_assign rfl rfl) ?_
        refine g_nil ?_
        exact g_ret1 rfl rfl (fun w' hm => ⟨(), trivial, rfl, hm.grows [] trivial rfl⟩)
end Go.Sx

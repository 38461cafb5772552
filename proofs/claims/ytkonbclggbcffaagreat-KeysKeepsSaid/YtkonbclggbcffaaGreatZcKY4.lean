import Derived.Test.YtkonbclggbcffaaGreatZcKY3
import Derived.Test.YtkonbclggbcffaaGreatZcEK
set_option linter.unusedVariables false
set_option linter.unusedSimpArgs false
/-
  A step against a step, and the fixed fact about the keys. The schedule of valid keys never comes to nought.
-/
namespace Go.Sx
open Go Go.Proofs

theorem sch_rch : ∀ (pubs : List (List (BitVec 8))) {al : List (BitVec 8)} (sc : List (List (BitVec 8))), BasB al → schR pubs al 0 sc = rchR pubs al sc
  | [], _, _, _ => rfl
  | pub :: r, al, sc, h => by
    unfold schR rchR
    rw [if_pos rfl]
    by_cases hc : (chP pub sc).2 = 0
    · rw [if_pos hc, if_pos hc]
      by_cases hr : r = []
      · subst hr
        rw [if_pos rfl, if_pos rfl]; rfl
      · rw [if_neg hr, if_neg hr, h.e (kBlind_length _), sch_rch r _ (h.mul (kBlind_length _))]
    · rw [if_neg hc, if_neg hc]
theorem schP_rch (k : List (BitVec 8)) (pubs : List (List (BitVec 8))) : schP k pubs = rchP k pubs := by
  unfold schP rchP
  by_cases h : okS k pubs = true
  · have hk := ((okS_iff _ _).1 h).1
    rw [if_pos h, if_pos h, pub_ok hk, sch_rch _ _ (basB_nine.mul hk)]
  · rw [if_neg h, if_neg h]
theorem rchR_ok : ∀ {pubs : List (List (BitVec 8))} {al : List (BitVec 8)} {sc : List (List (BitVec 8))}, al.length = 32 → ∀ h ∈ (rchR pubs al sc).2, h.1.length = 32 ∧ h.2.length = 32
  | [], _, _, _, _, hh => by simp [rchR] at hh
  | pub :: r, al, sc, hal, h, hh => by
    unfold rchR at hh
    split at hh
    · unfold comb at hh
      split at hh
      · rcases List.mem_append.1 hh with h1 | h1
        · rw [List.mem_singleton.1 h1]; exact ⟨hal, chP_length _ _⟩
        · exact rchR_ok (xmV_length _ _) h h1
      · simp at hh
    · simp at hh
theorem rchP_ok {k : List (BitVec 8)} {pubs : List (List (BitVec 8))} : ∀ h ∈ (rchP k pubs).2, h.1.length = 32 ∧ h.2.length = 32 := fun h hh => by
  unfold rchP at hh
  split at hh
  · exact rchR_ok (xmV_length _ _) h hh
  · simp at hh
theorem comb_len (acc : List HopS) (r : Int × List HopS) : (comb acc r).2.length ≤ acc.length + r.2.length := by
  unfold comb
  split
  · simp
  · simp
theorem rchR_len : ∀ (pubs : List (List (BitVec 8))) (al : List (BitVec 8)) (sc : List (List (BitVec 8))), (rchR pubs al sc).2.length ≤ pubs.length
  | [], _, _ => by simp [rchR]
  | pub :: r, al, sc => by
    unfold rchR
    split
    · refine Nat.le_trans (comb_len _ _) ?_
      have := rchR_len r (xmV (kBlind (chP pub sc).1) al) (sc ++ [kBlind (chP pub sc).1])
      simp only [List.length_cons, List.length_nil]; omega
    · simp
theorem bs_ext (L : List (BitVec 8)) (off n : Nat) : (bs L).toArray.extract off (off + n) = (bs ((L.drop off).take n)).toArray := by
  apply Array.ext'
  simp only [Array.toList_extract, List.extract_eq_take_drop]
  rw [show off + n - off = n by omega, bs_drop, bs_take]
theorem keys_refl (L : List (BitVec 8)) (hL : L.length = 128) (w : World) : (Op.equal 37 (.agg (bs L).toArray) (.agg (bs L).toArray)).run Tryz.prog w = .ok true w := by
  obtain ⟨d, hd⟩ : ∃ d, Op.maxDepth = d + 3 := ⟨_, rfl⟩
  have hfs : (Tryz.prog.fieldsOf 37).toList.map (fun f => (f.type, f.offset)) = [(35, 0), (35, 32), (35, 64), (35, 96)] := by kernel_rfl
  have hu : Tryz.prog.underlying 37 = some (.struct (Tryz.prog.fieldsOf 37)) := by kernel_rfl
  rw [Op.equal, hd, run_equalIn_struct w (d + 2) _ _ _ hu (by kernel_rfl)]
  refine eqFields_refl _ _ w _ fun f hf => ?_
  have hmem : (f.type, f.offset) ∈ [((35 : Nat), 0), (35, 32), (35, 64), (35, 96)] := by
    rw [← hfs]; exact List.mem_map.2 ⟨f, hf, rfl⟩
  have key : ∀ off, off + 32 ≤ 128 → ∃ v, (part 35 (bs L).toArray off).run Tryz.prog w = .ok v w ∧ (Op.equalIn (d + 2) 35 v v).run Tryz.prog w = .ok true w := fun off ho => by
    have e := bs_ext L off 32
    refine ⟨.agg (bs ((L.drop off).take 32)).toArray, ?_, run_eqA_refl d w (Und.h (P := Tryz.prog) (t := 35)) (Und.h (P := Tryz.prog) (t := 5)) (One.h (P := Tryz.prog) (t := 5)) (bs ((L.drop off).take 32)) (all_bs _) (by rw [bs_length, List.length_take, List.length_drop]; omega)⟩
    simp [part, run_isAgg (Agg.h (P := Tryz.prog) (t := 35)), run_size (Siz.h (P := Tryz.prog) (t := 35)), e]
    rw [bs_drop, bs_take]
  simp only [List.mem_cons, Prod.mk.injEq, List.not_mem_nil, or_false] at hmem
  rcases hmem with ⟨h1, h2⟩ | ⟨h1, h2⟩ | ⟨h1, h2⟩ | ⟨h1, h2⟩ <;> rw [h1, h2] <;> exact key _ (by omega)
theorem is12_b (w : World) {L : List (BitVec 8)} (hL : L.length = 192) : Spec Tryz.prog 12 #[.agg (bs L).toArray, .agg (bs L).toArray] w (σ := Unit) (fun _ => True) (fun _ => .bool true) Nob (fun _ => []) := by
  refine enter Tryz.func12 rfl rfl (Mem.start w) ?_
  have hsz : (bs L).toArray.size = 192 := by rw [List.size_toArray, bs_length, hL]
  have hk : ((L.drop 0).take 128).length = 128 := by rw [List.length_take, List.length_drop]; omega
  have ha : (bs ((L.drop 128).take 32)).length = 32 := by rw [bs_length, List.length_take, List.length_drop]; omega
  have hs : (bs ((L.drop 160).take 32)).length = 32 := by rw [bs_length, List.length_take, List.length_drop]; omega
  (repeat refine g_seq ?_)
  refine g_region ?_
  refine g_lo [2] rfl rfl rfl rfl (lo_box rfl rfl) (fun b2 hb2 => ?_)
  refine g_lo [3] rfl rfl rfl rfl (lo_box rfl rfl) (fun b3 hb3 => ?_)
  refine g_pu rfl rfl rfl (pu_assign rfl rfl) ?_
  refine g_nil ?_
  (repeat refine g_seq ?_)
  refine g_region ?_
  refine g_pu rfl rfl rfl (pu_fieldAddr (by decide) rfl rfl) ?_
  refine g_pu rfl rfl rfl (pu_loadE 2 (bs ((L.drop 0).take 128)).toArray rfl rfl rfl (by show _ ≤ (bs L).toArray.size; rw [hsz]; omega) (bs_ext L 0 128)) ?_
  refine g_pu rfl rfl rfl (pu_fieldAddr (by decide) rfl rfl) ?_
  refine g_pu rfl rfl rfl (pu_loadE 3 (bs ((L.drop 0).take 128)).toArray rfl rfl rfl (by show _ ≤ (bs L).toArray.size; rw [hsz]; omega) (bs_ext L 0 128)) ?_
  refine g_pu rfl rfl rfl (pu_eqlR (keys_refl _ hk) rfl rfl rfl) ?_
  refine g_pu rfl rfl rfl (pu_move rfl rfl) ?_
  first | refine g_pass rfl rfl rfl ?_ | refine g_pu rfl rfl rfl (pu_fieldAddr (by decide) rfl rfl) ?_
  refine g_pu rfl rfl rfl (pu_loadE 2 (bs ((L.drop 128).take 32)).toArray rfl rfl rfl (by show _ ≤ (bs L).toArray.size; rw [hsz]; omega) (bs_ext L 128 32)) ?_
  first | refine g_pass rfl rfl rfl ?_ | refine g_pu rfl rfl rfl (pu_fieldAddr (by decide) rfl rfl) ?_
  refine g_pu rfl rfl rfl (pu_loadE 3 (bs ((L.drop 128).take 32)).toArray rfl rfl rfl (by show _ ≤ (bs L).toArray.size; rw [hsz]; omega) (bs_ext L 128 32)) ?_
  refine g_pu rfl rfl rfl (pu_eqlA_t (a := bs ((L.drop 128).take 32)) (b := bs ((L.drop 128).take 32)) rfl rfl rfl rfl (all_bs _) ha) ?_
  first | refine g_pu rfl rfl rfl (pu_pick_t rfl rfl rfl) ?_ | refine g_pu rfl rfl rfl (pu_pick_f rfl rfl rfl) ?_
  refine g_pu rfl rfl rfl (pu_move rfl rfl) ?_
  first | refine g_pass rfl rfl rfl ?_ | refine g_pu rfl rfl rfl (pu_fieldAddr (by decide) rfl rfl) ?_
  refine g_pu rfl rfl rfl (pu_loadE 2 (bs ((L.drop 160).take 32)).toArray rfl rfl rfl (by show _ ≤ (bs L).toArray.size; rw [hsz]; omega) (bs_ext L 160 32)) ?_
  first | refine g_pass rfl rfl rfl ?_ | refine g_pu rfl rfl rfl (pu_fieldAddr (by decide) rfl rfl) ?_
  refine g_pu rfl rfl rfl (pu_loadE 3 (bs ((L.drop 160).take 32)).toArray rfl rfl rfl (by show _ ≤ (bs L).toArray.size; rw [hsz]; omega) (bs_ext L 160 32)) ?_
  refine g_pu rfl rfl rfl (pu_eqlA_t (a := bs ((L.drop 160).take 32)) (b := bs ((L.drop 160).take 32)) rfl rfl rfl rfl (all_bs _) hs) ?_
  first | refine g_pu rfl rfl rfl (pu_pick_t rfl rfl rfl) ?_ | refine g_pu rfl rfl rfl (pu_pick_f rfl rfl rfl) ?_
  refine g_pu rfl rfl rfl (pu_assign rfl rfl) ?_
  refine g_nil ?_
  exact g_ret1 rfl rfl (fun w' hm => ⟨(), trivial, rfl, hm.grows [] trivial rfl⟩)
set_option maxRecDepth 100000 in
theorem aw12 : (kMac nine == kPay nine) = false := by decide +kernel
theorem sch_nine : schP nine [nine] = (0, [(xmV nine nine, xmV nine nine)]) := by
  have h : okS nine [nine] = true := rfl
  have hc : chP nine [nine] = (xmV nine nine, 0) := by rw [chP_one, pub_ok nine_length]
  rw [schP_rch]
  unfold rchP
  rw [if_pos h]
  show (if (chP nine [nine]).2 = 0 then comb [(xmV nine nine, (chP nine [nine]).1)] (0, []) else ((chP nine [nine]).2, [])) = _
  rw [hc, if_pos rfl]; rfl
theorem nine_cells : (List.replicate 32 (b8 0#8)).set 0 (b8 9#8) = bs nine := by kernel_rfl
theorem awake12_b (w : World) : Spec Tryz.prog 6 #[] w (σ := Unit) (fun _ => True) (fun _ => .bool true) Nob (fun _ => []) := by
  refine enter Tryz.func6 rfl rfl (Mem.start w) ?_
  have hvl := xmV_length nine nine
  have hvb : (bs (xmV nine nine)).length = 32 := by rw [bs_length, hvl]
  have hkl : (bs (ksL nine)).length = 128 := by rw [bs_length, ksL_length]
  have hks : (bs (ksL nine)).toArray.size = 128 := by rw [List.size_toArray, hkl]
  have hsl : (bs (stepsL [(xmV nine nine, xmV nine nine)])).length = 192 := by
    rw [bs_length, stepsL_length (fun h hh => by rw [List.mem_singleton.1 hh]; exact ⟨hvl, hvl⟩)]; rfl
  have hal : ((bs (stepsL [(xmV nine nine, xmV nine nine)])).drop 128).take 32 = bs (xmV nine nine) := bs_cut (by
    show (([stL' (xmV nine nine) (xmV nine nine)].flatten).drop 128).take 32 = _
    rw [flatOne, stL'_alpha hvl])
  have hne : ¬ bs (kMac nine) = bs (kPay nine) := fun h => by
    have h1 := bs_inj h
    have h2 := aw12
    rw [h1, beq_self_eq_true] at h2
    cases h2
  have hml : (bs (kMac nine)).length = 32 := by rw [bs_length, kMac_length]
  have hpl : (bs (kPay nine)).length = 32 := by rw [bs_length, kPay_length]
  have e0 := bs_ext (ksL nine) 0 32
  have e2 := bs_ext (ksL nine) 64 32
  rw [ksL_mac] at e0
  rw [ksL_pay] at e2
  (repeat refine g_seq ?_)
  refine g_region ?_
  refine g_pu rfl rfl rfl (pu_assign rfl rfl) ?_
  refine g_nil ?_
  (repeat refine g_seq ?_)
  refine g_region ?_
  refine g_lo [8] rfl rfl rfl rfl (lo_make (n := 32) (c := 32) rfl rfl rfl (by omega) (by omega) (by omega) rfl) (fun b8' hb8 => ?_)
  refine g_pu rfl rfl rfl (pu_assign rfl rfl) ?_
  refine g_nil ?_
  (repeat refine g_seq ?_)
  refine g_region ?_
  refine g_pu rfl rfl rfl (pu_move rfl rfl) ?_
  refine g_pu rfl rfl rfl (pu_at1 0 rfl rfl rfl rfl (by omega)) ?_
  refine g_store 8 (v := b8 9#8) rfl rfl rfl rfl rfl rfl rfl (by rw [List.length_replicate]; omega) ?_
  rw [show 0 + 0 = 0 from rfl, nine_cells]
  refine g_nil ?_
  (repeat refine g_seq ?_)
  refine g_region ?_
  refine g_pu rfl rfl rfl (pu_move rfl rfl) ?_
  refine g_call [] rfl rfl rfl rfl rfl rfl (fun w' hm => RPublic_b w' 32 (k := nine) (By.full 8 rfl hm nine_length (by omega))) (fun _ _ => ?_)
  rw [pub_ok nine_length]
  refine g_pu rfl rfl rfl (pu_move rfl rfl) ?_
  refine g_pu rfl rfl rfl (pu_extract rfl rfl rfl) ?_
  refine g_pu rfl rfl rfl (pu_extract rfl rfl rfl) ?_
  refine g_lo [2] rfl rfl rfl rfl (lo_alloc rfl) (fun b2 hb2 => ?_)
  refine g_storeL 2 (s := 32) (C := bs (xmV nine nine)) rfl rfl rfl rfl rfl rfl hvb rfl (oneCell_bs _) ?_
  refine g_pu rfl rfl rfl (pu_assign rfl rfl) ?_
  refine g_nil ?_
  (repeat refine g_seq ?_)
  refine g_region ?_
  refine g_pu rfl rfl rfl (pu_move rfl rfl) ?_
  refine g_pu rfl rfl rfl (pu_move rfl rfl) ?_
  refine g_lo [19] rfl rfl rfl rfl (lo_buildSlice rfl rfl (by decide) (by decide) rfl rfl) (fun b19 hb19 => ?_)
  refine g_call [20] rfl rfl rfl rfl rfl rfl (fun w' hm => Schedule_b w' 32 1 (k := nine) (pubs := [nine]) (By.full 8 rfl hm nine_length (by omega)) ⟨hm.rowA 19 rfl, rfl, All2.cons ⟨_, _, _, rfl, By.full 8 rfl hm nine_length (by omega), fun _ _ => trivial⟩ All2.nil, by omega⟩) (fun x20 _ => ?_)
  rw [sch_nine]
  refine g_pu rfl rfl rfl (pu_move rfl rfl) ?_
  refine g_pu rfl rfl rfl (pu_extract rfl rfl rfl) ?_
  refine g_pu rfl rfl rfl (pu_extract rfl rfl rfl) ?_
  refine g_pu rfl rfl rfl (pu_assign rfl rfl) ?_
  refine g_pu rfl rfl rfl (pu_assign rfl rfl) ?_
  refine g_nil ?_
  (repeat refine g_seq ?_)
  refine g_region ?_
  refine g_pu rfl rfl rfl (pu_move rfl rfl) ?_
  refine g_call [] rfl rfl rfl rfl rfl rfl (fun w' hm => Of12_b w' 32 (s := nine) (By.full 8 rfl hm nine_length (by omega))) (fun _ _ => ?_)
  rw [ofV_32 nine_length, show ofE 32 = 0 from rfl]
  refine g_pu rfl rfl rfl (pu_move rfl rfl) ?_
  refine g_pu rfl rfl rfl (pu_extract rfl rfl rfl) ?_
  refine g_pu rfl rfl rfl (pu_extract rfl rfl rfl) ?_
  refine g_lo [6] rfl rfl rfl rfl (lo_alloc rfl) (fun b6 hb6 => ?_)
  refine g_storeL 6 (s := 128) (C := bs (ksL nine)) rfl rfl rfl rfl rfl rfl hkl (by rw [List.length_replicate]) (oneCell_bs _) ?_
  refine g_pu rfl rfl rfl (pu_assign rfl rfl) ?_
  refine g_nil ?_
  (repeat refine g_seq ?_)
  refine g_any (27, []) ?_
  refine a_pu 0 rfl rfl rfl rfl (pu_move rfl rfl) rfl rfl (by kernel_rfl) ?_
  first | refine a_pu 1 rfl rfl rfl rfl (pu_eql_t rfl rfl rfl (by omega)) rfl rfl (by kernel_rfl) ?_ | refine a_pu 1 rfl rfl rfl rfl (pu_eql_f rfl rfl rfl (by omega)) rfl rfl (by kernel_rfl) ?_ | refine a_pu 1 rfl rfl rfl rfl (pu_eql rfl rfl rfl) rfl rfl (by kernel_rfl) ?_
  refine a_pu 2 rfl rfl rfl rfl (pu_move rfl rfl) rfl rfl (by kernel_rfl) ?_
  first | refine a_pass 3 rfl rfl rfl rfl rfl rfl (by kernel_rfl) ?_ | refine a_pu 3 rfl rfl rfl rfl (pu_move rfl rfl) rfl rfl (by kernel_rfl) ?_
  first | refine a_pass 4 rfl rfl rfl rfl rfl rfl (by kernel_rfl) ?_ | refine a_pu 4 rfl rfl rfl rfl (pu_eql_t rfl rfl rfl (by omega)) rfl rfl (by kernel_rfl) ?_ | refine a_pu 4 rfl rfl rfl rfl (pu_eql_f rfl rfl rfl (by omega)) rfl rfl (by kernel_rfl) ?_ | refine a_pu 4 rfl rfl rfl rfl (pu_eql rfl rfl rfl) rfl rfl (by kernel_rfl) ?_
  first | refine a_pu 5 rfl rfl rfl rfl (pu_pick_t rfl rfl rfl) rfl rfl (by kernel_rfl) ?_ | refine a_pu 5 rfl rfl rfl rfl (pu_pick_f rfl rfl rfl) rfl rfl (by kernel_rfl) ?_
  refine a_pu 6 rfl rfl rfl rfl (pu_move rfl rfl) rfl rfl (by kernel_rfl) ?_
  first | refine a_pass 7 rfl rfl rfl rfl rfl rfl (by kernel_rfl) ?_ | refine a_pu 7 rfl rfl rfl rfl (pu_move rfl rfl) rfl rfl (by kernel_rfl) ?_
  first | refine a_pass 8 rfl rfl rfl rfl rfl rfl (by kernel_rfl) ?_ | refine a_pu 8 rfl rfl rfl rfl (pu_len rfl rfl) rfl rfl (by kernel_rfl) ?_ | refine a_pu 8 rfl rfl rfl rfl (pu_lenS rfl rfl) rfl rfl (by kernel_rfl) ?_
  first | refine a_pass 9 rfl rfl rfl rfl rfl rfl (by kernel_rfl) ?_ | refine a_pu 9 rfl rfl rfl rfl (pu_eql_t rfl rfl rfl (by omega)) rfl rfl (by kernel_rfl) ?_ | refine a_pu 9 rfl rfl rfl rfl (pu_eql_f rfl rfl rfl (by omega)) rfl rfl (by kernel_rfl) ?_ | refine a_pu 9 rfl rfl rfl rfl (pu_eql rfl rfl rfl) rfl rfl (by kernel_rfl) ?_
  first | refine a_pu 10 rfl rfl rfl rfl (pu_pick_t rfl rfl rfl) rfl rfl (by kernel_rfl) ?_ | refine a_pu 10 rfl rfl rfl rfl (pu_pick_f rfl rfl rfl) rfl rfl (by kernel_rfl) ?_
  refine a_pu 11 rfl rfl rfl rfl (pu_move rfl rfl) rfl rfl (by kernel_rfl) ?_
  first | refine a_pass 12 rfl rfl rfl rfl rfl rfl (by kernel_rfl) ?_ | refine a_pu 12 rfl rfl rfl rfl (pu_move rfl rfl) rfl rfl (by kernel_rfl) ?_
  refine a_pu 13 rfl rfl rfl rfl (pu_atM 0 (s := 192) (L := bs (stepsL [(xmV nine nine, xmV nine nine)])) (fun w' hm => Ow.rd (t := 20) rfl hm) rfl rfl rfl rfl (by show 0 < 1; omega) (by omega)) rfl rfl (by kernel_rfl) ?_
  refine a_pu 14 rfl rfl rfl rfl (pu_fieldM (L := bs (stepsL [(xmV nine nine, xmV nine nine)])) (fun w' hm => Ow.rd (t := 20) rfl hm) (by omega) (by decide) rfl rfl) rfl rfl (by kernel_rfl) ?_
  refine a_pu 15 rfl rfl rfl rfl (pu_rdMA (L := bs (stepsL [(xmV nine nine, xmV nine nine)])) (j := 128) (s := 32) (fun w' hm => Ow.rd (t := 20) rfl hm) rfl rfl (by omega) (by omega)) rfl rfl (by kernel_rfl) ?_
  rw [hal]
  refine a_pu 16 rfl rfl rfl rfl (pu_loadW 2 (L := bs (xmV nine nine)) rfl rfl rfl hvb) rfl rfl (by kernel_rfl) ?_
  refine a_pu 17 rfl rfl rfl rfl (pu_eqlA_t (a := bs (xmV nine nine)) (b := bs (xmV nine nine)) rfl rfl rfl rfl (all_bs _) hvb) rfl rfl (by kernel_rfl) ?_
  first | refine a_pu 18 rfl rfl rfl rfl (pu_pick_t rfl rfl rfl) rfl rfl (by kernel_rfl) ?_ | refine a_pu 18 rfl rfl rfl rfl (pu_pick_f rfl rfl rfl) rfl rfl (by kernel_rfl) ?_
  refine a_pu 19 rfl rfl rfl rfl (pu_move rfl rfl) rfl rfl (by kernel_rfl) ?_
  first | refine a_pass 20 rfl rfl rfl rfl rfl rfl (by kernel_rfl) ?_ | refine a_pu 20 rfl rfl rfl rfl (pu_fieldAddr (by decide) rfl rfl) rfl rfl (by kernel_rfl) ?_
  refine a_pu 21 rfl rfl rfl rfl (pu_loadE 6 (bs (kMac nine)).toArray rfl rfl rfl (by rw [hks]; omega) e0) rfl rfl (by kernel_rfl) ?_
  first | refine a_pass 22 rfl rfl rfl rfl rfl rfl (by kernel_rfl) ?_ | refine a_pu 22 rfl rfl rfl rfl (pu_fieldAddr (by decide) rfl rfl) rfl rfl (by kernel_rfl) ?_
  refine a_pu 23 rfl rfl rfl rfl (pu_loadE 6 (bs (kPay nine)).toArray rfl rfl rfl (by rw [hks]; omega) e2) rfl rfl (by kernel_rfl) ?_
  refine a_pu 24 rfl rfl rfl rfl (pu_neqA_t (a := bs (kMac nine)) (b := bs (kPay nine)) rfl rfl rfl hne (all_bs _) (all_bs _) hml hpl) rfl rfl (by kernel_rfl) ?_
  first | refine a_pu 25 rfl rfl rfl rfl (pu_pick_t rfl rfl rfl) rfl rfl (by kernel_rfl) ?_ | refine a_pu 25 rfl rfl rfl rfl (pu_pick_f rfl rfl rfl) rfl rfl (by kernel_rfl) ?_
  refine a_pu 26 rfl rfl rfl rfl (pu_assign rfl rfl) rfl rfl (by kernel_rfl) ?_
  refine a_done (by kernel_rfl) ?_
  exact g_ret1 rfl rfl (fun w' hm => ⟨(), trivial, rfl, hm.grows [] trivial rfl⟩)
end Go.Sx

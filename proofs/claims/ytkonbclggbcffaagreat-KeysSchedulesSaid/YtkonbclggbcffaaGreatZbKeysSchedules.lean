import Derived.Test.YtkonbclggbcffaaGreatZbKY4
set_option linter.unusedVariables false
set_option linter.unusedSimpArgs false
/-
  KeysSchedules: the sender's keys for each hop of a route are the document's, with the public value that each hop gets. No condition.
-/
namespace Go.Sx
open Go Go.Proofs

theorem stepsL_sub {l : List HopS} (ho : ∀ h ∈ l, h.1.length = 32 ∧ h.2.length = 32) {i : Nat} {h : HopS} (hi : l[i]? = some h) {o n : Nat} {x : List (BitVec 8)} (hx : ((stL' h.1 h.2).drop o).take n = x) (hn : o + n ≤ 192) : ((bs (stepsL l)).drop (i * 192 + o)).take n = bs x := by
  have h1 := stepsL_get ho hi
  have e : ((stepsL l).drop (i * 192 + o)).take n = ((((stepsL l).drop (i * 192)).take 192).drop o).take n := by
    rw [← List.drop_drop, List.drop_take, List.take_take, Nat.min_eq_left (by omega)]
  refine bs_cut ?_
  rw [e, h1, hx]
theorem vals_get {xs : List Otm} {i : Nat} {y : Otm} (h : xs[i]? = some y) : (vals xs)[i]? = some (.slice y.1.p y.2.length y.1.c) := by
  simp [vals, h, Ow.sl]
theorem conts_get {xs : List Otm} {i : Nat} {y : Otm} (h : xs[i]? = some y) : (conts xs)[i]? = some y.2 := by
  simp [conts, h]

theorem KeysSchedules_spec (w : World) {p q : Option Addr} {n m : Nat} (c d : Nat) {k : List (BitVec 8)} {L : List Value} {pubs : List (List (BitVec 8))} (hk : By w p n k) (ha : ByL w q m L pubs) : Spec Tryz.prog 3 #[.slice p n c, .slice q m d] w (σ := Unit) (fun _ => True) (fun _ => .bool true) Nob (fun _ => []) := by
  refine enter Tryz.func3 rfl rfl (Mem.start w) ?_
  have hkl := hk.len
  have hkb := hk.big
  have hbg := ha.big
  have hln := ha.lenL
  (repeat refine g_seq ?_)
  refine g_region ?_
  refine g_pu rfl rfl rfl (pu_assign rfl rfl) ?_
  refine g_nil ?_
  (repeat refine g_seq ?_)
  refine g_region ?_
  refine g_call [] rfl rfl rfl rfl rfl rfl (fun w' hm => awake12_b w') (fun _ _ => ?_)
  refine g_pu rfl rfl rfl (pu_not rfl rfl) ?_
  refine g_nil ?_
  (repeat refine g_seq ?_)
  refine g_cond_f rfl (g_skip ?_)
  (repeat refine g_seq ?_)
  refine g_region ?_
  refine g_pu rfl rfl rfl (pu_move rfl rfl) ?_
  refine g_call [18] rfl rfl rfl rfl rfl rfl (fun w' hm => Copy_b w' c (hk.m hm)) (fun x18 _ => ?_)
  refine g_pu rfl rfl rfl (pu_move rfl rfl) ?_
  refine g_call [20, 120] rfl rfl rfl rfl rfl rfl (fun w' hm => Copies_b w' d (ha.m hm)) (fun x20 h20 => ?_)
  refine g_call [21] rfl rfl rfl rfl rfl rfl (fun w' hm => Schedule_b w' x18.c x20.c (By.ow 18 rfl hm hkl hkb) (Owl.by 20 120 rfl rfl hm h20.1 (by omega))) (fun x21 _ => ?_)
  rw [schP_rch]
  refine g_pu rfl rfl rfl (pu_move rfl rfl) ?_
  refine g_pu rfl rfl rfl (pu_extract rfl rfl rfl) ?_
  refine g_pu rfl rfl rfl (pu_extract rfl rfl rfl) ?_
  refine g_pu rfl rfl rfl (pu_assign rfl rfl) ?_
  refine g_pu rfl rfl rfl (pu_assign rfl rfl) ?_
  refine g_nil ?_
  (repeat refine g_seq ?_)
  refine g_region ?_
  refine g_pu rfl rfl rfl (pu_move rfl rfl) ?_
  refine g_pu rfl rfl rfl (pu_move rfl rfl) ?_
  refine g_call [27] rfl rfl rfl rfl rfl rfl (fun w' hm => RSchedule_b w' c d (hk.m hm) (ha.m hm)) (fun x27 _ => ?_)
  refine g_pu rfl rfl rfl (pu_move rfl rfl) ?_
  refine g_pu rfl rfl rfl (pu_extract rfl rfl rfl) ?_
  refine g_pu rfl rfl rfl (pu_extract rfl rfl rfl) ?_
  refine g_pu rfl rfl rfl (pu_assign rfl rfl) ?_
  refine g_pu rfl rfl rfl (pu_assign rfl rfl) ?_
  refine g_nil ?_
  have hl5 := rchP_len k pubs
  have hok := rchP_ok (k := k) (pubs := pubs)
  have hbas := rchP_bas (k := k) (pubs := pubs)
  have hnext := fun i h g => rchP_next (k := k) (pubs := pubs) (i := i) (h := h) (g := g)
  generalize rchP k pubs = T at hl5 hok hbas hnext
  obtain ⟨te, T⟩ := T
  dsimp only at hl5 hok hbas hnext ⊢
  generalize hN : T.length = N at hl5
  have hsl := stepsL_length hok
  have hsb : (bs (stepsL T)).length = N * 192 := by rw [bs_length, hsl, hN]
  (repeat refine g_seq ?_)
  refine g_region ?_
  refine g_pu rfl rfl rfl (pu_move rfl rfl) ?_
  refine g_pu rfl rfl rfl (pu_move rfl rfl) ?_
  refine g_pu rfl rfl rfl (pu_neq_f rfl rfl rfl (fun h => h rfl)) ?_
  refine g_pu rfl rfl rfl (pu_move rfl rfl) ?_
  first | refine g_pass rfl rfl rfl ?_ | refine g_pu rfl rfl rfl (pu_move rfl rfl) ?_
  first | refine g_pass rfl rfl rfl ?_ | refine g_pu rfl rfl rfl (pu_len rfl rfl) ?_ | refine g_pu rfl rfl rfl (pu_lenS rfl rfl) ?_
  first | refine g_pass rfl rfl rfl ?_ | refine g_pu rfl rfl rfl (pu_move rfl rfl) ?_
  first | refine g_pass rfl rfl rfl ?_ | refine g_pu rfl rfl rfl (pu_len rfl rfl) ?_ | refine g_pu rfl rfl rfl (pu_lenS rfl rfl) ?_
  refine g_pu rfl rfl rfl (pu_neq_f rfl rfl rfl (fun h => h rfl)) ?_
  first | refine g_pu rfl rfl rfl (pu_pick_t rfl rfl rfl) ?_ | refine g_pu rfl rfl rfl (pu_pick_f rfl rfl rfl) ?_
  refine g_nil ?_
  (repeat refine g_seq ?_)
  refine g_cond_f rfl (g_skip ?_)
  (repeat refine g_seq ?_)
  refine g_region ?_
  refine g_pu rfl rfl rfl (pu_move rfl rfl) ?_
  refine g_call [41, 141] rfl rfl rfl rfl rfl rfl (fun w' hm => Pays_b w' x21.c (Ow.rd (t := 21) rfl hm) hN hok (by omega)) (fun x41 h41 => ?_)
  refine g_pu rfl rfl rfl (pu_assign rfl rfl) ?_
  refine g_nil ?_
  obtain ⟨y41, P⟩ := x41
  dsimp only at h41 ⊢
  have hPl : P.length = N := by
    have := congrArg List.length h41
    rw [conts_length, List.length_map, hN] at this
    exact this
  have hPs : ∀ x ∈ P, x.2.length = 32 := fun x hx => by
    have h1 : x.2 ∈ conts P := List.mem_map.2 ⟨x, hx, rfl⟩
    rw [h41] at h1
    obtain ⟨h, _, e⟩ := List.mem_map.1 h1
    rw [← e]; exact kPay_length _
  rw [hPl]
  (repeat refine g_seq ?_)
  refine g_region ?_
  refine g_pu rfl rfl rfl (pu_move rfl rfl) ?_
  first | refine g_pu rfl rfl rfl (pu_len rfl rfl) ?_ | refine g_pu rfl rfl rfl (pu_lenS rfl rfl) ?_
  refine g_pu rfl rfl rfl (pu_move rfl rfl) ?_
  first | refine g_pu rfl rfl rfl (pu_len rfl rfl) ?_ | refine g_pu rfl rfl rfl (pu_lenS rfl rfl) ?_
  refine g_pu rfl rfl rfl (pu_neq_f rfl rfl rfl (fun h => h rfl)) ?_
  refine g_nil ?_
  (repeat refine g_seq ?_)
  refine g_cond_f rfl (g_skip ?_)
  (repeat refine g_seq ?_)
  refine g_region ?_
  refine g_pu rfl rfl rfl (pu_move rfl rfl) ?_
  first | refine g_pu rfl rfl rfl (pu_len rfl rfl) ?_ | refine g_pu rfl rfl rfl (pu_lenS rfl rfl) ?_
  refine g_pu rfl rfl rfl (pu_move rfl rfl) ?_
  refine g_nil ?_
  (repeat refine g_seq ?_)
  refine g_block (g_loop (σ := Nat) (fun i => [(5, x21.sl N), (7, x27.sl N), (9, y41.sl N), (47, x21.sl N), (48, .int .i64 (N : Int)), (49, .int .i64 (i : Int))]) (fun _ => [(21, x21.ck 39 192 (bs (stepsL T))), (27, x27.ck 42 192 (bs (stepsL T))), (41, y41.ck 22 1 (vals P)), (141, .fact (BSC P) (BagC 5 P))]) (fun i => i ≤ N) (fun i => N - i) 0 ⟨rfl, rfl, rfl, rfl, rfl, rfl, trivial⟩ ⟨rfl, rfl, rfl, rfl, trivial⟩ (by omega) ?_)
  intro i hi
  by_cases hlt : i < N
  · (repeat refine g_seq ?_)
    refine g_region ?_
    first | refine g_pu rfl rfl rfl (pu_lss_t rfl rfl rfl (by omega)) ?_ | refine g_pu rfl rfl rfl (pu_lss_f rfl rfl rfl (by omega)) ?_ | refine g_pu rfl rfl rfl (pu_lss rfl rfl rfl) ?_
    refine g_nil ?_
    (repeat refine g_seq ?_)
    refine g_cond_t rfl (g_skip ?_)
    have h1 : T[i]? = some T[i] := List.getElem?_eq_getElem (by omega)
    have hmem := List.getElem_mem (l := T) (n := i) (by omega)
    generalize T[i] = h at h1 hmem
    have hh := hok h hmem
    have hP1 : P[i]? = some P[i] := List.getElem?_eq_getElem (by omega)
    generalize P[i] = y at hP1
    have hy : y.2 = kPay h.2 := by
      have := conts_get hP1
      rw [h41, List.getElem?_map, h1] at this
      exact (Option.some.inj this).symm
    have hyl : y.2.length = 32 := by rw [hy]; exact kPay_length _
    have hvg := vals_get hP1
    rw [hyl] at hvg
    have hcg := conts_get hP1
    rw [hy] at hcg
    have hg := bs_cut (stepsL_get hok h1)
    have hL := stL'_length hh.1 hh.2
    have htl : (bs (stL' h.1 h.2)).length = 192 := by rw [bs_length, hL]
    have hts : (bs (stL' h.1 h.2)).toArray.size = 192 := by rw [List.size_toArray, htl]
    have hml : (bs (kMac h.2)).length = 32 := by rw [bs_length, kMac_length]
    have hsl2 : (bs (kStream h.2)).length = 32 := by rw [bs_length, kStream_length]
    have hbl : (bs (kBlind h.2)).length = 32 := by rw [bs_length, kBlind_length]
    have e0 := bs_ext (stL' h.1 h.2) 0 32
    have e1 := bs_ext (stL' h.1 h.2) 32 32
    have e3 := bs_ext (stL' h.1 h.2) 96 32
    rw [stL'_mac hh.2] at e0
    rw [stL'_stream hh.2] at e1
    rw [stL'_blind hh.2] at e3
    have f0 := stepsL_sub hok h1 (stL'_mac hh.2) (by omega)
    have f1 := stepsL_sub hok h1 (stL'_stream hh.2) (by omega)
    have f3 := stepsL_sub hok h1 (stL'_blind hh.2) (by omega)
    (repeat refine g_seq ?_); refine g_block ?_
    (repeat refine g_seq ?_)
    refine g_region ?_
    refine g_pu rfl rfl rfl (pu_move rfl rfl) ?_
    refine g_pu rfl rfl rfl (pu_atM i (s := 192) (L := bs (stepsL T)) (fun w' hm => Ow.rd (t := 21) rfl hm) rfl rfl rfl rfl hlt (by omega)) ?_
    refine g_pu rfl rfl rfl (pu_rdMA (L := bs (stepsL T)) (j := i * 192) (s := 192) (fun w' hm => Ow.rd (t := 21) rfl hm) rfl rfl (by omega) (by omega)) ?_
    rw [hg]
    refine g_lo [11] rfl rfl rfl rfl (lo_alloc rfl) (fun b11 hb11 => ?_)
    refine g_pu rfl rfl rfl (pu_assign rfl rfl) ?_
    refine g_storeL 11 (s := 192) (C := bs (stL' h.1 h.2)) rfl rfl rfl rfl rfl rfl htl (by rw [List.length_replicate]) (oneCell_bs _) ?_
    refine g_nil ?_
    (repeat refine g_seq ?_)
    refine g_any (54, []) ?_
    refine a_pu 0 rfl rfl rfl rfl (pu_loadW 11 (L := bs (stL' h.1 h.2)) rfl rfl rfl htl) rfl rfl (by kernel_rfl) ?_
    refine a_pu 1 rfl rfl rfl rfl (pu_move rfl rfl) rfl rfl (by kernel_rfl) ?_
    refine a_pu 2 rfl rfl rfl rfl (pu_move rfl rfl) rfl rfl (by kernel_rfl) ?_
    refine a_pu 3 rfl rfl rfl rfl (pu_atM i (s := 192) (L := bs (stepsL T)) (fun w' hm => Ow.rd (t := 27) rfl hm) rfl rfl rfl rfl hlt (by omega)) rfl rfl (by kernel_rfl) ?_
    refine a_pu 4 rfl rfl rfl rfl (pu_rdMA (L := bs (stepsL T)) (j := i * 192) (s := 192) (fun w' hm => Ow.rd (t := 27) rfl hm) rfl rfl (by omega) (by omega)) rfl rfl (by kernel_rfl) ?_
    rw [hg]
    refine a_do 5 59 [] (does_call rfl rfl rfl rfl rfl (fun w' hm => is12_b w' hL)) rfl rfl (by kernel_rfl) rfl rfl (by kernel_rfl) (by kernel_rfl) (by kernel_rfl) rfl (fun p hp => by cases hp) ?_; rintro v_ cs_ ⟨_, _, rfl, rfl⟩
    refine a_pu 6 rfl rfl rfl rfl (pu_not rfl rfl) rfl rfl (by kernel_rfl) ?_
    refine a_pu 7 rfl rfl rfl rfl (pu_move rfl rfl) rfl rfl (by kernel_rfl) ?_
    first | refine a_pass 8 rfl rfl rfl rfl rfl rfl (by kernel_rfl) ?_ | refine a_pu 8 rfl rfl rfl rfl (pu_fieldAddr (by decide) rfl rfl) rfl rfl (by kernel_rfl) ?_
    first | refine a_pass 9 rfl rfl rfl rfl rfl rfl (by kernel_rfl) ?_ | refine a_pu 9 rfl rfl rfl rfl (pu_fieldAddr (by decide) rfl rfl) rfl rfl (by kernel_rfl) ?_
    refine a_pu 10 rfl rfl rfl rfl (pu_loadE 11 (bs (kMac h.2)).toArray rfl rfl rfl (by rw [hts]; omega) e0) rfl rfl (by kernel_rfl) ?_
    first | refine a_pass 11 rfl rfl rfl rfl rfl rfl (by kernel_rfl) ?_ | refine a_pu 11 rfl rfl rfl rfl (pu_move rfl rfl) rfl rfl (by kernel_rfl) ?_
    first | refine a_pass 12 rfl rfl rfl rfl rfl rfl (by kernel_rfl) ?_ | refine a_pu 12 rfl rfl rfl rfl (pu_move rfl rfl) rfl rfl (by kernel_rfl) ?_
    refine a_pu 13 rfl rfl rfl rfl (pu_atM i (s := 192) (L := bs (stepsL T)) (fun w' hm => Ow.rd (t := 27) rfl hm) rfl rfl rfl rfl hlt (by omega)) rfl rfl (by kernel_rfl) ?_
    refine a_pu 14 rfl rfl rfl rfl (pu_fieldM (L := bs (stepsL T)) (fun w' hm => Ow.rd (t := 27) rfl hm) (by omega) (by decide) rfl rfl) rfl rfl (by kernel_rfl) ?_
    refine a_pu 15 rfl rfl rfl rfl (pu_fieldM (L := bs (stepsL T)) (fun w' hm => Ow.rd (t := 27) rfl hm) (by omega) (by decide) rfl rfl) rfl rfl (by kernel_rfl) ?_
    refine a_pu 16 rfl rfl rfl rfl (pu_rdMA (L := bs (stepsL T)) (j := i * 192 + 0) (s := 32) (fun w' hm => Ow.rd (t := 27) rfl hm) rfl rfl (by omega) (by omega)) rfl rfl (by kernel_rfl) ?_
    rw [f0]
    refine a_pu 17 rfl rfl rfl rfl (pu_neqA_f (a := bs (kMac h.2)) (b := bs (kMac h.2)) rfl rfl rfl rfl (all_bs _) hml) rfl rfl (by kernel_rfl) ?_
    first | refine a_pu 18 rfl rfl rfl rfl (pu_pick_t rfl rfl rfl) rfl rfl (by kernel_rfl) ?_ | refine a_pu 18 rfl rfl rfl rfl (pu_pick_f rfl rfl rfl) rfl rfl (by kernel_rfl) ?_
    refine a_pu 19 rfl rfl rfl rfl (pu_move rfl rfl) rfl rfl (by kernel_rfl) ?_
    first | refine a_pass 20 rfl rfl rfl rfl rfl rfl (by kernel_rfl) ?_ | refine a_pu 20 rfl rfl rfl rfl (pu_fieldAddr (by decide) rfl rfl) rfl rfl (by kernel_rfl) ?_
    first | refine a_pass 21 rfl rfl rfl rfl rfl rfl (by kernel_rfl) ?_ | refine a_pu 21 rfl rfl rfl rfl (pu_fieldAddr (by decide) rfl rfl) rfl rfl (by kernel_rfl) ?_
    refine a_pu 22 rfl rfl rfl rfl (pu_loadE 11 (bs (kStream h.2)).toArray rfl rfl rfl (by rw [hts]; omega) e1) rfl rfl (by kernel_rfl) ?_
    first | refine a_pass 23 rfl rfl rfl rfl rfl rfl (by kernel_rfl) ?_ | refine a_pu 23 rfl rfl rfl rfl (pu_move rfl rfl) rfl rfl (by kernel_rfl) ?_
    first | refine a_pass 24 rfl rfl rfl rfl rfl rfl (by kernel_rfl) ?_ | refine a_pu 24 rfl rfl rfl rfl (pu_move rfl rfl) rfl rfl (by kernel_rfl) ?_
    refine a_pu 25 rfl rfl rfl rfl (pu_atM i (s := 192) (L := bs (stepsL T)) (fun w' hm => Ow.rd (t := 27) rfl hm) rfl rfl rfl rfl hlt (by omega)) rfl rfl (by kernel_rfl) ?_
    refine a_pu 26 rfl rfl rfl rfl (pu_fieldM (L := bs (stepsL T)) (fun w' hm => Ow.rd (t := 27) rfl hm) (by omega) (by decide) rfl rfl) rfl rfl (by kernel_rfl) ?_
    refine a_pu 27 rfl rfl rfl rfl (pu_fieldM (L := bs (stepsL T)) (fun w' hm => Ow.rd (t := 27) rfl hm) (by omega) (by decide) rfl rfl) rfl rfl (by kernel_rfl) ?_
    refine a_pu 28 rfl rfl rfl rfl (pu_rdMA (L := bs (stepsL T)) (j := i * 192 + 32) (s := 32) (fun w' hm => Ow.rd (t := 27) rfl hm) rfl rfl (by omega) (by omega)) rfl rfl (by kernel_rfl) ?_
    rw [f1]
    refine a_pu 29 rfl rfl rfl rfl (pu_neqA_f (a := bs (kStream h.2)) (b := bs (kStream h.2)) rfl rfl rfl rfl (all_bs _) hsl2) rfl rfl (by kernel_rfl) ?_
    first | refine a_pu 30 rfl rfl rfl rfl (pu_pick_t rfl rfl rfl) rfl rfl (by kernel_rfl) ?_ | refine a_pu 30 rfl rfl rfl rfl (pu_pick_f rfl rfl rfl) rfl rfl (by kernel_rfl) ?_
    refine a_pu 31 rfl rfl rfl rfl (pu_move rfl rfl) rfl rfl (by kernel_rfl) ?_
    first | refine a_pass 32 rfl rfl rfl rfl rfl rfl (by kernel_rfl) ?_ | refine a_pu 32 rfl rfl rfl rfl (pu_fieldAddr (by decide) rfl rfl) rfl rfl (by kernel_rfl) ?_
    first | refine a_pass 33 rfl rfl rfl rfl rfl rfl (by kernel_rfl) ?_ | refine a_pu 33 rfl rfl rfl rfl (pu_fieldAddr (by decide) rfl rfl) rfl rfl (by kernel_rfl) ?_
    refine a_pu 34 rfl rfl rfl rfl (pu_loadE 11 (bs (kBlind h.2)).toArray rfl rfl rfl (by rw [hts]; omega) e3) rfl rfl (by kernel_rfl) ?_
    first | refine a_pass 35 rfl rfl rfl rfl rfl rfl (by kernel_rfl) ?_ | refine a_pu 35 rfl rfl rfl rfl (pu_move rfl rfl) rfl rfl (by kernel_rfl) ?_
    first | refine a_pass 36 rfl rfl rfl rfl rfl rfl (by kernel_rfl) ?_ | refine a_pu 36 rfl rfl rfl rfl (pu_move rfl rfl) rfl rfl (by kernel_rfl) ?_
    refine a_pu 37 rfl rfl rfl rfl (pu_atM i (s := 192) (L := bs (stepsL T)) (fun w' hm => Ow.rd (t := 27) rfl hm) rfl rfl rfl rfl hlt (by omega)) rfl rfl (by kernel_rfl) ?_
    refine a_pu 38 rfl rfl rfl rfl (pu_fieldM (L := bs (stepsL T)) (fun w' hm => Ow.rd (t := 27) rfl hm) (by omega) (by decide) rfl rfl) rfl rfl (by kernel_rfl) ?_
    refine a_pu 39 rfl rfl rfl rfl (pu_fieldM (L := bs (stepsL T)) (fun w' hm => Ow.rd (t := 27) rfl hm) (by omega) (by decide) rfl rfl) rfl rfl (by kernel_rfl) ?_
    refine a_pu 40 rfl rfl rfl rfl (pu_rdMA (L := bs (stepsL T)) (j := i * 192 + 96) (s := 32) (fun w' hm => Ow.rd (t := 27) rfl hm) rfl rfl (by omega) (by omega)) rfl rfl (by kernel_rfl) ?_
    rw [f3]
    refine a_pu 41 rfl rfl rfl rfl (pu_neqA_f (a := bs (kBlind h.2)) (b := bs (kBlind h.2)) rfl rfl rfl rfl (all_bs _) hbl) rfl rfl (by kernel_rfl) ?_
    first | refine a_pu 42 rfl rfl rfl rfl (pu_pick_t rfl rfl rfl) rfl rfl (by kernel_rfl) ?_ | refine a_pu 42 rfl rfl rfl rfl (pu_pick_f rfl rfl rfl) rfl rfl (by kernel_rfl) ?_
    refine a_pu 43 rfl rfl rfl rfl (pu_move rfl rfl) rfl rfl (by kernel_rfl) ?_
    first | refine a_pass 44 rfl rfl rfl rfl rfl rfl (by kernel_rfl) ?_ | refine a_pu 44 rfl rfl rfl rfl (pu_move rfl rfl) rfl rfl (by kernel_rfl) ?_
    first | refine a_pass 45 rfl rfl rfl rfl rfl rfl (by kernel_rfl) ?_ | refine a_pu 45 rfl rfl rfl rfl (pu_move rfl rfl) rfl rfl (by kernel_rfl) ?_
    refine a_pu 46 rfl rfl rfl rfl (pu_atM1 i (L := vals P) (fun w' hm => Ow.rd (t := 41) rfl hm) rfl rfl rfl rfl hlt (by rw [vals_length]; omega)) rfl rfl (by kernel_rfl) ?_
    refine a_pu 47 rfl rfl rfl rfl (pu_rdM (L := vals P) (fun w' hm => Ow.rd (t := 41) rfl hm) rfl rfl hvg) rfl rfl (by kernel_rfl) ?_
    first | refine a_pass 48 rfl rfl rfl rfl rfl rfl (by kernel_rfl) ?_ | refine a_pu 48 rfl rfl rfl rfl (pu_fieldAddr (by decide) rfl rfl) rfl rfl (by kernel_rfl) ?_
    first | refine a_pass 49 rfl rfl rfl rfl rfl rfl (by kernel_rfl) ?_ | refine a_pu 49 rfl rfl rfl rfl (pu_fieldAddr (by decide) rfl rfl) rfl rfl (by kernel_rfl) ?_
    refine a_pu 50 rfl rfl rfl rfl (pu_sliceA rfl rfl) rfl rfl (by kernel_rfl) ?_
    refine a_do 51 105 [] (does_call rfl rfl rfl rfl rfl (fun w' hm => Equal_b w' y.1.c 32 (a := kPay h.2) (b := kPay h.2) ((BagC.byl 41 141 rfl rfl hm hPl (fun x hx => by have := hPs x hx; omega) (by omega)).by hvg hcg) (By.sub 11 rfl hm (stL'_pay hh.2) (kPay_length _) (by omega)))) rfl rfl (by kernel_rfl) rfl rfl (by kernel_rfl) (by kernel_rfl) (by kernel_rfl) rfl (fun p hp => by cases hp) ?_; rintro v_ cs_ ⟨_, _, rfl, rfl⟩
    rw [decide_eq_true (rfl : kPay h.2 = kPay h.2)]
    first | refine a_pass 52 rfl rfl rfl rfl rfl rfl (by kernel_rfl) ?_ | refine a_pu 52 rfl rfl rfl rfl (pu_not rfl rfl) rfl rfl (by kernel_rfl) ?_
    first | refine a_pu 53 rfl rfl rfl rfl (pu_pick_t rfl rfl rfl) rfl rfl (by kernel_rfl) ?_ | refine a_pu 53 rfl rfl rfl rfl (pu_pick_f rfl rfl rfl) rfl rfl (by kernel_rfl) ?_
    refine a_done (by kernel_rfl) ?_
    (repeat refine g_seq ?_)
    refine g_cond_f rfl (g_skip ?_)
    by_cases hlast : i + 1 < N
    · have h2 : T[i + 1]? = some T[i + 1] := List.getElem?_eq_getElem (by omega)
      have hm2 := List.getElem_mem (l := T) (n := i + 1) (by omega)
      generalize T[i + 1] = g at h2 hm2
      have hg2 := hok g hm2
      have hnx := hnext i h g h1 h2
      have hE : xmE (kBlind h.2) h.1 = 0 := (hbas h hmem).e (kBlind_length _)
      have hgb : (bs g.1).length = 32 := by rw [bs_length, hg2.1]
      have f4 := stepsL_sub hok h2 (stL'_alpha hg2.1) (by omega)
      (repeat refine g_seq ?_)
      refine g_region ?_
      refine g_pu rfl rfl rfl (pu_move rfl rfl) ?_
      refine g_pu rfl rfl rfl (pu_addI rfl rfl rfl (by omega)) ?_
      refine g_pu rfl rfl rfl (pu_move rfl rfl) ?_
      first | refine g_pu rfl rfl rfl (pu_len rfl rfl) ?_ | refine g_pu rfl rfl rfl (pu_lenS rfl rfl) ?_
      refine g_pu rfl rfl rfl (pu_lss_t rfl rfl rfl (by omega)) ?_
      refine g_nil ?_
      (repeat refine g_seq ?_)
      refine g_cond_t rfl ?_
      (repeat refine g_seq ?_)
      refine g_region ?_
      refine g_pu rfl rfl rfl (pu_loadW 11 (L := bs (stL' h.1 h.2)) rfl rfl rfl htl) ?_
      refine g_call [] rfl rfl rfl rfl rfl rfl (fun w' hm => Next12_b w' hh.1 hh.2) (fun _ _ => ?_)
      rw [← hnx, hE]
      refine g_pu rfl rfl rfl (pu_move rfl rfl) ?_
      refine g_pu rfl rfl rfl (pu_extract rfl rfl rfl) ?_
      refine g_pu rfl rfl rfl (pu_extract rfl rfl rfl) ?_
      refine g_lo [12] rfl rfl rfl rfl (lo_alloc rfl) (fun b12 hb12 => ?_)
      refine g_storeL 12 (s := 32) (C := bs g.1) rfl rfl rfl rfl rfl rfl hgb rfl (oneCell_bs _) ?_
      refine g_pu rfl rfl rfl (pu_assign rfl rfl) ?_
      refine g_nil ?_
      (repeat refine g_seq ?_)
      refine g_any (12, []) ?_
      refine a_pu 0 rfl rfl rfl rfl (pu_move rfl rfl) rfl rfl (by kernel_rfl) ?_
      first | refine a_pu 1 rfl rfl rfl rfl (pu_neq_t rfl rfl rfl (by omega)) rfl rfl (by kernel_rfl) ?_ | refine a_pu 1 rfl rfl rfl rfl (pu_neq_f rfl rfl rfl (by omega)) rfl rfl (by kernel_rfl) ?_ | refine a_pu 1 rfl rfl rfl rfl (pu_neq rfl rfl rfl) rfl rfl (by kernel_rfl) ?_
      refine a_pu 2 rfl rfl rfl rfl (pu_move rfl rfl) rfl rfl (by kernel_rfl) ?_
      refine a_pu 3 rfl rfl rfl rfl (pu_loadW 12 (L := bs g.1) rfl rfl rfl hgb) rfl rfl (by kernel_rfl) ?_
      first | refine a_pass 4 rfl rfl rfl rfl rfl rfl (by kernel_rfl) ?_ | refine a_pu 4 rfl rfl rfl rfl (pu_move rfl rfl) rfl rfl (by kernel_rfl) ?_
      first | refine a_pass 5 rfl rfl rfl rfl rfl rfl (by kernel_rfl) ?_ | refine a_pu 5 rfl rfl rfl rfl (pu_move rfl rfl) rfl rfl (by kernel_rfl) ?_
      first | refine a_pass 6 rfl rfl rfl rfl rfl rfl (by kernel_rfl) ?_ | refine a_pu 6 rfl rfl rfl rfl (pu_addI rfl rfl rfl (by omega)) rfl rfl (by kernel_rfl) ?_
      refine a_pu 7 rfl rfl rfl rfl (pu_atM (i + 1) (s := 192) (L := bs (stepsL T)) (fun w' hm => Ow.rd (t := 21) rfl hm) rfl rfl rfl rfl hlast (by omega)) rfl rfl (by kernel_rfl) ?_
      refine a_pu 8 rfl rfl rfl rfl (pu_fieldM (L := bs (stepsL T)) (fun w' hm => Ow.rd (t := 21) rfl hm) (by omega) (by decide) rfl rfl) rfl rfl (by kernel_rfl) ?_
      refine a_pu 9 rfl rfl rfl rfl (pu_rdMA (L := bs (stepsL T)) (j := (i + 1) * 192 + 128) (s := 32) (fun w' hm => Ow.rd (t := 21) rfl hm) rfl rfl (by omega) (by omega)) rfl rfl (by kernel_rfl) ?_
      rw [f4]
      refine a_pu 10 rfl rfl rfl rfl (pu_neqA_f (a := bs g.1) (b := bs g.1) rfl rfl rfl rfl (all_bs _) hgb) rfl rfl (by kernel_rfl) ?_
      first | refine a_pu 11 rfl rfl rfl rfl (pu_pick_t rfl rfl rfl) rfl rfl (by kernel_rfl) ?_ | refine a_pu 11 rfl rfl rfl rfl (pu_pick_f rfl rfl rfl) rfl rfl (by kernel_rfl) ?_
      refine a_done (by kernel_rfl) ?_
      (repeat refine g_seq ?_)
      refine g_cond_f rfl (g_skip ?_)
      refine g_blk ?_
      (repeat refine g_seq ?_)
      refine g_region ?_
      refine g_pu rfl rfl rfl (pu_addI rfl rfl rfl (by omega)) ?_
      refine g_pu rfl rfl rfl (pu_move rfl rfl) ?_
      refine g_nil ?_
      exact g_round (i + 1) (by omega) (by omega) ⟨rfl, rfl, rfl, rfl, rfl, rfl, trivial⟩ ⟨rfl, rfl, rfl, rfl, trivial⟩
    · (repeat refine g_seq ?_)
      refine g_region ?_
      refine g_pu rfl rfl rfl (pu_move rfl rfl) ?_
      refine g_pu rfl rfl rfl (pu_addI rfl rfl rfl (by omega)) ?_
      refine g_pu rfl rfl rfl (pu_move rfl rfl) ?_
      first | refine g_pu rfl rfl rfl (pu_len rfl rfl) ?_ | refine g_pu rfl rfl rfl (pu_lenS rfl rfl) ?_
      refine g_pu rfl rfl rfl (pu_lss_f rfl rfl rfl (by omega)) ?_
      refine g_nil ?_
      (repeat refine g_seq ?_)
      refine g_cond_f rfl (g_skip ?_)
      refine g_blk ?_
      (repeat refine g_seq ?_)
      refine g_region ?_
      refine g_pu rfl rfl rfl (pu_addI rfl rfl rfl (by omega)) ?_
      refine g_pu rfl rfl rfl (pu_move rfl rfl) ?_
      refine g_nil ?_
      exact g_round (i + 1) (by omega) (by omega) ⟨rfl, rfl, rfl, rfl, rfl, rfl, trivial⟩ ⟨rfl, rfl, rfl, rfl, trivial⟩
  · (repeat refine g_seq ?_)
    refine g_region ?_
    first | refine g_pu rfl rfl rfl (pu_lss_t rfl rfl rfl (by omega)) ?_ | refine g_pu rfl rfl rfl (pu_lss_f rfl rfl rfl (by omega)) ?_ | refine g_pu rfl rfl rfl (pu_lss rfl rfl rfl) ?_
    refine g_nil ?_
    (repeat refine g_seq ?_)
    refine g_cond_f rfl (g_exit rfl ?_)
    (repeat refine g_seq ?_)
    refine g_region ?_
    refine g_pu rfl rfl rfl (pu_assign rfl rfl) ?_
    refine g_nil ?_
    exact g_ret1 rfl rfl (fun w' hm => ⟨(), trivial, rfl, hm.grows [] trivial rfl⟩)
end Go.Sx

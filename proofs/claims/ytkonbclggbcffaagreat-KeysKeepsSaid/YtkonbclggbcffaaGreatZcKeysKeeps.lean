import Derived.Test.YtkonbclggbcffaaGreatZcKeysPeels
import Derived.Test.YtkonbclggbcffaaGreatZcYC
set_option linter.unusedVariables false
set_option linter.unusedSimpArgs false
/-
  KeysKeeps: no call of keys changes or keeps what it is handed. No condition.
-/
namespace Go.Sx
open Go Go.Proofs

theorem HxL.tail2 {y1 y2 : Itm} {v1 v2 : Value} {n1 n2 : Nat} {X Y : List Otm} (h0 : HxL (X.length + Y.length) [y1, y2] [v1, v2] [n1, n2]) (hX : (∀ x ∈ X, x.2.length ≤ x.1.c) ∧ ∀ x ∈ X, x.2.length ≤ 140737488355200) (hY : (∀ x ∈ Y, x.2.length ≤ x.1.c) ∧ ∀ x ∈ Y, x.2.length ≤ 140737488355200) :
    HxL 0 (List.flatten [itms 0 X, itms X.length Y, [y1], [y2]]) (vals X ++ vals Y ++ [v1, v2]) (lens' X ++ lens' Y ++ [n1, n2]) := by
  rw [show List.flatten [itms 0 X, itms X.length Y, [y1], [y2]] = itms 0 X ++ itms X.length Y ++ [y1, y2] by simp]
  refine HxL.app (HxL.app (HxL.otm hX.1 hX.2) ?_) ?_
  · rw [itms_length, Nat.zero_add]
    exact HxL.otm hY.1 hY.2
  · rw [List.length_append, itms_length, itms_length, Nat.zero_add]
    exact h0
theorem rch_one (k u : List (BitVec 8)) : (rchP k [u]).2 = [] ∨ ∃ h, (rchP k [u]).2 = [h] := by
  have h5 : (rchP k [u]).2.length ≤ 1 := by
    unfold rchP
    split
    · exact rchR_len [u] _ _
    · simp
  match h : (rchP k [u]).2, h5 with
  | [], _ => exact .inl rfl
  | [a], _ => exact .inr ⟨a, rfl⟩

theorem KeysKeeps_spec (w : World) {p q : Option Addr} {n m : Nat} (c d : Nat) {k u : List (BitVec 8)} (hk : By w p n k) (hu : By w q m u) (hnb : n ≤ 140737488351232) (hmb : m ≤ 140737488351232) : Spec Tryz.prog 5 #[.slice p n c, .slice q m d] w (σ := Unit) (fun _ => True) (fun _ => .bool true) Nob (fun _ => []) := by
  refine enter Tryz.func5 rfl rfl (Mem.start w) ?_
  have hkl := hk.len
  have hul := hu.len
  have hsa := spareL_length k 40
  have hsb := spareL_length u 40
  have hpl := plV_length k u
  have hpb : (bs (plV k u)).length = 192 := by rw [bs_length, hpl]
  (repeat refine g_seq ?_)
  refine g_region ?_
  refine g_pu rfl rfl rfl (pu_assign rfl rfl) ?_
  refine g_nil ?_
  (repeat refine g_seq ?_)
  refine g_region ?_
  refine g_call [] rfl rfl rfl rfl rfl rfl (fun w' hm => awake12_b w') (fun _ _ => ?_)
  refine g_pu rfl rfl rfl (pu_not rfl rfl) ?_
  refine g_nil ?_
  (repeat refine g_seq ?_)
  refine g_cond_f rfl (g_skip ?_)
  (repeat refine g_seq ?_)
  refine g_region ?_
  refine g_pu rfl rfl rfl (pu_move rfl rfl) ?_
  refine g_call [21] rfl rfl rfl rfl rfl rfl (fun w' hm => Spare_b w' c (hk.m hm)) (fun x21 _ => ?_)
  refine g_pu rfl rfl rfl (pu_move rfl rfl) ?_
  refine g_pu rfl rfl rfl (pu_extract rfl rfl rfl) ?_
  refine g_pu rfl rfl rfl (pu_extract rfl rfl rfl) ?_
  refine g_pu rfl rfl rfl (pu_assign rfl rfl) ?_
  refine g_pu rfl rfl rfl (pu_assign rfl rfl) ?_
  refine g_nil ?_
  (repeat refine g_seq ?_)
  refine g_region ?_
  refine g_pu rfl rfl rfl (pu_move rfl rfl) ?_
  refine g_call [26] rfl rfl rfl rfl rfl rfl (fun w' hm => Spare_b w' d (hu.m hm)) (fun x26 _ => ?_)
  refine g_pu rfl rfl rfl (pu_move rfl rfl) ?_
  refine g_pu rfl rfl rfl (pu_extract rfl rfl rfl) ?_
  refine g_pu rfl rfl rfl (pu_extract rfl rfl rfl) ?_
  refine g_pu rfl rfl rfl (pu_assign rfl rfl) ?_
  refine g_pu rfl rfl rfl (pu_assign rfl rfl) ?_
  refine g_nil ?_
  (repeat refine g_seq ?_)
  refine g_region ?_
  refine g_pu rfl rfl rfl (pu_move rfl rfl) ?_
  refine g_pu rfl rfl rfl (pu_move rfl rfl) ?_
  refine g_lo [32] rfl rfl rfl rfl (lo_buildSlice rfl rfl (by decide) (by decide) rfl rfl) (fun q32 hb32 => ?_)
  refine g_call [33] rfl rfl rfl rfl rfl rfl (fun w' hm => Schedule_b w' _ 1 (pubs := [u]) (By.spare 21 rfl hm hkl (by omega)) ⟨hm.rowA 32 rfl, rfl, All2.cons ⟨_, _, _, rfl, By.spare 26 rfl hm hul (by omega), fun _ _ => trivial⟩ All2.nil, by omega⟩) (fun x33 _ => ?_)
  rw [schP_rch]
  refine g_pu rfl rfl rfl (pu_move rfl rfl) ?_
  refine g_pu rfl rfl rfl (pu_extract rfl rfl rfl) ?_
  refine g_pu rfl rfl rfl (pu_extract rfl rfl rfl) ?_
  refine g_pu rfl rfl rfl (pu_assign rfl rfl) ?_
  refine g_pu rfl rfl rfl (pu_assign rfl rfl) ?_
  refine g_nil ?_
  (repeat refine g_seq ?_)
  refine g_region ?_
  refine g_pu rfl rfl rfl (pu_move rfl rfl) ?_
  refine g_call [] rfl rfl rfl rfl rfl rfl (fun w' hm => Of12_b w' _ (By.spare 21 rfl hm hkl (by omega))) (fun _ _ => ?_)
  refine g_nil ?_
  (repeat refine g_seq ?_)
  refine g_region ?_
  refine g_pu rfl rfl rfl (pu_move rfl rfl) ?_
  refine g_pu rfl rfl rfl (pu_move rfl rfl) ?_
  refine g_call [] rfl rfl rfl rfl rfl rfl (fun w' hm => Peel_b w' _ _ (By.spare 21 rfl hm hkl (by omega)) (By.spare 26 rfl hm hul (by omega))) (fun _ _ => ?_)
  refine g_pu rfl rfl rfl (pu_move rfl rfl) ?_
  refine g_pu rfl rfl rfl (pu_extract rfl rfl rfl) ?_
  refine g_pu rfl rfl rfl (pu_extract rfl rfl rfl) ?_
  refine g_lo [11] rfl rfl rfl rfl (lo_alloc rfl) (fun b11 hb11 => ?_)
  refine g_storeL 11 (s := 192) (C := bs (plV k u)) rfl rfl rfl rfl rfl rfl hpb (by rw [List.length_replicate]) (oneCell_bs _) ?_
  refine g_pu rfl rfl rfl (pu_assign rfl rfl) ?_
  refine g_nil ?_
  (repeat refine g_seq ?_)
  refine g_region ?_
  refine g_pu rfl rfl rfl (pu_move rfl rfl) ?_
  refine g_pu rfl rfl rfl (pu_move rfl rfl) ?_
  refine g_call [] rfl rfl rfl rfl rfl rfl (fun w' hm => Kept_b w' _ c (By.full 21 rfl hm (by rw [hsa, hkl]) (by omega)) (hk.m hm)) (fun _ _ => ?_)
  refine g_pu rfl rfl rfl (pu_not rfl rfl) ?_
  refine g_pu rfl rfl rfl (pu_move rfl rfl) ?_
  first | refine g_pass rfl rfl rfl ?_ | refine g_pu rfl rfl rfl (pu_move rfl rfl) ?_
  first | refine g_pass rfl rfl rfl ?_ | refine g_pu rfl rfl rfl (pu_move rfl rfl) ?_
  refine g_call [] rfl rfl rfl rfl rfl rfl (fun w' hm => Kept_b w' _ d (By.full 26 rfl hm (by rw [hsb, hul]) (by omega)) (hu.m hm)) (fun _ _ => ?_)
  first | refine g_pass rfl rfl rfl ?_ | refine g_pu rfl rfl rfl (pu_not rfl rfl) ?_
  first | refine g_pu rfl rfl rfl (pu_pick_t rfl rfl rfl) ?_ | refine g_pu rfl rfl rfl (pu_pick_f rfl rfl rfl) ?_
  refine g_nil ?_
  (repeat refine g_seq ?_)
  refine g_cond_f rfl (g_skip ?_)
  (repeat refine g_seq ?_)
  refine g_region ?_
  refine g_pu rfl rfl rfl (pu_move rfl rfl) ?_
  refine g_callW [21] [21] rfl rfl rfl rfl rfl rfl (fun j hj => ⟨21, by simp, _, rfl, hj⟩) (fun w' hm => OverP_b w' x21 (n + 40) (l := k) (hm.holds 21 _ rfl) hkl (by omega)) (fun _ _ => ?_)
  refine g_nil ?_
  (repeat refine g_seq ?_)
  refine g_region ?_
  refine g_pu rfl rfl rfl (pu_move rfl rfl) ?_
  refine g_callW [26] [26] rfl rfl rfl rfl rfl rfl (fun j hj => ⟨26, by simp, _, rfl, hj⟩) (fun w' hm => OverP_b w' x26 (m + 40) (l := u) (hm.holds 26 _ rfl) hul (by omega)) (fun _ _ => ?_)
  refine g_nil ?_
  (repeat refine g_seq ?_)
  refine g_region ?_
  refine g_pu rfl rfl rfl (pu_move rfl rfl) ?_
  refine g_pu rfl rfl rfl (pu_move rfl rfl) ?_
  refine g_lo [61] rfl rfl rfl rfl (lo_buildSlice rfl rfl (by decide) (by decide) rfl rfl) (fun b61 hb61 => ?_)
  refine g_call [62] rfl rfl rfl rfl rfl rfl (fun w' hm => RSchedule_b w' c 1 (pubs := [u]) (hk.m hm) ⟨hm.rowA 61 rfl, rfl, All2.cons ⟨_, _, _, rfl, hu.m hm, fun _ _ => trivial⟩ All2.nil, by omega⟩) (fun x62 _ => ?_)
  refine g_pu rfl rfl rfl (pu_move rfl rfl) ?_
  refine g_pu rfl rfl rfl (pu_extract rfl rfl rfl) ?_
  refine g_pu rfl rfl rfl (pu_extract rfl rfl rfl) ?_
  refine g_pu rfl rfl rfl (pu_assign rfl rfl) ?_
  refine g_pu rfl rfl rfl (pu_assign rfl rfl) ?_
  refine g_nil ?_
  (repeat refine g_seq ?_)
  refine g_region ?_
  refine g_pu rfl rfl rfl (pu_move rfl rfl) ?_
  refine g_pu rfl rfl rfl (pu_move rfl rfl) ?_
  refine g_call [] rfl rfl rfl rfl rfl rfl (fun w' hm => RPeel_b w' c d (hk.m hm) (hu.m hm)) (fun _ _ => ?_)
  refine g_pu rfl rfl rfl (pu_move rfl rfl) ?_
  refine g_pu rfl rfl rfl (pu_extract rfl rfl rfl) ?_
  refine g_pu rfl rfl rfl (pu_extract rfl rfl rfl) ?_
  refine g_lo [15] rfl rfl rfl rfl (lo_alloc rfl) (fun b15 hb15 => ?_)
  refine g_storeL 15 (s := 192) (C := bs (plV k u)) rfl rfl rfl rfl rfl rfl hpb (by rw [List.length_replicate]) (oneCell_bs _) ?_
  refine g_pu rfl rfl rfl (pu_assign rfl rfl) ?_
  refine g_nil ?_
  have hok := rchP_ok (k := k) (pubs := [u])
  have hol : (bs (overL k n ++ (List.range 40).map fun t => spareB (k.length + t))).length = n + 40 := by rw [bs_length, List.length_append, overL_length]; simp [hkl]
  have hol2 : (bs (overL u m ++ (List.range 40).map fun t => spareB (u.length + t))).length = m + 40 := by rw [bs_length, List.length_append, overL_length]; simp [hul]
  have small : ∀ {T : List HopS} {X : List Otm}, conts X = T.map (fun h => kPay h.2) → (∀ x ∈ X, x.2.length ≤ 140737488355200) ∧ X.length = T.length := fun {T X} h => ⟨fun x hx => by
    have h1 : x.2 ∈ conts X := List.mem_map.2 ⟨x, hx, rfl⟩
    rw [h] at h1
    obtain ⟨g, _, e⟩ := List.mem_map.1 h1
    rw [← e, kPay_length]; omega, by have := congrArg List.length h; rw [conts_length, List.length_map] at this; exact this⟩
  rcases rch_one k u with hT | ⟨h, hT⟩
  · rw [hT] at hok ⊢
    (repeat refine g_seq ?_)
    refine g_any (36, []) ?_
    refine a_pu 0 rfl rfl rfl rfl (pu_move rfl rfl) rfl rfl (by kernel_rfl) ?_
    refine a_pu 1 rfl rfl rfl rfl (pu_move rfl rfl) rfl rfl (by kernel_rfl) ?_
    refine a_pu 2 rfl rfl rfl rfl (pu_neq_f rfl rfl rfl (fun h => h rfl)) rfl rfl (by kernel_rfl) ?_
    refine a_pu 3 rfl rfl rfl rfl (pu_move rfl rfl) rfl rfl (by kernel_rfl) ?_
    first | refine a_pass 4 rfl rfl rfl rfl rfl rfl (by kernel_rfl) ?_ | refine a_pu 4 rfl rfl rfl rfl (pu_move rfl rfl) rfl rfl (by kernel_rfl) ?_
    first | refine a_pass 5 rfl rfl rfl rfl rfl rfl (by kernel_rfl) ?_ | refine a_pu 5 rfl rfl rfl rfl (pu_move rfl rfl) rfl rfl (by kernel_rfl) ?_
    refine a_pu 6 rfl rfl rfl rfl (pu_neq_f rfl rfl rfl (fun h => h rfl)) rfl rfl (by kernel_rfl) ?_
    first | refine a_pu 7 rfl rfl rfl rfl (pu_pick_t rfl rfl rfl) rfl rfl (by kernel_rfl) ?_ | refine a_pu 7 rfl rfl rfl rfl (pu_pick_f rfl rfl rfl) rfl rfl (by kernel_rfl) ?_
    refine a_pu 8 rfl rfl rfl rfl (pu_move rfl rfl) rfl rfl (by kernel_rfl) ?_
    refine a_pu 9 rfl rfl rfl rfl (pu_loadW 11 (L := bs (plV k u)) rfl rfl rfl hpb) rfl rfl (by kernel_rfl) ?_
    refine a_pu 10 rfl rfl rfl rfl (pu_loadW 15 (L := bs (plV k u)) rfl rfl rfl hpb) rfl rfl (by kernel_rfl) ?_
    refine a_do 11 82 [] (does_call rfl rfl rfl rfl rfl (fun w' hm => is12_b w' hpl)) rfl rfl (by kernel_rfl) rfl rfl (by kernel_rfl) (by kernel_rfl) (by kernel_rfl) rfl (fun p hp => by cases hp) ?_; rintro v_ cs_ ⟨_, _, rfl, rfl⟩
    first | refine a_pass 12 rfl rfl rfl rfl rfl rfl (by kernel_rfl) ?_ | refine a_pu 12 rfl rfl rfl rfl (pu_not rfl rfl) rfl rfl (by kernel_rfl) ?_
    first | refine a_pu 13 rfl rfl rfl rfl (pu_pick_t rfl rfl rfl) rfl rfl (by kernel_rfl) ?_ | refine a_pu 13 rfl rfl rfl rfl (pu_pick_f rfl rfl rfl) rfl rfl (by kernel_rfl) ?_
    refine a_pu 14 rfl rfl rfl rfl (pu_move rfl rfl) rfl rfl (by kernel_rfl) ?_
    first | refine a_pass 15 rfl rfl rfl rfl rfl rfl (by kernel_rfl) ?_ | refine a_pu 15 rfl rfl rfl rfl (pu_move rfl rfl) rfl rfl (by kernel_rfl) ?_
    first | refine a_pass 16 rfl rfl rfl rfl rfl rfl (by kernel_rfl) ?_ | refine a_pu 16 rfl rfl rfl rfl (pu_len rfl rfl) rfl rfl (by kernel_rfl) ?_ | refine a_pu 16 rfl rfl rfl rfl (pu_lenS rfl rfl) rfl rfl (by kernel_rfl) ?_
    first | refine a_pass 17 rfl rfl rfl rfl rfl rfl (by kernel_rfl) ?_ | refine a_pu 17 rfl rfl rfl rfl (pu_move rfl rfl) rfl rfl (by kernel_rfl) ?_
    first | refine a_pass 18 rfl rfl rfl rfl rfl rfl (by kernel_rfl) ?_ | refine a_pu 18 rfl rfl rfl rfl (pu_len rfl rfl) rfl rfl (by kernel_rfl) ?_ | refine a_pu 18 rfl rfl rfl rfl (pu_lenS rfl rfl) rfl rfl (by kernel_rfl) ?_
    refine a_pu 19 rfl rfl rfl rfl (pu_neq_f rfl rfl rfl (fun h => h rfl)) rfl rfl (by kernel_rfl) ?_
    first | refine a_pu 20 rfl rfl rfl rfl (pu_pick_t rfl rfl rfl) rfl rfl (by kernel_rfl) ?_ | refine a_pu 20 rfl rfl rfl rfl (pu_pick_f rfl rfl rfl) rfl rfl (by kernel_rfl) ?_
    refine a_pu 21 rfl rfl rfl rfl (pu_move rfl rfl) rfl rfl (by kernel_rfl) ?_
    first | refine a_pass 22 rfl rfl rfl rfl rfl rfl (by kernel_rfl) ?_ | refine a_pu 22 rfl rfl rfl rfl (pu_move rfl rfl) rfl rfl (by kernel_rfl) ?_
    first | refine a_pass 23 rfl rfl rfl rfl rfl rfl (by kernel_rfl) ?_ | refine a_pu 23 rfl rfl rfl rfl (pu_len rfl rfl) rfl rfl (by kernel_rfl) ?_ | refine a_pu 23 rfl rfl rfl rfl (pu_lenS rfl rfl) rfl rfl (by kernel_rfl) ?_
    refine a_pu 24 rfl rfl rfl rfl (pu_eql_f rfl rfl rfl (by show ¬ ((0 : Nat) : Int) = 1; omega)) rfl rfl (by kernel_rfl) ?_
    first | refine a_pass 25 rfl rfl rfl rfl rfl rfl (by kernel_rfl) ?_ | refine a_pu 25 rfl rfl rfl rfl (pu_move rfl rfl) rfl rfl (by kernel_rfl) ?_
    first | refine a_pass 26 rfl rfl rfl rfl rfl rfl (by kernel_rfl) ?_ | refine a_pu 26 rfl rfl rfl rfl (pu_move rfl rfl) rfl rfl (by kernel_rfl) ?_
    refine a_pass 27 rfl rfl rfl rfl rfl rfl (by kernel_rfl) ?_
    refine a_pass 28 rfl rfl rfl rfl rfl rfl (by kernel_rfl) ?_
    first | refine a_pass 29 rfl rfl rfl rfl rfl rfl (by kernel_rfl) ?_ | refine a_pu 29 rfl rfl rfl rfl (pu_move rfl rfl) rfl rfl (by kernel_rfl) ?_
    refine a_pass 30 rfl rfl rfl rfl rfl rfl (by kernel_rfl) ?_
    refine a_pass 31 rfl rfl rfl rfl rfl rfl (by kernel_rfl) ?_
    refine a_pass 32 rfl rfl rfl rfl rfl rfl (by kernel_rfl) ?_
    first | refine a_pass 33 rfl rfl rfl rfl rfl rfl (by kernel_rfl) ?_ | refine a_pu 33 rfl rfl rfl rfl (pu_not rfl rfl) rfl rfl (by kernel_rfl) ?_
    first | refine a_pass 34 rfl rfl rfl rfl rfl rfl (by kernel_rfl) ?_ | refine a_pu 34 rfl rfl rfl rfl (pu_pick_t rfl rfl rfl) rfl rfl (by kernel_rfl) ?_ | refine a_pu 34 rfl rfl rfl rfl (pu_pick_f rfl rfl rfl) rfl rfl (by kernel_rfl) ?_
    first | refine a_pu 35 rfl rfl rfl rfl (pu_pick_t rfl rfl rfl) rfl rfl (by kernel_rfl) ?_ | refine a_pu 35 rfl rfl rfl rfl (pu_pick_f rfl rfl rfl) rfl rfl (by kernel_rfl) ?_
    refine a_done (by kernel_rfl) ?_
    (repeat refine g_seq ?_)
    refine g_cond_f rfl (g_skip ?_)
    (repeat refine g_seq ?_)
    refine g_region ?_
    refine g_pu rfl rfl rfl (pu_move rfl rfl) ?_
    refine g_call [108, 208] rfl rfl rfl rfl rfl rfl (fun w' hm => Pays_b w' x33.c (Ow.rd (t := 33) rfl hm) rfl hok (by show 0 ≤ 1000; omega)) (fun x108 h108 => ?_)
    refine g_pu rfl rfl rfl (pu_move rfl rfl) ?_
    refine g_call [110, 210] rfl rfl rfl rfl rfl rfl (fun w' hm => Pays_b w' x33.c (Ow.rd (t := 33) rfl hm) rfl hok (by show 0 ≤ 1000; omega)) (fun x110 h110 => ?_)
    obtain ⟨s108, l108⟩ := small h108
    obtain ⟨s110, l110⟩ := small h110
    have m108 : x108.2.length = 0 := l108
    have m110 : x110.2.length = 0 := l110
    refine g_know (φ := (∀ x ∈ x108.2, x.2.length ≤ x.1.c) ∧ (∀ x ∈ x110.2, x.2.length ≤ x.1.c)) (fun w' hm => ⟨BagC.le (E := 5) (hm.holds 208 _ rfl), BagC.le (E := 5) (hm.holds 210 _ rfl)⟩) (fun hcap => ?_)
    refine g_append1 108 (vals x110.2) rfl rfl rfl rfl rfl rfl rfl rfl (vals_length _) (fun w' hm => Ow.rd (t := 110) rfl hm) (by rw [vals_length]) (oneCell_vals _) (by omega) (by omega) (fun p1 c1 => ?_)
    refine g_pu rfl rfl rfl (pu_move rfl rfl) ?_
    refine g_pu rfl rfl rfl (pu_move rfl rfl) ?_
    refine g_lo [114] rfl rfl rfl rfl (lo_buildSlice rfl rfl (by decide) (by decide) rfl rfl) (fun b114 hb114 => ?_)
    refine g_append1 108 [.slice (some ⟨x21, 0, none⟩) (n + 40) (n + 40), .slice (some ⟨x26, 0, none⟩) (m + 40) (m + 40)] rfl rfl rfl rfl rfl rfl rfl rfl (by rw [List.length_append, vals_length, vals_length]) (fun w' hm => hm.rowA 114 rfl) rfl (fun u hu => by simp only [List.mem_cons, List.not_mem_nil, or_false] at hu; rcases hu with rfl | rfl <;> rfl) (by omega) (by omega) (fun p2 c2 => ?_)
    refine g_callW [208, 210, 21, 26] [] rfl rfl rfl rfl rfl rfl (TgL.ch (TgL.otm 208 0 rfl rfl (TgL.otm 210 x108.2.length rfl rfl (TgL.row 21 (x108.2.length + x110.2.length) (n + 40) rfl (Nat.le_of_eq hol.symm) (by omega) rfl (TgL.row 26 (x108.2.length + x110.2.length + 1) (m + 40) rfl (Nat.le_of_eq hol2.symm) (by omega) rfl TgL.nil))))) (fun w' hm => Apart_o hm (TgL.otm 208 0 rfl rfl (TgL.otm 210 x108.2.length rfl rfl (TgL.row 21 (x108.2.length + x110.2.length) (n + 40) rfl (Nat.le_of_eq hol.symm) (by omega) rfl (TgL.row 26 (x108.2.length + x110.2.length + 1) (m + 40) rfl (Nat.le_of_eq hol2.symm) (by omega) rfl TgL.nil)))) 108 _ rfl rfl (HxL.tail2 (n1 := n + 40) (n2 := m + 40) ⟨⟨rfl, rfl, rfl, Nat.le_refl _, by omega⟩, ⟨rfl, rfl, rfl, Nat.le_refl _, by omega⟩, trivial⟩ ⟨hcap.1, s108⟩ ⟨hcap.2, s110⟩) (by rw [List.length_append, List.length_append, vals_length, vals_length]; rfl) (by omega)) (fun _ _ => ?_)
    refine g_pu rfl rfl rfl (pu_assign rfl rfl) ?_
    refine g_nil ?_
    exact g_ret1 rfl rfl (fun w' hm => ⟨(), trivial, rfl, hm.grows [] trivial rfl⟩)
  · rw [hT] at hok ⊢
    have hh := hok h (List.mem_singleton.2 rfl)
    have hL := stL'_length hh.1 hh.2
    have h1 : [h][0]? = some h := rfl
    have hg := bs_cut (stepsL_get hok h1)
    have hsb1 : (bs (stepsL [h])).length = 192 := by rw [bs_length, stepsL_length hok]; simp
    (repeat refine g_seq ?_)
    refine g_any (36, []) ?_
    refine a_pu 0 rfl rfl rfl rfl (pu_move rfl rfl) rfl rfl (by kernel_rfl) ?_
    refine a_pu 1 rfl rfl rfl rfl (pu_move rfl rfl) rfl rfl (by kernel_rfl) ?_
    refine a_pu 2 rfl rfl rfl rfl (pu_neq_f rfl rfl rfl (fun h => h rfl)) rfl rfl (by kernel_rfl) ?_
    refine a_pu 3 rfl rfl rfl rfl (pu_move rfl rfl) rfl rfl (by kernel_rfl) ?_
    first | refine a_pass 4 rfl rfl rfl rfl rfl rfl (by kernel_rfl) ?_ | refine a_pu 4 rfl rfl rfl rfl (pu_move rfl rfl) rfl rfl (by kernel_rfl) ?_
    first | refine a_pass 5 rfl rfl rfl rfl rfl rfl (by kernel_rfl) ?_ | refine a_pu 5 rfl rfl rfl rfl (pu_move rfl rfl) rfl rfl (by kernel_rfl) ?_
    refine a_pu 6 rfl rfl rfl rfl (pu_neq_f rfl rfl rfl (fun h => h rfl)) rfl rfl (by kernel_rfl) ?_
    first | refine a_pu 7 rfl rfl rfl rfl (pu_pick_t rfl rfl rfl) rfl rfl (by kernel_rfl) ?_ | refine a_pu 7 rfl rfl rfl rfl (pu_pick_f rfl rfl rfl) rfl rfl (by kernel_rfl) ?_
    refine a_pu 8 rfl rfl rfl rfl (pu_move rfl rfl) rfl rfl (by kernel_rfl) ?_
    refine a_pu 9 rfl rfl rfl rfl (pu_loadW 11 (L := bs (plV k u)) rfl rfl rfl hpb) rfl rfl (by kernel_rfl) ?_
    refine a_pu 10 rfl rfl rfl rfl (pu_loadW 15 (L := bs (plV k u)) rfl rfl rfl hpb) rfl rfl (by kernel_rfl) ?_
    refine a_do 11 82 [] (does_call rfl rfl rfl rfl rfl (fun w' hm => is12_b w' hpl)) rfl rfl (by kernel_rfl) rfl rfl (by kernel_rfl) (by kernel_rfl) (by kernel_rfl) rfl (fun p hp => by cases hp) ?_; rintro v_ cs_ ⟨_, _, rfl, rfl⟩
    first | refine a_pass 12 rfl rfl rfl rfl rfl rfl (by kernel_rfl) ?_ | refine a_pu 12 rfl rfl rfl rfl (pu_not rfl rfl) rfl rfl (by kernel_rfl) ?_
    first | refine a_pu 13 rfl rfl rfl rfl (pu_pick_t rfl rfl rfl) rfl rfl (by kernel_rfl) ?_ | refine a_pu 13 rfl rfl rfl rfl (pu_pick_f rfl rfl rfl) rfl rfl (by kernel_rfl) ?_
    refine a_pu 14 rfl rfl rfl rfl (pu_move rfl rfl) rfl rfl (by kernel_rfl) ?_
    first | refine a_pass 15 rfl rfl rfl rfl rfl rfl (by kernel_rfl) ?_ | refine a_pu 15 rfl rfl rfl rfl (pu_move rfl rfl) rfl rfl (by kernel_rfl) ?_
    first | refine a_pass 16 rfl rfl rfl rfl rfl rfl (by kernel_rfl) ?_ | refine a_pu 16 rfl rfl rfl rfl (pu_len rfl rfl) rfl rfl (by kernel_rfl) ?_ | refine a_pu 16 rfl rfl rfl rfl (pu_lenS rfl rfl) rfl rfl (by kernel_rfl) ?_
    first | refine a_pass 17 rfl rfl rfl rfl rfl rfl (by kernel_rfl) ?_ | refine a_pu 17 rfl rfl rfl rfl (pu_move rfl rfl) rfl rfl (by kernel_rfl) ?_
    first | refine a_pass 18 rfl rfl rfl rfl rfl rfl (by kernel_rfl) ?_ | refine a_pu 18 rfl rfl rfl rfl (pu_len rfl rfl) rfl rfl (by kernel_rfl) ?_ | refine a_pu 18 rfl rfl rfl rfl (pu_lenS rfl rfl) rfl rfl (by kernel_rfl) ?_
    refine a_pu 19 rfl rfl rfl rfl (pu_neq_f rfl rfl rfl (fun h => h rfl)) rfl rfl (by kernel_rfl) ?_
    first | refine a_pu 20 rfl rfl rfl rfl (pu_pick_t rfl rfl rfl) rfl rfl (by kernel_rfl) ?_ | refine a_pu 20 rfl rfl rfl rfl (pu_pick_f rfl rfl rfl) rfl rfl (by kernel_rfl) ?_
    refine a_pu 21 rfl rfl rfl rfl (pu_move rfl rfl) rfl rfl (by kernel_rfl) ?_
    first | refine a_pass 22 rfl rfl rfl rfl rfl rfl (by kernel_rfl) ?_ | refine a_pu 22 rfl rfl rfl rfl (pu_move rfl rfl) rfl rfl (by kernel_rfl) ?_
    first | refine a_pass 23 rfl rfl rfl rfl rfl rfl (by kernel_rfl) ?_ | refine a_pu 23 rfl rfl rfl rfl (pu_len rfl rfl) rfl rfl (by kernel_rfl) ?_ | refine a_pu 23 rfl rfl rfl rfl (pu_lenS rfl rfl) rfl rfl (by kernel_rfl) ?_
    refine a_pu 24 rfl rfl rfl rfl (pu_eql_t rfl rfl rfl rfl) rfl rfl (by kernel_rfl) ?_
    first | refine a_pass 25 rfl rfl rfl rfl rfl rfl (by kernel_rfl) ?_ | refine a_pu 25 rfl rfl rfl rfl (pu_move rfl rfl) rfl rfl (by kernel_rfl) ?_
    first | refine a_pass 26 rfl rfl rfl rfl rfl rfl (by kernel_rfl) ?_ | refine a_pu 26 rfl rfl rfl rfl (pu_move rfl rfl) rfl rfl (by kernel_rfl) ?_
    refine a_pu 27 rfl rfl rfl rfl (pu_atM 0 (s := 192) (L := bs (stepsL [h])) (fun w' hm => Ow.rd (t := 33) rfl hm) rfl rfl rfl rfl (by show 0 < 1; omega) (by omega)) rfl rfl (by kernel_rfl) ?_
    refine a_pu 28 rfl rfl rfl rfl (pu_rdMA (L := bs (stepsL [h])) (j := 0 * 192) (s := 192) (fun w' hm => Ow.rd (t := 33) rfl hm) rfl rfl (by omega) (by omega)) rfl rfl (by kernel_rfl) ?_
    rw [hg]
    first | refine a_pass 29 rfl rfl rfl rfl rfl rfl (by kernel_rfl) ?_ | refine a_pu 29 rfl rfl rfl rfl (pu_move rfl rfl) rfl rfl (by kernel_rfl) ?_
    refine a_pu 30 rfl rfl rfl rfl (pu_atM 0 (s := 192) (L := bs (stepsL [h])) (fun w' hm => Ow.rd (t := 62) rfl hm) rfl rfl rfl rfl (by show 0 < 1; omega) (by omega)) rfl rfl (by kernel_rfl) ?_
    refine a_pu 31 rfl rfl rfl rfl (pu_rdMA (L := bs (stepsL [h])) (j := 0 * 192) (s := 192) (fun w' hm => Ow.rd (t := 62) rfl hm) rfl rfl (by omega) (by omega)) rfl rfl (by kernel_rfl) ?_
    rw [hg]
    refine a_do 32 103 [] (does_call rfl rfl rfl rfl rfl (fun w' hm => is12_b w' hL)) rfl rfl (by kernel_rfl) rfl rfl (by kernel_rfl) (by kernel_rfl) (by kernel_rfl) rfl (fun p hp => by cases hp) ?_; rintro v_ cs_ ⟨_, _, rfl, rfl⟩
    first | refine a_pass 33 rfl rfl rfl rfl rfl rfl (by kernel_rfl) ?_ | refine a_pu 33 rfl rfl rfl rfl (pu_not rfl rfl) rfl rfl (by kernel_rfl) ?_
    first | refine a_pass 34 rfl rfl rfl rfl rfl rfl (by kernel_rfl) ?_ | refine a_pu 34 rfl rfl rfl rfl (pu_pick_t rfl rfl rfl) rfl rfl (by kernel_rfl) ?_ | refine a_pu 34 rfl rfl rfl rfl (pu_pick_f rfl rfl rfl) rfl rfl (by kernel_rfl) ?_
    first | refine a_pu 35 rfl rfl rfl rfl (pu_pick_t rfl rfl rfl) rfl rfl (by kernel_rfl) ?_ | refine a_pu 35 rfl rfl rfl rfl (pu_pick_f rfl rfl rfl) rfl rfl (by kernel_rfl) ?_
    refine a_done (by kernel_rfl) ?_
    (repeat refine g_seq ?_)
    refine g_cond_f rfl (g_skip ?_)
    (repeat refine g_seq ?_)
    refine g_region ?_
    refine g_pu rfl rfl rfl (pu_move rfl rfl) ?_
    refine g_call [108, 208] rfl rfl rfl rfl rfl rfl (fun w' hm => Pays_b w' x33.c (Ow.rd (t := 33) rfl hm) rfl hok (by show 1 ≤ 1000; omega)) (fun x108 h108 => ?_)
    refine g_pu rfl rfl rfl (pu_move rfl rfl) ?_
    refine g_call [110, 210] rfl rfl rfl rfl rfl rfl (fun w' hm => Pays_b w' x33.c (Ow.rd (t := 33) rfl hm) rfl hok (by show 1 ≤ 1000; omega)) (fun x110 h110 => ?_)
    obtain ⟨s108, l108⟩ := small h108
    obtain ⟨s110, l110⟩ := small h110
    have m108 : x108.2.length = 1 := l108
    have m110 : x110.2.length = 1 := l110
    refine g_know (φ := (∀ x ∈ x108.2, x.2.length ≤ x.1.c) ∧ (∀ x ∈ x110.2, x.2.length ≤ x.1.c)) (fun w' hm => ⟨BagC.le (E := 5) (hm.holds 208 _ rfl), BagC.le (E := 5) (hm.holds 210 _ rfl)⟩) (fun hcap => ?_)
    refine g_append1 108 (vals x110.2) rfl rfl rfl rfl rfl rfl rfl rfl (vals_length _) (fun w' hm => Ow.rd (t := 110) rfl hm) (by rw [vals_length]) (oneCell_vals _) (by omega) (by omega) (fun p1 c1 => ?_)
    refine g_pu rfl rfl rfl (pu_move rfl rfl) ?_
    refine g_pu rfl rfl rfl (pu_move rfl rfl) ?_
    refine g_lo [114] rfl rfl rfl rfl (lo_buildSlice rfl rfl (by decide) (by decide) rfl rfl) (fun b114 hb114 => ?_)
    refine g_append1 108 [.slice (some ⟨x21, 0, none⟩) (n + 40) (n + 40), .slice (some ⟨x26, 0, none⟩) (m + 40) (m + 40)] rfl rfl rfl rfl rfl rfl rfl rfl (by rw [List.length_append, vals_length, vals_length]) (fun w' hm => hm.rowA 114 rfl) rfl (fun u hu => by simp only [List.mem_cons, List.not_mem_nil, or_false] at hu; rcases hu with rfl | rfl <;> rfl) (by omega) (by omega) (fun p2 c2 => ?_)
    refine g_callW [208, 210, 21, 26] [] rfl rfl rfl rfl rfl rfl (TgL.ch (TgL.otm 208 0 rfl rfl (TgL.otm 210 x108.2.length rfl rfl (TgL.row 21 (x108.2.length + x110.2.length) (n + 40) rfl (Nat.le_of_eq hol.symm) (by omega) rfl (TgL.row 26 (x108.2.length + x110.2.length + 1) (m + 40) rfl (Nat.le_of_eq hol2.symm) (by omega) rfl TgL.nil))))) (fun w' hm => Apart_o hm (TgL.otm 208 0 rfl rfl (TgL.otm 210 x108.2.length rfl rfl (TgL.row 21 (x108.2.length + x110.2.length) (n + 40) rfl (Nat.le_of_eq hol.symm) (by omega) rfl (TgL.row 26 (x108.2.length + x110.2.length + 1) (m + 40) rfl (Nat.le_of_eq hol2.symm) (by omega) rfl TgL.nil)))) 108 _ rfl rfl (HxL.tail2 (n1 := n + 40) (n2 := m + 40) ⟨⟨rfl, rfl, rfl, Nat.le_refl _, by omega⟩, ⟨rfl, rfl, rfl, Nat.le_refl _, by omega⟩, trivial⟩ ⟨hcap.1, s108⟩ ⟨hcap.2, s110⟩) (by rw [List.length_append, List.length_append, vals_length, vals_length]; rfl) (by omega)) (fun _ _ => ?_)
    refine g_pu rfl rfl rfl (pu_assign rfl rfl) ?_
    refine g_nil ?_
    exact g_ret1 rfl rfl (fun w' hm => ⟨(), trivial, rfl, hm.grows [] trivial rfl⟩)
end Go.Sx

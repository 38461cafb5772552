/-
  ShaKeeps: no call of sha changes or keeps what it is handed. Condition: the lists have at most 2^24 bytes each.
-/
import Derived.Test.YtieafkfdkhpffaaS7
import Derived.Test.YtieafkfdkhpffaaShaFlows
import Derived.Test.YtieafkfdkhpffaaCB
set_option linter.unusedVariables false
set_option linter.unusedSimpArgs false
namespace Go.Sx
open Go Go.Proofs

theorem ShaKeeps_spec (w : World) {p q : Option Addr} {n m : Nat} (c d : Nat) {a b : List (BitVec 8)} (ha : By w p n a) (hb : By w q m b) (hnb : n ≤ 16777216) (hmb : m ≤ 16777216) :
    Spec Try.prog 8 #[.slice p n c, .slice q m d] w (σ := Unit) (fun _ => True) (fun _ => .bool true) Nob (fun _ => []) := by
  refine enter Try.func8 rfl rfl (Mem.start w) ?_
  have hal := ha.len
  have hbl := hb.len
  have hsa := spareL_length a 40
  have hsb := spareL_length b 40
  (repeat refine g_seq ?_)
  refine g_region ?_
  refine g_pu rfl rfl rfl (pu_assign rfl rfl) ?_
  refine g_nil ?_
  (repeat refine g_seq ?_)
  refine g_region ?_
  refine g_call [] rfl rfl rfl rfl rfl rfl (fun w' hm => awake02_b w') (fun _ _ => ?_)
  refine g_pu rfl rfl rfl (pu_not rfl rfl) ?_
  refine g_nil ?_
  (repeat refine g_seq ?_)
  refine g_cond_f rfl (g_skip ?_)
  (repeat refine g_seq ?_)
  refine g_region ?_
  refine g_pu rfl rfl rfl (pu_move rfl rfl) ?_
  refine g_call [21] rfl rfl rfl rfl rfl rfl (fun w' hm => Spare_b w' c (ha.m hm)) (fun x21 _ => ?_)
  refine g_pu rfl rfl rfl (pu_move rfl rfl) ?_
  refine g_pu rfl rfl rfl (pu_extract rfl rfl rfl) ?_
  refine g_pu rfl rfl rfl (pu_extract rfl rfl rfl) ?_
  refine g_pu rfl rfl rfl (pu_assign rfl rfl) ?_
  refine g_pu rfl rfl rfl (pu_assign rfl rfl) ?_
  refine g_nil ?_
  (repeat refine g_seq ?_)
  refine g_region ?_
  refine g_pu rfl rfl rfl (pu_move rfl rfl) ?_
  refine g_call [26] rfl rfl rfl rfl rfl rfl (fun w' hm => Spare_b w' d (hb.m hm)) (fun x26 _ => ?_)
  refine g_pu rfl rfl rfl (pu_move rfl rfl) ?_
  refine g_pu rfl rfl rfl (pu_extract rfl rfl rfl) ?_
  refine g_pu rfl rfl rfl (pu_extract rfl rfl rfl) ?_
  refine g_pu rfl rfl rfl (pu_assign rfl rfl) ?_
  refine g_pu rfl rfl rfl (pu_assign rfl rfl) ?_
  refine g_nil ?_
  (repeat refine g_seq ?_)
  refine g_region ?_
  refine g_pu rfl rfl rfl (pu_move rfl rfl) ?_
  refine g_pu rfl rfl rfl (pu_move rfl rfl) ?_
  refine g_lo [31] rfl rfl rfl rfl (lo_buildSlice rfl rfl (by decide) (by decide) rfl rfl) (fun b31 hb31 => ?_)
  refine g_call [] rfl rfl rfl rfl rfl rfl (fun w' hm => ShaSum_b w' 2 (LL := [.slice (some ⟨x21, 0, none⟩) n (n + 40), .slice (some ⟨x26, 0, none⟩) m (m + 40)]) (ls := [a, b]) ⟨hm.rowA 31 rfl, rfl, All2.cons ⟨_, _, _, rfl, By.spare 21 rfl hm hal (by omega), fun _ _ => trivial⟩ (All2.cons ⟨_, _, _, rfl, By.spare 26 rfl hm hbl (by omega), fun _ _ => trivial⟩ All2.nil), by omega⟩ (by rw [flat2, List.length_append]; omega)) (fun _ _ => ?_)
  rw [flat2]
  refine g_lo [9] rfl rfl rfl rfl (lo_alloc rfl) (fun b9 hb9 => ?_)
  refine g_storeL 9 (s := 32) (C := bs (shaL (a ++ b))) rfl rfl rfl rfl rfl rfl (by rw [bs_length, shaL_length]) rfl (oneCell_bs _) ?_
  refine g_nil ?_
  (repeat refine g_seq ?_)
  refine g_region ?_
  refine g_pu rfl rfl rfl (pu_move rfl rfl) ?_
  refine g_lo [34] rfl rfl rfl rfl (lo_buildSlice rfl rfl (by decide) (by decide) rfl rfl) (fun b34 hb34 => ?_)
  refine g_call [35, 135] rfl rfl rfl rfl rfl rfl (fun w' hm => ShaNew_b w' 1 (LL := [.slice (some ⟨x21, 0, none⟩) n (n + 40)]) (ls := [a]) ⟨hm.rowA 34 rfl, rfl, All2.cons ⟨_, _, _, rfl, By.spare 21 rfl hm hal (by omega), fun _ _ => trivial⟩ All2.nil, by omega⟩ (by rw [flat1]; omega)) (fun x35 _ => ?_)
  rw [flat1]
  refine g_pu rfl rfl rfl (pu_assign rfl rfl) ?_
  refine g_nil ?_
  (repeat refine g_seq ?_)
  refine g_region ?_
  refine g_pu rfl rfl rfl (pu_move rfl rfl) ?_
  refine g_pu rfl rfl rfl (pu_move rfl rfl) ?_
  refine g_lo [38] rfl rfl rfl rfl (lo_buildSlice rfl rfl (by decide) (by decide) rfl rfl) (fun b38 hb38 => ?_)
  refine g_callW [35, 135] [35, 135] rfl rfl rfl rfl rfl rfl (fun j hj => hj.elim (fun h => ⟨35, by simp, _, rfl, h⟩) (fun h => ⟨135, by simp, _, rfl, h⟩)) (fun w' hm => Write_b w' x35.1 (L := a) (J := []) x35.2 1 (LL := [.slice (some ⟨x26, 0, none⟩) m (m + 40)]) (ls := [b]) (hm.holds 35 _ rfl) (hm.holds 135 _ rfl) (fun j hj he => hm.apart 135 _ 35 _ rfl rfl (by decide) j hj he) (fun j hj => hm.below 135 _ rfl j hj) (hm.rowA 38 rfl) rfl (All2.cons ⟨_, _, _, rfl, By.spare 26 rfl hm hbl (by omega), fun _ _ => trivial⟩ All2.nil) (fun _ b o e hb => by cases e; exact hb.elim (fun h1 => hm.apart 38 _ 35 _ rfl rfl (by decide) _ rfl h1) (fun h1 => hm.apart 38 _ 135 _ rfl rfl (by decide) _ rfl h1)) (fun q m c hv _ j hj hb => by cases List.mem_singleton.1 hv; exact hb.elim (fun h1 => hm.apart 26 _ 35 _ rfl rfl (by decide) j (At.some.1 hj) h1) (fun h1 => hm.apart 26 _ 135 _ rfl rfl (by decide) j (At.some.1 hj) h1)) (by omega) (by rw [flat1]; omega)) (fun y1 _ => ?_)
  rw [flat1]
  refine g_call [] rfl rfl rfl rfl rfl rfl (fun w' hm => HashSum_b w' x35.1 (L := a ++ b) (J := []) y1 (hm.holds 35 _ rfl) (OwnO.rd (hm.holds 135 _ rfl)) (by rw [List.length_append]; omega)) (fun _ _ => ?_)
  refine g_lo [11] rfl rfl rfl rfl (lo_alloc rfl) (fun b11 hb11 => ?_)
  refine g_storeL 11 (s := 32) (C := bs (shaL (a ++ b))) rfl rfl rfl rfl rfl rfl (by rw [bs_length, shaL_length]) rfl (oneCell_bs _) ?_
  refine g_nil ?_
  (repeat refine g_seq ?_)
  refine g_region ?_
  refine g_pu rfl rfl rfl (pu_move rfl rfl) ?_
  refine g_pu rfl rfl rfl (pu_move rfl rfl) ?_
  refine g_lo [43] rfl rfl rfl rfl (lo_buildSlice rfl rfl (by decide) (by decide) rfl rfl) (fun b43 hb43 => ?_)
  refine g_callW [35, 135] [35, 135] rfl rfl rfl rfl rfl rfl (fun j hj => hj.elim (fun h => ⟨35, by simp, _, rfl, h⟩) (fun h => ⟨135, by simp, _, rfl, h⟩)) (fun w' hm => Write_b w' x35.1 (L := a ++ b) (J := []) y1 1 (LL := [.slice (some ⟨x21, 0, none⟩) n (n + 40)]) (ls := [a]) (hm.holds 35 _ rfl) (hm.holds 135 _ rfl) (fun j hj he => hm.apart 135 _ 35 _ rfl rfl (by decide) j hj he) (fun j hj => hm.below 135 _ rfl j hj) (hm.rowA 43 rfl) rfl (All2.cons ⟨_, _, _, rfl, By.spare 21 rfl hm hal (by omega), fun _ _ => trivial⟩ All2.nil) (fun _ b o e hb => by cases e; exact hb.elim (fun h1 => hm.apart 43 _ 35 _ rfl rfl (by decide) _ rfl h1) (fun h1 => hm.apart 43 _ 135 _ rfl rfl (by decide) _ rfl h1)) (fun q m c hv _ j hj hb => by cases List.mem_singleton.1 hv; exact hb.elim (fun h1 => hm.apart 21 _ 35 _ rfl rfl (by decide) j (At.some.1 hj) h1) (fun h1 => hm.apart 21 _ 135 _ rfl rfl (by decide) j (At.some.1 hj) h1)) (by omega) (by rw [flat1, List.length_append]; omega)) (fun y2 _ => ?_)
  rw [flat1]
  refine g_nil ?_
  have hpl : (spL n).length ≤ 100 := by
    unfold spL
    split
    · rw [padB_length]; have := noughts_lt ((n : Int).toNat); omega
    · simp
  (repeat refine g_seq ?_)
  refine g_region ?_
  refine g_pu rfl rfl rfl (pu_move rfl rfl) ?_
  first | refine g_pu rfl rfl rfl (pu_len rfl rfl) ?_ | refine g_pu rfl rfl rfl (pu_lenS rfl rfl) ?_
  refine g_call [48] rfl rfl rfl rfl rfl rfl (fun w' hm => ShaPad_b w' n) (fun x48 _ => ?_)
  refine g_pu rfl rfl rfl (pu_move rfl rfl) ?_
  refine g_pu rfl rfl rfl (pu_extract rfl rfl rfl) ?_
  refine g_pu rfl rfl rfl (pu_extract rfl rfl rfl) ?_
  refine g_pu rfl rfl rfl (pu_assign rfl rfl) ?_
  refine g_pu rfl rfl rfl (pu_assign rfl rfl) ?_
  refine g_nil ?_
  (repeat refine g_seq ?_)
  refine g_region ?_
  refine g_pu rfl rfl rfl (pu_move rfl rfl) ?_
  first | refine g_pu rfl rfl rfl (pu_len rfl rfl) ?_ | refine g_pu rfl rfl rfl (pu_lenS rfl rfl) ?_
  refine g_call [54] rfl rfl rfl rfl rfl rfl (fun w' hm => ShaPad_b w' n) (fun x54 _ => ?_)
  refine g_pu rfl rfl rfl (pu_move rfl rfl) ?_
  refine g_pu rfl rfl rfl (pu_extract rfl rfl rfl) ?_
  refine g_pu rfl rfl rfl (pu_extract rfl rfl rfl) ?_
  refine g_pu rfl rfl rfl (pu_assign rfl rfl) ?_
  refine g_pu rfl rfl rfl (pu_assign rfl rfl) ?_
  refine g_nil ?_
  (repeat refine g_seq ?_)
  refine g_any (23, []) ?_
  refine a_pu 0 rfl rfl rfl rfl (pu_loadW 9 (L := bs (shaL (a ++ b))) rfl rfl rfl (by rw [bs_length, shaL_length])) rfl rfl (by kernel_rfl) ?_
  refine a_pu 1 rfl rfl rfl rfl (pu_loadW 11 (L := bs (shaL (a ++ b))) rfl rfl rfl (by rw [bs_length, shaL_length])) rfl rfl (by kernel_rfl) ?_
  refine a_pu 2 rfl rfl rfl rfl (pu_neqA_f rfl rfl rfl rfl (all_bs _) (by rw [bs_length, shaL_length])) rfl rfl (by kernel_rfl) ?_
  refine a_pu 3 rfl rfl rfl rfl (pu_move rfl rfl) rfl rfl (by kernel_rfl) ?_
  first | refine a_pass 4 rfl rfl rfl rfl rfl rfl (by kernel_rfl) ?_ | refine a_pu 4 rfl rfl rfl rfl (pu_move rfl rfl) rfl rfl (by kernel_rfl) ?_
  first | refine a_pass 5 rfl rfl rfl rfl rfl rfl (by kernel_rfl) ?_ | refine a_pu 5 rfl rfl rfl rfl (pu_move rfl rfl) rfl rfl (by kernel_rfl) ?_
  refine a_do 6 63 [] (does_call rfl rfl rfl rfl rfl (fun w' hm => Kept_b w' _ c (By.full 21 rfl hm (by rw [hsa, hal]) (by omega)) (ha.m hm))) rfl rfl (by kernel_rfl) rfl rfl (by kernel_rfl) (by kernel_rfl) (by kernel_rfl) rfl (fun p hp => by cases hp) ?_; rintro v_ cs_ ⟨_, _, rfl, rfl⟩
  first | refine a_pass 7 rfl rfl rfl rfl rfl rfl (by kernel_rfl) ?_ | refine a_pu 7 rfl rfl rfl rfl (pu_not rfl rfl) rfl rfl (by kernel_rfl) ?_
  first | refine a_pu 8 rfl rfl rfl rfl (pu_pick_t rfl rfl rfl) rfl rfl (by kernel_rfl) ?_ | refine a_pu 8 rfl rfl rfl rfl (pu_pick_f rfl rfl rfl) rfl rfl (by kernel_rfl) ?_
  refine a_pu 9 rfl rfl rfl rfl (pu_move rfl rfl) rfl rfl (by kernel_rfl) ?_
  first | refine a_pass 10 rfl rfl rfl rfl rfl rfl (by kernel_rfl) ?_ | refine a_pu 10 rfl rfl rfl rfl (pu_move rfl rfl) rfl rfl (by kernel_rfl) ?_
  first | refine a_pass 11 rfl rfl rfl rfl rfl rfl (by kernel_rfl) ?_ | refine a_pu 11 rfl rfl rfl rfl (pu_move rfl rfl) rfl rfl (by kernel_rfl) ?_
  refine a_do 12 69 [] (does_call rfl rfl rfl rfl rfl (fun w' hm => Kept_b w' _ d (By.full 26 rfl hm (by rw [hsb, hbl]) (by omega)) (hb.m hm))) rfl rfl (by kernel_rfl) rfl rfl (by kernel_rfl) (by kernel_rfl) (by kernel_rfl) rfl (fun p hp => by cases hp) ?_; rintro v_ cs_ ⟨_, _, rfl, rfl⟩
  first | refine a_pass 13 rfl rfl rfl rfl rfl rfl (by kernel_rfl) ?_ | refine a_pu 13 rfl rfl rfl rfl (pu_not rfl rfl) rfl rfl (by kernel_rfl) ?_
  first | refine a_pu 14 rfl rfl rfl rfl (pu_pick_t rfl rfl rfl) rfl rfl (by kernel_rfl) ?_ | refine a_pu 14 rfl rfl rfl rfl (pu_pick_f rfl rfl rfl) rfl rfl (by kernel_rfl) ?_
  refine a_pu 15 rfl rfl rfl rfl (pu_move rfl rfl) rfl rfl (by kernel_rfl) ?_
  first | refine a_pass 16 rfl rfl rfl rfl rfl rfl (by kernel_rfl) ?_ | refine a_pu 16 rfl rfl rfl rfl (pu_move rfl rfl) rfl rfl (by kernel_rfl) ?_
  first | refine a_pass 17 rfl rfl rfl rfl rfl rfl (by kernel_rfl) ?_ | refine a_pu 17 rfl rfl rfl rfl (pu_move rfl rfl) rfl rfl (by kernel_rfl) ?_
  refine a_pu 20 rfl rfl rfl rfl (pu_loadW 9 (L := bs (shaL (a ++ b))) rfl rfl rfl (by rw [bs_length, shaL_length])) rfl rfl (by kernel_rfl) ?_
  refine a_do 18 75 [75] (does_lo rfl rfl rfl (lo_buildSlice rfl rfl (by decide) (by decide) rfl rfl)) rfl rfl (by kernel_rfl) rfl rfl (by kernel_rfl) (by kernel_rfl) (by kernel_rfl) rfl (fun p hp => by cases hp) ?_; rintro v_ cs_ ⟨b75, hb75, rfl, rfl⟩
  refine a_do 19 76 [] (does_call rfl rfl rfl rfl rfl (fun w' hm => ShaSum_b w' 2 (LL := [.slice (some ⟨x21, 0, none⟩) n (n + 40), .slice (some ⟨x26, 0, none⟩) m (m + 40)]) (ls := [a, b]) ⟨hm.rowA 75 rfl, rfl, All2.cons ⟨_, _, _, rfl, By.spare 21 rfl hm hal (by omega), fun _ _ => trivial⟩ (All2.cons ⟨_, _, _, rfl, By.spare 26 rfl hm hbl (by omega), fun _ _ => trivial⟩ All2.nil), by omega⟩ (by rw [flat2, List.length_append]; omega))) rfl rfl (by kernel_rfl) rfl rfl (by kernel_rfl) (by kernel_rfl) (by kernel_rfl) rfl (fun p hp => by cases hp) ?_; rintro v_ cs_ ⟨_, _, rfl, rfl⟩
  rw [flat2]
  refine a_pu 21 rfl rfl rfl rfl (pu_neqA_f rfl rfl rfl rfl (all_bs _) (by rw [bs_length, shaL_length])) rfl rfl (by kernel_rfl) ?_
  first | refine a_pu 22 rfl rfl rfl rfl (pu_pick_t rfl rfl rfl) rfl rfl (by kernel_rfl) ?_ | refine a_pu 22 rfl rfl rfl rfl (pu_pick_f rfl rfl rfl) rfl rfl (by kernel_rfl) ?_
  refine a_done (by kernel_rfl) ?_
  (repeat refine g_seq ?_)
  refine g_cond_f rfl (g_skip ?_)
  (repeat refine g_seq ?_)
  refine g_region ?_
  refine g_pu rfl rfl rfl (pu_move rfl rfl) ?_
  refine g_callW [21] [21] rfl rfl rfl rfl rfl rfl (fun j hj => ⟨21, by simp, _, rfl, hj⟩) (fun w' hm => OverP_b w' x21 (n + 40) (l := a) (hm.holds 21 _ rfl) hal (by omega)) (fun _ _ => ?_)
  refine g_nil ?_
  (repeat refine g_seq ?_)
  refine g_region ?_
  refine g_pu rfl rfl rfl (pu_move rfl rfl) ?_
  refine g_callW [26] [26] rfl rfl rfl rfl rfl rfl (fun j hj => ⟨26, by simp, _, rfl, hj⟩) (fun w' hm => OverP_b w' x26 (m + 40) (l := b) (hm.holds 26 _ rfl) hbl (by omega)) (fun _ _ => ?_)
  refine g_nil ?_
  (repeat refine g_seq ?_)
  refine g_region ?_
  refine g_pu rfl rfl rfl (pu_move rfl rfl) ?_
  refine g_call [85] rfl rfl rfl rfl rfl rfl (fun w' hm => Copy_b w' c (ha.m hm)) (fun x85 _ => ?_)
  refine g_pu rfl rfl rfl (pu_move rfl rfl) ?_
  refine g_append1 85 (bs b) rfl rfl rfl rfl rfl rfl rfl rfl (by rw [bs_length, hal]) (fun w' hm => (hb.m hm).rd) (by rw [bs_length, hbl]) (oneCell_bs _) (by omega) (by omega) (fun p1 c1 => ?_)
  refine g_pu rfl rfl rfl (pu_move rfl rfl) ?_
  refine g_append1 85 (bs a) rfl rfl rfl rfl rfl rfl rfl rfl (by rw [List.length_append, bs_length, bs_length, hal, hbl]) (fun w' hm => (ha.m hm).rd) (by rw [bs_length, hal]) (oneCell_bs _) (by omega) (by omega) (fun p2 c2 => ?_)
  rw [← bs_append, ← bs_append]
  refine g_pu rfl rfl rfl (pu_assign rfl rfl) ?_
  refine g_nil ?_
  have hUl : (a ++ b ++ a).length = n + m + n := by simp [hal, hbl]; omega
  generalize a ++ b ++ a = U at hUl
  refine g_know (φ := (spL n).length ≤ x48.c ∧ (spL n).length ≤ x54.c) (fun w' hm => by have h1 := Own.le (hm.holds 48 _ rfl); have h2 := Own.le (hm.holds 54 _ rfl); rw [bs_length] at h1 h2; exact ⟨h1, h2⟩) (fun hcap => ?_)
  have hol : (bs (overL a n ++ (List.range 40).map fun t => spareB (a.length + t))).length = n + 40 := by rw [bs_length, List.length_append, overL_length]; simp [hal]
  have hol2 : (bs (overL b m ++ (List.range 40).map fun t => spareB (b.length + t))).length = m + 40 := by rw [bs_length, List.length_append, overL_length]; simp [hbl]
  (repeat refine g_seq ?_)
  refine g_region ?_
  refine g_pu rfl rfl rfl (pu_move rfl rfl) ?_
  refine g_call [] rfl rfl rfl rfl rfl rfl (fun w' hm => HashSum_b w' x35.1 (L := U) (J := []) y2 (hm.holds 35 _ rfl) (OwnO.rd (hm.holds 135 _ rfl)) (by omega)) (fun _ _ => ?_)
  refine g_pu rfl rfl rfl (pu_move rfl rfl) ?_
  refine g_call [] rfl rfl rfl rfl rfl rfl (fun w' hm => RSum_b w' _ (L := U) (By.own 85 rfl hm hUl (by omega)) (by omega)) (fun _ _ => ?_)
  refine g_pu rfl rfl rfl (pu_eqlA_t rfl rfl rfl rfl (all_bs _) (by rw [bs_length, shaL_length])) ?_
  refine g_pu rfl rfl rfl (pu_move rfl rfl) ?_
  first | refine g_pass rfl rfl rfl ?_ | refine g_pu rfl rfl rfl (pu_move rfl rfl) ?_
  first | refine g_pass rfl rfl rfl ?_ | refine g_pu rfl rfl rfl (pu_move rfl rfl) ?_
  first | refine g_pass rfl rfl rfl ?_ | refine g_pu rfl rfl rfl (pu_move rfl rfl) ?_
  first | refine g_pass rfl rfl rfl ?_ | refine g_pu rfl rfl rfl (pu_move rfl rfl) ?_
  first | (refine g_pass rfl rfl rfl ?_) | (refine g_lo [100] rfl rfl rfl rfl (lo_buildSlice rfl rfl (by decide) (by decide) rfl rfl) (fun b100 hb100 => ?_))
  refine g_callW [48, 54, 21, 26] [] rfl rfl rfl rfl rfl rfl (Tg.ch (Tg.own 48 0 rfl rfl (Tg.own 54 1 rfl rfl (Tg.row 21 2 (n + 40) rfl (Nat.le_of_eq hol.symm) (by omega) rfl (Tg.row 26 3 (m + 40) rfl (Nat.le_of_eq hol2.symm) (by omega) rfl Tg.nil))))) (fun w' hm => Apart_t hm (Tg.own 48 0 rfl rfl (Tg.own 54 1 rfl rfl (Tg.row 21 2 (n + 40) rfl (Nat.le_of_eq hol.symm) (by omega) rfl (Tg.row 26 3 (m + 40) rfl (Nat.le_of_eq hol2.symm) (by omega) rfl Tg.nil)))) 100 4 (LL := [x48.sl (spL n).length, x54.sl (spL n).length, .slice (some ⟨x21, 0, none⟩) (n + 40) (n + 40), .slice (some ⟨x26, 0, none⟩) (m + 40) (m + 40)]) (ns := [(spL n).length, (spL n).length, n + 40, m + 40]) rfl rfl ⟨⟨rfl, rfl, rfl, hcap.1, by omega⟩, ⟨rfl, rfl, rfl, hcap.2, by omega⟩, ⟨rfl, rfl, rfl, Nat.le_refl _, by omega⟩, ⟨rfl, rfl, rfl, Nat.le_refl _, by omega⟩, trivial⟩ rfl (by omega)) (fun _ _ => ?_)
  first | refine g_pu rfl rfl rfl (pu_pick_t rfl rfl rfl) ?_ | refine g_pu rfl rfl rfl (pu_pick_f rfl rfl rfl) ?_
  refine g_pu rfl rfl rfl (pu_assign rfl rfl) ?_
  refine g_nil ?_
  exact g_ret1 rfl rfl (fun w' hm => ⟨(), trivial, rfl, hm.grows [] trivial rfl⟩)
end Go.Sx

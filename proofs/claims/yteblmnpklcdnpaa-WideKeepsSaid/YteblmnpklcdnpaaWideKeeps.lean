import Derived.Test.YteblmnpklcdnpaaW5
import Derived.Test.YteblmnpklcdnpaaYC
set_option linter.unusedVariables false
set_option linter.unusedSimpArgs false
/-
  WideKeeps: no call of wide changes or keeps what it is handed, and all answers are memory of their own. No condition.
-/
namespace Go.Sx
open Go Go.Proofs

/-- What the calls answer. -/
def wiL (key b : List (BitVec 8)) : List (List (BitVec 8)) :=
  [rdsV key b zS, rdsV key b zO, rdsV key b [], allV zS b [], allV zO b [key, key]]
theorem rdsV_smallK (key b : List (BitVec 8)) (zs : List Int) : (rdsV key b zs).length ≤ 4096 := by
  by_cases h1 : okZ zs = true
  · by_cases h2 : fitsB key.length b.length = true
    · rw [rds_len h1 h2]; exact ((fitsB_iff _ _).1 h2).2.2
    · rw [(rds_s h1 h2).2]; simp
  · rw [(rds_z h1).2]; simp
theorem allV_small (zs : List Int) (b : List (BitVec 8)) (ks : List (List (BitVec 8))) : (allV zs b ks).length ≤ 4096 := by
  unfold allV
  split
  · rename_i h
    unfold allOk at h
    rw [Bool.and_eq_true] at h
    have hf := (fitsB_iff _ _).1 h.1
    rw [wfold_length zs ks hf.2.1]; exact hf.2.2
  · simp
theorem wiL_small {key b l : List (BitVec 8)} (h : l ∈ wiL key b) : l.length ≤ 65536 := by
  simp only [wiL, List.mem_cons, List.not_mem_nil, or_false] at h
  rcases h with rfl | rfl | rfl | rfl | rfl
  · have := rdsV_smallK key b zS; omega
  · have := rdsV_smallK key b zO; omega
  · have := rdsV_smallK key b []; omega
  · have := allV_small zS b []; omega
  · have := allV_small zO b [key, key]; omega
theorem wiL_len (key b : List (BitVec 8)) : (wiL key b).length = 5 := rfl
theorem HxL.fourW {y1 y2 : Itm} {v1 v2 : Value} {n1 n2 : Nat} {X Y : List Otm} (h0 : HxL 0 [y1, y2] [v1, v2] [n1, n2]) (hX : (∀ x ∈ X, x.2.length ≤ x.1.c) ∧ ∀ x ∈ X, x.2.length ≤ 140737488355200) (hY : (∀ x ∈ Y, x.2.length ≤ x.1.c) ∧ ∀ x ∈ Y, x.2.length ≤ 140737488355200) :
    HxL 0 (List.flatten [[y1], [y2], itms 2 X, itms (2 + X.length) Y]) ([v1, v2] ++ vals X ++ vals Y) ([n1, n2] ++ lens' X ++ lens' Y) := by
  have h := HxL.five (Z := []) h0 hX hY ⟨fun x hx => by simp at hx, fun x hx => by simp at hx⟩
  rw [show vals [] = [] from rfl, show lens' [] = [] from rfl, List.append_nil, List.append_nil] at h
  exact h

theorem lists07_b (w : World) {p q : Option Addr} {n m : Nat} (c d : Nat) {key b : List (BitVec 8)} (ha : By w p n key) (hb : By w q m b) :
    Spec Try.prog 22 #[.slice p n c, .slice q m d] w (σ := Ow × List Otm) (fun s => conts s.2 = wiL key b) (fun s => s.1.sl s.2.length) Nob (fun s => [s.1.ck 22 1 (vals s.2), .fact (BSC s.2) (BagC 5 s.2)]) := by
  refine enter Try.func22 rfl rfl (Mem.start w) ?_
  have hkl := ha.len
  have hbl := hb.len
  (repeat refine g_seq ?_)
  refine g_region ?_
  refine g_pu rfl rfl rfl (pu_assign rfl rfl) ?_
  refine g_nil ?_
  (repeat refine g_seq ?_)
  refine g_region ?_
  refine g_pu rfl rfl rfl (pu_move rfl rfl) ?_
  refine g_pu rfl rfl rfl (pu_move rfl rfl) ?_
  refine g_call [18] rfl rfl rfl rfl rfl rfl (fun w' hm => Seal_b w' c d (ha.m hm) (hb.m hm)) (fun x18 _ => ?_)
  refine g_pu rfl rfl rfl (pu_move rfl rfl) ?_
  refine g_pu rfl rfl rfl (pu_extract rfl rfl rfl) ?_
  refine g_pu rfl rfl rfl (pu_extract rfl rfl rfl) ?_
  refine g_pu rfl rfl rfl (pu_assign rfl rfl) ?_
  refine g_pu rfl rfl rfl (pu_assign rfl rfl) ?_
  refine g_nil ?_
  (repeat refine g_seq ?_)
  refine g_region ?_
  refine g_pu rfl rfl rfl (pu_move rfl rfl) ?_
  refine g_pu rfl rfl rfl (pu_move rfl rfl) ?_
  refine g_call [24] rfl rfl rfl rfl rfl rfl (fun w' hm => Open_b w' c d (ha.m hm) (hb.m hm)) (fun x24 _ => ?_)
  refine g_pu rfl rfl rfl (pu_move rfl rfl) ?_
  refine g_pu rfl rfl rfl (pu_extract rfl rfl rfl) ?_
  refine g_pu rfl rfl rfl (pu_extract rfl rfl rfl) ?_
  refine g_pu rfl rfl rfl (pu_assign rfl rfl) ?_
  refine g_pu rfl rfl rfl (pu_assign rfl rfl) ?_
  refine g_nil ?_
  (repeat refine g_seq ?_)
  refine g_region ?_
  refine g_pu rfl rfl rfl (pu_move rfl rfl) ?_
  refine g_pu rfl rfl rfl (pu_move rfl rfl) ?_
  refine g_call [30] rfl rfl rfl rfl rfl rfl (fun w' hm => WRounds_b w' c d 0 (r := none) (zs := []) (ha.m hm) (hb.m hm) (RdV.nil _ _) rfl (by omega)) (fun x30 _ => ?_)
  refine g_pu rfl rfl rfl (pu_move rfl rfl) ?_
  refine g_pu rfl rfl rfl (pu_extract rfl rfl rfl) ?_
  refine g_pu rfl rfl rfl (pu_extract rfl rfl rfl) ?_
  refine g_pu rfl rfl rfl (pu_assign rfl rfl) ?_
  refine g_pu rfl rfl rfl (pu_assign rfl rfl) ?_
  refine g_nil ?_
  (repeat refine g_seq ?_)
  refine g_region ?_
  refine g_pu rfl rfl rfl (pu_move rfl rfl) ?_
  refine g_call [35] rfl rfl rfl rfl rfl rfl (fun w' hm => SealAll_b w' d 0 (L := []) (ks := []) (hb.m hm) ⟨RdV.nil _ _, rfl, All2.nil, by omega⟩) (fun x35 _ => ?_)
  refine g_pu rfl rfl rfl (pu_move rfl rfl) ?_
  refine g_pu rfl rfl rfl (pu_extract rfl rfl rfl) ?_
  refine g_pu rfl rfl rfl (pu_extract rfl rfl rfl) ?_
  refine g_pu rfl rfl rfl (pu_assign rfl rfl) ?_
  refine g_pu rfl rfl rfl (pu_assign rfl rfl) ?_
  refine g_nil ?_
  (repeat refine g_seq ?_)
  refine g_region ?_
  refine g_pu rfl rfl rfl (pu_move rfl rfl) ?_
  refine g_pu rfl rfl rfl (pu_move rfl rfl) ?_
  refine g_pu rfl rfl rfl (pu_move rfl rfl) ?_
  refine g_lo [42] rfl rfl rfl rfl (lo_buildSlice rfl rfl (by decide) (by decide) rfl rfl) (fun b42 hb42 => ?_)
  refine g_call [43] rfl rfl rfl rfl rfl rfl (fun w' hm => OpenAll_b w' d 2 (L := [.slice p n c, .slice p n c]) (ks := [key, key]) (hb.m hm) ⟨hm.rowA 42 rfl, rfl, All2.cons ⟨_, _, _, rfl, ha.m hm, fun _ _ => trivial⟩ (All2.cons ⟨_, _, _, rfl, ha.m hm, fun _ _ => trivial⟩ All2.nil), by omega⟩) (fun x43 _ => ?_)
  refine g_pu rfl rfl rfl (pu_move rfl rfl) ?_
  refine g_pu rfl rfl rfl (pu_extract rfl rfl rfl) ?_
  refine g_pu rfl rfl rfl (pu_extract rfl rfl rfl) ?_
  refine g_pu rfl rfl rfl (pu_assign rfl rfl) ?_
  refine g_pu rfl rfl rfl (pu_assign rfl rfl) ?_
  refine g_nil ?_
  (repeat refine g_seq ?_)
  refine g_region ?_
  refine g_pu rfl rfl rfl (pu_move rfl rfl) ?_
  refine g_pu rfl rfl rfl (pu_move rfl rfl) ?_
  refine g_pu rfl rfl rfl (pu_move rfl rfl) ?_
  refine g_pu rfl rfl rfl (pu_move rfl rfl) ?_
  refine g_pu rfl rfl rfl (pu_move rfl rfl) ?_
  refine g_lo [51] rfl rfl rfl rfl (lo_buildSlice rfl rfl (by decide) (by decide) rfl rfl) (fun b51 hb51 => ?_)
  refine g_own 51 (L := [x18.sl (rdsV key b zS).length, x24.sl (rdsV key b zO).length, x30.sl (rdsV key b []).length, x35.sl (allV zS b []).length, x43.sl (allV zO b [key, key]).length]) (J := []) (c := 5) (s := 1) rfl (by simp) (by omega) ?_
  refine g_pu rfl rfl rfl (pu_assign rfl rfl) ?_
  refine g_nil ?_
  refine g_bagC [18, 24, 30, 35, 43] 300 (xs := [(x18, rdsV key b zS), (x24, rdsV key b zO), (x30, rdsV key b []), (x35, allV zS b []), (x43, allV zO b [key, key])]) ⟨.inl rfl, rfl, .inl rfl, rfl, .inl rfl, rfl, .inl rfl, rfl, .inl rfl, rfl, trivial⟩ rfl ?_
  exact g_ret1 rfl rfl (fun w' hm => ⟨(⟨some ⟨b51, 0, none⟩, 5⟩, [(x18, rdsV key b zS), (x24, rdsV key b zO), (x30, rdsV key b []), (x35, allV zS b []), (x43, allV zO b [key, key])]), rfl, rfl, hm.grows [51, 300] ⟨rfl, rfl, trivial⟩ rfl⟩)

theorem WideKeeps_spec (w : World) {p q : Option Addr} {n m : Nat} (c d : Nat) {key b : List (BitVec 8)} (ha : By w p n key) (hb : By w q m b) (hnb : n ≤ 140737488351232) (hmb : m ≤ 140737488351232) :
    Spec Try.prog 6 #[.slice p n c, .slice q m d] w (σ := Unit) (fun _ => True) (fun _ => .bool true) Nob (fun _ => []) := by
  refine enter Try.func6 rfl rfl (Mem.start w) ?_
  have hal := ha.len
  have hbl := hb.len
  have hsa := spareL_length key 40
  have hsb := spareL_length b 40
  have small : ∀ {X : List Otm}, conts X = wiL key b → (∀ x ∈ X, x.2.length ≤ 65536) ∧ X.length = 5 := fun {X} h => ⟨fun x hx => wiL_small (key := key) (b := b) (by rw [← h]; exact List.mem_map.2 ⟨x, hx, rfl⟩), by have := congrArg List.length h; rw [conts_length] at this; exact this⟩
  (repeat refine g_seq ?_)
  refine g_region ?_
  refine g_pu rfl rfl rfl (pu_assign rfl rfl) ?_
  refine g_nil ?_
  (repeat refine g_seq ?_)
  refine g_region ?_
  refine g_call [] rfl rfl rfl rfl rfl rfl (fun w' hm => awake07_b w') (fun _ _ => ?_)
  refine g_pu rfl rfl rfl (pu_not rfl rfl) ?_
  refine g_nil ?_
  (repeat refine g_seq ?_)
  refine g_cond_f rfl (g_skip ?_)
  (repeat refine g_seq ?_)
  refine g_region ?_
  refine g_pu rfl rfl rfl (pu_move rfl rfl) ?_
  refine g_call [16] rfl rfl rfl rfl rfl rfl (fun w' hm => Spare_b w' c (ha.m hm)) (fun x16 _ => ?_)
  refine g_pu rfl rfl rfl (pu_move rfl rfl) ?_
  refine g_pu rfl rfl rfl (pu_extract rfl rfl rfl) ?_
  refine g_pu rfl rfl rfl (pu_extract rfl rfl rfl) ?_
  refine g_pu rfl rfl rfl (pu_assign rfl rfl) ?_
  refine g_pu rfl rfl rfl (pu_assign rfl rfl) ?_
  refine g_nil ?_
  (repeat refine g_seq ?_)
  refine g_region ?_
  refine g_pu rfl rfl rfl (pu_move rfl rfl) ?_
  refine g_call [21] rfl rfl rfl rfl rfl rfl (fun w' hm => Spare_b w' d (hb.m hm)) (fun x21 _ => ?_)
  refine g_pu rfl rfl rfl (pu_move rfl rfl) ?_
  refine g_pu rfl rfl rfl (pu_extract rfl rfl rfl) ?_
  refine g_pu rfl rfl rfl (pu_extract rfl rfl rfl) ?_
  refine g_pu rfl rfl rfl (pu_assign rfl rfl) ?_
  refine g_pu rfl rfl rfl (pu_assign rfl rfl) ?_
  refine g_nil ?_
  (repeat refine g_seq ?_)
  refine g_region ?_
  refine g_pu rfl rfl rfl (pu_move rfl rfl) ?_
  refine g_pu rfl rfl rfl (pu_move rfl rfl) ?_
  refine g_call [26, 126] rfl rfl rfl rfl rfl rfl (fun w' hm => lists07_b w' _ _ (By.spare 16 rfl hm hal (by omega)) (By.spare 21 rfl hm hbl (by omega))) (fun x26 h26 => ?_)
  refine g_pu rfl rfl rfl (pu_assign rfl rfl) ?_
  refine g_nil ?_
  obtain ⟨s26, l26⟩ := small h26
  (repeat refine g_seq ?_)
  refine g_region ?_
  refine g_pu rfl rfl rfl (pu_move rfl rfl) ?_
  refine g_call [28, 128] rfl rfl rfl rfl rfl rfl (fun w' hm => Copies_b w' _ (BagC.byl 26 126 rfl rfl hm rfl (fun x hx => by have := s26 x hx; omega) (by omega))) (fun x28 h28 => ?_)
  refine g_pu rfl rfl rfl (pu_assign rfl rfl) ?_
  refine g_nil ?_
  (repeat refine g_seq ?_)
  refine g_region ?_
  refine g_pu rfl rfl rfl (pu_move rfl rfl) ?_
  refine g_pu rfl rfl rfl (pu_move rfl rfl) ?_
  refine g_call [31, 131] rfl rfl rfl rfl rfl rfl (fun w' hm => lists07_b w' _ _ (By.spare 16 rfl hm hal (by omega)) (By.spare 21 rfl hm hbl (by omega))) (fun x31 h31 => ?_)
  refine g_pu rfl rfl rfl (pu_assign rfl rfl) ?_
  refine g_nil ?_
  obtain ⟨s31, l31⟩ := small h31
  (repeat refine g_seq ?_)
  refine g_region ?_
  refine g_pu rfl rfl rfl (pu_move rfl rfl) ?_
  refine g_pu rfl rfl rfl (pu_move rfl rfl) ?_
  refine g_call [] rfl rfl rfl rfl rfl rfl (fun w' hm => Equals_b w' _ _ (BagC.byl 31 131 rfl rfl hm rfl (fun x hx => by have := s31 x hx; omega) (by omega)) (Owl.by 28 128 rfl rfl hm h28.1 (by omega))) (fun _ _ => ?_)
  refine g_as (t := 34) (u := .bool true) rfl (by rw [h31, h26]; simp) rfl ?_
  refine g_pu rfl rfl rfl (pu_not rfl rfl) ?_
  refine g_pu rfl rfl rfl (pu_move rfl rfl) ?_
  first | refine g_pass rfl rfl rfl ?_ | refine g_pu rfl rfl rfl (pu_move rfl rfl) ?_
  first | refine g_pass rfl rfl rfl ?_ | refine g_pu rfl rfl rfl (pu_move rfl rfl) ?_
  refine g_call [] rfl rfl rfl rfl rfl rfl (fun w' hm => Kept_b w' _ c (By.full 16 rfl hm (by rw [hsa, hal]) (by omega)) (ha.m hm)) (fun _ _ => ?_)
  first | refine g_pass rfl rfl rfl ?_ | refine g_pu rfl rfl rfl (pu_not rfl rfl) ?_
  first | refine g_pu rfl rfl rfl (pu_pick_t rfl rfl rfl) ?_ | refine g_pu rfl rfl rfl (pu_pick_f rfl rfl rfl) ?_
  refine g_pu rfl rfl rfl (pu_move rfl rfl) ?_
  first | refine g_pass rfl rfl rfl ?_ | refine g_pu rfl rfl rfl (pu_move rfl rfl) ?_
  first | refine g_pass rfl rfl rfl ?_ | refine g_pu rfl rfl rfl (pu_move rfl rfl) ?_
  refine g_call [] rfl rfl rfl rfl rfl rfl (fun w' hm => Kept_b w' _ d (By.full 21 rfl hm (by rw [hsb, hbl]) (by omega)) (hb.m hm)) (fun _ _ => ?_)
  first | refine g_pass rfl rfl rfl ?_ | refine g_pu rfl rfl rfl (pu_not rfl rfl) ?_
  first | refine g_pu rfl rfl rfl (pu_pick_t rfl rfl rfl) ?_ | refine g_pu rfl rfl rfl (pu_pick_f rfl rfl rfl) ?_
  refine g_nil ?_
  (repeat refine g_seq ?_)
  refine g_cond_f rfl (g_skip ?_)
  (repeat refine g_seq ?_)
  refine g_region ?_
  refine g_pu rfl rfl rfl (pu_move rfl rfl) ?_
  refine g_callW [16] [16] rfl rfl rfl rfl rfl rfl (fun j hj => ⟨16, by simp, _, rfl, hj⟩) (fun w' hm => OverP_b w' x16 (n + 40) (l := key) (hm.holds 16 _ rfl) hal (by omega)) (fun _ _ => ?_)
  refine g_nil ?_
  (repeat refine g_seq ?_)
  refine g_region ?_
  refine g_pu rfl rfl rfl (pu_move rfl rfl) ?_
  refine g_callW [21] [21] rfl rfl rfl rfl rfl rfl (fun j hj => ⟨21, by simp, _, rfl, hj⟩) (fun w' hm => OverP_b w' x21 (m + 40) (l := b) (hm.holds 21 _ rfl) hbl (by omega)) (fun _ _ => ?_)
  refine g_nil ?_
  have s67 : ∀ {X : List Otm}, conts X = wiL key b → ∀ x ∈ X, x.2.length ≤ 140737488355200 := fun h x hx => by have := (small h).1 x hx; omega
  (repeat refine g_seq ?_)
  refine g_region ?_
  refine g_pu rfl rfl rfl (pu_move rfl rfl) ?_
  refine g_pu rfl rfl rfl (pu_move rfl rfl) ?_
  refine g_call [] rfl rfl rfl rfl rfl rfl (fun w' hm => Equals_b w' _ _ (BagC.byl 26 126 rfl rfl hm rfl (fun x hx => by have := s26 x hx; omega) (by omega)) (Owl.by 28 128 rfl rfl hm h28.1 (by omega))) (fun _ _ => ?_)
  refine g_as (t := 54) (u := .bool true) rfl (by simp) rfl ?_
  refine g_pu rfl rfl rfl (pu_not rfl rfl) ?_
  refine g_pu rfl rfl rfl (pu_move rfl rfl) ?_
  first | refine g_pass rfl rfl rfl ?_ | refine g_pu rfl rfl rfl (pu_move rfl rfl) ?_
  first | refine g_pass rfl rfl rfl ?_ | refine g_pu rfl rfl rfl (pu_move rfl rfl) ?_
  refine g_call [] rfl rfl rfl rfl rfl rfl (fun w' hm => Equals_b w' _ _ (BagC.byl 31 131 rfl rfl hm rfl (fun x hx => by have := s31 x hx; omega) (by omega)) (Owl.by 28 128 rfl rfl hm h28.1 (by omega))) (fun _ _ => ?_)
  refine g_as (t := 59) (u := .bool true) rfl (by rw [h31, h26]; simp) rfl ?_
  first | refine g_pass rfl rfl rfl ?_ | refine g_pu rfl rfl rfl (pu_not rfl rfl) ?_
  first | refine g_pu rfl rfl rfl (pu_pick_t rfl rfl rfl) ?_ | refine g_pu rfl rfl rfl (pu_pick_f rfl rfl rfl) ?_
  refine g_pu rfl rfl rfl (pu_move rfl rfl) ?_
  first | refine g_pass rfl rfl rfl ?_ | refine g_pu rfl rfl rfl (pu_move rfl rfl) ?_
  refine g_call [64] rfl rfl rfl rfl rfl rfl (fun w' hm => Copy_b w' c (ha.m hm)) (fun x64 _ => ?_)
  first | refine g_pass rfl rfl rfl ?_ | refine g_pu rfl rfl rfl (pu_move rfl rfl) ?_
  refine g_call [66] rfl rfl rfl rfl rfl rfl (fun w' hm => Copy_b w' d (hb.m hm)) (fun x66 _ => ?_)
  refine g_call [67, 167] rfl rfl rfl rfl rfl rfl (fun w' hm => lists07_b w' _ _ (By.ow 64 rfl hm hal (by omega)) (By.ow 66 rfl hm hbl (by omega))) (fun x67 h67 => ?_)
  first | refine g_pass rfl rfl rfl ?_ | refine g_pu rfl rfl rfl (pu_move rfl rfl) ?_
  refine g_call [] rfl rfl rfl rfl rfl rfl (fun w' hm => Equals_b w' _ _ (BagC.byl 67 167 rfl rfl hm rfl (fun x hx => by have := (small h67).1 x hx; omega) (by have := (small h67).2; omega)) (Owl.by 28 128 rfl rfl hm h28.1 (by omega))) (fun _ _ => ?_)
  refine g_as (t := 69) (u := .bool true) rfl (by rw [h67, h26]; simp) rfl ?_
  first | refine g_pass rfl rfl rfl ?_ | refine g_pu rfl rfl rfl (pu_not rfl rfl) ?_
  first | refine g_pu rfl rfl rfl (pu_pick_t rfl rfl rfl) ?_ | refine g_pu rfl rfl rfl (pu_pick_f rfl rfl rfl) ?_
  refine g_nil ?_
  (repeat refine g_seq ?_)
  refine g_cond_f rfl (g_skip ?_)
  have hol : (bs (overL key n ++ (List.range 40).map fun t => spareB (key.length + t))).length = n + 40 := by rw [bs_length, List.length_append, overL_length]; simp [hal]
  have hol2 : (bs (overL b m ++ (List.range 40).map fun t => spareB (b.length + t))).length = m + 40 := by rw [bs_length, List.length_append, overL_length]; simp [hbl]
  refine g_know (φ := (∀ x ∈ x26.2, x.2.length ≤ x.1.c) ∧ (∀ x ∈ x31.2, x.2.length ≤ x.1.c)) (fun w' hm => ⟨BagC.le (E := 5) (hm.holds 126 _ rfl), BagC.le (E := 5) (hm.holds 131 _ rfl)⟩) (fun hcap => ?_)
  (repeat refine g_seq ?_)
  refine g_region ?_
  refine g_pu rfl rfl rfl (pu_move rfl rfl) ?_
  refine g_pu rfl rfl rfl (pu_move rfl rfl) ?_
  refine g_lo [74] rfl rfl rfl rfl (lo_buildSlice rfl rfl (by decide) (by decide) rfl rfl) (fun b74 hb74 => ?_)
  refine g_own 74 (L := [.slice (some ⟨x16, 0, none⟩) (n + 40) (n + 40), .slice (some ⟨x21, 0, none⟩) (m + 40) (m + 40)]) (J := []) (c := 2) (s := 1) rfl (by simp) (by omega) ?_
  refine g_pu rfl rfl rfl (pu_move rfl rfl) ?_
  refine g_append1 74 (vals x26.2) rfl rfl rfl rfl rfl rfl rfl rfl rfl (fun w' hm => Ow.rd (t := 26) rfl hm) (by rw [vals_length]) (oneCell_vals _) (by omega) (by omega) (fun p1 c1 => ?_)
  refine g_pu rfl rfl rfl (pu_move rfl rfl) ?_
  refine g_append1 74 (vals x31.2) rfl rfl rfl rfl rfl rfl rfl rfl (by rw [List.length_append, vals_length]; rfl) (fun w' hm => Ow.rd (t := 31) rfl hm) (by rw [vals_length]) (oneCell_vals _) (by omega) (by omega) (fun p2 c2 => ?_)
  refine g_callW [16, 21, 126, 131] [] rfl rfl rfl rfl rfl rfl (TgL.ch (TgL.row 16 0 (n + 40) rfl (Nat.le_of_eq hol.symm) (by omega) rfl (TgL.row 21 1 (m + 40) rfl (Nat.le_of_eq hol2.symm) (by omega) rfl (TgL.otm 126 2 rfl rfl (TgL.otm 131 (2 + x26.2.length) rfl rfl TgL.nil))))) (fun w' hm => Apart_o hm (TgL.row 16 0 (n + 40) rfl (Nat.le_of_eq hol.symm) (by omega) rfl (TgL.row 21 1 (m + 40) rfl (Nat.le_of_eq hol2.symm) (by omega) rfl (TgL.otm 126 2 rfl rfl (TgL.otm 131 (2 + x26.2.length) rfl rfl TgL.nil)))) 74 _ rfl rfl (HxL.fourW (n1 := n + 40) (n2 := m + 40) ⟨⟨rfl, rfl, rfl, Nat.le_refl _, by omega⟩, ⟨rfl, rfl, rfl, Nat.le_refl _, by omega⟩, trivial⟩ ⟨hcap.1, s67 h26⟩ ⟨hcap.2, s67 h31⟩) (by simp [vals_length]; omega) (by omega)) (fun _ _ => ?_)
  refine g_pu rfl rfl rfl (pu_assign rfl rfl) ?_
  refine g_nil ?_
  exact g_ret1 rfl rfl (fun w' hm => ⟨(), trivial, rfl, hm.grows [] trivial rfl⟩)
end Go.Sx

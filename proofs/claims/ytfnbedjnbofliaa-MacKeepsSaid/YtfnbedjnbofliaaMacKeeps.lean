/-
  MacKeeps: no call of mac changes or keeps what it is handed, and all answers are memory of their own. No condition.
-/
import Derived.Test.YtfnbedjnbofliaaM4
set_option linter.unusedVariables false
set_option linter.unusedSimpArgs false
namespace Go.Sx
open Go Go.Proofs

/-- What the calls answer. -/
def mkL (a b : List (BitVec 8)) : List (List (BitVec 8)) := [(hmacL a b).take 16, (hmacL b (a ++ b)).take 16, expL a b 40, expL b [] 32]
theorem mkL_small {a b l : List (BitVec 8)} (h : l ∈ mkL a b) : l.length ≤ 65536 := by
  unfold mkL at h
  have h1 := hmacL_length a b
  have h2 := hmacL_length b (a ++ b)
  have h3 := expL_length (key := a) (info := b) 40
  have h4 := expL_length (key := b) (info := []) 32
  simp only [List.mem_cons, List.not_mem_nil, or_false] at h
  rcases h with rfl | rfl | rfl | rfl
  · rw [List.length_take]; omega
  · rw [List.length_take]; omega
  · omega
  · omega
theorem two_small {k : Nat} {x y s : ByteArray} (h : s ∈ [x, y]) (hx : x.size ≤ k) (hy : y.size ≤ k) : s.size ≤ k := by
  rcases List.mem_cons.1 h with rfl | h
  · exact hx
  · obtain rfl := List.mem_singleton.1 h
    exact hy
/-- Two rows and two lists. -/
theorem HxL.four {y1 y2 : Itm} {v1 v2 : Value} {n1 n2 : Nat} {X Y : List Otm} (h0 : HxL 0 [y1, y2] [v1, v2] [n1, n2]) (hX : (∀ x ∈ X, x.2.length ≤ x.1.c) ∧ ∀ x ∈ X, x.2.length ≤ 140737488355200) (hY : (∀ x ∈ Y, x.2.length ≤ x.1.c) ∧ ∀ x ∈ Y, x.2.length ≤ 140737488355200) :
    HxL 0 (List.flatten [[y1], [y2], itms 2 X, itms (2 + X.length) Y]) ([v1, v2] ++ vals X ++ vals Y) ([n1, n2] ++ lens' X ++ lens' Y) := by
  rw [show List.flatten [[y1], [y2], itms 2 X, itms (2 + X.length) Y] = [y1, y2] ++ itms 2 X ++ itms (2 + X.length) Y by simp]
  refine HxL.app (HxL.app h0 (HxL.otm hX.1 hX.2)) ?_
  rw [show 0 + ([y1, y2] ++ itms 2 X).length = 2 + X.length by simp [itms_length]; omega]
  exact HxL.otm hY.1 hY.2

theorem Equals_t (w : World) {p q : Option Addr} {n m : Nat} (c d : Nat) {L L' : List Value} {ls ls' : List (List (BitVec 8))} (ha : ByL w p n L ls) (hb : ByL w q m L' ls') (he : ls = ls') :
    Spec Try.prog 33 #[.slice p n c, .slice q m d] w (σ := Unit) (fun _ => True) (fun _ => .bool true) Nob (fun _ => []) := by
  have h := Equals_b w c d ha hb
  rw [decide_eq_true he] at h
  exact h
theorem lists03_b (w : World) {p q : Option Addr} {n m : Nat} (c d : Nat) {a b : List (BitVec 8)} (ha : By w p n a) (hb : By w q m b) (hnb : n ≤ 140737488351232) (hmb : m ≤ 140737488351232) :
    Spec Try.prog 32 #[.slice p n c, .slice q m d] w (σ := Ow × List Otm) (fun s => conts s.2 = mkL a b) (fun s => s.1.sl s.2.length) Nob (fun s => [s.1.ck 22 1 (vals s.2), .fact (BSC s.2) (BagC 5 s.2)]) := by
  refine enter Try.func32 rfl rfl (Mem.start w) ?_
  have hal := ha.len
  have hbl := hb.len
  have h1 := hmacL_length a b
  have h2 := hmacL_length b (a ++ b)
  have t1 := take_len (l := hmacL a b) (k := 16) (by omega)
  have t2 := take_len (l := hmacL b (a ++ b)) (k := 16) (by omega)
  have h3 := expL_length (key := a) (info := b) 40
  have h4 := expL_length (key := b) (info := []) 32
  (repeat refine g_seq ?_)
  refine g_region ?_
  refine g_pu rfl rfl rfl (pu_assign rfl rfl) ?_
  refine g_nil ?_
  (repeat refine g_seq ?_)
  refine g_region ?_
  refine g_pu rfl rfl rfl (pu_move rfl rfl) ?_
  refine g_pu rfl rfl rfl (pu_move rfl rfl) ?_
  refine g_lo [12] rfl rfl rfl rfl (lo_buildSlice rfl rfl (by decide) (by decide) rfl rfl) (fun b12 hb12 => ?_)
  refine g_call [13] rfl rfl rfl rfl rfl rfl (fun w' hm => Expand_b w' c 1 40 (L := [.slice q m d]) (ls := [b]) (ha.m hm) ⟨hm.rowA 12 rfl, rfl, All2.cons ⟨_, _, _, rfl, hb.m hm, fun _ _ => trivial⟩ All2.nil, by omega⟩ (by omega) (by omega) (by omega) (by rw [flat1]; omega)) (fun x13 _ => ?_)
  rw [flat1]
  refine g_pu rfl rfl rfl (pu_move rfl rfl) ?_
  refine g_pu rfl rfl rfl (pu_extract rfl rfl rfl) ?_
  refine g_pu rfl rfl rfl (pu_extract rfl rfl rfl) ?_
  refine g_pu rfl rfl rfl (pu_assign rfl rfl) ?_
  refine g_pu rfl rfl rfl (pu_assign rfl rfl) ?_
  refine g_nil ?_
  (repeat refine g_seq ?_)
  refine g_region ?_
  refine g_pu rfl rfl rfl (pu_move rfl rfl) ?_
  refine g_call [18] rfl rfl rfl rfl rfl rfl (fun w' hm => Expand_b w' d 0 32 (L := []) (ls := []) (hb.m hm) ⟨RdV.nil _ _, rfl, All2.nil, by omega⟩ (by omega) (by omega) (by omega) (by simp)) (fun x18 _ => ?_)
  rw [show ([] : List (List (BitVec 8))).flatten = [] from rfl]
  refine g_pu rfl rfl rfl (pu_move rfl rfl) ?_
  refine g_pu rfl rfl rfl (pu_extract rfl rfl rfl) ?_
  refine g_pu rfl rfl rfl (pu_extract rfl rfl rfl) ?_
  refine g_pu rfl rfl rfl (pu_assign rfl rfl) ?_
  refine g_pu rfl rfl rfl (pu_assign rfl rfl) ?_
  refine g_nil ?_
  (repeat refine g_seq ?_)
  refine g_region ?_
  refine g_pu rfl rfl rfl (pu_move rfl rfl) ?_
  refine g_pu rfl rfl rfl (pu_move rfl rfl) ?_
  refine g_lo [23] rfl rfl rfl rfl (lo_buildSlice rfl rfl (by decide) (by decide) rfl rfl) (fun b23 hb23 => ?_)
  refine g_call [24] rfl rfl rfl rfl rfl rfl (fun w' hm => Short_b w' c 1 (LL := [.slice q m d]) (ls := [b]) (ha.m hm) ⟨hm.rowA 23 rfl, rfl, All2.cons ⟨_, _, _, rfl, hb.m hm, fun _ _ => trivial⟩ All2.nil, by omega⟩ (by omega) (fun l hl => by obtain rfl := List.mem_singleton.1 hl; omega) (by rw [flat1]; omega)) (fun x24 _ => ?_)
  rw [flat1]
  refine g_pu rfl rfl rfl (pu_move rfl rfl) ?_
  refine g_pu rfl rfl rfl (pu_move rfl rfl) ?_
  refine g_pu rfl rfl rfl (pu_move rfl rfl) ?_
  refine g_lo [28] rfl rfl rfl rfl (lo_buildSlice rfl rfl (by decide) (by decide) rfl rfl) (fun b28 hb28 => ?_)
  refine g_call [29] rfl rfl rfl rfl rfl rfl (fun w' hm => Short_b w' d 2 (LL := [.slice p n c, .slice q m d]) (ls := [a, b]) (hb.m hm) ⟨hm.rowA 28 rfl, rfl, All2.cons ⟨_, _, _, rfl, ha.m hm, fun _ _ => trivial⟩ (All2.cons ⟨_, _, _, rfl, hb.m hm, fun _ _ => trivial⟩ All2.nil), by omega⟩ (by omega) (fun l hl => by simp only [List.mem_cons, List.not_mem_nil, or_false] at hl; rcases hl with rfl | rfl <;> omega) (by rw [flat2, List.length_append]; omega)) (fun x29 _ => ?_)
  rw [flat2]
  refine g_pu rfl rfl rfl (pu_move rfl rfl) ?_
  refine g_pu rfl rfl rfl (pu_move rfl rfl) ?_
  refine g_lo [32] rfl rfl rfl rfl (lo_buildSlice rfl rfl (by decide) (by decide) rfl rfl) (fun q32 hq32 => ?_)
  refine g_own 32 (L := [x24.sl 16, x29.sl 16, x13.sl 40, x18.sl 32]) (J := []) (c := 4) (s := 1) rfl (by simp) (by omega) ?_
  refine g_pu rfl rfl rfl (pu_assign rfl rfl) ?_
  refine g_nil ?_
  refine g_bagC [24, 29, 13, 18] 300 (E := 5) (xs := [(x24, (hmacL a b).take 16), (x29, (hmacL b (a ++ b)).take 16), (x13, expL a b 40), (x18, expL b [] 32)]) ⟨.inr ⟨_, rfl⟩, rfl, .inr ⟨_, rfl⟩, rfl, .inl rfl, rfl, .inl rfl, rfl, trivial⟩ rfl ?_
  refine g_ret1 rfl rfl (fun w' hm => ⟨(⟨some ⟨q32, 0, none⟩, 4⟩, [(x24, (hmacL a b).take 16), (x29, (hmacL b (a ++ b)).take 16), (x13, expL a b 40), (x18, expL b [] 32)]), rfl, rfl, hm.grows [32, 300] ⟨?_, rfl, trivial⟩ rfl⟩)
  unfold vals
  simp only [List.map_cons, List.map_nil, t1, t2, h3, h4]
  rfl

theorem MacKeeps_spec (w : World) {p q : Option Addr} {n m : Nat} (c d : Nat) {a b : List (BitVec 8)} (ha : By w p n a) (hb : By w q m b) (hnb : n ≤ 140737488351232) (hmb : m ≤ 140737488351232) :
    Spec Try.prog 8 #[.slice p n c, .slice q m d] w (σ := Unit) (fun _ => True) (fun _ => .bool true) Nob (fun _ => []) := by
  refine enter Try.func8 rfl rfl (Mem.start w) ?_
  have hal := ha.len
  have hbl := hb.len
  have hsa := spareL_length a 40
  have hsb := spareL_length b 40
  have hpl := padK_length a 54#8
  have hpl2 := padK_length a 92#8
  have hhl := hmacL_length a b
  have hH : shaL (padK a 92#8 ++ shaL (padK a 54#8 ++ b)) = hmacL a b := rfl
  have hab : (padK a 54#8 ++ b).length = 64 + m := by rw [List.length_append, hpl, hbl]
  have small : ∀ {X : List Otm}, conts X = mkL a b → (∀ x ∈ X, x.2.length ≤ 65536) ∧ X.length = 4 := fun {X} h => ⟨fun x hx => mkL_small (a := a) (b := b) (by rw [← h]; exact List.mem_map.2 ⟨x, hx, rfl⟩), by have := congrArg List.length h; rw [conts_length] at this; exact this⟩
  (repeat refine g_seq ?_)
  refine g_region ?_
  refine g_pu rfl rfl rfl (pu_assign rfl rfl) ?_
  refine g_nil ?_
  (repeat refine g_seq ?_)
  refine g_region ?_
  refine g_call [] rfl rfl rfl rfl rfl rfl (fun w' hm => awake03_b w') (fun _ _ => ?_)
  refine g_pu rfl rfl rfl (pu_not rfl rfl) ?_
  refine g_nil ?_
  (repeat refine g_seq ?_)
  refine g_cond_f rfl (g_skip ?_)
  (repeat refine g_seq ?_)
  refine g_region ?_
  refine g_pu rfl rfl rfl (pu_move rfl rfl) ?_
  refine g_call [19] rfl rfl rfl rfl rfl rfl (fun w' hm => Spare_b w' c (ha.m hm)) (fun x19 _ => ?_)
  refine g_pu rfl rfl rfl (pu_move rfl rfl) ?_
  refine g_pu rfl rfl rfl (pu_extract rfl rfl rfl) ?_
  refine g_pu rfl rfl rfl (pu_extract rfl rfl rfl) ?_
  refine g_pu rfl rfl rfl (pu_assign rfl rfl) ?_
  refine g_pu rfl rfl rfl (pu_assign rfl rfl) ?_
  refine g_nil ?_
  (repeat refine g_seq ?_)
  refine g_region ?_
  refine g_pu rfl rfl rfl (pu_move rfl rfl) ?_
  refine g_call [24] rfl rfl rfl rfl rfl rfl (fun w' hm => Spare_b w' d (hb.m hm)) (fun x24 _ => ?_)
  refine g_pu rfl rfl rfl (pu_move rfl rfl) ?_
  refine g_pu rfl rfl rfl (pu_extract rfl rfl rfl) ?_
  refine g_pu rfl rfl rfl (pu_extract rfl rfl rfl) ?_
  refine g_pu rfl rfl rfl (pu_assign rfl rfl) ?_
  refine g_pu rfl rfl rfl (pu_assign rfl rfl) ?_
  refine g_nil ?_
  (repeat refine g_seq ?_)
  refine g_region ?_
  refine g_pu rfl rfl rfl (pu_move rfl rfl) ?_
  refine g_pu rfl rfl rfl (pu_move rfl rfl) ?_
  refine g_call [29, 129] rfl rfl rfl rfl rfl rfl (fun w' hm => lists03_b w' _ _ (By.spare 19 rfl hm hal (by omega)) (By.spare 24 rfl hm hbl (by omega)) hnb hmb) (fun x29 h29 => ?_)
  refine g_pu rfl rfl rfl (pu_assign rfl rfl) ?_
  refine g_nil ?_
  obtain ⟨s29, l29⟩ := small h29
  (repeat refine g_seq ?_)
  refine g_region ?_
  refine g_pu rfl rfl rfl (pu_move rfl rfl) ?_
  refine g_call [31, 131] rfl rfl rfl rfl rfl rfl (fun w' hm => Copies_b w' _ (BagC.byl 29 129 rfl rfl hm rfl (fun x hx => by have := s29 x hx; omega) (by omega))) (fun x31 h31 => ?_)
  refine g_pu rfl rfl rfl (pu_assign rfl rfl) ?_
  refine g_nil ?_
  (repeat refine g_seq ?_)
  refine g_region ?_
  refine g_pu rfl rfl rfl (pu_move rfl rfl) ?_
  refine g_call [33, 133, 233] rfl rfl rfl rfl rfl rfl (fun w' hm => NewTagger_b w' _ (By.spare 19 rfl hm hal (by omega)) (by omega)) (fun x33 _ => ?_)
  refine g_pu rfl rfl rfl (pu_assign rfl rfl) ?_
  refine g_nil ?_
  (repeat refine g_seq ?_)
  refine g_region ?_
  refine g_pu rfl rfl rfl (pu_move rfl rfl) ?_
  refine g_pu rfl rfl rfl (pu_nil rfl rfl) ?_
  refine g_pu rfl rfl rfl (pu_fieldAddr (by decide) rfl rfl) ?_
  refine g_pu rfl rfl rfl (pu_move rfl rfl) ?_
  refine g_lo [38] rfl rfl rfl rfl (lo_buildSlice rfl rfl (by decide) (by decide) rfl rfl) (fun b38 hb38 => ?_)
  refine g_callW [33, 133] [33, 133] rfl rfl rfl rfl rfl rfl (fun j hj => hj.elim (fun h => ⟨33, by simp, _, rfl, h⟩) (fun h => ⟨133, by simp, _, rfl, h⟩)) (fun w' hm => Write_g w' x33.1 (L := padK a 54#8) (J := [x33.2.2.sl 64]) x33.2.1 1 (LL := [.slice (some ⟨x24, 0, none⟩) m (m + 40)]) (ls := [b]) (hm.holds 33 _ rfl) (hm.holds 133 _ rfl) (fun j hj he => hm.apart 133 _ 33 _ rfl rfl (by decide) j hj he) (fun j hj => hm.below 133 _ rfl j hj) (hm.rowA 38 rfl) rfl (All2.cons ⟨_, _, _, rfl, By.spare 24 rfl hm hbl (by omega), fun _ _ => trivial⟩ All2.nil) (fun _ b o e hb => by cases e; exact hb.elim (fun h1 => hm.apart 38 _ 33 _ rfl rfl (by decide) _ rfl h1) (fun h1 => hm.apart 38 _ 133 _ rfl rfl (by decide) _ rfl h1)) (fun q m c hv _ j hj hb => by cases List.mem_singleton.1 hv; exact hb.elim (fun h1 => hm.apart 24 _ 33 _ rfl rfl (by decide) j (At.some.1 hj) h1) (fun h1 => hm.apart 24 _ 133 _ rfl rfl (by decide) j (At.some.1 hj) h1)) (by omega) (fun l2 hl2 => by obtain rfl := List.mem_singleton.1 hl2; omega) (by rw [flat1, hpl]; omega)) (fun y' _ => ?_)
  rw [flat1]
  refine g_nil ?_
  (repeat refine g_seq ?_)
  refine g_region ?_
  refine g_pu rfl rfl rfl (pu_move rfl rfl) ?_
  refine g_call [] rfl rfl rfl rfl rfl rfl (fun w' hm => TSum_b w' x33.1 (L := padK a 54#8 ++ b) (ob := padK a 92#8) y' x33.2.2 (hm.holds 33 _ rfl) (OwnO.rd (hm.holds 133 _ rfl)) (By.ow 233 rfl hm hpl2 (by omega)) (by omega)) (fun _ _ => ?_)
  rw [hH]
  refine g_lo [12] rfl rfl rfl rfl (lo_alloc rfl) (fun b12 hb12 => ?_)
  refine g_storeL 12 (s := 32) (C := bs (hmacL a b)) rfl rfl rfl rfl rfl rfl (by rw [bs_length, hhl]) rfl (oneCell_bs _) ?_
  refine g_nil ?_
  (repeat refine g_seq ?_)
  refine g_region ?_
  refine g_pu rfl rfl rfl (pu_move rfl rfl) ?_
  refine g_pu rfl rfl rfl (pu_move rfl rfl) ?_
  refine g_pu rfl rfl rfl (pu_move rfl rfl) ?_
  refine g_pu rfl rfl rfl (pu_move rfl rfl) ?_
  refine g_lo [46] rfl rfl rfl rfl (lo_buildSlice rfl rfl (by decide) (by decide) rfl rfl) (fun b46 hb46 => ?_)
  refine g_call [] rfl rfl rfl rfl rfl rfl (fun w' hm => MCheck_b w' _ 2 _ (key := a) (tg := b) (LL := [.slice (some ⟨x24, 0, none⟩) m (m + 40), .slice (some ⟨x19, 0, none⟩) n (n + 40)]) (ls := [b, a]) (By.spare 19 rfl hm hal (by omega)) (By.spare 24 rfl hm hbl (by omega)) ⟨hm.rowA 46 rfl, rfl, All2.cons ⟨_, _, _, rfl, By.spare 24 rfl hm hbl (by omega), fun _ _ => trivial⟩ (All2.cons ⟨_, _, _, rfl, By.spare 19 rfl hm hal (by omega), fun _ _ => trivial⟩ All2.nil), by omega⟩ (by omega) (fun l hl => by simp only [List.mem_cons, List.not_mem_nil, or_false] at hl; rcases hl with rfl | rfl <;> omega) (by rw [flat2, List.length_append]; omega)) (fun _ _ => ?_)
  refine g_nil ?_
  (repeat refine g_seq ?_)
  refine g_region ?_
  refine g_pu rfl rfl rfl (pu_move rfl rfl) ?_
  refine g_lo [49] rfl rfl rfl rfl (lo_buildSlice rfl rfl (by decide) (by decide) rfl rfl) (fun b49 hb49 => ?_)
  refine g_call [50] rfl rfl rfl rfl rfl rfl (fun w' hm => Derive_b w' _ _ (ss := [_, _]) (By.spare 19 rfl hm hal (by omega)) (hm.rowA 49 rfl) rfl (by omega) (by omega) (fun s hs => two_small hs (by decide) (by decide))) (fun x50 _ => ?_)
  refine g_pu rfl rfl rfl (pu_assign rfl rfl) ?_
  refine g_nil ?_
  (repeat refine g_seq ?_)
  refine g_region ?_
  refine g_pu rfl rfl rfl (pu_move rfl rfl) ?_
  first | refine g_pu rfl rfl rfl (pu_len rfl rfl) ?_ | refine g_pu rfl rfl rfl (pu_lenS rfl rfl) ?_
  first | refine g_pu rfl rfl rfl (pu_neq_t rfl rfl rfl (by omega)) ?_ | refine g_pu rfl rfl rfl (pu_neq_f rfl rfl rfl (by omega)) ?_ | refine g_pu rfl rfl rfl (pu_neq rfl rfl rfl) ?_
  refine g_pu rfl rfl rfl (pu_move rfl rfl) ?_
  first | refine g_pass rfl rfl rfl ?_ | refine g_pu rfl rfl rfl (pu_move rfl rfl) ?_
  first | refine g_pass rfl rfl rfl ?_ | refine g_pu rfl rfl rfl (pu_move rfl rfl) ?_
  refine g_call [57, 157] rfl rfl rfl rfl rfl rfl (fun w' hm => lists03_b w' _ _ (By.spare 19 rfl hm hal (by omega)) (By.spare 24 rfl hm hbl (by omega)) hnb hmb) (fun x57 h57 => ?_)
  have hs57 := small h57
  first | refine g_pass rfl rfl rfl ?_ | refine g_pu rfl rfl rfl (pu_move rfl rfl) ?_
  refine g_call [] rfl rfl rfl rfl rfl rfl (fun w' hm => Equals_b w' _ _ (BagC.byl 57 157 rfl rfl hm rfl (fun x hx => by have := hs57.1 x hx; omega) (by have := hs57.2; omega)) (Owl.by 31 131 rfl rfl hm h31.1 (by omega))) (fun _ _ => ?_)
  refine g_as (t := 59) (u := .bool true) rfl (by rw [h57, h29]; simp) rfl ?_
  first | refine g_pass rfl rfl rfl ?_ | refine g_pu rfl rfl rfl (pu_not rfl rfl) ?_
  first | refine g_pu rfl rfl rfl (pu_pick_t rfl rfl rfl) ?_ | refine g_pu rfl rfl rfl (pu_pick_f rfl rfl rfl) ?_
  refine g_pu rfl rfl rfl (pu_move rfl rfl) ?_
  first | refine g_pass rfl rfl rfl ?_ | refine g_pu rfl rfl rfl (pu_move rfl rfl) ?_
  first | refine g_pass rfl rfl rfl ?_ | refine g_pu rfl rfl rfl (pu_move rfl rfl) ?_
  refine g_call [] rfl rfl rfl rfl rfl rfl (fun w' hm => Kept_b w' _ c (By.full 19 rfl hm (by rw [hsa, hal]) (by omega)) (ha.m hm)) (fun _ _ => ?_)
  first | refine g_pass rfl rfl rfl ?_ | refine g_pu rfl rfl rfl (pu_not rfl rfl) ?_
  first | refine g_pu rfl rfl rfl (pu_pick_t rfl rfl rfl) ?_ | refine g_pu rfl rfl rfl (pu_pick_f rfl rfl rfl) ?_
  refine g_pu rfl rfl rfl (pu_move rfl rfl) ?_
  first | refine g_pass rfl rfl rfl ?_ | refine g_pu rfl rfl rfl (pu_move rfl rfl) ?_
  first | refine g_pass rfl rfl rfl ?_ | refine g_pu rfl rfl rfl (pu_move rfl rfl) ?_
  refine g_call [] rfl rfl rfl rfl rfl rfl (fun w' hm => Kept_b w' _ d (By.full 24 rfl hm (by rw [hsb, hbl]) (by omega)) (hb.m hm)) (fun _ _ => ?_)
  first | refine g_pass rfl rfl rfl ?_ | refine g_pu rfl rfl rfl (pu_not rfl rfl) ?_
  first | refine g_pu rfl rfl rfl (pu_pick_t rfl rfl rfl) ?_ | refine g_pu rfl rfl rfl (pu_pick_f rfl rfl rfl) ?_
  refine g_nil ?_
  (repeat refine g_seq ?_)
  refine g_cond_f rfl (g_skip ?_)
  (repeat refine g_seq ?_)
  refine g_region ?_
  refine g_pu rfl rfl rfl (pu_move rfl rfl) ?_
  refine g_callW [19] [19] rfl rfl rfl rfl rfl rfl (fun j hj => ⟨19, by simp, _, rfl, hj⟩) (fun w' hm => OverP_b w' x19 (n + 40) (l := a) (hm.holds 19 _ rfl) hal (by omega)) (fun _ _ => ?_)
  refine g_nil ?_
  (repeat refine g_seq ?_)
  refine g_region ?_
  refine g_pu rfl rfl rfl (pu_move rfl rfl) ?_
  refine g_callW [24] [24] rfl rfl rfl rfl rfl rfl (fun j hj => ⟨24, by simp, _, rfl, hj⟩) (fun w' hm => OverP_b w' x24 (m + 40) (l := b) (hm.holds 24 _ rfl) hbl (by omega)) (fun _ _ => ?_)
  refine g_nil ?_
  (repeat refine g_seq ?_)
  refine g_region ?_
  refine g_pu rfl rfl rfl (pu_move rfl rfl) ?_
  refine g_call [79] rfl rfl rfl rfl rfl rfl (fun w' hm => Copy_b w' c (ha.m hm)) (fun x79 _ => ?_)
  refine g_pu rfl rfl rfl (pu_move rfl rfl) ?_
  refine g_call [81] rfl rfl rfl rfl rfl rfl (fun w' hm => Copy_b w' d (hb.m hm)) (fun x81 _ => ?_)
  refine g_call [82, 182] rfl rfl rfl rfl rfl rfl (fun w' hm => lists03_b w' _ _ (By.ow 79 rfl hm hal (by omega)) (By.ow 81 rfl hm hbl (by omega)) hnb hmb) (fun x82 h82 => ?_)
  refine g_pu rfl rfl rfl (pu_assign rfl rfl) ?_
  refine g_nil ?_
  obtain ⟨s82, l82⟩ := small h82
  (repeat refine g_seq ?_)
  refine g_any (20, []) ?_
  refine a_pu 0 rfl rfl rfl rfl (pu_move rfl rfl) rfl rfl (by kernel_rfl) ?_
  refine a_pu 2 rfl rfl rfl rfl (pu_loadW 12 (L := bs (hmacL a b)) rfl rfl rfl (by rw [bs_length, hhl])) rfl rfl (by kernel_rfl) ?_
  refine a_do 1 84 [] (does_call rfl rfl rfl rfl rfl (fun w' hm => TSum_b w' x33.1 (L := padK a 54#8 ++ b) (ob := padK a 92#8) y' x33.2.2 (hm.holds 33 _ rfl) (OwnO.rd (hm.holds 133 _ rfl)) (By.ow 233 rfl hm hpl2 (by omega)) (by omega))) rfl rfl (by kernel_rfl) rfl rfl (by kernel_rfl) (by kernel_rfl) (by kernel_rfl) rfl (fun p hp => by cases hp) ?_; rintro v_ cs_ ⟨_, _, rfl, rfl⟩
  rw [hH]
  refine a_pu 3 rfl rfl rfl rfl (pu_neqA_f rfl rfl rfl rfl (all_bs _) (by rw [bs_length, hhl])) rfl rfl (by kernel_rfl) ?_
  refine a_pu 4 rfl rfl rfl rfl (pu_move rfl rfl) rfl rfl (by kernel_rfl) ?_
  refine a_pu 5 rfl rfl rfl rfl (pu_loadW 12 (L := bs (hmacL a b)) rfl rfl rfl (by rw [bs_length, hhl])) rfl rfl (by kernel_rfl) ?_
  first | refine a_pass 6 rfl rfl rfl rfl rfl rfl (by kernel_rfl) ?_ | refine a_pu 6 rfl rfl rfl rfl (pu_move rfl rfl) rfl rfl (by kernel_rfl) ?_
  first | refine a_pass 7 rfl rfl rfl rfl rfl rfl (by kernel_rfl) ?_ | refine a_pu 7 rfl rfl rfl rfl (pu_move rfl rfl) rfl rfl (by kernel_rfl) ?_
  refine a_do 8 91 [] (does_call rfl rfl rfl rfl rfl (fun w' hm => RTag_b w' c d (ha.m hm) (hb.m hm) (by omega) (by omega))) rfl rfl (by kernel_rfl) rfl rfl (by kernel_rfl) (by kernel_rfl) (by kernel_rfl) rfl (fun p hp => by cases hp) ?_; rintro v_ cs_ ⟨_, _, rfl, rfl⟩
  refine a_pu 9 rfl rfl rfl rfl (pu_neqA_f rfl rfl rfl rfl (all_bs _) (by rw [bs_length, hhl])) rfl rfl (by kernel_rfl) ?_
  first | refine a_pu 10 rfl rfl rfl rfl (pu_pick_t rfl rfl rfl) rfl rfl (by kernel_rfl) ?_ | refine a_pu 10 rfl rfl rfl rfl (pu_pick_f rfl rfl rfl) rfl rfl (by kernel_rfl) ?_
  refine a_pu 11 rfl rfl rfl rfl (pu_move rfl rfl) rfl rfl (by kernel_rfl) ?_
  first | refine a_pass 12 rfl rfl rfl rfl rfl rfl (by kernel_rfl) ?_ | refine a_pu 12 rfl rfl rfl rfl (pu_move rfl rfl) rfl rfl (by kernel_rfl) ?_
  first | refine a_pass 13 rfl rfl rfl rfl rfl rfl (by kernel_rfl) ?_ | refine a_pu 13 rfl rfl rfl rfl (pu_move rfl rfl) rfl rfl (by kernel_rfl) ?_
  refine a_do 14 97 [] (does_call rfl rfl rfl rfl rfl (fun w' hm => Equals_t w' _ _ (BagC.byl 29 129 rfl rfl hm rfl (fun x hx => by have := s29 x hx; omega) (by omega)) (Owl.by 31 131 rfl rfl hm h31.1 (by omega)) rfl)) rfl rfl (by kernel_rfl) rfl rfl (by kernel_rfl) (by kernel_rfl) (by kernel_rfl) rfl (fun p hp => by cases hp) ?_; rintro v_ cs_ ⟨_, _, rfl, rfl⟩
  first | refine a_pass 15 rfl rfl rfl rfl rfl rfl (by kernel_rfl) ?_ | refine a_pu 15 rfl rfl rfl rfl (pu_not rfl rfl) rfl rfl (by kernel_rfl) ?_
  first | refine a_pu 16 rfl rfl rfl rfl (pu_pick_t rfl rfl rfl) rfl rfl (by kernel_rfl) ?_ | refine a_pu 16 rfl rfl rfl rfl (pu_pick_f rfl rfl rfl) rfl rfl (by kernel_rfl) ?_
  refine a_pu 17 rfl rfl rfl rfl (pu_move rfl rfl) rfl rfl (by kernel_rfl) ?_
  first | refine a_pass 18 rfl rfl rfl rfl rfl rfl (by kernel_rfl) ?_ | refine a_pu 18 rfl rfl rfl rfl (pu_move rfl rfl) rfl rfl (by kernel_rfl) ?_
  first | refine a_pass 19 rfl rfl rfl rfl rfl rfl (by kernel_rfl) ?_ | refine a_pu 19 rfl rfl rfl rfl (pu_move rfl rfl) rfl rfl (by kernel_rfl) ?_
  refine a_tail [20, 21, 22] (by kernel_rfl) rfl rfl (by kernel_rfl) ?_
  refine g_call [] rfl rfl rfl rfl rfl rfl (fun w' hm => Equals_t w' _ _ (BagC.byl 82 182 rfl rfl hm rfl (fun x hx => by have := s82 x hx; omega) (by omega)) (Owl.by 31 131 rfl rfl hm h31.1 (by omega)) (by rw [h82, h29])) (fun _ _ => ?_)
  first | refine g_pass rfl rfl rfl ?_ | refine g_pu rfl rfl rfl (pu_not rfl rfl) ?_
  first | refine g_pu rfl rfl rfl (pu_pick_t rfl rfl rfl) ?_ | refine g_pu rfl rfl rfl (pu_pick_f rfl rfl rfl) ?_
  refine g_nil ?_
  (repeat refine g_seq ?_)
  refine g_cond_f rfl (g_skip ?_)
  have hol : (bs (overL a n ++ (List.range 40).map fun t => spareB (a.length + t))).length = n + 40 := by rw [bs_length, List.length_append, overL_length]; simp [hal]
  have hol2 : (bs (overL b m ++ (List.range 40).map fun t => spareB (b.length + t))).length = m + 40 := by rw [bs_length, List.length_append, overL_length]; simp [hbl]
  refine g_know (φ := (∀ x ∈ x29.2, x.2.length ≤ x.1.c) ∧ ∀ x ∈ x82.2, x.2.length ≤ x.1.c) (fun w' hm => ⟨BagC.le (E := 5) (hm.holds 129 _ rfl), BagC.le (E := 5) (hm.holds 182 _ rfl)⟩) (fun hcap => ?_)
  have h65 : ∀ {X : List Otm}, (∀ x ∈ X, x.2.length ≤ 65536) → ∀ x ∈ X, x.2.length ≤ 140737488355200 := fun h x hx => by have := h x hx; omega
  (repeat refine g_seq ?_)
  refine g_region ?_
  refine g_pu rfl rfl rfl (pu_move rfl rfl) ?_
  refine g_pu rfl rfl rfl (pu_move rfl rfl) ?_
  refine g_lo [108] rfl rfl rfl rfl (lo_buildSlice rfl rfl (by decide) (by decide) rfl rfl) (fun q108 hq108 => ?_)
  refine g_own 108 (L := [.slice (some ⟨x19, 0, none⟩) (n + 40) (n + 40), .slice (some ⟨x24, 0, none⟩) (m + 40) (m + 40)]) (J := []) (c := 2) (s := 1) rfl (by simp) (by omega) ?_
  refine g_pu rfl rfl rfl (pu_move rfl rfl) ?_
  refine g_append1 108 (vals x29.2) rfl rfl rfl rfl rfl rfl rfl rfl rfl (fun w' hm => Ow.rd (t := 29) rfl hm) (by rw [vals_length]) (oneCell_vals _) (by omega) (by omega) (fun p1 c1 => ?_)
  refine g_pu rfl rfl rfl (pu_move rfl rfl) ?_
  refine g_append1 108 (vals x82.2) rfl rfl rfl rfl rfl rfl rfl rfl (by rw [List.length_append, vals_length]; rfl) (fun w' hm => Ow.rd (t := 82) rfl hm) (by rw [vals_length]) (oneCell_vals _) (by omega) (by omega) (fun p2 c2 => ?_)
  refine g_callW [19, 24, 129, 182] [] rfl rfl rfl rfl rfl rfl (TgL.ch (TgL.row 19 0 (n + 40) rfl (Nat.le_of_eq hol.symm) (by omega) rfl (TgL.row 24 1 (m + 40) rfl (Nat.le_of_eq hol2.symm) (by omega) rfl (TgL.otm 129 2 rfl rfl (TgL.otm 182 (2 + x29.2.length) rfl rfl TgL.nil))))) (fun w' hm => Apart_o hm (TgL.row 19 0 (n + 40) rfl (Nat.le_of_eq hol.symm) (by omega) rfl (TgL.row 24 1 (m + 40) rfl (Nat.le_of_eq hol2.symm) (by omega) rfl (TgL.otm 129 2 rfl rfl (TgL.otm 182 (2 + x29.2.length) rfl rfl TgL.nil)))) 108 _ rfl rfl (HxL.four (n1 := n + 40) (n2 := m + 40) ⟨⟨rfl, rfl, rfl, Nat.le_refl _, by omega⟩, ⟨rfl, rfl, rfl, Nat.le_refl _, by omega⟩, trivial⟩ ⟨hcap.1, h65 s29⟩ ⟨hcap.2, h65 s82⟩) (by simp [vals_length]; omega) (by omega)) (fun _ _ => ?_)
  refine g_pu rfl rfl rfl (pu_assign rfl rfl) ?_
  refine g_nil ?_
  exact g_ret1 rfl rfl (fun w' hm => ⟨(), trivial, rfl, hm.grows [] trivial rfl⟩)
end Go.Sx

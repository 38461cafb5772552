import Derived.Test.YtjmihjcahjpkmaaEK
import Derived.Test.YtjmihjcahjpkmaaYA
set_option linter.unusedVariables false
set_option linter.unusedSimpArgs false
/-
  CurveCommutes: two scalars come to the same point in either order, and two pairs of keys to one secret. No condition.
-/
namespace Go.Sx
open Go Go.Proofs

theorem chR_comm {a b v : List (BitVec 8)} (ha : a.length = 32) (hb : b.length = 32) (hv : v.length = 32) : chR [a, b] v = chR [b, a] v ∧ ((chR [b, a] v).2 = 0 ∨ (chR [b, a] v).2 = 5) := by
  have hva := xmV_length a v
  have hvb := xmV_length b v
  have e : ∀ x y, chR [x, y] v = if xmE x v = 0 then (if xmE y (xmV x v) = 0 then (xmV y (xmV x v), 0) else (zero32, xmE y (xmV x v))) else (zero32, xmE x v) := fun x y => rfl
  have f5 : ¬ (5 : Int) = 0 := by decide
  rw [e, e]
  by_cases h1 : xmN a v = 0
  · by_cases h2 : xmN b v = 0
    · simp only [xmE_z ha hv h1, xmE_z hb hv h2, if_neg f5]
      exact ⟨trivial, .inr trivial⟩
    · have h3 : xmN a (xmV b v) = 0 := by rw [← xm_comm ha hb hv]; exact xm_zero ha hb hv h1
      simp only [xmE_z ha hv h1, xmE_nz hb hv h2, xmE_z ha hvb h3, if_neg f5, if_true]
      exact ⟨trivial, .inr trivial⟩
  · by_cases h2 : xmN b v = 0
    · have h3 : xmN b (xmV a v) = 0 := by rw [xm_comm ha hb hv]; exact xm_zero hb ha hv h2
      simp only [xmE_nz ha hv h1, xmE_z hb hv h2, xmE_z hb hva h3, if_neg f5, if_true]
      exact ⟨trivial, .inr trivial⟩
    · have h3 := xm_comm ha hb hv
      have h4 := xmV_comm ha hb hv
      by_cases h5 : xmN b (xmV a v) = 0
      · have h6 : xmN a (xmV b v) = 0 := by rw [← h3]; exact h5
        simp only [xmE_nz ha hv h1, xmE_nz hb hv h2, xmE_z hb hva h5, xmE_z ha hvb h6, if_neg f5, if_true]
        exact ⟨trivial, .inr trivial⟩
      · have h6 : ¬ xmN a (xmV b v) = 0 := by rw [← h3]; exact h5
        simp only [xmE_nz ha hv h1, xmE_nz hb hv h2, xmE_nz hb hva h5, xmE_nz ha hvb h6, if_true, h4]
        exact ⟨trivial, .inl trivial⟩
theorem chP_two {a b u : List (BitVec 8)} (ha : a.length = 32) (hb : b.length = 32) (hu : u.length = 32) : chP u [a, b] = chR [a, b] (leB 32 (readN u)) := if_pos ⟨hu, by simp [all32, ha, hb]⟩
theorem chP_comm {a b u : List (BitVec 8)} (ha : a.length = 32) (hb : b.length = 32) (hu : u.length = 32) : chP u [a, b] = chP u [b, a] ∧ ((chP u [b, a]).2 = 0 ∨ (chP u [b, a]).2 = 5) := by
  rw [chP_two ha hb hu, chP_two hb ha hu]
  exact chR_comm ha hb (leB_length 32 _)
theorem npC_ok {k : List (BitVec 8)} (hk : k.length = 32) : npC k = prC k (xmV k nine) := if_pos (pub_ok hk)
theorem By.prS (t : Nat) {w0 w : World} {D : Blocks} {M : List (Nat × Ck)} {b : Nat} {E : TypeId} {fz : Nat × Nat} {a l : List (BitVec 8)} (hM : mget M t = some (.pt b (.cells (prC a l).toArray E fz))) (hm : Mem w0 D M w) (ha : a.length = 32) (hl : l.length = 32) : By w (some ⟨b, 32, none⟩) 32 l := by
  refine ⟨RdV.pt (hm.holds t _ hM) (fun i v hv => ?_), hl, by omega⟩
  rw [List.getElem?_toArray, prC, List.getElem?_append_right (by rw [bs_length, ha]; omega), bs_length, ha, show 32 + i - 32 = i by omega]
  exact hv

theorem CurveCommutes_spec (w : World) {p q r : Option Addr} {n m l : Nat} (c d f : Nat) {a b u : List (BitVec 8)} (ha : By w p n a) (hb : By w q m b) (hu : By w r l u) : Spec Try.prog 8 #[.slice p n c, .slice q m d, .slice r l f] w (σ := Unit) (fun _ => True) (fun _ => .bool true) Nob (fun _ => []) := by
  refine enter Try.func8 rfl rfl (Mem.start w) ?_
  have hal := ha.len
  have hbl := hb.len
  have hul := hu.len
  have hab := ha.big
  have hbb := hb.big
  have hub := hu.big
  (repeat refine g_seq ?_)
  refine g_region ?_
  refine g_pu rfl rfl rfl (pu_assign rfl rfl) ?_
  refine g_nil ?_
  (repeat refine g_seq ?_)
  refine g_region ?_
  refine g_call [] rfl rfl rfl rfl rfl rfl (fun w' hm => awake06_b w') (fun _ _ => ?_)
  refine g_pu rfl rfl rfl (pu_not rfl rfl) ?_
  refine g_nil ?_
  (repeat refine g_seq ?_)
  refine g_cond_f rfl (g_skip ?_)
  by_cases hn : n = 32
  · by_cases hm' : m = 32
    · by_cases hl' : l = 32
      · subst hn hm' hl'
        obtain ⟨hC, hCe⟩ := chP_comm hal hbl hul
        have hcl := chP_length u [b, a]
        have hcb : (bs (chP u [b, a]).1).length = 32 := by rw [bs_length, hcl]
        have hva := xmV_length a nine
        have hvb := xmV_length b nine
        have hpa := prC_length hal hva
        have hpb := prC_length hbl hvb
        have hcm := xmV_comm hal hbl nine_length
        have hEa : xmE a (xmV b nine) = 0 := (basB_nine.mul hbl).e hal
        have hEb : xmE b (xmV a nine) = 0 := (basB_nine.mul hal).e hbl
        (repeat refine g_seq ?_)
        refine g_region ?_
        refine g_pu rfl rfl rfl (pu_move rfl rfl) ?_
        first | refine g_pu rfl rfl rfl (pu_len rfl rfl) ?_ | refine g_pu rfl rfl rfl (pu_lenS rfl rfl) ?_
        first | refine g_pu rfl rfl rfl (pu_neq_t rfl rfl rfl (by omega)) ?_ | refine g_pu rfl rfl rfl (pu_neq_f rfl rfl rfl (by omega)) ?_ | refine g_pu rfl rfl rfl (pu_neq rfl rfl rfl) ?_
        refine g_pu rfl rfl rfl (pu_move rfl rfl) ?_
        first | refine g_pass rfl rfl rfl ?_ | refine g_pu rfl rfl rfl (pu_move rfl rfl) ?_
        first | refine g_pass rfl rfl rfl ?_ | refine g_pu rfl rfl rfl (pu_len rfl rfl) ?_ | refine g_pu rfl rfl rfl (pu_lenS rfl rfl) ?_
        first | refine g_pass rfl rfl rfl ?_ | refine g_pu rfl rfl rfl (pu_neq_t rfl rfl rfl (by omega)) ?_ | refine g_pu rfl rfl rfl (pu_neq_f rfl rfl rfl (by omega)) ?_ | refine g_pu rfl rfl rfl (pu_neq rfl rfl rfl) ?_
        first | refine g_pu rfl rfl rfl (pu_pick_t rfl rfl rfl) ?_ | refine g_pu rfl rfl rfl (pu_pick_f rfl rfl rfl) ?_
        refine g_pu rfl rfl rfl (pu_move rfl rfl) ?_
        first | refine g_pass rfl rfl rfl ?_ | refine g_pu rfl rfl rfl (pu_move rfl rfl) ?_
        first | refine g_pass rfl rfl rfl ?_ | refine g_pu rfl rfl rfl (pu_len rfl rfl) ?_ | refine g_pu rfl rfl rfl (pu_lenS rfl rfl) ?_
        first | refine g_pass rfl rfl rfl ?_ | refine g_pu rfl rfl rfl (pu_neq_t rfl rfl rfl (by omega)) ?_ | refine g_pu rfl rfl rfl (pu_neq_f rfl rfl rfl (by omega)) ?_ | refine g_pu rfl rfl rfl (pu_neq rfl rfl rfl) ?_
        first | refine g_pu rfl rfl rfl (pu_pick_t rfl rfl rfl) ?_ | refine g_pu rfl rfl rfl (pu_pick_f rfl rfl rfl) ?_
        refine g_nil ?_
        (repeat refine g_seq ?_)
        refine g_cond_f rfl (g_skip ?_)
        (repeat refine g_seq ?_)
        refine g_region ?_
        refine g_pu rfl rfl rfl (pu_move rfl rfl) ?_
        refine g_call [36] rfl rfl rfl rfl rfl rfl (fun w' hm => Copy_b w' f (hu.m hm)) (fun x36 _ => ?_)
        refine g_pu rfl rfl rfl (pu_move rfl rfl) ?_
        refine g_call [38] rfl rfl rfl rfl rfl rfl (fun w' hm => Copy_b w' c (ha.m hm)) (fun x38 _ => ?_)
        refine g_pu rfl rfl rfl (pu_move rfl rfl) ?_
        refine g_call [40] rfl rfl rfl rfl rfl rfl (fun w' hm => Copy_b w' d (hb.m hm)) (fun x40 _ => ?_)
        refine g_lo [41] rfl rfl rfl rfl (lo_buildSlice rfl rfl (by decide) (by decide) rfl rfl) (fun b41 hb41 => ?_)
        refine g_call [] rfl rfl rfl rfl rfl rfl (fun w' hm => Chain_b w' x36.c 2 (ks := [a, b]) (By.ow 36 rfl hm hul hub) ⟨hm.rowA 41 rfl, rfl, All2.cons ⟨_, _, _, rfl, By.ow 38 rfl hm hal hab, fun _ _ => trivial⟩ (All2.cons ⟨_, _, _, rfl, By.ow 40 rfl hm hbl hbb, fun _ _ => trivial⟩ All2.nil), by omega⟩) (fun _ _ => ?_)
        rw [hC]
        refine g_pu rfl rfl rfl (pu_move rfl rfl) ?_
        refine g_pu rfl rfl rfl (pu_extract rfl rfl rfl) ?_
        refine g_pu rfl rfl rfl (pu_extract rfl rfl rfl) ?_
        refine g_lo [7] rfl rfl rfl rfl (lo_alloc rfl) (fun b7 hb7 => ?_)
        refine g_storeL 7 (s := 32) (C := bs (chP u [b, a]).1) rfl rfl rfl rfl rfl rfl hcb rfl (oneCell_bs _) ?_
        refine g_pu rfl rfl rfl (pu_assign rfl rfl) ?_
        refine g_nil ?_
        (repeat refine g_seq ?_)
        refine g_region ?_
        refine g_pu rfl rfl rfl (pu_move rfl rfl) ?_
        refine g_call [47] rfl rfl rfl rfl rfl rfl (fun w' hm => Copy_b w' f (hu.m hm)) (fun x47 _ => ?_)
        refine g_pu rfl rfl rfl (pu_move rfl rfl) ?_
        refine g_call [49] rfl rfl rfl rfl rfl rfl (fun w' hm => Copy_b w' d (hb.m hm)) (fun x49 _ => ?_)
        refine g_pu rfl rfl rfl (pu_move rfl rfl) ?_
        refine g_call [51] rfl rfl rfl rfl rfl rfl (fun w' hm => Copy_b w' c (ha.m hm)) (fun x51 _ => ?_)
        refine g_lo [52] rfl rfl rfl rfl (lo_buildSlice rfl rfl (by decide) (by decide) rfl rfl) (fun b52 hb52 => ?_)
        refine g_call [] rfl rfl rfl rfl rfl rfl (fun w' hm => Chain_b w' x47.c 2 (ks := [b, a]) (By.ow 47 rfl hm hul hub) ⟨hm.rowA 52 rfl, rfl, All2.cons ⟨_, _, _, rfl, By.ow 49 rfl hm hbl hbb, fun _ _ => trivial⟩ (All2.cons ⟨_, _, _, rfl, By.ow 51 rfl hm hal hab, fun _ _ => trivial⟩ All2.nil), by omega⟩) (fun _ _ => ?_)
        refine g_pu rfl rfl rfl (pu_move rfl rfl) ?_
        refine g_pu rfl rfl rfl (pu_extract rfl rfl rfl) ?_
        refine g_pu rfl rfl rfl (pu_extract rfl rfl rfl) ?_
        refine g_lo [9] rfl rfl rfl rfl (lo_alloc rfl) (fun b9 hb9 => ?_)
        refine g_storeL 9 (s := 32) (C := bs (chP u [b, a]).1) rfl rfl rfl rfl rfl rfl hcb rfl (oneCell_bs _) ?_
        refine g_pu rfl rfl rfl (pu_assign rfl rfl) ?_
        refine g_nil ?_
        generalize chP u [b, a] = ch at hCe hcl hcb
        obtain ⟨cv, ce⟩ := ch
        dsimp only at hCe hcl hcb ⊢
        rcases hCe with rfl | rfl
        · (repeat refine g_seq ?_)
          refine g_region ?_
          refine g_pu rfl rfl rfl (pu_move rfl rfl) ?_
          refine g_pu rfl rfl rfl (pu_move rfl rfl) ?_
          first | refine g_pu rfl rfl rfl (pu_neq_t rfl rfl rfl (by omega)) ?_ | refine g_pu rfl rfl rfl (pu_neq_f rfl rfl rfl (by omega)) ?_ | refine g_pu rfl rfl rfl (pu_neq rfl rfl rfl) ?_
          refine g_pu rfl rfl rfl (pu_move rfl rfl) ?_
          refine g_pu rfl rfl rfl (pu_loadW 7 (L := bs cv) rfl rfl rfl hcb) ?_
          refine g_pu rfl rfl rfl (pu_loadW 9 (L := bs cv) rfl rfl rfl hcb) ?_
          refine g_pu rfl rfl rfl (pu_neqA_f (a := bs cv) (b := bs cv) rfl rfl rfl rfl (all_bs _) hcb) ?_
          first | refine g_pu rfl rfl rfl (pu_pick_t rfl rfl rfl) ?_ | refine g_pu rfl rfl rfl (pu_pick_f rfl rfl rfl) ?_
          refine g_pu rfl rfl rfl (pu_move rfl rfl) ?_
          first | refine g_pass rfl rfl rfl ?_ | refine g_pu rfl rfl rfl (pu_move rfl rfl) ?_
          first | refine g_pass rfl rfl rfl ?_ | refine g_pu rfl rfl rfl (pu_neq_t rfl rfl rfl (by omega)) ?_ | refine g_pu rfl rfl rfl (pu_neq_f rfl rfl rfl (by omega)) ?_ | refine g_pu rfl rfl rfl (pu_neq rfl rfl rfl) ?_
          first | refine g_pass rfl rfl rfl ?_ | refine g_pu rfl rfl rfl (pu_move rfl rfl) ?_
          first | refine g_pass rfl rfl rfl ?_ | refine g_pu rfl rfl rfl (pu_move rfl rfl) ?_
          first | refine g_pass rfl rfl rfl ?_ | refine g_pu rfl rfl rfl (pu_neq_t rfl rfl rfl (by omega)) ?_ | refine g_pu rfl rfl rfl (pu_neq_f rfl rfl rfl (by omega)) ?_ | refine g_pu rfl rfl rfl (pu_neq rfl rfl rfl) ?_
          first | refine g_pass rfl rfl rfl ?_ | refine g_pu rfl rfl rfl (pu_pick_t rfl rfl rfl) ?_ | refine g_pu rfl rfl rfl (pu_pick_f rfl rfl rfl) ?_
          first | refine g_pu rfl rfl rfl (pu_pick_t rfl rfl rfl) ?_ | refine g_pu rfl rfl rfl (pu_pick_f rfl rfl rfl) ?_
          refine g_nil ?_
          (repeat refine g_seq ?_)
          refine g_cond_f rfl (g_skip ?_)
          (repeat refine g_seq ?_)
          refine g_region ?_
          refine g_pu rfl rfl rfl (pu_move rfl rfl) ?_
          refine g_call [74] rfl rfl rfl rfl rfl rfl (fun w' hm => Copy_b w' c (ha.m hm)) (fun x74 _ => ?_)
          refine g_call [] rfl rfl rfl rfl rfl rfl (fun w' hm => NewPair_b w' x74.c (By.ow 74 rfl hm hal hab)) (fun _ _ => ?_)
          rw [npC_ok hal, pub_ok hal]
          refine g_pu rfl rfl rfl (pu_move rfl rfl) ?_
          refine g_pu rfl rfl rfl (pu_extract rfl rfl rfl) ?_
          refine g_pu rfl rfl rfl (pu_extract rfl rfl rfl) ?_
          refine g_lo [11] rfl rfl rfl rfl (lo_alloc rfl) (fun b11 hb11 => ?_)
          refine g_storeL 11 (s := 64) (C := prC a (xmV a nine)) rfl rfl rfl rfl rfl rfl hpa rfl (oneCell_prC _ _) ?_
          refine g_pu rfl rfl rfl (pu_assign rfl rfl) ?_
          refine g_nil ?_
          (repeat refine g_seq ?_)
          refine g_region ?_
          refine g_pu rfl rfl rfl (pu_move rfl rfl) ?_
          refine g_call [80] rfl rfl rfl rfl rfl rfl (fun w' hm => Copy_b w' d (hb.m hm)) (fun x80 _ => ?_)
          refine g_call [] rfl rfl rfl rfl rfl rfl (fun w' hm => NewPair_b w' x80.c (By.ow 80 rfl hm hbl hbb)) (fun _ _ => ?_)
          rw [npC_ok hbl, pub_ok hbl]
          refine g_pu rfl rfl rfl (pu_move rfl rfl) ?_
          refine g_pu rfl rfl rfl (pu_extract rfl rfl rfl) ?_
          refine g_pu rfl rfl rfl (pu_extract rfl rfl rfl) ?_
          refine g_lo [13] rfl rfl rfl rfl (lo_alloc rfl) (fun b13 hb13 => ?_)
          refine g_storeL 13 (s := 64) (C := prC b (xmV b nine)) rfl rfl rfl rfl rfl rfl hpb rfl (oneCell_prC _ _) ?_
          refine g_pu rfl rfl rfl (pu_assign rfl rfl) ?_
          refine g_nil ?_
          (repeat refine g_seq ?_)
          refine g_region ?_
          refine g_pu rfl rfl rfl (pu_move rfl rfl) ?_
          first | refine g_pu rfl rfl rfl (pu_neq_t rfl rfl rfl (by omega)) ?_ | refine g_pu rfl rfl rfl (pu_neq_f rfl rfl rfl (by omega)) ?_ | refine g_pu rfl rfl rfl (pu_neq rfl rfl rfl) ?_
          refine g_pu rfl rfl rfl (pu_move rfl rfl) ?_
          first | refine g_pass rfl rfl rfl ?_ | refine g_pu rfl rfl rfl (pu_move rfl rfl) ?_
          first | refine g_pass rfl rfl rfl ?_ | refine g_pu rfl rfl rfl (pu_neq_t rfl rfl rfl (by omega)) ?_ | refine g_pu rfl rfl rfl (pu_neq_f rfl rfl rfl (by omega)) ?_ | refine g_pu rfl rfl rfl (pu_neq rfl rfl rfl) ?_
          first | refine g_pu rfl rfl rfl (pu_pick_t rfl rfl rfl) ?_ | refine g_pu rfl rfl rfl (pu_pick_f rfl rfl rfl) ?_
          refine g_nil ?_
          (repeat refine g_seq ?_)
          refine g_cond_f rfl (g_skip ?_)
          (repeat refine g_seq ?_)
          refine g_any (9, [7]) ?_
          refine a_pu 0 rfl rfl rfl rfl (pu_loadW 11 (L := prC a (xmV a nine)) rfl rfl rfl hpa) rfl rfl (by kernel_rfl) ?_
          refine a_pu 1 rfl rfl rfl rfl (pu_fieldAddr (by decide) rfl rfl) rfl rfl (by kernel_rfl) ?_
          refine a_pu 2 rfl rfl rfl rfl (pu_sliceA rfl rfl) rfl rfl (by kernel_rfl) ?_
          refine a_pendA 8 15 15 24 ?_
          refine a_do 3 94 [94] (does_call rfl rfl rfl rfl rfl (fun w' hm => Copy_b w' 32 (By.prS 13 rfl hm hbl hvb))) rfl rfl (by kernel_rfl) rfl rfl (by kernel_rfl) (by kernel_rfl) (by kernel_rfl) rfl (fun p hp => by simp only [List.mem_cons, List.not_mem_nil, or_false] at hp; subst hp; first | exact does_PA rfl rfl rfl rfl | exact does_PB rfl rfl rfl rfl rfl (by decide) (by decide) rfl rfl) ?_; rintro v_ cs_ ⟨x94, _, rfl, rfl⟩
          refine a_do 4 95 [] (does_call rfl rfl rfl rfl rfl (fun w' hm => Shared_b w' x94.c hal hva (By.ow 94 rfl hm hvb (by omega)))) rfl rfl (by kernel_rfl) rfl rfl (by kernel_rfl) (by kernel_rfl) (by kernel_rfl) rfl (fun p hp => by simp only [List.mem_cons, List.not_mem_nil, or_false] at hp; subst hp; first | exact does_PA rfl rfl rfl rfl | exact does_PB rfl rfl rfl rfl rfl (by decide) (by decide) rfl rfl) ?_; rintro v_ cs_ ⟨_, _, rfl, rfl⟩
          rw [hEa]
          refine a_pu 5 rfl rfl rfl rfl (pu_move rfl rfl) rfl rfl (by kernel_rfl) ?_
          refine a_pu 6 rfl rfl rfl rfl (pu_extract rfl rfl rfl) rfl rfl (by kernel_rfl) ?_
          first | refine a_mv 7 rfl rfl rfl rfl (fun _ => (pu_extract rfl rfl rfl)) rfl rfl rfl (by kernel_rfl) (by kernel_rfl) (by kernel_rfl) rfl ?_
          refine a_force _ (by kernel_rfl) rfl rfl rfl (by kernel_rfl) (by kernel_rfl) (by kernel_rfl) rfl (fun p hp => by simp only [List.mem_cons, List.not_mem_nil, or_false] at hp; subst hp; first | exact does_PA rfl rfl rfl rfl | exact does_PB rfl rfl rfl rfl rfl (by decide) (by decide) rfl rfl) ?_; rintro v_ cs_ ⟨b15, hb15, rfl, rfl⟩
          refine a_tail [9, 10] (by kernel_rfl) rfl rfl (by kernel_rfl) ?_
          refine g_storeL 15 (s := 32) (C := bs (xmV a (xmV b nine))) rfl rfl rfl rfl rfl rfl (by rw [bs_length, xmV_length]) rfl (oneCell_bs _) ?_
          refine g_pu rfl rfl rfl (pu_assign rfl rfl) ?_
          refine g_nil ?_
          (repeat refine g_seq ?_)
          refine g_any (9, [7]) ?_
          refine a_pu 0 rfl rfl rfl rfl (pu_loadW 13 (L := prC b (xmV b nine)) rfl rfl rfl hpb) rfl rfl (by kernel_rfl) ?_
          refine a_pu 1 rfl rfl rfl rfl (pu_fieldAddr (by decide) rfl rfl) rfl rfl (by kernel_rfl) ?_
          refine a_pu 2 rfl rfl rfl rfl (pu_sliceA rfl rfl) rfl rfl (by kernel_rfl) ?_
          refine a_pendA 8 17 17 24 ?_
          refine a_do 3 102 [102] (does_call rfl rfl rfl rfl rfl (fun w' hm => Copy_b w' 32 (By.prS 11 rfl hm hal hva))) rfl rfl (by kernel_rfl) rfl rfl (by kernel_rfl) (by kernel_rfl) (by kernel_rfl) rfl (fun p hp => by simp only [List.mem_cons, List.not_mem_nil, or_false] at hp; subst hp; first | exact does_PA rfl rfl rfl rfl | exact does_PB rfl rfl rfl rfl rfl (by decide) (by decide) rfl rfl) ?_; rintro v_ cs_ ⟨x102, _, rfl, rfl⟩
          refine a_do 4 103 [] (does_call rfl rfl rfl rfl rfl (fun w' hm => Shared_b w' x102.c hbl hvb (By.ow 102 rfl hm hva (by omega)))) rfl rfl (by kernel_rfl) rfl rfl (by kernel_rfl) (by kernel_rfl) (by kernel_rfl) rfl (fun p hp => by simp only [List.mem_cons, List.not_mem_nil, or_false] at hp; subst hp; first | exact does_PA rfl rfl rfl rfl | exact does_PB rfl rfl rfl rfl rfl (by decide) (by decide) rfl rfl) ?_; rintro v_ cs_ ⟨_, _, rfl, rfl⟩
          rw [hEb, hcm]
          refine a_pu 5 rfl rfl rfl rfl (pu_move rfl rfl) rfl rfl (by kernel_rfl) ?_
          refine a_pu 6 rfl rfl rfl rfl (pu_extract rfl rfl rfl) rfl rfl (by kernel_rfl) ?_
          first | refine a_mv 7 rfl rfl rfl rfl (fun _ => (pu_extract rfl rfl rfl)) rfl rfl rfl (by kernel_rfl) (by kernel_rfl) (by kernel_rfl) rfl ?_
          refine a_force _ (by kernel_rfl) rfl rfl rfl (by kernel_rfl) (by kernel_rfl) (by kernel_rfl) rfl (fun p hp => by simp only [List.mem_cons, List.not_mem_nil, or_false] at hp; subst hp; first | exact does_PA rfl rfl rfl rfl | exact does_PB rfl rfl rfl rfl rfl (by decide) (by decide) rfl rfl) ?_; rintro v_ cs_ ⟨b17, hb17, rfl, rfl⟩
          refine a_tail [9, 10] (by kernel_rfl) rfl rfl (by kernel_rfl) ?_
          refine g_storeL 17 (s := 32) (C := bs (xmV a (xmV b nine))) rfl rfl rfl rfl rfl rfl (by rw [bs_length, xmV_length]) rfl (oneCell_bs _) ?_
          refine g_pu rfl rfl rfl (pu_assign rfl rfl) ?_
          refine g_nil ?_
          (repeat refine g_seq ?_)
          refine g_region ?_
          refine g_pu rfl rfl rfl (pu_move rfl rfl) ?_
          first | refine g_pu rfl rfl rfl (pu_eql_t rfl rfl rfl (by omega)) ?_ | refine g_pu rfl rfl rfl (pu_eql_f rfl rfl rfl (by omega)) ?_ | refine g_pu rfl rfl rfl (pu_eql rfl rfl rfl) ?_
          refine g_pu rfl rfl rfl (pu_move rfl rfl) ?_
          first | refine g_pass rfl rfl rfl ?_ | refine g_pu rfl rfl rfl (pu_move rfl rfl) ?_
          first | refine g_pass rfl rfl rfl ?_ | refine g_pu rfl rfl rfl (pu_eql_t rfl rfl rfl (by omega)) ?_ | refine g_pu rfl rfl rfl (pu_eql_f rfl rfl rfl (by omega)) ?_ | refine g_pu rfl rfl rfl (pu_eql rfl rfl rfl) ?_
          first | refine g_pu rfl rfl rfl (pu_pick_t rfl rfl rfl) ?_ | refine g_pu rfl rfl rfl (pu_pick_f rfl rfl rfl) ?_
          refine g_pu rfl rfl rfl (pu_move rfl rfl) ?_
          refine g_pu rfl rfl rfl (pu_loadW 15 (L := bs (xmV a (xmV b nine))) rfl rfl rfl (by rw [bs_length, xmV_length])) ?_
          refine g_pu rfl rfl rfl (pu_loadW 17 (L := bs (xmV a (xmV b nine))) rfl rfl rfl (by rw [bs_length, xmV_length])) ?_
          refine g_pu rfl rfl rfl (pu_eqlA_t (a := bs (xmV a (xmV b nine))) (b := bs (xmV a (xmV b nine))) rfl rfl rfl rfl (all_bs _) (by rw [bs_length, xmV_length])) ?_
          first | refine g_pu rfl rfl rfl (pu_pick_t rfl rfl rfl) ?_ | refine g_pu rfl rfl rfl (pu_pick_f rfl rfl rfl) ?_
          refine g_pu rfl rfl rfl (pu_assign rfl rfl) ?_
          refine g_nil ?_
          exact g_ret1 rfl rfl (fun w' hm => ⟨(), trivial, rfl, hm.grows [] trivial rfl⟩)
        · (repeat refine g_seq ?_)
          refine g_region ?_
          refine g_pu rfl rfl rfl (pu_move rfl rfl) ?_
          refine g_pu rfl rfl rfl (pu_move rfl rfl) ?_
          first | refine g_pu rfl rfl rfl (pu_neq_t rfl rfl rfl (by omega)) ?_ | refine g_pu rfl rfl rfl (pu_neq_f rfl rfl rfl (by omega)) ?_ | refine g_pu rfl rfl rfl (pu_neq rfl rfl rfl) ?_
          refine g_pu rfl rfl rfl (pu_move rfl rfl) ?_
          refine g_pu rfl rfl rfl (pu_loadW 7 (L := bs cv) rfl rfl rfl hcb) ?_
          refine g_pu rfl rfl rfl (pu_loadW 9 (L := bs cv) rfl rfl rfl hcb) ?_
          refine g_pu rfl rfl rfl (pu_neqA_f (a := bs cv) (b := bs cv) rfl rfl rfl rfl (all_bs _) hcb) ?_
          first | refine g_pu rfl rfl rfl (pu_pick_t rfl rfl rfl) ?_ | refine g_pu rfl rfl rfl (pu_pick_f rfl rfl rfl) ?_
          refine g_pu rfl rfl rfl (pu_move rfl rfl) ?_
          first | refine g_pass rfl rfl rfl ?_ | refine g_pu rfl rfl rfl (pu_move rfl rfl) ?_
          first | refine g_pass rfl rfl rfl ?_ | refine g_pu rfl rfl rfl (pu_neq_t rfl rfl rfl (by omega)) ?_ | refine g_pu rfl rfl rfl (pu_neq_f rfl rfl rfl (by omega)) ?_ | refine g_pu rfl rfl rfl (pu_neq rfl rfl rfl) ?_
          first | refine g_pass rfl rfl rfl ?_ | refine g_pu rfl rfl rfl (pu_move rfl rfl) ?_
          first | refine g_pass rfl rfl rfl ?_ | refine g_pu rfl rfl rfl (pu_move rfl rfl) ?_
          first | refine g_pass rfl rfl rfl ?_ | refine g_pu rfl rfl rfl (pu_neq_t rfl rfl rfl (by omega)) ?_ | refine g_pu rfl rfl rfl (pu_neq_f rfl rfl rfl (by omega)) ?_ | refine g_pu rfl rfl rfl (pu_neq rfl rfl rfl) ?_
          first | refine g_pass rfl rfl rfl ?_ | refine g_pu rfl rfl rfl (pu_pick_t rfl rfl rfl) ?_ | refine g_pu rfl rfl rfl (pu_pick_f rfl rfl rfl) ?_
          first | refine g_pu rfl rfl rfl (pu_pick_t rfl rfl rfl) ?_ | refine g_pu rfl rfl rfl (pu_pick_f rfl rfl rfl) ?_
          refine g_nil ?_
          (repeat refine g_seq ?_)
          refine g_cond_f rfl (g_skip ?_)
          (repeat refine g_seq ?_)
          refine g_region ?_
          refine g_pu rfl rfl rfl (pu_move rfl rfl) ?_
          refine g_call [74] rfl rfl rfl rfl rfl rfl (fun w' hm => Copy_b w' c (ha.m hm)) (fun x74 _ => ?_)
          refine g_call [] rfl rfl rfl rfl rfl rfl (fun w' hm => NewPair_b w' x74.c (By.ow 74 rfl hm hal hab)) (fun _ _ => ?_)
          rw [npC_ok hal, pub_ok hal]
          refine g_pu rfl rfl rfl (pu_move rfl rfl) ?_
          refine g_pu rfl rfl rfl (pu_extract rfl rfl rfl) ?_
          refine g_pu rfl rfl rfl (pu_extract rfl rfl rfl) ?_
          refine g_lo [11] rfl rfl rfl rfl (lo_alloc rfl) (fun b11 hb11 => ?_)
          refine g_storeL 11 (s := 64) (C := prC a (xmV a nine)) rfl rfl rfl rfl rfl rfl hpa rfl (oneCell_prC _ _) ?_
          refine g_pu rfl rfl rfl (pu_assign rfl rfl) ?_
          refine g_nil ?_
          (repeat refine g_seq ?_)
          refine g_region ?_
          refine g_pu rfl rfl rfl (pu_move rfl rfl) ?_
          refine g_call [80] rfl rfl rfl rfl rfl rfl (fun w' hm => Copy_b w' d (hb.m hm)) (fun x80 _ => ?_)
          refine g_call [] rfl rfl rfl rfl rfl rfl (fun w' hm => NewPair_b w' x80.c (By.ow 80 rfl hm hbl hbb)) (fun _ _ => ?_)
          rw [npC_ok hbl, pub_ok hbl]
          refine g_pu rfl rfl rfl (pu_move rfl rfl) ?_
          refine g_pu rfl rfl rfl (pu_extract rfl rfl rfl) ?_
          refine g_pu rfl rfl rfl (pu_extract rfl rfl rfl) ?_
          refine g_lo [13] rfl rfl rfl rfl (lo_alloc rfl) (fun b13 hb13 => ?_)
          refine g_storeL 13 (s := 64) (C := prC b (xmV b nine)) rfl rfl rfl rfl rfl rfl hpb rfl (oneCell_prC _ _) ?_
          refine g_pu rfl rfl rfl (pu_assign rfl rfl) ?_
          refine g_nil ?_
          (repeat refine g_seq ?_)
          refine g_region ?_
          refine g_pu rfl rfl rfl (pu_move rfl rfl) ?_
          first | refine g_pu rfl rfl rfl (pu_neq_t rfl rfl rfl (by omega)) ?_ | refine g_pu rfl rfl rfl (pu_neq_f rfl rfl rfl (by omega)) ?_ | refine g_pu rfl rfl rfl (pu_neq rfl rfl rfl) ?_
          refine g_pu rfl rfl rfl (pu_move rfl rfl) ?_
          first | refine g_pass rfl rfl rfl ?_ | refine g_pu rfl rfl rfl (pu_move rfl rfl) ?_
          first | refine g_pass rfl rfl rfl ?_ | refine g_pu rfl rfl rfl (pu_neq_t rfl rfl rfl (by omega)) ?_ | refine g_pu rfl rfl rfl (pu_neq_f rfl rfl rfl (by omega)) ?_ | refine g_pu rfl rfl rfl (pu_neq rfl rfl rfl) ?_
          first | refine g_pu rfl rfl rfl (pu_pick_t rfl rfl rfl) ?_ | refine g_pu rfl rfl rfl (pu_pick_f rfl rfl rfl) ?_
          refine g_nil ?_
          (repeat refine g_seq ?_)
          refine g_cond_f rfl (g_skip ?_)
          (repeat refine g_seq ?_)
          refine g_any (9, [7]) ?_
          refine a_pu 0 rfl rfl rfl rfl (pu_loadW 11 (L := prC a (xmV a nine)) rfl rfl rfl hpa) rfl rfl (by kernel_rfl) ?_
          refine a_pu 1 rfl rfl rfl rfl (pu_fieldAddr (by decide) rfl rfl) rfl rfl (by kernel_rfl) ?_
          refine a_pu 2 rfl rfl rfl rfl (pu_sliceA rfl rfl) rfl rfl (by kernel_rfl) ?_
          refine a_pendA 8 15 15 24 ?_
          refine a_do 3 94 [94] (does_call rfl rfl rfl rfl rfl (fun w' hm => Copy_b w' 32 (By.prS 13 rfl hm hbl hvb))) rfl rfl (by kernel_rfl) rfl rfl (by kernel_rfl) (by kernel_rfl) (by kernel_rfl) rfl (fun p hp => by simp only [List.mem_cons, List.not_mem_nil, or_false] at hp; subst hp; first | exact does_PA rfl rfl rfl rfl | exact does_PB rfl rfl rfl rfl rfl (by decide) (by decide) rfl rfl) ?_; rintro v_ cs_ ⟨x94, _, rfl, rfl⟩
          refine a_do 4 95 [] (does_call rfl rfl rfl rfl rfl (fun w' hm => Shared_b w' x94.c hal hva (By.ow 94 rfl hm hvb (by omega)))) rfl rfl (by kernel_rfl) rfl rfl (by kernel_rfl) (by kernel_rfl) (by kernel_rfl) rfl (fun p hp => by simp only [List.mem_cons, List.not_mem_nil, or_false] at hp; subst hp; first | exact does_PA rfl rfl rfl rfl | exact does_PB rfl rfl rfl rfl rfl (by decide) (by decide) rfl rfl) ?_; rintro v_ cs_ ⟨_, _, rfl, rfl⟩
          rw [hEa]
          refine a_pu 5 rfl rfl rfl rfl (pu_move rfl rfl) rfl rfl (by kernel_rfl) ?_
          refine a_pu 6 rfl rfl rfl rfl (pu_extract rfl rfl rfl) rfl rfl (by kernel_rfl) ?_
          first | refine a_mv 7 rfl rfl rfl rfl (fun _ => (pu_extract rfl rfl rfl)) rfl rfl rfl (by kernel_rfl) (by kernel_rfl) (by kernel_rfl) rfl ?_
          refine a_force _ (by kernel_rfl) rfl rfl rfl (by kernel_rfl) (by kernel_rfl) (by kernel_rfl) rfl (fun p hp => by simp only [List.mem_cons, List.not_mem_nil, or_false] at hp; subst hp; first | exact does_PA rfl rfl rfl rfl | exact does_PB rfl rfl rfl rfl rfl (by decide) (by decide) rfl rfl) ?_; rintro v_ cs_ ⟨b15, hb15, rfl, rfl⟩
          refine a_tail [9, 10] (by kernel_rfl) rfl rfl (by kernel_rfl) ?_
          refine g_storeL 15 (s := 32) (C := bs (xmV a (xmV b nine))) rfl rfl rfl rfl rfl rfl (by rw [bs_length, xmV_length]) rfl (oneCell_bs _) ?_
          refine g_pu rfl rfl rfl (pu_assign rfl rfl) ?_
          refine g_nil ?_
          (repeat refine g_seq ?_)
          refine g_any (9, [7]) ?_
          refine a_pu 0 rfl rfl rfl rfl (pu_loadW 13 (L := prC b (xmV b nine)) rfl rfl rfl hpb) rfl rfl (by kernel_rfl) ?_
          refine a_pu 1 rfl rfl rfl rfl (pu_fieldAddr (by decide) rfl rfl) rfl rfl (by kernel_rfl) ?_
          refine a_pu 2 rfl rfl rfl rfl (pu_sliceA rfl rfl) rfl rfl (by kernel_rfl) ?_
          refine a_pendA 8 17 17 24 ?_
          refine a_do 3 102 [102] (does_call rfl rfl rfl rfl rfl (fun w' hm => Copy_b w' 32 (By.prS 11 rfl hm hal hva))) rfl rfl (by kernel_rfl) rfl rfl (by kernel_rfl) (by kernel_rfl) (by kernel_rfl) rfl (fun p hp => by simp only [List.mem_cons, List.not_mem_nil, or_false] at hp; subst hp; first | exact does_PA rfl rfl rfl rfl | exact does_PB rfl rfl rfl rfl rfl (by decide) (by decide) rfl rfl) ?_; rintro v_ cs_ ⟨x102, _, rfl, rfl⟩
          refine a_do 4 103 [] (does_call rfl rfl rfl rfl rfl (fun w' hm => Shared_b w' x102.c hbl hvb (By.ow 102 rfl hm hva (by omega)))) rfl rfl (by kernel_rfl) rfl rfl (by kernel_rfl) (by kernel_rfl) (by kernel_rfl) rfl (fun p hp => by simp only [List.mem_cons, List.not_mem_nil, or_false] at hp; subst hp; first | exact does_PA rfl rfl rfl rfl | exact does_PB rfl rfl rfl rfl rfl (by decide) (by decide) rfl rfl) ?_; rintro v_ cs_ ⟨_, _, rfl, rfl⟩
          rw [hEb, hcm]
          refine a_pu 5 rfl rfl rfl rfl (pu_move rfl rfl) rfl rfl (by kernel_rfl) ?_
          refine a_pu 6 rfl rfl rfl rfl (pu_extract rfl rfl rfl) rfl rfl (by kernel_rfl) ?_
          first | refine a_mv 7 rfl rfl rfl rfl (fun _ => (pu_extract rfl rfl rfl)) rfl rfl rfl (by kernel_rfl) (by kernel_rfl) (by kernel_rfl) rfl ?_
          refine a_force _ (by kernel_rfl) rfl rfl rfl (by kernel_rfl) (by kernel_rfl) (by kernel_rfl) rfl (fun p hp => by simp only [List.mem_cons, List.not_mem_nil, or_false] at hp; subst hp; first | exact does_PA rfl rfl rfl rfl | exact does_PB rfl rfl rfl rfl rfl (by decide) (by decide) rfl rfl) ?_; rintro v_ cs_ ⟨b17, hb17, rfl, rfl⟩
          refine a_tail [9, 10] (by kernel_rfl) rfl rfl (by kernel_rfl) ?_
          refine g_storeL 17 (s := 32) (C := bs (xmV a (xmV b nine))) rfl rfl rfl rfl rfl rfl (by rw [bs_length, xmV_length]) rfl (oneCell_bs _) ?_
          refine g_pu rfl rfl rfl (pu_assign rfl rfl) ?_
          refine g_nil ?_
          (repeat refine g_seq ?_)
          refine g_region ?_
          refine g_pu rfl rfl rfl (pu_move rfl rfl) ?_
          first | refine g_pu rfl rfl rfl (pu_eql_t rfl rfl rfl (by omega)) ?_ | refine g_pu rfl rfl rfl (pu_eql_f rfl rfl rfl (by omega)) ?_ | refine g_pu rfl rfl rfl (pu_eql rfl rfl rfl) ?_
          refine g_pu rfl rfl rfl (pu_move rfl rfl) ?_
          first | refine g_pass rfl rfl rfl ?_ | refine g_pu rfl rfl rfl (pu_move rfl rfl) ?_
          first | refine g_pass rfl rfl rfl ?_ | refine g_pu rfl rfl rfl (pu_eql_t rfl rfl rfl (by omega)) ?_ | refine g_pu rfl rfl rfl (pu_eql_f rfl rfl rfl (by omega)) ?_ | refine g_pu rfl rfl rfl (pu_eql rfl rfl rfl) ?_
          first | refine g_pu rfl rfl rfl (pu_pick_t rfl rfl rfl) ?_ | refine g_pu rfl rfl rfl (pu_pick_f rfl rfl rfl) ?_
          refine g_pu rfl rfl rfl (pu_move rfl rfl) ?_
          refine g_pu rfl rfl rfl (pu_loadW 15 (L := bs (xmV a (xmV b nine))) rfl rfl rfl (by rw [bs_length, xmV_length])) ?_
          refine g_pu rfl rfl rfl (pu_loadW 17 (L := bs (xmV a (xmV b nine))) rfl rfl rfl (by rw [bs_length, xmV_length])) ?_
          refine g_pu rfl rfl rfl (pu_eqlA_t (a := bs (xmV a (xmV b nine))) (b := bs (xmV a (xmV b nine))) rfl rfl rfl rfl (all_bs _) (by rw [bs_length, xmV_length])) ?_
          first | refine g_pu rfl rfl rfl (pu_pick_t rfl rfl rfl) ?_ | refine g_pu rfl rfl rfl (pu_pick_f rfl rfl rfl) ?_
          refine g_pu rfl rfl rfl (pu_assign rfl rfl) ?_
          refine g_nil ?_
          exact g_ret1 rfl rfl (fun w' hm => ⟨(), trivial, rfl, hm.grows [] trivial rfl⟩)
      · (repeat refine g_seq ?_)
        refine g_region ?_
        refine g_pu rfl rfl rfl (pu_move rfl rfl) ?_
        first | refine g_pu rfl rfl rfl (pu_len rfl rfl) ?_ | refine g_pu rfl rfl rfl (pu_lenS rfl rfl) ?_
        first | refine g_pu rfl rfl rfl (pu_neq_t rfl rfl rfl (by omega)) ?_ | refine g_pu rfl rfl rfl (pu_neq_f rfl rfl rfl (by omega)) ?_ | refine g_pu rfl rfl rfl (pu_neq rfl rfl rfl) ?_
        refine g_pu rfl rfl rfl (pu_move rfl rfl) ?_
        first | refine g_pass rfl rfl rfl ?_ | refine g_pu rfl rfl rfl (pu_move rfl rfl) ?_
        first | refine g_pass rfl rfl rfl ?_ | refine g_pu rfl rfl rfl (pu_len rfl rfl) ?_ | refine g_pu rfl rfl rfl (pu_lenS rfl rfl) ?_
        first | refine g_pass rfl rfl rfl ?_ | refine g_pu rfl rfl rfl (pu_neq_t rfl rfl rfl (by omega)) ?_ | refine g_pu rfl rfl rfl (pu_neq_f rfl rfl rfl (by omega)) ?_ | refine g_pu rfl rfl rfl (pu_neq rfl rfl rfl) ?_
        first | refine g_pu rfl rfl rfl (pu_pick_t rfl rfl rfl) ?_ | refine g_pu rfl rfl rfl (pu_pick_f rfl rfl rfl) ?_
        refine g_pu rfl rfl rfl (pu_move rfl rfl) ?_
        first | refine g_pass rfl rfl rfl ?_ | refine g_pu rfl rfl rfl (pu_move rfl rfl) ?_
        first | refine g_pass rfl rfl rfl ?_ | refine g_pu rfl rfl rfl (pu_len rfl rfl) ?_ | refine g_pu rfl rfl rfl (pu_lenS rfl rfl) ?_
        first | refine g_pass rfl rfl rfl ?_ | refine g_pu rfl rfl rfl (pu_neq_t rfl rfl rfl (by omega)) ?_ | refine g_pu rfl rfl rfl (pu_neq_f rfl rfl rfl (by omega)) ?_ | refine g_pu rfl rfl rfl (pu_neq rfl rfl rfl) ?_
        first | refine g_pu rfl rfl rfl (pu_pick_t rfl rfl rfl) ?_ | refine g_pu rfl rfl rfl (pu_pick_f rfl rfl rfl) ?_
        refine g_nil ?_
        (repeat refine g_seq ?_)
        refine g_cond_t rfl ?_
        (repeat refine g_seq ?_)
        refine g_region ?_
        refine g_pu rfl rfl rfl (pu_assign rfl rfl) ?_
        refine g_nil ?_
        exact g_ret1 rfl rfl (fun w' hm => ⟨(), trivial, rfl, hm.grows [] trivial rfl⟩)
    · (repeat refine g_seq ?_)
      refine g_region ?_
      refine g_pu rfl rfl rfl (pu_move rfl rfl) ?_
      first | refine g_pu rfl rfl rfl (pu_len rfl rfl) ?_ | refine g_pu rfl rfl rfl (pu_lenS rfl rfl) ?_
      first | refine g_pu rfl rfl rfl (pu_neq_t rfl rfl rfl (by omega)) ?_ | refine g_pu rfl rfl rfl (pu_neq_f rfl rfl rfl (by omega)) ?_ | refine g_pu rfl rfl rfl (pu_neq rfl rfl rfl) ?_
      refine g_pu rfl rfl rfl (pu_move rfl rfl) ?_
      first | refine g_pass rfl rfl rfl ?_ | refine g_pu rfl rfl rfl (pu_move rfl rfl) ?_
      first | refine g_pass rfl rfl rfl ?_ | refine g_pu rfl rfl rfl (pu_len rfl rfl) ?_ | refine g_pu rfl rfl rfl (pu_lenS rfl rfl) ?_
      first | refine g_pass rfl rfl rfl ?_ | refine g_pu rfl rfl rfl (pu_neq_t rfl rfl rfl (by omega)) ?_ | refine g_pu rfl rfl rfl (pu_neq_f rfl rfl rfl (by omega)) ?_ | refine g_pu rfl rfl rfl (pu_neq rfl rfl rfl) ?_
      first | refine g_pu rfl rfl rfl (pu_pick_t rfl rfl rfl) ?_ | refine g_pu rfl rfl rfl (pu_pick_f rfl rfl rfl) ?_
      refine g_pu rfl rfl rfl (pu_move rfl rfl) ?_
      first | refine g_pass rfl rfl rfl ?_ | refine g_pu rfl rfl rfl (pu_move rfl rfl) ?_
      first | refine g_pass rfl rfl rfl ?_ | refine g_pu rfl rfl rfl (pu_len rfl rfl) ?_ | refine g_pu rfl rfl rfl (pu_lenS rfl rfl) ?_
      first | refine g_pass rfl rfl rfl ?_ | refine g_pu rfl rfl rfl (pu_neq_t rfl rfl rfl (by omega)) ?_ | refine g_pu rfl rfl rfl (pu_neq_f rfl rfl rfl (by omega)) ?_ | refine g_pu rfl rfl rfl (pu_neq rfl rfl rfl) ?_
      first | refine g_pu rfl rfl rfl (pu_pick_t rfl rfl rfl) ?_ | refine g_pu rfl rfl rfl (pu_pick_f rfl rfl rfl) ?_
      refine g_nil ?_
      (repeat refine g_seq ?_)
      refine g_cond_t rfl ?_
      (repeat refine g_seq ?_)
      refine g_region ?_
      refine g_pu rfl rfl rfl (pu_assign rfl rfl) ?_
      refine g_nil ?_
      exact g_ret1 rfl rfl (fun w' hm => ⟨(), trivial, rfl, hm.grows [] trivial rfl⟩)
  · (repeat refine g_seq ?_)
    refine g_region ?_
    refine g_pu rfl rfl rfl (pu_move rfl rfl) ?_
    first | refine g_pu rfl rfl rfl (pu_len rfl rfl) ?_ | refine g_pu rfl rfl rfl (pu_lenS rfl rfl) ?_
    first | refine g_pu rfl rfl rfl (pu_neq_t rfl rfl rfl (by omega)) ?_ | refine g_pu rfl rfl rfl (pu_neq_f rfl rfl rfl (by omega)) ?_ | refine g_pu rfl rfl rfl (pu_neq rfl rfl rfl) ?_
    refine g_pu rfl rfl rfl (pu_move rfl rfl) ?_
    first | refine g_pass rfl rfl rfl ?_ | refine g_pu rfl rfl rfl (pu_move rfl rfl) ?_
    first | refine g_pass rfl rfl rfl ?_ | refine g_pu rfl rfl rfl (pu_len rfl rfl) ?_ | refine g_pu rfl rfl rfl (pu_lenS rfl rfl) ?_
    first | refine g_pass rfl rfl rfl ?_ | refine g_pu rfl rfl rfl (pu_neq_t rfl rfl rfl (by omega)) ?_ | refine g_pu rfl rfl rfl (pu_neq_f rfl rfl rfl (by omega)) ?_ | refine g_pu rfl rfl rfl (pu_neq rfl rfl rfl) ?_
    first | refine g_pu rfl rfl rfl (pu_pick_t rfl rfl rfl) ?_ | refine g_pu rfl rfl rfl (pu_pick_f rfl rfl rfl) ?_
    refine g_pu rfl rfl rfl (pu_move rfl rfl) ?_
    first | refine g_pass rfl rfl rfl ?_ | refine g_pu rfl rfl rfl (pu_move rfl rfl) ?_
    first | refine g_pass rfl rfl rfl ?_ | refine g_pu rfl rfl rfl (pu_len rfl rfl) ?_ | refine g_pu rfl rfl rfl (pu_lenS rfl rfl) ?_
    first | refine g_pass rfl rfl rfl ?_ | refine g_pu rfl rfl rfl (pu_neq_t rfl rfl rfl (by omega)) ?_ | refine g_pu rfl rfl rfl (pu_neq_f rfl rfl rfl (by omega)) ?_ | refine g_pu rfl rfl rfl (pu_neq rfl rfl rfl) ?_
    first | refine g_pu rfl rfl rfl (pu_pick_t rfl rfl rfl) ?_ | refine g_pu rfl rfl rfl (pu_pick_f rfl rfl rfl) ?_
    refine g_nil ?_
    (repeat refine g_seq ?_)
    refine g_cond_t rfl ?_
    (repeat refine g_seq ?_)
    refine g_region ?_
    refine g_pu rfl rfl rfl (pu_assign rfl rfl) ?_
    refine g_nil ?_
    exact g_ret1 rfl rfl (fun w' hm => ⟨(), trivial, rfl, hm.grows [] trivial rfl⟩)
end Go.Sx

/-
  CurveChains: a point that is multiplied by scalars one behind the other comes to what the document says. The bytes fit memory.
-/
import Derived.Test.YtjmihjcahjpkmaaK6
import Derived.Test.YtjmihjcahjpkmaaC2
set_option linter.unusedVariables false
set_option linter.unusedSimpArgs false
namespace Go.Sx
open Go Go.Proofs

theorem ByL.pre {w : World} {q : Option Addr} {m : Nat} {L : List Value} {ls : List (List (BitVec 8))} (h : ByL w q m L ls) {j : Nat} (hj : j ≤ m) : ByL w q j (L.take j) (ls.take j) := by
  have hL := h.len
  have hl := h.lenL
  have hb := h.big
  refine ⟨RdV.take (L' := L.drop j) (by rw [List.take_append_drop]; exact h.rd), by rw [List.length_take]; omega, ⟨by rw [List.length_take, List.length_take]; omega, fun i v l hv hl => ?_⟩, by omega⟩
  have hv' : L[i]? = some v := by
    rw [List.getElem?_take] at hv
    split at hv
    · exact hv
    · cases hv
  have hl' : ls[i]? = some l := by
    rw [List.getElem?_take] at hl
    split at hl
    · exact hl
    · cases hl
  exact h.els.2 i v l hv' hl'

theorem CurveChains_spec (w : World) {p q : Option Addr} {n m : Nat} (c d : Nat) {u : List (BitVec 8)} {L : List Value} {ks : List (List (BitVec 8))} (hu : By w p n u) (ha : ByL w q m L ks) (hd : m ≤ d) : Spec Try.prog 7 #[.slice p n c, .slice q m d] w (σ := Unit) (fun _ => True) (fun _ => .bool true) Nob (fun _ => []) := by
  refine enter Try.func7 rfl rfl (Mem.start w) ?_
  have hul := hu.len
  have hub := hu.big
  (repeat refine g_seq ?_)
  refine g_region ?_
  refine g_pu rfl rfl rfl (pu_assign rfl rfl) ?_
  refine g_nil ?_
  (repeat refine g_seq ?_)
  refine g_region ?_
  refine g_call [] rfl rfl rfl rfl rfl rfl (fun w' hm => awake06_b w') (fun _ _ => ?_)
  refine g_pu rfl rfl rfl (pu_not rfl rfl) ?_
  refine g_nil ?_
  (repeat refine g_seq ?_)
  refine g_cond_f rfl (g_skip ?_)
  refine g_seq ?_
  refine g_join (σ := Nat × List Value × List (List (BitVec 8))) (fun x => [(0, .slice p n c), (1, .slice q x.1 d)]) (fun _ => []) (fun x => ByL w q x.1 x.2.1 x.2.2) ?_ (fun x hx => ?_)
  · by_cases h4 : m > 4
    · (repeat refine g_seq ?_)
      refine g_region ?_
      refine g_pu rfl rfl rfl (pu_move rfl rfl) ?_
      first | refine g_pu rfl rfl rfl (pu_len rfl rfl) ?_ | refine g_pu rfl rfl rfl (pu_lenS rfl rfl) ?_
      first | refine g_pu rfl rfl rfl (pu_gtr_t rfl rfl rfl (by omega)) ?_ | refine g_pu rfl rfl rfl (pu_gtr_f rfl rfl rfl (by omega)) ?_ | refine g_pu rfl rfl rfl (pu_gtr rfl rfl rfl) ?_
      refine g_nil ?_
      (repeat refine g_seq ?_)
      refine g_cond_t rfl ?_
      (repeat refine g_seq ?_)
      refine g_region ?_
      refine g_pu rfl rfl rfl (pu_move rfl rfl) ?_
      refine g_pu rfl rfl rfl (pu_slice_h 4 rfl rfl rfl rfl (by omega)) ?_
      refine g_pu rfl rfl rfl (pu_assign rfl rfl) ?_
      refine g_nil ?_
      exact g_meet (4, L.take 4, ks.take 4) (ha.pre (by omega)) ⟨rfl, rfl, trivial⟩ trivial
    · (repeat refine g_seq ?_)
      refine g_region ?_
      refine g_pu rfl rfl rfl (pu_move rfl rfl) ?_
      first | refine g_pu rfl rfl rfl (pu_len rfl rfl) ?_ | refine g_pu rfl rfl rfl (pu_lenS rfl rfl) ?_
      first | refine g_pu rfl rfl rfl (pu_gtr_t rfl rfl rfl (by omega)) ?_ | refine g_pu rfl rfl rfl (pu_gtr_f rfl rfl rfl (by omega)) ?_ | refine g_pu rfl rfl rfl (pu_gtr rfl rfl rfl) ?_
      refine g_nil ?_
      (repeat refine g_seq ?_)
      refine g_cond_f rfl (g_skip ?_)
      exact g_meet (m, L, ks) ha ⟨rfl, rfl, trivial⟩ trivial
  obtain ⟨m1, L1, ls⟩ := x
  dsimp only at hx ⊢
  have hb1 := hx.big
  have hcl := chP_length u ls
  have hcb : (bs (chP u ls).1).length = 32 := by rw [bs_length, hcl]
  have hvl := xmV_length u nine
  have hvb : (bs (xmV u nine)).length = 32 := by rw [bs_length, hvl]
  (repeat refine g_seq ?_)
  refine g_region ?_
  refine g_pu rfl rfl rfl (pu_move rfl rfl) ?_
  refine g_call [18] rfl rfl rfl rfl rfl rfl (fun w' hm => Copy_b w' c (hu.m hm)) (fun x18 _ => ?_)
  refine g_pu rfl rfl rfl (pu_move rfl rfl) ?_
  refine g_call [20, 120] rfl rfl rfl rfl rfl rfl (fun w' hm => Copies_b w' d (hx.m hm)) (fun x20 h20 => ?_)
  refine g_call [] rfl rfl rfl rfl rfl rfl (fun w' hm => Chain_b w' x18.c x20.c (By.ow 18 rfl hm hul hub) (Owl.by 20 120 rfl rfl hm h20.1 (by omega))) (fun _ _ => ?_)
  refine g_pu rfl rfl rfl (pu_move rfl rfl) ?_
  refine g_pu rfl rfl rfl (pu_extract rfl rfl rfl) ?_
  refine g_pu rfl rfl rfl (pu_extract rfl rfl rfl) ?_
  refine g_lo [5] rfl rfl rfl rfl (lo_alloc rfl) (fun b5 hb5 => ?_)
  refine g_storeL 5 (s := 32) (C := bs (chP u ls).1) rfl rfl rfl rfl rfl rfl hcb rfl (oneCell_bs _) ?_
  refine g_pu rfl rfl rfl (pu_assign rfl rfl) ?_
  refine g_nil ?_
  (repeat refine g_seq ?_)
  refine g_region ?_
  refine g_pu rfl rfl rfl (pu_move rfl rfl) ?_
  refine g_pu rfl rfl rfl (pu_move rfl rfl) ?_
  refine g_call [] rfl rfl rfl rfl rfl rfl (fun w' hm => RChain_b w' c d (hu.m hm) (hx.m hm)) (fun _ _ => ?_)
  refine g_pu rfl rfl rfl (pu_move rfl rfl) ?_
  refine g_pu rfl rfl rfl (pu_extract rfl rfl rfl) ?_
  refine g_pu rfl rfl rfl (pu_extract rfl rfl rfl) ?_
  refine g_lo [7] rfl rfl rfl rfl (lo_alloc rfl) (fun b7 hb7 => ?_)
  refine g_storeL 7 (s := 32) (C := bs (chP u ls).1) rfl rfl rfl rfl rfl rfl hcb rfl (oneCell_bs _) ?_
  refine g_pu rfl rfl rfl (pu_assign rfl rfl) ?_
  refine g_nil ?_
  (repeat refine g_seq ?_)
  refine g_region ?_
  refine g_pu rfl rfl rfl (pu_loadW 5 (L := bs (chP u ls).1) rfl rfl rfl hcb) ?_
  refine g_pu rfl rfl rfl (pu_loadW 7 (L := bs (chP u ls).1) rfl rfl rfl hcb) ?_
  refine g_pu rfl rfl rfl (pu_neqA_f (a := bs (chP u ls).1) (b := bs (chP u ls).1) rfl rfl rfl rfl (all_bs _) hcb) ?_
  refine g_pu rfl rfl rfl (pu_move rfl rfl) ?_
  first | refine g_pass rfl rfl rfl ?_ | refine g_pu rfl rfl rfl (pu_move rfl rfl) ?_
  first | refine g_pass rfl rfl rfl ?_ | refine g_pu rfl rfl rfl (pu_move rfl rfl) ?_
  refine g_pu rfl rfl rfl (pu_neq_f rfl rfl rfl (fun h => h rfl)) ?_
  first | refine g_pu rfl rfl rfl (pu_pick_t rfl rfl rfl) ?_ | refine g_pu rfl rfl rfl (pu_pick_f rfl rfl rfl) ?_
  refine g_nil ?_
  (repeat refine g_seq ?_)
  refine g_cond_f rfl (g_skip ?_)
  (repeat refine g_seq ?_)
  refine g_region ?_
  refine g_pu rfl rfl rfl (pu_move rfl rfl) ?_
  refine g_call [40] rfl rfl rfl rfl rfl rfl (fun w' hm => Copy_b w' c (hu.m hm)) (fun x40 _ => ?_)
  refine g_call [] rfl rfl rfl rfl rfl rfl (fun w' hm => Public_b w' x40.c (By.ow 40 rfl hm hul hub)) (fun _ _ => ?_)
  refine g_pu rfl rfl rfl (pu_move rfl rfl) ?_
  refine g_pu rfl rfl rfl (pu_extract rfl rfl rfl) ?_
  refine g_pu rfl rfl rfl (pu_extract rfl rfl rfl) ?_
  refine g_storeL 5 (s := 32) (C := bs (xmV u nine)) rfl rfl rfl rfl rfl rfl hvb hcb (oneCell_bs _) ?_
  refine g_pu rfl rfl rfl (pu_assign rfl rfl) ?_
  refine g_nil ?_
  (repeat refine g_seq ?_)
  refine g_region ?_
  refine g_pu rfl rfl rfl (pu_move rfl rfl) ?_
  refine g_call [] rfl rfl rfl rfl rfl rfl (fun w' hm => RPublic_b w' c (hu.m hm)) (fun _ _ => ?_)
  refine g_pu rfl rfl rfl (pu_move rfl rfl) ?_
  refine g_pu rfl rfl rfl (pu_extract rfl rfl rfl) ?_
  refine g_pu rfl rfl rfl (pu_extract rfl rfl rfl) ?_
  refine g_storeL 7 (s := 32) (C := bs (xmV u nine)) rfl rfl rfl rfl rfl rfl hvb hcb (oneCell_bs _) ?_
  refine g_pu rfl rfl rfl (pu_assign rfl rfl) ?_
  refine g_nil ?_
  (repeat refine g_seq ?_)
  refine g_region ?_
  refine g_pu rfl rfl rfl (pu_loadW 5 (L := bs (xmV u nine)) rfl rfl rfl hvb) ?_
  refine g_pu rfl rfl rfl (pu_loadW 7 (L := bs (xmV u nine)) rfl rfl rfl hvb) ?_
  refine g_pu rfl rfl rfl (pu_eqlA_t (a := bs (xmV u nine)) (b := bs (xmV u nine)) rfl rfl rfl rfl (all_bs _) hvb) ?_
  refine g_pu rfl rfl rfl (pu_move rfl rfl) ?_
  first | refine g_pass rfl rfl rfl ?_ | refine g_pu rfl rfl rfl (pu_move rfl rfl) ?_
  first | refine g_pass rfl rfl rfl ?_ | refine g_pu rfl rfl rfl (pu_move rfl rfl) ?_
  refine g_pu rfl rfl rfl (pu_eql_t rfl rfl rfl rfl) ?_
  first | refine g_pu rfl rfl rfl (pu_pick_t rfl rfl rfl) ?_ | refine g_pu rfl rfl rfl (pu_pick_f rfl rfl rfl) ?_
  refine g_pu rfl rfl rfl (pu_assign rfl rfl) ?_
  refine g_nil ?_
  exact g_ret1 rfl rfl (fun w' hm => ⟨(), trivial, rfl, hm.grows [] trivial rfl⟩)
end Go.Sx

/-
  ShaFlows: a hash that is written step by step has the sum of what was written, and its twin goes its own way. Condition: at most 2^38 bytes together.
-/
import Derived.Test.YtieafkfdkhpffaaS7
import Derived.Test.YtieafkfdkhpffaaSxEq
import Derived.Test.YtieafkfdkhpffaaCOver
set_option linter.unusedVariables false
set_option linter.unusedSimpArgs false
namespace Go.Sx
open Go Go.Proofs

theorem flat1 {l : List (BitVec 8)} : [l].flatten = l := by simp
theorem flat2 {l m : List (BitVec 8)} : [l, m].flatten = l ++ m := by simp

theorem ShaFlows_spec (w : World) {p q : Option Addr} {n m : Nat} (c d : Nat) {L : List Value} {ls : List (List (BitVec 8))} {tw : List (BitVec 8)} (ha : ByL w p n L ls) (hb : By w q m tw) (hlen : ls.flatten.length ≤ 137438953472) (hml : m ≤ 137438953472) :
    Spec Try.prog 7 #[.slice p n c, .slice q m d] w (σ := Unit) (fun _ => True) (fun _ => .bool true) Nob (fun _ => []) := by
  refine enter Try.func7 rfl rfl (Mem.start w) ?_
  have hbig := ha.big
  have hn := ha.len
  have hln := ha.lenL
  have hml2 := hb.len
  (repeat refine g_seq ?_)
  refine g_region ?_
  refine g_pu rfl rfl rfl (pu_assign rfl rfl) ?_
  refine g_nil ?_
  (repeat refine g_seq ?_)
  refine g_region ?_
  refine g_call [] rfl rfl rfl rfl rfl rfl (fun w' hm => awake02_b w') (fun _ _ => ?_)
  refine g_pu rfl rfl rfl (pu_not rfl rfl) ?_
  refine g_nil ?_
  (repeat refine g_seq ?_)
  refine g_cond_f rfl (g_skip ?_)
  (repeat refine g_seq ?_)
  refine g_region ?_
  refine g_lo [5] rfl rfl rfl rfl (lo_alloc rfl) (fun b5 hb5 => ?_)
  refine g_nil ?_
  refine g_nilO 105 5 rfl ?_
  (repeat refine g_seq ?_)
  refine g_region ?_
  refine g_call [] rfl rfl rfl rfl rfl rfl (fun w' hm => ShaLen_b w' b5 (L := []) (J := []) ⟨none, 0⟩ (hm.holds 5 _ rfl)) (fun _ _ => ?_)
  refine g_pu rfl rfl rfl (pu_neq_f rfl rfl rfl (by simp)) ?_
  refine g_pu rfl rfl rfl (pu_move rfl rfl) ?_
  refine g_call [] rfl rfl rfl rfl rfl rfl (fun w' hm => HashSum_b w' b5 (L := []) (J := []) ⟨none, 0⟩ (hm.holds 5 _ rfl) (RdV.nil _ _) (by simp)) (fun _ _ => ?_)
  refine g_call [] rfl rfl rfl rfl rfl rfl (fun w' hm => RSum_b w' 0 (By.nil w' none) (by omega)) (fun _ _ => ?_)
  refine g_pu rfl rfl rfl (pu_neqA_f rfl rfl rfl rfl (all_bs _) (by rw [bs_length, shaL_length])) ?_
  first | refine g_pu rfl rfl rfl (pu_pick_t rfl rfl rfl) ?_ | refine g_pu rfl rfl rfl (pu_pick_f rfl rfl rfl) ?_
  refine g_nil ?_
  (repeat refine g_seq ?_)
  refine g_cond_f rfl (g_skip ?_)
  (repeat refine g_seq ?_)
  refine g_region ?_
  refine g_call [24, 124] rfl rfl rfl rfl rfl rfl (fun w' hm => ShaNew_b w' 0 (LL := []) (ls := []) ⟨RdV.nil _ _, rfl, All2.nil, by omega⟩ (by simp)) (fun x24 _ => ?_)
  refine g_pu rfl rfl rfl (pu_assign rfl rfl) ?_
  refine g_nil ?_
  (repeat refine g_seq ?_)
  refine g_region ?_
  refine g_pu rfl rfl rfl (pu_assign rfl rfl) ?_
  refine g_nil ?_
  refine g_nilOwn 90 5 1 rfl ?_
  (repeat refine g_seq ?_)
  refine g_region ?_
  refine g_pu rfl rfl rfl (pu_move rfl rfl) ?_
  first | refine g_pu rfl rfl rfl (pu_len rfl rfl) ?_ | refine g_pu rfl rfl rfl (pu_lenS rfl rfl) ?_
  refine g_pu rfl rfl rfl (pu_move rfl rfl) ?_
  refine g_nil ?_
  refine g_block (g_loop3 (fun (i : Nat) (y x : Ow) => [(0, .slice p n c), (1, .slice q m d), (6, .pointer (some ⟨x24.1, 0, none⟩)), (7, x.sl (ls.take i).flatten.length), (25, .slice p n c), (26, .int .i64 (n : Int)), (27, .int .i64 (i : Int))]) (fun i y x => [(24, .pt x24.1 (.cells (hashC (ls.take i).flatten y ++ []).toArray 53 (0, 0))), (124, y.ckO 5 (bs (restL (ls.take i).flatten))), (90, x.ck 5 1 (bs (ls.take i).flatten))]) (fun i _ _ => i ≤ n) (fun i _ _ => n - i) 0 x24.2 ⟨none, 0⟩ ⟨rfl, rfl, rfl, rfl, rfl, rfl, rfl, trivial⟩ ⟨rfl, rfl, rfl, trivial⟩ (by omega) ?_)
  intro i y x hi
  by_cases hlt : i < n
  · (repeat refine g_seq ?_)
    refine g_region ?_
    first | refine g_pu rfl rfl rfl (pu_lss_t rfl rfl rfl (by omega)) ?_ | refine g_pu rfl rfl rfl (pu_lss_f rfl rfl rfl (by omega)) ?_ | refine g_pu rfl rfl rfl (pu_lss rfl rfl rfl) ?_
    refine g_nil ?_
    (repeat refine g_seq ?_)
    refine g_cond_t rfl (g_skip ?_)
    have hl : ls[i]? = some ls[i] := List.getElem?_eq_getElem (by omega)
    generalize ls[i] = l at hl
    obtain ⟨qi, mi, ci, hL2, hby⟩ := ha.at hl
    have hbl := hby.len
    have hft := flat_take hl
    have hfl := flat_le ls (i + 1)
    have hfl2 := congrArg List.length hft
    rw [List.length_append] at hfl2
    generalize hT : (ls.take i).flatten = T at hft hfl2
    generalize hT2 : (ls.take (i + 1)).flatten = T2 at hft hfl2 hfl
    subst hft
    have hml := hby.big
    (repeat refine g_seq ?_); refine g_block ?_
    (repeat refine g_seq ?_)
    refine g_region ?_
    refine g_pu rfl rfl rfl (pu_move rfl rfl) ?_
    refine g_pu rfl rfl rfl (pu_atM1 i (fun w' hm => (ha.m hm).rd) rfl rfl rfl rfl hlt (by omega)) ?_
    refine g_pu rfl rfl rfl (pu_rdM (fun w' hm => (ha.m hm).rd) rfl rfl hL2) ?_
    refine g_pu rfl rfl rfl (pu_assign rfl rfl) ?_
    refine g_pu rfl rfl rfl (pu_assign rfl rfl) ?_
    refine g_nil ?_
    (repeat refine g_seq ?_)
    refine g_region ?_
    refine g_pu rfl rfl rfl (pu_move rfl rfl) ?_
    refine g_call [33] rfl rfl rfl rfl rfl rfl (fun w' hm => Copy_b w' ci (hby.m hm)) (fun x33 _ => ?_)
    refine g_pu rfl rfl rfl (pu_assign rfl rfl) ?_
    refine g_nil ?_
    (repeat refine g_seq ?_)
    refine g_region ?_
    refine g_pu rfl rfl rfl (pu_move rfl rfl) ?_
    refine g_pu rfl rfl rfl (pu_move rfl rfl) ?_
    refine g_lo [36] rfl rfl rfl rfl (lo_buildSlice rfl rfl (by decide) (by decide) rfl rfl) (fun b36 hb36 => ?_)
    refine g_callW [24, 124] [24, 124] rfl rfl rfl rfl rfl rfl (fun j hj => hj.elim (fun h => ⟨24, by simp, _, rfl, h⟩) (fun h => ⟨124, by simp, _, rfl, h⟩)) (fun w' hm => Write_b w' x24.1 (L := T) (J := []) y 1 (LL := [x33.sl mi]) (ls := [l]) (hm.holds 24 _ rfl) (hm.holds 124 _ rfl) (fun j hj he => hm.apart 124 _ 24 _ rfl rfl (by decide) j hj he) (fun j hj => hm.below 124 _ rfl j hj) (hm.rowA 36 rfl) rfl (All2.cons (IsB.own 33 rfl hm hbl (by omega)) All2.nil) (fun _ b o e hb => by cases e; exact hb.elim (fun h1 => hm.apart 36 _ 24 _ rfl rfl (by decide) _ rfl h1) (fun h1 => hm.apart 36 _ 124 _ rfl rfl (by decide) _ rfl h1)) (fun q m c hv _ j hj hb => by cases List.mem_singleton.1 hv; exact hb.elim (fun h1 => hm.apart 33 _ 24 _ rfl rfl (by decide) j hj h1) (fun h1 => hm.apart 33 _ 124 _ rfl rfl (by decide) j hj h1)) (by omega) (by rw [flat1]; omega)) (fun y' _ => ?_)
    rw [flat1]
    refine g_pu rfl rfl rfl (pu_assign rfl rfl) ?_
    refine g_nil ?_
    (repeat refine g_seq ?_)
    refine g_region ?_
    refine g_pu rfl rfl rfl (pu_move rfl rfl) ?_
    refine g_callW [33] [33] rfl rfl rfl rfl rfl rfl (fun j hj => ⟨33, by simp, _, rfl, hj⟩) (fun w' hm => Over_b w' x33 (hm.holds 33 _ rfl) (hm.below 33 _ rfl) hbl (by omega)) (fun _ _ => ?_)
    refine g_nil ?_
    (repeat refine g_seq ?_)
    refine g_region ?_
    refine g_pu rfl rfl rfl (pu_move rfl rfl) ?_
    refine g_pu rfl rfl rfl (pu_move rfl rfl) ?_
    refine g_append1 90 (bs l) rfl rfl rfl rfl rfl rfl rfl rfl (by rw [bs_length]) (fun w' hm => (hby.m hm).rd) (by rw [bs_length, hbl]) (oneCell_bs _) (by omega) (by omega) (fun p' c' => ?_)
    rw [← bs_append]
    refine g_pu rfl rfl rfl (pu_assign rfl rfl) ?_
    refine g_nil ?_
    have hTl : (T ++ l).length = T.length + mi := by rw [List.length_append, hbl]
    by_cases h4 : i % 4 = 0
    · (repeat refine g_seq ?_)
      refine g_region ?_
      refine g_pu rfl rfl rfl (pu_move rfl rfl) ?_
      refine g_pu rfl rfl rfl (pu_eqlP rfl rfl rfl) ?_
      refine g_pu rfl rfl rfl (pu_move rfl rfl) ?_
      first | refine g_pass rfl rfl rfl ?_ | refine g_pu rfl rfl rfl (pu_move rfl rfl) ?_
      refine g_call [] rfl rfl rfl rfl rfl rfl (fun w' hm => ShaLen_b w' x24.1 (L := T ++ l) (J := []) y' (hm.holds 24 _ rfl)) (fun _ _ => ?_)
      first | refine g_pass rfl rfl rfl ?_ | refine g_pu rfl rfl rfl (pu_move rfl rfl) ?_
      first | refine g_pass rfl rfl rfl ?_ | refine g_pu rfl rfl rfl (pu_len rfl rfl) ?_ | refine g_pu rfl rfl rfl (pu_lenS rfl rfl) ?_
      refine g_pu rfl rfl rfl (pu_neq_f rfl rfl rfl (by omega)) ?_
      first | refine g_pu rfl rfl rfl (pu_pick_t rfl rfl rfl) ?_ | refine g_pu rfl rfl rfl (pu_pick_f rfl rfl rfl) ?_
      refine g_pu rfl rfl rfl (pu_move rfl rfl) ?_
      first | refine g_pass rfl rfl rfl ?_ | refine g_pu rfl rfl rfl (pu_move rfl rfl) ?_
      refine g_call [] rfl rfl rfl rfl rfl rfl (fun w' hm => ShaLen_b w' x24.1 (L := T ++ l) (J := []) y' (hm.holds 24 _ rfl)) (fun _ _ => ?_)
      first | refine g_pass rfl rfl rfl ?_ | refine g_pu rfl rfl rfl (pu_move rfl rfl) ?_
      first | refine g_pass rfl rfl rfl ?_ | refine g_pu rfl rfl rfl (pu_len rfl rfl) ?_ | refine g_pu rfl rfl rfl (pu_lenS rfl rfl) ?_
      refine g_pu rfl rfl rfl (pu_neq_f rfl rfl rfl (by omega)) ?_
      first | refine g_pu rfl rfl rfl (pu_pick_t rfl rfl rfl) ?_ | refine g_pu rfl rfl rfl (pu_pick_f rfl rfl rfl) ?_
      refine g_pu rfl rfl rfl (pu_move rfl rfl) ?_
      first | refine g_pass rfl rfl rfl ?_ | refine g_pu rfl rfl rfl (pu_move rfl rfl) ?_
      first | refine g_pass rfl rfl rfl ?_ | refine g_pu rfl rfl rfl (pu_remI rfl rfl rfl (by omega)) ?_
      first | refine g_pass rfl rfl rfl ?_ | refine g_pu rfl rfl rfl (pu_eql_t rfl rfl rfl (by omega)) ?_ | refine g_pu rfl rfl rfl (pu_eql_f rfl rfl rfl (by omega)) ?_ | refine g_pu rfl rfl rfl (pu_eql rfl rfl rfl) ?_
      first | refine g_pass rfl rfl rfl ?_ | refine g_pu rfl rfl rfl (pu_move rfl rfl) ?_
      first | refine g_pass rfl rfl rfl ?_ | refine g_pu rfl rfl rfl (pu_move rfl rfl) ?_
      refine g_call [] rfl rfl rfl rfl rfl rfl (fun w' hm => HashSum_b w' x24.1 (L := T ++ l) (J := []) y' (hm.holds 24 _ rfl) (OwnO.rd (hm.holds 124 _ rfl)) (by omega)) (fun _ _ => ?_)
      first | refine g_pass rfl rfl rfl ?_ | refine g_pu rfl rfl rfl (pu_move rfl rfl) ?_
      refine g_call [] rfl rfl rfl rfl rfl rfl (fun w' hm => RSum_b w' _ (L := T ++ l) (By.own 90 rfl hm hTl (by omega)) (by omega)) (fun _ _ => ?_)
      refine g_pu rfl rfl rfl (pu_neqA_f rfl rfl rfl rfl (all_bs _) (by rw [bs_length, shaL_length])) ?_
      first | refine g_pass rfl rfl rfl ?_ | refine g_pu rfl rfl rfl (pu_pick_t rfl rfl rfl) ?_ | refine g_pu rfl rfl rfl (pu_pick_f rfl rfl rfl) ?_
      first | refine g_pu rfl rfl rfl (pu_pick_t rfl rfl rfl) ?_ | refine g_pu rfl rfl rfl (pu_pick_f rfl rfl rfl) ?_
      refine g_nil ?_
      (repeat refine g_seq ?_)
      refine g_cond_f rfl (g_skip ?_)
      refine g_blk ?_
      (repeat refine g_seq ?_)
      refine g_region ?_
      refine g_pu rfl rfl rfl (pu_addI rfl rfl rfl (by omega)) ?_
      refine g_pu rfl rfl rfl (pu_move rfl rfl) ?_
      refine g_nil ?_
      exact g_round3 (i + 1) y' (⟨p', c'⟩ : Ow) (by omega) (by omega) ⟨rfl, rfl, rfl, by rw [hT2, hTl]; rfl, rfl, rfl, rfl, trivial⟩ ⟨by rw [hT2]; rfl, by rw [hT2]; rfl, by rw [hT2]; rfl, trivial⟩
    · (repeat refine g_seq ?_)
      refine g_region ?_
      refine g_pu rfl rfl rfl (pu_move rfl rfl) ?_
      refine g_pu rfl rfl rfl (pu_eqlP rfl rfl rfl) ?_
      refine g_pu rfl rfl rfl (pu_move rfl rfl) ?_
      first | refine g_pass rfl rfl rfl ?_ | refine g_pu rfl rfl rfl (pu_move rfl rfl) ?_
      refine g_call [] rfl rfl rfl rfl rfl rfl (fun w' hm => ShaLen_b w' x24.1 (L := T ++ l) (J := []) y' (hm.holds 24 _ rfl)) (fun _ _ => ?_)
      first | refine g_pass rfl rfl rfl ?_ | refine g_pu rfl rfl rfl (pu_move rfl rfl) ?_
      first | refine g_pass rfl rfl rfl ?_ | refine g_pu rfl rfl rfl (pu_len rfl rfl) ?_ | refine g_pu rfl rfl rfl (pu_lenS rfl rfl) ?_
      refine g_pu rfl rfl rfl (pu_neq_f rfl rfl rfl (by omega)) ?_
      first | refine g_pu rfl rfl rfl (pu_pick_t rfl rfl rfl) ?_ | refine g_pu rfl rfl rfl (pu_pick_f rfl rfl rfl) ?_
      refine g_pu rfl rfl rfl (pu_move rfl rfl) ?_
      first | refine g_pass rfl rfl rfl ?_ | refine g_pu rfl rfl rfl (pu_move rfl rfl) ?_
      refine g_call [] rfl rfl rfl rfl rfl rfl (fun w' hm => ShaLen_b w' x24.1 (L := T ++ l) (J := []) y' (hm.holds 24 _ rfl)) (fun _ _ => ?_)
      first | refine g_pass rfl rfl rfl ?_ | refine g_pu rfl rfl rfl (pu_move rfl rfl) ?_
      first | refine g_pass rfl rfl rfl ?_ | refine g_pu rfl rfl rfl (pu_len rfl rfl) ?_ | refine g_pu rfl rfl rfl (pu_lenS rfl rfl) ?_
      refine g_pu rfl rfl rfl (pu_neq_f rfl rfl rfl (by omega)) ?_
      first | refine g_pu rfl rfl rfl (pu_pick_t rfl rfl rfl) ?_ | refine g_pu rfl rfl rfl (pu_pick_f rfl rfl rfl) ?_
      refine g_pu rfl rfl rfl (pu_move rfl rfl) ?_
      first | refine g_pass rfl rfl rfl ?_ | refine g_pu rfl rfl rfl (pu_move rfl rfl) ?_
      first | refine g_pass rfl rfl rfl ?_ | refine g_pu rfl rfl rfl (pu_remI rfl rfl rfl (by omega)) ?_
      first | refine g_pass rfl rfl rfl ?_ | refine g_pu rfl rfl rfl (pu_eql_t rfl rfl rfl (by omega)) ?_ | refine g_pu rfl rfl rfl (pu_eql_f rfl rfl rfl (by omega)) ?_ | refine g_pu rfl rfl rfl (pu_eql rfl rfl rfl) ?_
      first | refine g_pass rfl rfl rfl ?_ | refine g_pu rfl rfl rfl (pu_move rfl rfl) ?_
      first | refine g_pass rfl rfl rfl ?_ | refine g_pu rfl rfl rfl (pu_move rfl rfl) ?_
      refine g_pass rfl rfl rfl ?_
      first | refine g_pass rfl rfl rfl ?_ | refine g_pu rfl rfl rfl (pu_move rfl rfl) ?_
      refine g_pass rfl rfl rfl ?_
      refine g_pass rfl rfl rfl ?_
      first | refine g_pass rfl rfl rfl ?_ | refine g_pu rfl rfl rfl (pu_pick_t rfl rfl rfl) ?_ | refine g_pu rfl rfl rfl (pu_pick_f rfl rfl rfl) ?_
      first | refine g_pu rfl rfl rfl (pu_pick_t rfl rfl rfl) ?_ | refine g_pu rfl rfl rfl (pu_pick_f rfl rfl rfl) ?_
      refine g_nil ?_
      (repeat refine g_seq ?_)
      refine g_cond_f rfl (g_skip ?_)
      refine g_blk ?_
      (repeat refine g_seq ?_)
      refine g_region ?_
      refine g_pu rfl rfl rfl (pu_addI rfl rfl rfl (by omega)) ?_
      refine g_pu rfl rfl rfl (pu_move rfl rfl) ?_
      refine g_nil ?_
      exact g_round3 (i + 1) y' (⟨p', c'⟩ : Ow) (by omega) (by omega) ⟨rfl, rfl, rfl, by rw [hT2, hTl]; rfl, rfl, rfl, rfl, trivial⟩ ⟨by rw [hT2]; rfl, by rw [hT2]; rfl, by rw [hT2]; rfl, trivial⟩
  · (repeat refine g_seq ?_)
    refine g_region ?_
    first | refine g_pu rfl rfl rfl (pu_lss_t rfl rfl rfl (by omega)) ?_ | refine g_pu rfl rfl rfl (pu_lss_f rfl rfl rfl (by omega)) ?_ | refine g_pu rfl rfl rfl (pu_lss rfl rfl rfl) ?_
    refine g_nil ?_
    (repeat refine g_seq ?_)
    refine g_cond_f rfl (g_exit rfl ?_)
    rw [List.take_of_length_le (by omega)]
    generalize hT : ls.flatten = T at hlen
    (repeat refine g_seq ?_)
    refine g_region ?_
    refine g_pu rfl rfl rfl (pu_move rfl rfl) ?_
    refine g_call [73, 173] rfl rfl rfl rfl rfl rfl (fun w' hm => Twin_b w' x24.1 (L := T) (J := []) y (hm.holds 24 _ rfl) (OwnO.rd (hm.holds 124 _ rfl)) (by omega)) (fun x73 _ => ?_)
    refine g_pu rfl rfl rfl (pu_assign rfl rfl) ?_
    refine g_nil ?_
    (repeat refine g_seq ?_)
    refine g_region ?_
    refine g_pu rfl rfl rfl (pu_move rfl rfl) ?_
    refine g_pu rfl rfl rfl (pu_move rfl rfl) ?_
    refine g_call [76] rfl rfl rfl rfl rfl rfl (fun w' hm => Copy_b w' d (hb.m hm)) (fun x76 _ => ?_)
    refine g_lo [77] rfl rfl rfl rfl (lo_buildSlice rfl rfl (by decide) (by decide) rfl rfl) (fun b77 hb77 => ?_)
    refine g_lo [78] rfl rfl rfl rfl (lo_buildSlice rfl rfl (by decide) (by decide) rfl rfl) (fun b78 hb78 => ?_)
    refine g_callW [73, 173] [73, 173] rfl rfl rfl rfl rfl rfl (fun j hj => hj.elim (fun h => ⟨73, by simp, _, rfl, h⟩) (fun h => ⟨173, by simp, _, rfl, h⟩)) (fun w' hm => Write_b w' x73.1 (L := T) (J := []) x73.2 2 (LL := [x76.sl m, .slice (some ⟨b77, 0, none⟩) 1 1]) (ls := [tw, [1#8]]) (hm.holds 73 _ rfl) (hm.holds 173 _ rfl) (fun j hj he => hm.apart 173 _ 73 _ rfl rfl (by decide) j hj he) (fun j hj => hm.below 173 _ rfl j hj) (hm.rowA 78 rfl) rfl (All2.cons (IsB.own 76 rfl hm hml2 (by omega)) (All2.cons (IsB.full 77 rfl hm rfl (by omega)) All2.nil)) (fun _ b o e hb => by cases e; exact hb.elim (fun h1 => hm.apart 78 _ 73 _ rfl rfl (by decide) _ rfl h1) (fun h1 => hm.apart 78 _ 173 _ rfl rfl (by decide) _ rfl h1)) (fun q m c hv _ j hj hb => (List.mem_cons.1 hv).elim (fun h0 => by cases h0; exact hb.elim (fun h1 => hm.apart 76 _ 73 _ rfl rfl (by decide) j hj h1) (fun h1 => hm.apart 76 _ 173 _ rfl rfl (by decide) j hj h1)) (fun h0 => by cases List.mem_singleton.1 h0; exact hb.elim (fun h1 => hm.apart 77 _ 73 _ rfl rfl (by decide) j (At.some.1 hj) h1) (fun h1 => hm.apart 77 _ 173 _ rfl rfl (by decide) j (At.some.1 hj) h1))) (by omega) (by rw [flat2, List.length_append]; simp only [List.length_cons, List.length_nil]; omega)) (fun y' _ => ?_)
    rw [flat2, ← List.append_assoc T tw [1#8]]
    refine g_nil ?_
    (repeat refine g_seq ?_)
    refine g_region ?_
    refine g_pu rfl rfl rfl (pu_move rfl rfl) ?_
    refine g_call [] rfl rfl rfl rfl rfl rfl (fun w' hm => RSum_b w' _ (L := T) (By.ow 90 rfl hm rfl (by omega)) (by omega)) (fun _ _ => ?_)
    refine g_lo [13] rfl rfl rfl rfl (lo_alloc rfl) (fun b13 hb13 => ?_)
    refine g_storeL 13 (s := 32) (C := bs (shaL T)) rfl rfl rfl rfl rfl rfl (by rw [bs_length, shaL_length]) rfl (oneCell_bs _) ?_
    refine g_nil ?_
    (repeat refine g_seq ?_)
    refine g_any (25, []) ?_
    refine a_pu 0 rfl rfl rfl rfl (pu_move rfl rfl) rfl rfl (by kernel_rfl) ?_
    refine a_pu 2 rfl rfl rfl rfl (pu_loadW 13 (L := bs (shaL T)) rfl rfl rfl (by rw [bs_length, shaL_length])) rfl rfl (by kernel_rfl) ?_
    refine a_do 1 83 [] (does_call rfl rfl rfl rfl rfl (fun w' hm => HashSum_b w' x24.1 (L := T) (J := []) y (hm.holds 24 _ rfl) (OwnO.rd (hm.holds 124 _ rfl)) (by omega))) rfl rfl (by kernel_rfl) rfl rfl (by kernel_rfl) (by kernel_rfl) (by kernel_rfl) rfl (fun p hp => by cases hp) ?_; rintro v_ cs_ ⟨_, _, rfl, rfl⟩
    refine a_pu 3 rfl rfl rfl rfl (pu_neqA_f rfl rfl rfl rfl (all_bs _) (by rw [bs_length, shaL_length])) rfl rfl (by kernel_rfl) ?_
    refine a_pu 4 rfl rfl rfl rfl (pu_move rfl rfl) rfl rfl (by kernel_rfl) ?_
    first | refine a_pass 5 rfl rfl rfl rfl rfl rfl (by kernel_rfl) ?_ | refine a_pu 5 rfl rfl rfl rfl (pu_move rfl rfl) rfl rfl (by kernel_rfl) ?_
    refine a_pu 7 rfl rfl rfl rfl (pu_loadW 13 (L := bs (shaL T)) rfl rfl rfl (by rw [bs_length, shaL_length])) rfl rfl (by kernel_rfl) ?_
    refine a_do 6 88 [] (does_call rfl rfl rfl rfl rfl (fun w' hm => HashSum_b w' x24.1 (L := T) (J := []) y (hm.holds 24 _ rfl) (OwnO.rd (hm.holds 124 _ rfl)) (by omega))) rfl rfl (by kernel_rfl) rfl rfl (by kernel_rfl) (by kernel_rfl) (by kernel_rfl) rfl (fun p hp => by cases hp) ?_; rintro v_ cs_ ⟨_, _, rfl, rfl⟩
    refine a_pu 8 rfl rfl rfl rfl (pu_neqA_f rfl rfl rfl rfl (all_bs _) (by rw [bs_length, shaL_length])) rfl rfl (by kernel_rfl) ?_
    first | refine a_pu 9 rfl rfl rfl rfl (pu_pick_t rfl rfl rfl) rfl rfl (by kernel_rfl) ?_ | refine a_pu 9 rfl rfl rfl rfl (pu_pick_f rfl rfl rfl) rfl rfl (by kernel_rfl) ?_
    refine a_pu 10 rfl rfl rfl rfl (pu_move rfl rfl) rfl rfl (by kernel_rfl) ?_
    first | refine a_pass 11 rfl rfl rfl rfl rfl rfl (by kernel_rfl) ?_ | refine a_pu 11 rfl rfl rfl rfl (pu_move rfl rfl) rfl rfl (by kernel_rfl) ?_
    first | refine a_pass 13 rfl rfl rfl rfl rfl rfl (by kernel_rfl) ?_ | refine a_pu 13 rfl rfl rfl rfl (pu_move rfl rfl) rfl rfl (by kernel_rfl) ?_
    first | refine a_pass 14 rfl rfl rfl rfl rfl rfl (by kernel_rfl) ?_ | refine a_pu 14 rfl rfl rfl rfl (pu_len rfl rfl) rfl rfl (by kernel_rfl) ?_ | refine a_pu 14 rfl rfl rfl rfl (pu_lenS rfl rfl) rfl rfl (by kernel_rfl) ?_
    refine a_do 12 94 [] (does_call rfl rfl rfl rfl rfl (fun w' hm => ShaLen_b w' x24.1 (L := T) (J := []) y (hm.holds 24 _ rfl))) rfl rfl (by kernel_rfl) rfl rfl (by kernel_rfl) (by kernel_rfl) (by kernel_rfl) rfl (fun p hp => by cases hp) ?_; rintro v_ cs_ ⟨_, _, rfl, rfl⟩
    refine a_pu 15 rfl rfl rfl rfl (pu_neq_f rfl rfl rfl (by omega)) rfl rfl (by kernel_rfl) ?_
    first | refine a_pu 16 rfl rfl rfl rfl (pu_pick_t rfl rfl rfl) rfl rfl (by kernel_rfl) ?_ | refine a_pu 16 rfl rfl rfl rfl (pu_pick_f rfl rfl rfl) rfl rfl (by kernel_rfl) ?_
    refine a_pu 17 rfl rfl rfl rfl (pu_move rfl rfl) rfl rfl (by kernel_rfl) ?_
    first | refine a_pass 18 rfl rfl rfl rfl rfl rfl (by kernel_rfl) ?_ | refine a_pu 18 rfl rfl rfl rfl (pu_move rfl rfl) rfl rfl (by kernel_rfl) ?_
    refine a_pu 22 rfl rfl rfl rfl (pu_loadW 13 (L := bs (shaL T)) rfl rfl rfl (by rw [bs_length, shaL_length])) rfl rfl (by kernel_rfl) ?_
    refine a_do 19 101 [101, 201] (does_call rfl rfl rfl rfl rfl (fun w' hm => Copies_b w' c (ha.m hm))) rfl rfl (by kernel_rfl) rfl rfl (by kernel_rfl) (by kernel_rfl) (by kernel_rfl) rfl (fun p hp => by cases hp) ?_; rintro v_ cs_ ⟨x101, h101, rfl, rfl⟩
    refine a_do 20 102 [102, 202] (does_call rfl rfl rfl rfl rfl (fun w' hm => ShaNew_b w' _ (Owl.by 101 201 rfl rfl hm h101.1 hbig) (by rw [hT]; omega))) rfl rfl (by kernel_rfl) rfl rfl (by kernel_rfl) (by kernel_rfl) (by kernel_rfl) rfl (fun p hp => by cases hp) ?_; rintro v_ cs_ ⟨x102, _, rfl, rfl⟩
    refine a_do 21 103 [] (does_call rfl rfl rfl rfl rfl (fun w' hm => HashSum_b w' x102.1 (L := ls.flatten) (J := []) x102.2 (hm.holds 102 _ rfl) (OwnO.rd (hm.holds 202 _ rfl)) (by rw [hT]; omega))) rfl rfl (by kernel_rfl) rfl rfl (by kernel_rfl) (by kernel_rfl) (by kernel_rfl) rfl (fun p hp => by cases hp) ?_; rintro v_ cs_ ⟨_, _, rfl, rfl⟩
    rw [hT]
    refine a_pu 23 rfl rfl rfl rfl (pu_neqA_f rfl rfl rfl rfl (all_bs _) (by rw [bs_length, shaL_length])) rfl rfl (by kernel_rfl) ?_
    first | refine a_pu 24 rfl rfl rfl rfl (pu_pick_t rfl rfl rfl) rfl rfl (by kernel_rfl) ?_ | refine a_pu 24 rfl rfl rfl rfl (pu_pick_f rfl rfl rfl) rfl rfl (by kernel_rfl) ?_
    refine a_done (by kernel_rfl) ?_
    (repeat refine g_seq ?_)
    refine g_cond_f rfl (g_skip ?_)
    (repeat refine g_seq ?_)
    refine g_region ?_
    refine g_pu rfl rfl rfl (pu_move rfl rfl) ?_
    refine g_call [108] rfl rfl rfl rfl rfl rfl (fun w' hm => Copy_b w' _ (By.ow 90 rfl hm rfl (by omega))) (fun x108 _ => ?_)
    refine g_pu rfl rfl rfl (pu_move rfl rfl) ?_
    refine g_append1 108 (bs tw) rfl rfl rfl rfl rfl rfl rfl rfl (by rw [bs_length]) (fun w' hm => (hb.m hm).rd) (by rw [bs_length, hml2]) (oneCell_bs _) (by omega) (by omega) (fun p1 c1 => ?_)
    refine g_lo [111] rfl rfl rfl rfl (lo_buildSlice rfl rfl (by decide) (by decide) rfl rfl) (fun b111 hb111 => ?_)
    refine g_append1 108 (bs [1#8]) rfl rfl rfl rfl rfl rfl rfl rfl (by rw [List.length_append, bs_length, bs_length, hml2]) (fun w' hm => hm.rowA 111 rfl) rfl (oneCell_bs _) (by omega) (by omega) (fun p2 c2 => ?_)
    rw [← bs_append, ← bs_append]
    refine g_pu rfl rfl rfl (pu_assign rfl rfl) ?_
    refine g_nil ?_
    have hTl : (T ++ tw ++ [1#8]).length = T.length + m + 1 := by simp [hml2]; omega
    generalize T ++ tw ++ [1#8] = U at hTl
    (repeat refine g_seq ?_)
    refine g_region ?_
    refine g_pu rfl rfl rfl (pu_move rfl rfl) ?_
    refine g_call [] rfl rfl rfl rfl rfl rfl (fun w' hm => HashSum_b w' x73.1 (L := U) (J := []) y' (hm.holds 73 _ rfl) (OwnO.rd (hm.holds 173 _ rfl)) (by omega)) (fun _ _ => ?_)
    refine g_pu rfl rfl rfl (pu_move rfl rfl) ?_
    refine g_call [] rfl rfl rfl rfl rfl rfl (fun w' hm => RSum_b w' _ (L := U) (By.own 108 rfl hm hTl (by omega)) (by omega)) (fun _ _ => ?_)
    refine g_pu rfl rfl rfl (pu_eqlA_t rfl rfl rfl rfl (all_bs _) (by rw [bs_length, shaL_length])) ?_
    refine g_pu rfl rfl rfl (pu_move rfl rfl) ?_
    first | refine g_pass rfl rfl rfl ?_ | refine g_pu rfl rfl rfl (pu_move rfl rfl) ?_
    refine g_call [] rfl rfl rfl rfl rfl rfl (fun w' hm => ShaLen_b w' x73.1 (L := U) (J := []) y' (hm.holds 73 _ rfl)) (fun _ _ => ?_)
    first | refine g_pass rfl rfl rfl ?_ | refine g_pu rfl rfl rfl (pu_move rfl rfl) ?_
    first | refine g_pass rfl rfl rfl ?_ | refine g_pu rfl rfl rfl (pu_len rfl rfl) ?_ | refine g_pu rfl rfl rfl (pu_lenS rfl rfl) ?_
    refine g_pu rfl rfl rfl (pu_eql_t rfl rfl rfl (by omega)) ?_
    first | refine g_pu rfl rfl rfl (pu_pick_t rfl rfl rfl) ?_ | refine g_pu rfl rfl rfl (pu_pick_f rfl rfl rfl) ?_
    refine g_pu rfl rfl rfl (pu_assign rfl rfl) ?_
    refine g_nil ?_
    exact g_ret1 rfl rfl (fun w' hm => ⟨(), trivial, rfl, hm.grows [] trivial rfl⟩)
end Go.Sx

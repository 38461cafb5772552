import Derived.Test.YtigcogjilfnpcaaZsKY5
import Derived.Test.YtigcogjilfnpcaaZsTS
set_option linter.unusedVariables false
set_option linter.unusedSimpArgs false
/-
  ShallotSecrets: sender and hops come to one secret, each hop by its private key and what the hop ahead hands on. No condition.
-/
namespace Go.Sx
open Go Go.Proofs

theorem stepsT_sub {l : List HopS} (ho : ∀ h ∈ l, h.1.length = 32 ∧ h.2.length = 32) {i : Nat} {h : HopS} (hi : l[i]? = some h) {o n : Nat} {x : List (BitVec 8)} (hx : ((stL' h.1 h.2).drop o).take n = x) (hn : o + n ≤ 192) : ((bs (stepsL l)).drop (i * 192 + o)).take n = bs x := by
  have h1 := stepsL_get ho hi
  have e : ((stepsL l).drop (i * 192 + o)).take n = ((((stepsL l).drop (i * 192)).take 192).drop o).take n := by
    rw [← List.drop_drop, List.drop_take, List.take_take, Nat.min_eq_left (by omega)]
  refine bs_cut ?_
  rw [e, h1, hx]

theorem ShallotSecrets_spec (w : World) {p q : Option Addr} {n m : Nat} (c d : Nat) {k : List (BitVec 8)} {L : List Value} {ks : List (List (BitVec 8))} (hk : By w p n k) (ha : ByL w q m L ks) (hmd : m ≤ d) : Spec Try.prog 9 #[.slice p n c, .slice q m d] w (σ := Unit) (fun _ => True) (fun _ => .bool true) Nob (fun _ => []) := by
  refine enter Try.func9 rfl rfl (Mem.start w) ?_
  have hkl := hk.len
  have hkb := hk.big
  have hmb := ha.big
  have hob : (bs (ofV [])).length = 128 := by rw [bs_length, ofV_length]
  (repeat refine g_seq ?_)
  refine g_region ?_
  refine g_pu rfl rfl rfl (pu_assign rfl rfl) ?_
  refine g_nil ?_
  (repeat refine g_seq ?_)
  refine g_region ?_
  refine g_call [] rfl rfl rfl rfl rfl rfl (fun w' hm => Of12_b w' 0 (p := none) (n := 0) (s := []) ⟨RdV.nil _ _, rfl, by omega⟩) (fun _ _ => ?_)
  rw [show ofE 0 = 2 from rfl]
  refine g_pu rfl rfl rfl (pu_move rfl rfl) ?_
  refine g_pu rfl rfl rfl (pu_extract rfl rfl rfl) ?_
  refine g_pu rfl rfl rfl (pu_extract rfl rfl rfl) ?_
  refine g_lo [5] rfl rfl rfl rfl (lo_alloc rfl) (fun b5 hb5 => ?_)
  refine g_storeL 5 (s := 128) (C := bs (ofV [])) rfl rfl rfl rfl rfl rfl hob (by rw [List.length_replicate]) (oneCell_bs _) ?_
  refine g_pu rfl rfl rfl (pu_assign rfl rfl) ?_
  refine g_nil ?_
  (repeat refine g_seq ?_)
  refine g_region ?_
  refine g_pu rfl rfl rfl (pu_move rfl rfl) ?_
  first | refine g_pu rfl rfl rfl (pu_neq_t rfl rfl rfl (by omega)) ?_ | refine g_pu rfl rfl rfl (pu_neq_f rfl rfl rfl (by omega)) ?_ | refine g_pu rfl rfl rfl (pu_neq rfl rfl rfl) ?_
  refine g_nil ?_
  (repeat refine g_seq ?_)
  refine g_cond_f rfl (g_skip ?_)
  by_cases hn32 : n = 32
  · by_cases hm0 : m = 0
    · (repeat refine g_seq ?_)
      refine g_region ?_
      refine g_pu rfl rfl rfl (pu_move rfl rfl) ?_
      first | refine g_pu rfl rfl rfl (pu_len rfl rfl) ?_ | refine g_pu rfl rfl rfl (pu_lenS rfl rfl) ?_
      first | refine g_pu rfl rfl rfl (pu_neq_t rfl rfl rfl (by omega)) ?_ | refine g_pu rfl rfl rfl (pu_neq_f rfl rfl rfl (by omega)) ?_ | refine g_pu rfl rfl rfl (pu_neq rfl rfl rfl) ?_
      refine g_pu rfl rfl rfl (pu_move rfl rfl) ?_
      first | refine g_pass rfl rfl rfl ?_ | refine g_pu rfl rfl rfl (pu_move rfl rfl) ?_
      first | refine g_pass rfl rfl rfl ?_ | refine g_pu rfl rfl rfl (pu_len rfl rfl) ?_ | refine g_pu rfl rfl rfl (pu_lenS rfl rfl) ?_
      first | refine g_pass rfl rfl rfl ?_ | refine g_pu rfl rfl rfl (pu_eql_t rfl rfl rfl (by omega)) ?_ | refine g_pu rfl rfl rfl (pu_eql_f rfl rfl rfl (by omega)) ?_ | refine g_pu rfl rfl rfl (pu_eql rfl rfl rfl) ?_
      first | refine g_pu rfl rfl rfl (pu_pick_t rfl rfl rfl) ?_ | refine g_pu rfl rfl rfl (pu_pick_f rfl rfl rfl) ?_
      refine g_nil ?_
      (repeat refine g_seq ?_)
      refine g_cond_t rfl ?_
      (repeat refine g_seq ?_)
      refine g_region ?_
      refine g_pu rfl rfl rfl (pu_assign rfl rfl) ?_
      refine g_nil ?_
      exact g_ret1 rfl rfl (fun w' hm => ⟨(), trivial, rfl, hm.grows [] trivial rfl⟩)
    · have hk32 : k.length = 32 := by omega
      (repeat refine g_seq ?_)
      refine g_region ?_
      refine g_pu rfl rfl rfl (pu_move rfl rfl) ?_
      first | refine g_pu rfl rfl rfl (pu_len rfl rfl) ?_ | refine g_pu rfl rfl rfl (pu_lenS rfl rfl) ?_
      first | refine g_pu rfl rfl rfl (pu_neq_t rfl rfl rfl (by omega)) ?_ | refine g_pu rfl rfl rfl (pu_neq_f rfl rfl rfl (by omega)) ?_ | refine g_pu rfl rfl rfl (pu_neq rfl rfl rfl) ?_
      refine g_pu rfl rfl rfl (pu_move rfl rfl) ?_
      first | refine g_pass rfl rfl rfl ?_ | refine g_pu rfl rfl rfl (pu_move rfl rfl) ?_
      first | refine g_pass rfl rfl rfl ?_ | refine g_pu rfl rfl rfl (pu_len rfl rfl) ?_ | refine g_pu rfl rfl rfl (pu_lenS rfl rfl) ?_
      first | refine g_pass rfl rfl rfl ?_ | refine g_pu rfl rfl rfl (pu_eql_t rfl rfl rfl (by omega)) ?_ | refine g_pu rfl rfl rfl (pu_eql_f rfl rfl rfl (by omega)) ?_ | refine g_pu rfl rfl rfl (pu_eql rfl rfl rfl) ?_
      first | refine g_pu rfl rfl rfl (pu_pick_t rfl rfl rfl) ?_ | refine g_pu rfl rfl rfl (pu_pick_f rfl rfl rfl) ?_
      refine g_nil ?_
      (repeat refine g_seq ?_)
      refine g_cond_f rfl (g_skip ?_)
      (repeat refine g_seq ?_)
      refine g_region ?_
      refine g_pu rfl rfl rfl (pu_move rfl rfl) ?_
      refine g_call [35] rfl rfl rfl rfl rfl rfl (fun w' hm => few_b w' d 3 (ha.m hm) (by omega) hmd) (fun x35 _ => ?_)
      refine g_pu rfl rfl rfl (pu_assign rfl rfl) ?_
      refine g_nil ?_
      have hx := ha.preT (j := Nat.min m 3) (Nat.min_le_left _ _)
      have hN1 : 1 ≤ Nat.min m 3 := Nat.le_min.2 ⟨by omega, by omega⟩
      have hN3 : Nat.min m 3 ≤ 3 := Nat.min_le_right _ _
      generalize Nat.min m 3 = N at hx hN1 hN3
      generalize L.take N = L1 at hx
      generalize ks.take N = ls at hx
      have hxl := hx.lenL
      have hxn := hx.len
      (repeat refine g_seq ?_)
      refine g_region ?_
      refine g_pu rfl rfl rfl (pu_assign rfl rfl) ?_
      refine g_nil ?_
      refine g_nilOwn 90 26 1 rfl (g_noBag 91 5 rfl ?_)
      (repeat refine g_seq ?_)
      refine g_region ?_
      refine g_pu rfl rfl rfl (pu_move rfl rfl) ?_
      first | refine g_pu rfl rfl rfl (pu_len rfl rfl) ?_ | refine g_pu rfl rfl rfl (pu_lenS rfl rfl) ?_
      refine g_pu rfl rfl rfl (pu_move rfl rfl) ?_
      refine g_nil ?_
      (repeat refine g_seq ?_)
      refine g_block (g_loop2 (fun (i : Nat) (y : Ow × List Otm) => [(0, .slice p n c), (7, x35.sl N), (8, y.1.sl i), (36, x35.sl N), (37, .int .i64 (N : Int)), (38, .int .i64 (i : Int))]) (fun i y => [(35, x35.ck 26 1 L1), (90, y.1.ck 26 1 (vals y.2)), (91, .fact (BSC y.2) (BagC 5 y.2))]) (fun i y => i ≤ N ∧ conts y.2 = (ls.take i).map (fun p => xmV p nine) ∧ (∀ p ∈ ls.take i, p.length = 32)) (fun i _ => N - i) 0 (⟨none, 0⟩, []) ⟨rfl, rfl, rfl, rfl, rfl, rfl, trivial⟩ ⟨rfl, rfl, rfl, trivial⟩ ⟨by omega, rfl, fun _ h => by simp at h⟩ ?_)
      rintro i ⟨y, cl⟩ ⟨hi, hc, h32⟩
      dsimp only at hc ⊢
      have hcl : cl.length = i := by
        have := congrArg List.length hc
        rw [conts_length, List.length_map, List.length_take] at this
        omega
      by_cases hlt : i < N
      · (repeat refine g_seq ?_)
        refine g_region ?_
        first | refine g_pu rfl rfl rfl (pu_lss_t rfl rfl rfl (by omega)) ?_ | refine g_pu rfl rfl rfl (pu_lss_f rfl rfl rfl (by omega)) ?_ | refine g_pu rfl rfl rfl (pu_lss rfl rfl rfl) ?_
        refine g_nil ?_
        (repeat refine g_seq ?_)
        refine g_cond_t rfl (g_skip ?_)
        have hl : ls[i]? = some ls[i] := List.getElem?_eq_getElem (by omega)
        generalize ls[i] = pk at hl
        obtain ⟨kq, km, kc, hL, hkq⟩ := hx.at hl
        have hpl := hkq.len
        have hvl := xmV_length pk nine
        have hvb : (bs (xmV pk nine)).length = 32 := by rw [bs_length, hvl]
        have hnpl := npC_length pk
        (repeat refine g_seq ?_); refine g_block ?_
        (repeat refine g_seq ?_)
        refine g_region ?_
        refine g_pu rfl rfl rfl (pu_atM1 i (L := L1) (fun w' hm => Ow.rd (t := 35) rfl hm) rfl rfl rfl rfl hlt (by omega)) ?_
        refine g_pu rfl rfl rfl (pu_rdM (L := L1) (fun w' hm => Ow.rd (t := 35) rfl hm) rfl rfl hL) ?_
        refine g_pu rfl rfl rfl (pu_assign rfl rfl) ?_
        refine g_nil ?_
        (repeat refine g_seq ?_)
        refine g_region ?_
        refine g_pu rfl rfl rfl (pu_move rfl rfl) ?_
        refine g_call [] rfl rfl rfl rfl rfl rfl (fun w' hm => NewPair_b w' kc (hkq.m hm)) (fun _ _ => ?_)
        refine g_pu rfl rfl rfl (pu_move rfl rfl) ?_
        refine g_pu rfl rfl rfl (pu_extract rfl rfl rfl) ?_
        refine g_pu rfl rfl rfl (pu_extract rfl rfl rfl) ?_
        refine g_lo [11] rfl rfl rfl rfl (lo_alloc rfl) (fun b11 hb11 => ?_)
        refine g_storeL 11 (s := 64) (C := npC pk) rfl rfl rfl rfl rfl rfl hnpl rfl (oneCell_npT pk) ?_
        refine g_pu rfl rfl rfl (pu_assign rfl rfl) ?_
        refine g_nil ?_
        by_cases hpk32 : pk.length = 32
        · have hE := pub_ok hpk32
          rw [npC_okT hE, hE]
          (repeat refine g_seq ?_)
          refine g_region ?_
          refine g_pu rfl rfl rfl (pu_move rfl rfl) ?_
          first | refine g_pu rfl rfl rfl (pu_neq_t rfl rfl rfl (by omega)) ?_ | refine g_pu rfl rfl rfl (pu_neq_f rfl rfl rfl (by omega)) ?_ | refine g_pu rfl rfl rfl (pu_neq rfl rfl rfl) ?_
          refine g_nil ?_
          (repeat refine g_seq ?_)
          refine g_cond_f rfl (g_skip ?_)
          (repeat refine g_seq ?_)
          refine g_region ?_
          refine g_pu rfl rfl rfl (pu_move rfl rfl) ?_
          refine g_lo [53] rfl rfl rfl rfl (lo_buildSlice0 rfl) (fun b53 hb53 => ?_)
          refine g_own 53 (L := []) (J := []) (c := 0) (s := 1) rfl (by simp) (by omega) ?_
          refine g_pu rfl rfl rfl (pu_fieldAddr (by decide) rfl rfl) ?_
          refine g_pu rfl rfl rfl (pu_sliceA rfl rfl) ?_
          refine g_append1 53 (bs (xmV pk nine)) rfl rfl rfl rfl rfl rfl rfl rfl rfl (fun w' hm => (By.prT 11 rfl hm hpk32 hvl).rd) hvb (oneCell_bs _) (by omega) (by omega) (fun p1 c1 => ?_)
          rw [Nat.zero_add, List.nil_append]
          refine g_lo [57] rfl rfl rfl rfl (lo_buildSlice rfl rfl (by decide) (by decide) rfl rfl) (fun b57 hb57 => ?_)
          refine g_append1 90 [.slice p1 32 c1] rfl rfl rfl rfl rfl rfl rfl rfl (by rw [vals_length, hcl]) (fun w' hm => hm.rowA 57 rfl) rfl (fun u hu => by rw [List.mem_singleton.1 hu]; rfl) (by omega) (by omega) (fun p2 c2 => ?_)
          refine g_pu rfl rfl rfl (pu_assign rfl rfl) ?_
          refine g_nil ?_
          refine g_bagSnoc 91 53 (E := 5) (x := ⟨p1, c1⟩) rfl rfl (by decide) rfl ?_
          have hvs : vals cl ++ [Value.slice p1 32 c1] = vals (cl ++ [((⟨p1, c1⟩ : Ow), xmV pk nine)]) := by
            rw [vals_append]
            show _ = vals cl ++ [Value.slice p1 (xmV pk nine).length c1]
            rw [hvl]
          rw [hvs]
          refine g_blk ?_
          (repeat refine g_seq ?_)
          refine g_region ?_
          refine g_pu rfl rfl rfl (pu_addI rfl rfl rfl (by omega)) ?_
          refine g_pu rfl rfl rfl (pu_move rfl rfl) ?_
          refine g_nil ?_
          exact g_round2 (i + 1) (⟨p2, c2⟩, cl ++ [((⟨p1, c1⟩ : Ow), xmV pk nine)]) ⟨by omega, by rw [conts_append, hc, List.take_add_one, hl]; simp [conts], fun x hx' => by
            rw [List.take_add_one, hl] at hx'
            rcases List.mem_append.1 hx' with h1 | h1
            · exact h32 x h1
            · rw [List.mem_singleton.1 h1]; exact hpk32⟩ (by omega) ⟨rfl, rfl, rfl, rfl, rfl, rfl, trivial⟩ ⟨rfl, rfl, rfl, trivial⟩
        · have hE : xmE pk nine = 2 := if_neg (fun h => hpk32 h.1)
          have hkm : km ≠ 32 := by omega
          rw [hE]
          (repeat refine g_seq ?_)
          refine g_region ?_
          refine g_pu rfl rfl rfl (pu_move rfl rfl) ?_
          first | refine g_pu rfl rfl rfl (pu_neq_t rfl rfl rfl (by omega)) ?_ | refine g_pu rfl rfl rfl (pu_neq_f rfl rfl rfl (by omega)) ?_ | refine g_pu rfl rfl rfl (pu_neq rfl rfl rfl) ?_
          refine g_nil ?_
          (repeat refine g_seq ?_)
          refine g_cond_t rfl ?_
          (repeat refine g_seq ?_)
          refine g_region ?_
          refine g_pu rfl rfl rfl (pu_move rfl rfl) ?_
          first | refine g_pu rfl rfl rfl (pu_len rfl rfl) ?_ | refine g_pu rfl rfl rfl (pu_lenS rfl rfl) ?_
          refine g_pu rfl rfl rfl (pu_neq_t rfl rfl rfl (by omega)) ?_
          refine g_pu rfl rfl rfl (pu_assign rfl rfl) ?_
          refine g_nil ?_
          exact g_ret1 rfl rfl (fun w' hm => ⟨(), trivial, rfl, hm.grows [] trivial rfl⟩)
      · (repeat refine g_seq ?_)
        refine g_region ?_
        first | refine g_pu rfl rfl rfl (pu_lss_t rfl rfl rfl (by omega)) ?_ | refine g_pu rfl rfl rfl (pu_lss_f rfl rfl rfl (by omega)) ?_ | refine g_pu rfl rfl rfl (pu_lss rfl rfl rfl) ?_
        refine g_nil ?_
        (repeat refine g_seq ?_)
        refine g_cond_f rfl (g_exit rfl ?_)
        have e1 : i = N := by omega
        subst e1
        rw [List.take_of_length_le (by omega)] at hc h32
        have hc32 : ∀ x ∈ cl, x.2.length = 32 := fun x hx' => by
          have h1 : x.2 ∈ conts cl := List.mem_map.2 ⟨x, hx', rfl⟩
          rw [hc] at h1
          obtain ⟨g, _, e⟩ := List.mem_map.1 h1
          rw [← e]; exact xmV_length _ _
        have hS := sch_meet hk32 h32 (by omega) (by omega)
        have hok := rchP_ok (k := k) (pubs := ls.map fun p => xmV p nine)
        rw [hS] at hok
        dsimp only at hok
        have hml := meetL_length ls (xmV k nine)
        rw [hxl] at hml
        have hvl := xmV_length k nine
        have hvb : (bs (xmV k nine)).length = 32 := by rw [bs_length, hvl]
        generalize hTT : meetL ls (xmV k nine) = T at hok hml hS
        have hsl := stepsL_length hok
        have hsb : (bs (stepsL T)).length = i * 192 := by rw [bs_length, hsl, hml]
        (repeat refine g_seq ?_)
        refine g_region ?_
        refine g_pu rfl rfl rfl (pu_move rfl rfl) ?_
        refine g_pu rfl rfl rfl (pu_move rfl rfl) ?_
        refine g_call [63] rfl rfl rfl rfl rfl rfl (fun w' hm => Schedule_b w' c y.c (pubs := conts cl) (hk.m hm) (BagC.byl 90 91 rfl rfl hm hcl (fun x hx' => by have := hc32 x hx'; omega) (by omega))) (fun x63 _ => ?_)
        rw [schP_rch, hc, hS]
        dsimp only
        rw [hml]
        refine g_pu rfl rfl rfl (pu_move rfl rfl) ?_
        refine g_pu rfl rfl rfl (pu_extract rfl rfl rfl) ?_
        refine g_pu rfl rfl rfl (pu_extract rfl rfl rfl) ?_
        refine g_pu rfl rfl rfl (pu_assign rfl rfl) ?_
        refine g_pu rfl rfl rfl (pu_assign rfl rfl) ?_
        refine g_nil ?_
        (repeat refine g_seq ?_)
        refine g_region ?_
        refine g_pu rfl rfl rfl (pu_move rfl rfl) ?_
        first | refine g_pu rfl rfl rfl (pu_neq_t rfl rfl rfl (by omega)) ?_ | refine g_pu rfl rfl rfl (pu_neq_f rfl rfl rfl (by omega)) ?_ | refine g_pu rfl rfl rfl (pu_neq rfl rfl rfl) ?_
        refine g_pu rfl rfl rfl (pu_move rfl rfl) ?_
        first | refine g_pass rfl rfl rfl ?_ | refine g_pu rfl rfl rfl (pu_move rfl rfl) ?_
        first | refine g_pass rfl rfl rfl ?_ | refine g_pu rfl rfl rfl (pu_len rfl rfl) ?_ | refine g_pu rfl rfl rfl (pu_lenS rfl rfl) ?_
        first | refine g_pass rfl rfl rfl ?_ | refine g_pu rfl rfl rfl (pu_move rfl rfl) ?_
        first | refine g_pass rfl rfl rfl ?_ | refine g_pu rfl rfl rfl (pu_len rfl rfl) ?_ | refine g_pu rfl rfl rfl (pu_lenS rfl rfl) ?_
        refine g_pu rfl rfl rfl (pu_neq_f rfl rfl rfl (fun h => h rfl)) ?_
        first | refine g_pu rfl rfl rfl (pu_pick_t rfl rfl rfl) ?_ | refine g_pu rfl rfl rfl (pu_pick_f rfl rfl rfl) ?_
        refine g_nil ?_
        (repeat refine g_seq ?_)
        refine g_cond_f rfl (g_skip ?_)
        (repeat refine g_seq ?_)
        refine g_region ?_
        refine g_pu rfl rfl rfl (pu_move rfl rfl) ?_
        refine g_call [] rfl rfl rfl rfl rfl rfl (fun w' hm => Public_b w' c (hk.m hm)) (fun _ _ => ?_)
        rw [pub_ok hk32]
        refine g_pu rfl rfl rfl (pu_move rfl rfl) ?_
        refine g_pu rfl rfl rfl (pu_extract rfl rfl rfl) ?_
        refine g_pu rfl rfl rfl (pu_extract rfl rfl rfl) ?_
        refine g_lo [15] rfl rfl rfl rfl (lo_alloc rfl) (fun b15 hb15 => ?_)
        refine g_storeL 15 (s := 32) (C := bs (xmV k nine)) rfl rfl rfl rfl rfl rfl hvb rfl (oneCell_bs _) ?_
        refine g_pu rfl rfl rfl (pu_assign rfl rfl) ?_
        refine g_nil ?_
        (repeat refine g_seq ?_)
        refine g_region ?_
        refine g_pu rfl rfl rfl (pu_move rfl rfl) ?_
        first | refine g_pu rfl rfl rfl (pu_len rfl rfl) ?_ | refine g_pu rfl rfl rfl (pu_lenS rfl rfl) ?_
        refine g_pu rfl rfl rfl (pu_move rfl rfl) ?_
        refine g_nil ?_
        (repeat refine g_seq ?_)
        refine g_block (g_loop2 (fun (j : Nat) (al : List (BitVec 8)) => [(13, x63.sl i), (14, .int .i64 0), (15, .pointer (some ⟨b15, 0, none⟩)), (80, x35.sl i), (81, .int .i64 (i : Int)), (82, .int .i64 (j : Int))]) (fun j al => [(15, .pt b15 (.cells (bs al).toArray 24 (0, 0))), (35, x35.ck 26 1 L1), (63, x63.ck 153 192 (bs (stepsL T)))]) (fun j al => j ≤ i ∧ BasB al ∧ T.drop j = meetL (ls.drop j) al) (fun j _ => i - j) 0 (xmV k nine) ⟨rfl, rfl, rfl, rfl, rfl, rfl, trivial⟩ ⟨rfl, rfl, rfl, trivial⟩ ⟨by omega, basB_nine.mul hk32, by rw [List.drop_zero, List.drop_zero, hTT]⟩ ?_)
        intro j al ⟨hj, hal, hTd⟩
        by_cases hlt2 : j < i
        · (repeat refine g_seq ?_)
          refine g_region ?_
          first | refine g_pu rfl rfl rfl (pu_lss_t rfl rfl rfl (by omega)) ?_ | refine g_pu rfl rfl rfl (pu_lss_f rfl rfl rfl (by omega)) ?_ | refine g_pu rfl rfl rfl (pu_lss rfl rfl rfl) ?_
          refine g_nil ?_
          (repeat refine g_seq ?_)
          refine g_cond_t rfl (g_skip ?_)
          have hl : ls[j]? = some ls[j] := List.getElem?_eq_getElem (by omega)
          have hpk32 := h32 ls[j] (List.getElem_mem (by omega))
          generalize ls[j] = pk at hl hpk32
          obtain ⟨kq, km, kc, hL, hkq⟩ := hx.at hl
          have hpl := hkq.len
          have hkb2 := hkq.big
          rw [meetL_drop hl] at hTd
          have hget := stepsM_get hok hTd
          have hnx : T.drop (j + 1) = meetL (ls.drop (j + 1)) (xmV (kBlind (xmV pk al)) al) := by
            have := congrArg List.tail hTd
            rwa [List.tail_drop] at this
          have hsv := xmV_length pk al
          have hE := hal.e hpk32
          have hV : plV pk al = stL' al (xmV pk al) := if_pos hE
          have hg := bs_cut (stepsL_get hok hget)
          dsimp only at hg
          have hE2 : xmE (kBlind (xmV pk al)) al = 0 := hal.e (kBlind_length _)
          have hal2 := hal.mul (k := kBlind (xmV pk al)) (kBlind_length _)
          have hab : (bs al).length = 32 := by rw [bs_length, hal.1]
          generalize hs : xmV pk al = s at hsv hV hg hE2 hal2 hnx hget
          have hL192 := stL'_length hal.1 hsv
          have htl : (bs (stL' al s)).length = 192 := by rw [bs_length, hL192]
          have hts : (bs (stL' al s)).toArray.size = 192 := by rw [List.size_toArray, htl]
          have hxb : (bs (xmV (kBlind s) al)).length = 32 := by rw [bs_length, xmV_length]
          have hsb2 : (bs s).length = 32 := by rw [bs_length, hsv]
          have hmb2 : (bs (kMac s)).length = 32 := by rw [bs_length, kMac_length]
          have hpb2 : (bs (kPay s)).length = 32 := by rw [bs_length, kPay_length]
          have e0 := bs_ext (stL' al s) 0 32
          have e1 := bs_ext (stL' al s) 64 32
          have e2 := bs_ext (stL' al s) 160 32
          rw [stL'_mac hsv] at e0
          rw [stL'_pay hsv] at e1
          rw [stL'_secret hal.1 hsv] at e2
          have f0 := stepsT_sub hok hget (stL'_mac hsv) (by omega)
          have f1 := stepsT_sub hok hget (stL'_pay hsv) (by omega)
          have f2 := stepsT_sub hok hget (stL'_secret hal.1 hsv) (by omega)
          (repeat refine g_seq ?_); refine g_block ?_
          (repeat refine g_seq ?_)
          refine g_region ?_
          refine g_pu rfl rfl rfl (pu_move rfl rfl) ?_
          refine g_pu rfl rfl rfl (pu_atM1 j (L := L1) (fun w' hm => Ow.rd (t := 35) rfl hm) rfl rfl rfl rfl hlt2 (by omega)) ?_
          refine g_pu rfl rfl rfl (pu_rdM (L := L1) (fun w' hm => Ow.rd (t := 35) rfl hm) rfl rfl hL) ?_
          refine g_pu rfl rfl rfl (pu_assign rfl rfl) ?_
          refine g_pu rfl rfl rfl (pu_assign rfl rfl) ?_
          refine g_nil ?_
          (repeat refine g_seq ?_)
          refine g_region ?_
          refine g_pu rfl rfl rfl (pu_move rfl rfl) ?_
          refine g_pu rfl rfl rfl (pu_sliceA rfl rfl) ?_
          refine g_call [] rfl rfl rfl rfl rfl rfl (fun w' hm => Peel_b w' kc 32 (k := pk) (a := al) (hkq.m hm) (By.full 15 rfl hm hal.1 (by omega))) (fun _ _ => ?_)
          rw [hV, hE]
          refine g_pu rfl rfl rfl (pu_move rfl rfl) ?_
          refine g_pu rfl rfl rfl (pu_extract rfl rfl rfl) ?_
          refine g_pu rfl rfl rfl (pu_extract rfl rfl rfl) ?_
          refine g_lo [18] rfl rfl rfl rfl (lo_alloc rfl) (fun b18 hb18 => ?_)
          refine g_storeL 18 (s := 192) (C := bs (stL' al s)) rfl rfl rfl rfl rfl rfl htl (by rw [List.length_replicate]) (oneCell_bs _) ?_
          refine g_pu rfl rfl rfl (pu_assign rfl rfl) ?_
          refine g_nil ?_
          (repeat refine g_seq ?_)
          refine g_any (48, []) ?_
          refine a_pu 0 rfl rfl rfl rfl (pu_move rfl rfl) rfl rfl (by kernel_rfl) ?_
          first | refine a_pu 1 rfl rfl rfl rfl (pu_neq_t rfl rfl rfl (by omega)) rfl rfl (by kernel_rfl) ?_ | refine a_pu 1 rfl rfl rfl rfl (pu_neq_f rfl rfl rfl (by omega)) rfl rfl (by kernel_rfl) ?_ | refine a_pu 1 rfl rfl rfl rfl (pu_neq rfl rfl rfl) rfl rfl (by kernel_rfl) ?_
          refine a_pu 2 rfl rfl rfl rfl (pu_move rfl rfl) rfl rfl (by kernel_rfl) ?_
          first | refine a_pass 3 rfl rfl rfl rfl rfl rfl (by kernel_rfl) ?_ | refine a_pu 3 rfl rfl rfl rfl (pu_move rfl rfl) rfl rfl (by kernel_rfl) ?_
          first | refine a_pass 4 rfl rfl rfl rfl rfl rfl (by kernel_rfl) ?_ | refine a_pu 4 rfl rfl rfl rfl (pu_neq_t rfl rfl rfl (by omega)) rfl rfl (by kernel_rfl) ?_ | refine a_pu 4 rfl rfl rfl rfl (pu_neq_f rfl rfl rfl (by omega)) rfl rfl (by kernel_rfl) ?_ | refine a_pu 4 rfl rfl rfl rfl (pu_neq rfl rfl rfl) rfl rfl (by kernel_rfl) ?_
          first | refine a_pu 5 rfl rfl rfl rfl (pu_pick_t rfl rfl rfl) rfl rfl (by kernel_rfl) ?_ | refine a_pu 5 rfl rfl rfl rfl (pu_pick_f rfl rfl rfl) rfl rfl (by kernel_rfl) ?_
          refine a_pu 6 rfl rfl rfl rfl (pu_move rfl rfl) rfl rfl (by kernel_rfl) ?_
          first | refine a_pass 7 rfl rfl rfl rfl rfl rfl (by kernel_rfl) ?_ | refine a_pu 7 rfl rfl rfl rfl (pu_fieldAddr (by decide) rfl rfl) rfl rfl (by kernel_rfl) ?_
          refine a_pu 8 rfl rfl rfl rfl (pu_loadE 18 (bs s).toArray rfl rfl rfl (by rw [hts]; omega) e2) rfl rfl (by kernel_rfl) ?_
          first | refine a_pass 9 rfl rfl rfl rfl rfl rfl (by kernel_rfl) ?_ | refine a_pu 9 rfl rfl rfl rfl (pu_move rfl rfl) rfl rfl (by kernel_rfl) ?_
          first | refine a_pass 10 rfl rfl rfl rfl rfl rfl (by kernel_rfl) ?_ | refine a_pu 10 rfl rfl rfl rfl (pu_move rfl rfl) rfl rfl (by kernel_rfl) ?_
          refine a_pu 11 rfl rfl rfl rfl (pu_atM j (s := 192) (L := bs (stepsL T)) (fun w' hm => Ow.rd (t := 63) rfl hm) rfl rfl rfl rfl hlt2 (by omega)) rfl rfl (by kernel_rfl) ?_
          refine a_pu 12 rfl rfl rfl rfl (pu_fieldM (L := bs (stepsL T)) (fun w' hm => Ow.rd (t := 63) rfl hm) (by omega) (by decide) rfl rfl) rfl rfl (by kernel_rfl) ?_
          refine a_pu 13 rfl rfl rfl rfl (pu_rdMA (L := bs (stepsL T)) (j := j * 192 + 160) (s := 32) (fun w' hm => Ow.rd (t := 63) rfl hm) rfl rfl (by omega) (by omega)) rfl rfl (by kernel_rfl) ?_
          rw [f2]
          refine a_pu 14 rfl rfl rfl rfl (pu_neqA_f (a := bs s) (b := bs s) rfl rfl rfl rfl (all_bs _) hsb2) rfl rfl (by kernel_rfl) ?_
          first | refine a_pu 15 rfl rfl rfl rfl (pu_pick_t rfl rfl rfl) rfl rfl (by kernel_rfl) ?_ | refine a_pu 15 rfl rfl rfl rfl (pu_pick_f rfl rfl rfl) rfl rfl (by kernel_rfl) ?_
          refine a_pu 16 rfl rfl rfl rfl (pu_move rfl rfl) rfl rfl (by kernel_rfl) ?_
          first | refine a_pass 17 rfl rfl rfl rfl rfl rfl (by kernel_rfl) ?_ | refine a_pu 17 rfl rfl rfl rfl (pu_fieldAddr (by decide) rfl rfl) rfl rfl (by kernel_rfl) ?_
          first | refine a_pass 18 rfl rfl rfl rfl rfl rfl (by kernel_rfl) ?_ | refine a_pu 18 rfl rfl rfl rfl (pu_fieldAddr (by decide) rfl rfl) rfl rfl (by kernel_rfl) ?_
          refine a_pu 19 rfl rfl rfl rfl (pu_loadE 18 (bs (kMac s)).toArray rfl rfl rfl (by rw [hts]; omega) e0) rfl rfl (by kernel_rfl) ?_
          first | refine a_pass 20 rfl rfl rfl rfl rfl rfl (by kernel_rfl) ?_ | refine a_pu 20 rfl rfl rfl rfl (pu_move rfl rfl) rfl rfl (by kernel_rfl) ?_
          first | refine a_pass 21 rfl rfl rfl rfl rfl rfl (by kernel_rfl) ?_ | refine a_pu 21 rfl rfl rfl rfl (pu_move rfl rfl) rfl rfl (by kernel_rfl) ?_
          refine a_pu 22 rfl rfl rfl rfl (pu_atM j (s := 192) (L := bs (stepsL T)) (fun w' hm => Ow.rd (t := 63) rfl hm) rfl rfl rfl rfl hlt2 (by omega)) rfl rfl (by kernel_rfl) ?_
          refine a_pu 23 rfl rfl rfl rfl (pu_fieldM (L := bs (stepsL T)) (fun w' hm => Ow.rd (t := 63) rfl hm) (by omega) (by decide) rfl rfl) rfl rfl (by kernel_rfl) ?_
          refine a_pu 24 rfl rfl rfl rfl (pu_fieldM (L := bs (stepsL T)) (fun w' hm => Ow.rd (t := 63) rfl hm) (by omega) (by decide) rfl rfl) rfl rfl (by kernel_rfl) ?_
          refine a_pu 25 rfl rfl rfl rfl (pu_rdMA (L := bs (stepsL T)) (j := j * 192 + 0) (s := 32) (fun w' hm => Ow.rd (t := 63) rfl hm) rfl rfl (by omega) (by omega)) rfl rfl (by kernel_rfl) ?_
          rw [f0]
          refine a_pu 26 rfl rfl rfl rfl (pu_neqA_f (a := bs (kMac s)) (b := bs (kMac s)) rfl rfl rfl rfl (all_bs _) hmb2) rfl rfl (by kernel_rfl) ?_
          first | refine a_pu 27 rfl rfl rfl rfl (pu_pick_t rfl rfl rfl) rfl rfl (by kernel_rfl) ?_ | refine a_pu 27 rfl rfl rfl rfl (pu_pick_f rfl rfl rfl) rfl rfl (by kernel_rfl) ?_
          refine a_pu 28 rfl rfl rfl rfl (pu_move rfl rfl) rfl rfl (by kernel_rfl) ?_
          first | refine a_pass 29 rfl rfl rfl rfl rfl rfl (by kernel_rfl) ?_ | refine a_pu 29 rfl rfl rfl rfl (pu_fieldAddr (by decide) rfl rfl) rfl rfl (by kernel_rfl) ?_
          first | refine a_pass 30 rfl rfl rfl rfl rfl rfl (by kernel_rfl) ?_ | refine a_pu 30 rfl rfl rfl rfl (pu_fieldAddr (by decide) rfl rfl) rfl rfl (by kernel_rfl) ?_
          refine a_pu 31 rfl rfl rfl rfl (pu_loadE 18 (bs (kPay s)).toArray rfl rfl rfl (by rw [hts]; omega) e1) rfl rfl (by kernel_rfl) ?_
          first | refine a_pass 32 rfl rfl rfl rfl rfl rfl (by kernel_rfl) ?_ | refine a_pu 32 rfl rfl rfl rfl (pu_move rfl rfl) rfl rfl (by kernel_rfl) ?_
          first | refine a_pass 33 rfl rfl rfl rfl rfl rfl (by kernel_rfl) ?_ | refine a_pu 33 rfl rfl rfl rfl (pu_move rfl rfl) rfl rfl (by kernel_rfl) ?_
          refine a_pu 34 rfl rfl rfl rfl (pu_atM j (s := 192) (L := bs (stepsL T)) (fun w' hm => Ow.rd (t := 63) rfl hm) rfl rfl rfl rfl hlt2 (by omega)) rfl rfl (by kernel_rfl) ?_
          refine a_pu 35 rfl rfl rfl rfl (pu_fieldM (L := bs (stepsL T)) (fun w' hm => Ow.rd (t := 63) rfl hm) (by omega) (by decide) rfl rfl) rfl rfl (by kernel_rfl) ?_
          refine a_pu 36 rfl rfl rfl rfl (pu_fieldM (L := bs (stepsL T)) (fun w' hm => Ow.rd (t := 63) rfl hm) (by omega) (by decide) rfl rfl) rfl rfl (by kernel_rfl) ?_
          refine a_pu 37 rfl rfl rfl rfl (pu_rdMA (L := bs (stepsL T)) (j := j * 192 + 64) (s := 32) (fun w' hm => Ow.rd (t := 63) rfl hm) rfl rfl (by omega) (by omega)) rfl rfl (by kernel_rfl) ?_
          rw [f1]
          refine a_pu 38 rfl rfl rfl rfl (pu_neqA_f (a := bs (kPay s)) (b := bs (kPay s)) rfl rfl rfl rfl (all_bs _) hpb2) rfl rfl (by kernel_rfl) ?_
          first | refine a_pu 39 rfl rfl rfl rfl (pu_pick_t rfl rfl rfl) rfl rfl (by kernel_rfl) ?_ | refine a_pu 39 rfl rfl rfl rfl (pu_pick_f rfl rfl rfl) rfl rfl (by kernel_rfl) ?_
          refine a_pu 40 rfl rfl rfl rfl (pu_move rfl rfl) rfl rfl (by kernel_rfl) ?_
          refine a_pu 41 rfl rfl rfl rfl (pu_loadW 18 (L := bs (stL' al s)) rfl rfl rfl htl) rfl rfl (by kernel_rfl) ?_
          first | refine a_pass 42 rfl rfl rfl rfl rfl rfl (by kernel_rfl) ?_ | refine a_pu 42 rfl rfl rfl rfl (pu_move rfl rfl) rfl rfl (by kernel_rfl) ?_
          first | refine a_pass 43 rfl rfl rfl rfl rfl rfl (by kernel_rfl) ?_ | refine a_pu 43 rfl rfl rfl rfl (pu_move rfl rfl) rfl rfl (by kernel_rfl) ?_
          refine a_pu 44 rfl rfl rfl rfl (pu_atM j (s := 192) (L := bs (stepsL T)) (fun w' hm => Ow.rd (t := 63) rfl hm) rfl rfl rfl rfl hlt2 (by omega)) rfl rfl (by kernel_rfl) ?_
          refine a_pu 45 rfl rfl rfl rfl (pu_rdMA (L := bs (stepsL T)) (j := j * 192) (s := 192) (fun w' hm => Ow.rd (t := 63) rfl hm) rfl rfl (by omega) (by omega)) rfl rfl (by kernel_rfl) ?_
          rw [hg]
          refine a_pu 46 rfl rfl rfl rfl (pu_neqR (step_refl _ hL192) rfl rfl rfl) rfl rfl (by kernel_rfl) ?_
          first | refine a_pu 47 rfl rfl rfl rfl (pu_pick_t rfl rfl rfl) rfl rfl (by kernel_rfl) ?_ | refine a_pu 47 rfl rfl rfl rfl (pu_pick_f rfl rfl rfl) rfl rfl (by kernel_rfl) ?_
          refine a_done (by kernel_rfl) ?_
          (repeat refine g_seq ?_)
          refine g_cond_f rfl (g_skip ?_)
          (repeat refine g_seq ?_)
          refine g_region ?_
          refine g_pu rfl rfl rfl (pu_loadW 18 (L := bs (stL' al s)) rfl rfl rfl htl) ?_
          refine g_call [] rfl rfl rfl rfl rfl rfl (fun w' hm => Next12_b w' hal.1 hsv) (fun _ _ => ?_)
          rw [hE2]
          refine g_pu rfl rfl rfl (pu_move rfl rfl) ?_
          refine g_pu rfl rfl rfl (pu_extract rfl rfl rfl) ?_
          refine g_pu rfl rfl rfl (pu_extract rfl rfl rfl) ?_
          refine g_storeL 15 (s := 32) (C := bs (xmV (kBlind s) al)) rfl rfl rfl rfl rfl rfl hxb hab (oneCell_bs _) ?_
          refine g_pu rfl rfl rfl (pu_assign rfl rfl) ?_
          refine g_nil ?_
          refine g_blk ?_
          (repeat refine g_seq ?_)
          refine g_region ?_
          refine g_pu rfl rfl rfl (pu_addI rfl rfl rfl (by omega)) ?_
          refine g_pu rfl rfl rfl (pu_move rfl rfl) ?_
          refine g_nil ?_
          exact g_round2 (j + 1) (xmV (kBlind s) al) ⟨by omega, hal2, hnx⟩ (by omega) ⟨rfl, rfl, rfl, rfl, rfl, rfl, trivial⟩ ⟨rfl, rfl, rfl, trivial⟩
        · (repeat refine g_seq ?_)
          refine g_region ?_
          first | refine g_pu rfl rfl rfl (pu_lss_t rfl rfl rfl (by omega)) ?_ | refine g_pu rfl rfl rfl (pu_lss_f rfl rfl rfl (by omega)) ?_ | refine g_pu rfl rfl rfl (pu_lss rfl rfl rfl) ?_
          refine g_nil ?_
          (repeat refine g_seq ?_)
          refine g_cond_f rfl (g_exit rfl ?_)
          (repeat refine g_seq ?_)
          refine g_region ?_
          refine g_pu rfl rfl rfl (pu_assign rfl rfl) ?_
          refine g_nil ?_
          exact g_ret1 rfl rfl (fun w' hm => ⟨(), trivial, rfl, hm.grows [] trivial rfl⟩)
  · (repeat refine g_seq ?_)
    refine g_region ?_
    refine g_pu rfl rfl rfl (pu_move rfl rfl) ?_
    first | refine g_pu rfl rfl rfl (pu_len rfl rfl) ?_ | refine g_pu rfl rfl rfl (pu_lenS rfl rfl) ?_
    first | refine g_pu rfl rfl rfl (pu_neq_t rfl rfl rfl (by omega)) ?_ | refine g_pu rfl rfl rfl (pu_neq_f rfl rfl rfl (by omega)) ?_ | refine g_pu rfl rfl rfl (pu_neq rfl rfl rfl) ?_
    refine g_pu rfl rfl rfl (pu_move rfl rfl) ?_
    first | refine g_pass rfl rfl rfl ?_ | refine g_pu rfl rfl rfl (pu_move rfl rfl) ?_
    first | refine g_pass rfl rfl rfl ?_ | refine g_pu rfl rfl rfl (pu_len rfl rfl) ?_ | refine g_pu rfl rfl rfl (pu_lenS rfl rfl) ?_
    first | refine g_pass rfl rfl rfl ?_ | refine g_pu rfl rfl rfl (pu_eql_t rfl rfl rfl (by omega)) ?_ | refine g_pu rfl rfl rfl (pu_eql_f rfl rfl rfl (by omega)) ?_ | refine g_pu rfl rfl rfl (pu_eql rfl rfl rfl) ?_
    first | refine g_pu rfl rfl rfl (pu_pick_t rfl rfl rfl) ?_ | refine g_pu rfl rfl rfl (pu_pick_f rfl rfl rfl) ?_
    refine g_nil ?_
    (repeat refine g_seq ?_)
    refine g_cond_t rfl ?_
    (repeat refine g_seq ?_)
    refine g_region ?_
    refine g_pu rfl rfl rfl (pu_assign rfl rfl) ?_
    refine g_nil ?_
    exact g_ret1 rfl rfl (fun w' hm => ⟨(), trivial, rfl, hm.grows [] trivial rfl⟩)
end Go.Sx

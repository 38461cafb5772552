import Derived.Test.YtigcogjilfnpcaaTA
import Derived.Test.YtigcogjilfnpcaaC13
import Derived.Test.YtigcogjilfnpcaaCHex
import Derived.Test.YtigcogjilfnpcaaS7
import Derived.Test.YtigcogjilfnpcaaSxKW
set_option linter.unusedVariables false
set_option linter.unusedSimpArgs false
/-
  ShallotBytes: however bytes are parted, written as text, taken piece by piece or hashed step by step, they are the same bytes with the same sum. The parts have at most a million bytes in all.
-/
namespace Go.Sx
open Go Go.Proofs

def abcB : List (BitVec 8) := [97#8, 98#8, 99#8]
theorem sha_abcB : shaL abcB = [186#8, 120#8, 22#8, 191#8, 143#8, 1#8, 207#8, 234#8, 65#8, 65#8, 64#8, 222#8, 93#8, 174#8, 34#8, 35#8, 176#8, 3#8, 97#8, 163#8, 150#8, 23#8, 122#8, 156#8, 180#8, 16#8, 255#8, 97#8, 242#8, 0#8, 21#8, 173#8] := sha_abc
theorem flatT (l : List (BitVec 8)) : [l].flatten = l := by simp
theorem take_step (l : List (BitVec 8)) (t : Nat) (z : Int) : l.take t ++ takeV l t z = l.take (takeN l.length t z) := by
  unfold takeV takeN
  split
  · rw [List.take_add]
  · rw [List.append_nil]
theorem takeV_len {l : List (BitVec 8)} {t : Nat} {z : Int} (ht : t ≤ l.length) (h : takeE l.length t z = 0) : ((takeV l t z).length : Int) = z ∧ 0 ≤ z := by
  have hv : takeV l t z = (l.drop t).take z.toNat := if_pos h
  rw [hv, List.length_take, List.length_drop]
  unfold takeE at h
  split at h
  · cases h
  · split at h
    · cases h
    · omega
theorem takeE_cases (n t : Nat) (z : Int) : (takeE n t z = 1 ∧ z < 0) ∨ (takeE n t z = 2 ∧ 0 ≤ z ∧ z > ((n - t : Nat) : Int)) ∨ (takeE n t z = 0 ∧ 0 ≤ z) := by
  unfold takeE
  split
  · exact .inl ⟨rfl, by assumption⟩
  · split
    · exact .inr (.inl ⟨rfl, by omega, by assumption⟩)
    · exact .inr (.inr ⟨rfl, by omega⟩)

theorem ShallotBytes_spec (w : World) {p q : Option Addr} {n m : Nat} (c d : Nat) {L : List Value} {ls : List (List (BitVec 8))} {ns : List Int} (ha : ByL w p n L ls) (hc : n ≤ c) (hq : RdV w q (is ns)) (hm' : ns.length = m) (hmd : m ≤ d) (hlen : ls.flatten.length ≤ 1048576) :
    Spec Try.prog 3 #[.slice p n c, .slice q m d] w (σ := Unit) (fun _ => True) (fun _ => .bool true) Nob (fun _ => []) := by
  refine enter Try.func3 rfl rfl (Mem.start w) ?_
  have hn := ha.len
  have hbig := ha.big
  have hab : (bs (shaL abcB)).length = 32 := by rw [sha_abcB]; rfl
  have g0 : (shaL abcB)[0]? = some 186#8 := by rw [sha_abcB]; rfl
  have g31 : (shaL abcB)[31]? = some 173#8 := by rw [sha_abcB]; rfl
  (repeat refine g_seq ?_)
  refine g_region ?_
  refine g_pu rfl rfl rfl (pu_assign rfl rfl) ?_
  refine g_nil ?_
  (repeat refine g_seq ?_)
  refine g_region ?_
  refine g_lo [17] rfl rfl rfl rfl (lo_buildSlice rfl rfl (by decide) (by decide) rfl rfl) (fun b17 hb17 => ?_)
  refine g_mark 17 rfl rfl rfl rfl rfl rfl ?_
  refine g_lo [19] rfl rfl rfl rfl (lo_buildSlice rfl rfl (by decide) (by decide) rfl rfl) (fun b19 hb19 => ?_)
  refine g_call [] rfl rfl rfl rfl rfl rfl (fun w' hm => ShaSum_b w' 1 (ls := [abcB]) ⟨hm.rowA 19 rfl, rfl, All2.cons ⟨_, _, _, rfl, By.full (l := abcB) 17 rfl hm rfl (by omega), fun _ _ => trivial⟩ All2.nil, by omega⟩ (by decide)) (fun _ _ => ?_)
  rw [flatT]
  refine g_lo [5] rfl rfl rfl rfl (lo_alloc rfl) (fun b5 hb5 => ?_)
  refine g_storeL 5 (s := 32) (C := bs (shaL abcB)) rfl rfl rfl rfl rfl rfl hab rfl (oneCell_bs _) ?_
  refine g_nil ?_
  (repeat refine g_seq ?_)
  refine g_region ?_
  refine g_pu rfl rfl rfl (pu_atA1 0 rfl rfl rfl rfl (by omega)) ?_
  refine g_pu rfl rfl rfl (pu_load 5 (v := b8 186#8) rfl rfl rfl (by rw [Nat.zero_add, List.getElem?_toArray]; exact bs_get g0)) ?_
  first | refine g_pu rfl rfl rfl (pu_neq8_t (b := 186#8) rfl rfl rfl (by first | assumption | decide)) ?_ | refine g_pu rfl rfl rfl (pu_neq8_f (b := 186#8) rfl rfl rfl (by first | rfl | assumption | decide)) ?_ | refine g_pu rfl rfl rfl (pu_neq8 (b := 186#8) rfl rfl rfl) ?_
  refine g_pu rfl rfl rfl (pu_move rfl rfl) ?_
  refine g_pu rfl rfl rfl (pu_atA1 31 rfl rfl rfl rfl (by omega)) ?_
  refine g_pu rfl rfl rfl (pu_load 5 (v := b8 173#8) rfl rfl rfl (by rw [Nat.zero_add, List.getElem?_toArray]; exact bs_get g31)) ?_
  first | refine g_pass rfl rfl rfl ?_ | refine g_pu rfl rfl rfl (pu_neq8_t (b := 173#8) rfl rfl rfl (by first | assumption | decide)) ?_ | refine g_pu rfl rfl rfl (pu_neq8_f (b := 173#8) rfl rfl rfl (by first | rfl | assumption | decide)) ?_ | refine g_pu rfl rfl rfl (pu_neq8 (b := 173#8) rfl rfl rfl) ?_
  first | refine g_pu rfl rfl rfl (pu_pick_t rfl rfl rfl) ?_ | refine g_pu rfl rfl rfl (pu_pick_f rfl rfl rfl) ?_
  refine g_nil ?_
  (repeat refine g_seq ?_)
  refine g_cond_f rfl (g_skip ?_)
  (repeat refine g_seq ?_)
  refine g_region ?_
  refine g_pu rfl rfl rfl (pu_move rfl rfl) ?_
  refine g_call [30] rfl rfl rfl rfl rfl rfl (fun w' hm => Join_b w' c (ha.m hm) hc (by omega)) (fun x30 _ => ?_)
  refine g_pu rfl rfl rfl (pu_assign rfl rfl) ?_
  refine g_nil ?_
  generalize hall : ls.flatten = all at hlen
  generalize hN : all.length = N at hlen
  have hsl : (bs (shaL all)).length = 32 := by rw [bs_length, shaL_length]
  (repeat refine g_seq ?_)
  refine g_region ?_
  refine g_pu rfl rfl rfl (pu_move rfl rfl) ?_
  refine g_lo [32] rfl rfl rfl rfl (lo_buildSlice rfl rfl (by decide) (by decide) rfl rfl) (fun q32 hb32 => ?_)
  refine g_call [] rfl rfl rfl rfl rfl rfl (fun w' hm => ShaSum_b w' 1 (ls := [all]) ⟨hm.rowA 32 rfl, rfl, All2.cons ⟨_, _, _, rfl, By.ow 30 rfl hm hN (by omega), fun _ _ => trivial⟩ All2.nil, by omega⟩ (by rw [flatT]; omega)) (fun _ _ => ?_)
  rw [flatT]
  refine g_lo [7] rfl rfl rfl rfl (lo_alloc rfl) (fun b7 hb7 => ?_)
  refine g_storeL 7 (s := 32) (C := bs (shaL all)) rfl rfl rfl rfl rfl rfl hsl rfl (oneCell_bs _) ?_
  refine g_nil ?_
  (repeat refine g_seq ?_)
  refine g_region ?_
  refine g_pu rfl rfl rfl (pu_move rfl rfl) ?_
  refine g_call [] rfl rfl rfl rfl rfl rfl (fun w' hm => Hex_b w' x30.c (l := all) (By.ow 30 rfl hm hN (by omega)) (by omega)) (fun _ _ => ?_)
  refine g_call [37] rfl rfl rfl rfl rfl rfl (fun w' hm => Unhex_b w' (l := all) (by omega)) (fun x37 _ => ?_)
  refine g_pu rfl rfl rfl (pu_move rfl rfl) ?_
  refine g_pu rfl rfl rfl (pu_extract rfl rfl rfl) ?_
  refine g_pu rfl rfl rfl (pu_extract rfl rfl rfl) ?_
  refine g_pu rfl rfl rfl (pu_assign rfl rfl) ?_
  refine g_pu rfl rfl rfl (pu_assign rfl rfl) ?_
  refine g_nil ?_
  (repeat refine g_seq ?_)
  refine g_any (14, []) ?_
  refine a_pu 0 rfl rfl rfl rfl (pu_move rfl rfl) rfl rfl (by kernel_rfl) ?_
  first | refine a_pu 1 rfl rfl rfl rfl (pu_neq_t rfl rfl rfl (by omega)) rfl rfl (by kernel_rfl) ?_ | refine a_pu 1 rfl rfl rfl rfl (pu_neq_f rfl rfl rfl (by omega)) rfl rfl (by kernel_rfl) ?_ | refine a_pu 1 rfl rfl rfl rfl (pu_neq rfl rfl rfl) rfl rfl (by kernel_rfl) ?_
  refine a_pu 2 rfl rfl rfl rfl (pu_move rfl rfl) rfl rfl (by kernel_rfl) ?_
  first | refine a_pass 3 rfl rfl rfl rfl rfl rfl (by kernel_rfl) ?_ | refine a_pu 3 rfl rfl rfl rfl (pu_move rfl rfl) rfl rfl (by kernel_rfl) ?_
  first | refine a_pass 4 rfl rfl rfl rfl rfl rfl (by kernel_rfl) ?_ | refine a_pu 4 rfl rfl rfl rfl (pu_move rfl rfl) rfl rfl (by kernel_rfl) ?_
  refine a_do 5 45 [] (does_call rfl rfl rfl rfl rfl (fun w' hm => sameB_b w' x37.c x30.c (a := all) (b := all) (By.ow 37 rfl hm rfl (by omega)) (By.ow 30 rfl hm hN (by omega)))) rfl rfl (by kernel_rfl) rfl rfl (by kernel_rfl) (by kernel_rfl) (by kernel_rfl) rfl (fun p hp => by cases hp) ?_; rintro v_ cs_ ⟨_, _, rfl, rfl⟩
  rw [decide_eq_true (rfl : all = all)]
  first | refine a_pass 6 rfl rfl rfl rfl rfl rfl (by kernel_rfl) ?_ | refine a_pu 6 rfl rfl rfl rfl (pu_not rfl rfl) rfl rfl (by kernel_rfl) ?_
  first | refine a_pu 7 rfl rfl rfl rfl (pu_pick_t rfl rfl rfl) rfl rfl (by kernel_rfl) ?_ | refine a_pu 7 rfl rfl rfl rfl (pu_pick_f rfl rfl rfl) rfl rfl (by kernel_rfl) ?_
  refine a_pu 8 rfl rfl rfl rfl (pu_move rfl rfl) rfl rfl (by kernel_rfl) ?_
  first | refine a_pass 9 rfl rfl rfl rfl rfl rfl (by kernel_rfl) ?_ | refine a_pu 9 rfl rfl rfl rfl (pu_move rfl rfl) rfl rfl (by kernel_rfl) ?_
  refine a_pu 11 rfl rfl rfl rfl (pu_loadW 7 (L := bs (shaL all)) rfl rfl rfl hsl) rfl rfl (by kernel_rfl) ?_
  refine a_do 10 50 [] (does_call rfl rfl rfl rfl rfl (fun w' hm => ShaSum_b w' c (ls := ls) (ha.m hm) (by rw [hall]; omega))) rfl rfl (by kernel_rfl) rfl rfl (by kernel_rfl) (by kernel_rfl) (by kernel_rfl) rfl (fun p hp => by cases hp) ?_; rintro v_ cs_ ⟨_, _, rfl, rfl⟩
  rw [hall]
  refine a_pu 12 rfl rfl rfl rfl (pu_neqA_f (a := bs (shaL all)) (b := bs (shaL all)) rfl rfl rfl rfl (all_bs _) hsl) rfl rfl (by kernel_rfl) ?_
  first | refine a_pu 13 rfl rfl rfl rfl (pu_pick_t rfl rfl rfl) rfl rfl (by kernel_rfl) ?_ | refine a_pu 13 rfl rfl rfl rfl (pu_pick_f rfl rfl rfl) rfl rfl (by kernel_rfl) ?_
  refine a_done (by kernel_rfl) ?_
  (repeat refine g_seq ?_)
  refine g_cond_f rfl (g_skip ?_)
  (repeat refine g_seq ?_)
  refine g_region ?_
  refine g_pu rfl rfl rfl (pu_move rfl rfl) ?_
  refine g_call [55, 155] rfl rfl rfl rfl rfl rfl (fun w' hm => NewCursor_b w' x30.c (By.ow 30 rfl hm hN (by omega))) (fun x55 _ => ?_)
  refine g_call [56, 156] rfl rfl rfl rfl rfl rfl (fun w' hm => ShaNew_b w' 0 (LL := []) (ls := []) ⟨RdV.nil _ _, rfl, All2.nil, by omega⟩ (by simp)) (fun x56 _ => ?_)
  refine g_pu rfl rfl rfl (pu_assign rfl rfl) ?_
  refine g_pu rfl rfl rfl (pu_assign rfl rfl) ?_
  refine g_nil ?_
  (repeat refine g_seq ?_)
  refine g_region ?_
  refine g_pu rfl rfl rfl (pu_move rfl rfl) ?_
  refine g_call [58] rfl rfl rfl rfl rfl rfl (fun w' hm => fewInts_b w' d 40 (hq.mem0 hm) hm' (by omega) hmd) (fun x58 _ => ?_)
  first | refine g_pu rfl rfl rfl (pu_len rfl rfl) ?_ | refine g_pu rfl rfl rfl (pu_lenS rfl rfl) ?_
  refine g_pu rfl rfl rfl (pu_move rfl rfl) ?_
  refine g_nil ?_
  generalize hks : ns.take 40 = ks
  have hisl := is_length ks
  generalize hK : ks.length = K at hisl
  have hK40 : K ≤ 40 := by rw [← hK, ← hks, List.length_take]; omega
  have hfl : (([] : List (List (BitVec 8))).flatten : List (BitVec 8)) = all.take 0 := rfl
  rw [hfl]
  (repeat refine g_seq ?_)
  refine g_block (g_loop3 (fun (i : Nat) (t : Nat) (y : Ow) => [(6, x30.sl N), (10, .pointer (some ⟨x55.1, 0, none⟩)), (11, .pointer (some ⟨x56.1, 0, none⟩)), (7, .pointer (some ⟨b7, 0, none⟩)), (58, x58.sl K), (59, .int .i64 (K : Int)), (60, .int .i64 (i : Int))])
    (fun i t y => [(7, .pt b7 (.cells (bs (shaL all)).toArray 24 (0, 0))), (30, x30.ck 5 1 (bs all)), (55, .pt x55.1 (.cells (curC x55.2.p N x55.2.c t).toArray 67 (0, 0))), (155, x55.2.ck 5 1 (bs all)), (56, .pt x56.1 (.cells (hashC (all.take t) y ++ []).toArray 54 (0, 0))), (156, y.ckO 5 (bs (restL (all.take t)))), (58, x58.ck 3 1 (is ks))])
    (fun i t _ => i ≤ K ∧ t ≤ N) (fun i _ _ => K - i) 0 0 x56.2 ⟨rfl, rfl, rfl, rfl, rfl, rfl, rfl, trivial⟩ ⟨rfl, rfl, rfl, rfl, rfl, rfl, rfl, trivial⟩ ⟨by omega, by omega⟩ ?_)
  intro i t y ⟨hi, ht⟩
  by_cases hlt : i < K
  · (repeat refine g_seq ?_)
    refine g_region ?_
    first | refine g_pu rfl rfl rfl (pu_lss_t rfl rfl rfl (by omega)) ?_ | refine g_pu rfl rfl rfl (pu_lss_f rfl rfl rfl (by omega)) ?_ | refine g_pu rfl rfl rfl (pu_lss rfl rfl rfl) ?_
    refine g_nil ?_
    (repeat refine g_seq ?_)
    refine g_cond_t rfl (g_skip ?_)
    have hz : ks[i]? = some ks[i] := List.getElem?_eq_getElem (by omega)
    generalize ks[i] = z at hz
    have hstep := take_step all t z
    rw [hN] at hstep
    have htn := takeN_le (n := N) (z := z) ht
    have htl : (all.take t).length = t := by rw [List.length_take]; omega
    have hbl : (takeV all t z).length ≤ N := by
      unfold takeV
      split
      · rw [List.length_take, List.length_drop]; omega
      · simp
    (repeat refine g_seq ?_); refine g_block ?_
    (repeat refine g_seq ?_)
    refine g_region ?_
    refine g_pu rfl rfl rfl (pu_atM1 i (L := is ks) (fun w' hm => Ow.rd (t := 58) rfl hm) rfl rfl rfl rfl hlt (by omega)) ?_
    refine g_pu rfl rfl rfl (pu_rdM (L := is ks) (fun w' hm => Ow.rd (t := 58) rfl hm) rfl rfl (is_get hz)) ?_
    refine g_pu rfl rfl rfl (pu_assign rfl rfl) ?_
    refine g_nil ?_
    (repeat refine g_seq ?_)
    refine g_region ?_
    refine g_pu rfl rfl rfl (pu_move rfl rfl) ?_
    refine g_pu rfl rfl rfl (pu_move rfl rfl) ?_
    refine g_callW [55] [55, 67] rfl rfl rfl rfl rfl rfl (fun j hj => ⟨55, by simp, _, rfl, hj⟩) (fun w' hm => Take_b w' x55.1 (l := all) z (hm.holds 55 _ rfl) (By.ow 155 rfl hm hN (by omega)) (leT hm 155 rfl hN) (apartT hm 155 55 rfl rfl (by decide)) ht) (fun x67 _ => ?_)
    refine g_pu rfl rfl rfl (pu_move rfl rfl) ?_
    refine g_pu rfl rfl rfl (pu_extract rfl rfl rfl) ?_
    refine g_pu rfl rfl rfl (pu_extract rfl rfl rfl) ?_
    refine g_pu rfl rfl rfl (pu_assign rfl rfl) ?_
    refine g_pu rfl rfl rfl (pu_assign rfl rfl) ?_
    refine g_nil ?_
    have hvl : takeE N t z = 0 → ((takeV all t z).length : Int) = z ∧ 0 ≤ z := fun h => takeV_len (by omega) (by rw [hN]; exact h)
    have hv0 : takeE N t z ≠ 0 → (takeV all t z) = [] := fun h => if_neg (by rw [hN]; exact h)
    have hcs := takeE_cases N t z
    generalize takeE N t z = te at hcs hvl hv0
    generalize takeN N t z = t2 at hstep htn
    generalize takeV all t z = b at hstep hbl hvl hv0
    generalize hbn : b.length = bn at hbl hvl
    rcases hcs with ⟨rfl, hz0⟩ | ⟨rfl, hz0, hz1⟩ | ⟨rfl, hz0⟩
    · have hb0 := hv0 (by decide)
      have hbn0 : bn = 0 := by rw [← hbn, hb0]; rfl
      (repeat refine g_seq ?_)
      refine g_region ?_
      refine g_pu rfl rfl rfl (pu_move rfl rfl) ?_
      refine g_pu rfl rfl rfl (pu_lss_t rfl rfl rfl (by omega)) ?_
      refine g_pu rfl rfl rfl (pu_move rfl rfl) ?_
      first | refine g_pu rfl rfl rfl (pu_eql_t rfl rfl rfl (by omega)) ?_ | refine g_pu rfl rfl rfl (pu_eql_f rfl rfl rfl (by omega)) ?_ | refine g_pu rfl rfl rfl (pu_eql rfl rfl rfl) ?_
      refine g_pu rfl rfl rfl (pu_neqB rfl rfl rfl) ?_
      rw [decide_eq_false (show ¬ (true ≠ true) from fun h => h rfl)]
      refine g_pu rfl rfl rfl (pu_move rfl rfl) ?_
      first | refine g_pass rfl rfl rfl ?_ | refine g_pu rfl rfl rfl (pu_move rfl rfl) ?_
      refine g_pu rfl rfl rfl (pu_geq_f rfl rfl rfl (by omega)) ?_
      first | refine g_pass rfl rfl rfl ?_ | refine g_pu rfl rfl rfl (pu_move rfl rfl) ?_
      first | refine g_pass rfl rfl rfl ?_ | refine g_pu rfl rfl rfl (pu_move rfl rfl) ?_
      first | refine g_pass rfl rfl rfl ?_ | refine g_pu rfl rfl rfl (pu_eql_t rfl rfl rfl (by omega)) ?_ | refine g_pu rfl rfl rfl (pu_eql_f rfl rfl rfl (by omega)) ?_ | refine g_pu rfl rfl rfl (pu_eql rfl rfl rfl) ?_
      first | refine g_pass rfl rfl rfl ?_ | refine g_pu rfl rfl rfl (pu_pick_t rfl rfl rfl) ?_ | refine g_pu rfl rfl rfl (pu_pick_f rfl rfl rfl) ?_
      first | refine g_pass rfl rfl rfl ?_ | refine g_pu rfl rfl rfl (pu_move rfl rfl) ?_
      first | refine g_pass rfl rfl rfl ?_ | refine g_pu rfl rfl rfl (pu_len rfl rfl) ?_ | refine g_pu rfl rfl rfl (pu_lenS rfl rfl) ?_
      first | refine g_pass rfl rfl rfl ?_ | refine g_pu rfl rfl rfl (pu_move rfl rfl) ?_
      refine g_pu rfl rfl rfl (pu_eql_f rfl rfl rfl (by omega)) ?_
      first | refine g_pass rfl rfl rfl ?_ | refine g_pu rfl rfl rfl (pu_move rfl rfl) ?_
      first | refine g_pass rfl rfl rfl ?_ | refine g_pu rfl rfl rfl (pu_move rfl rfl) ?_
      first | refine g_pass rfl rfl rfl ?_ | refine g_pu rfl rfl rfl (pu_geq_t rfl rfl rfl (by omega)) ?_ | refine g_pu rfl rfl rfl (pu_geq_f rfl rfl rfl (by omega)) ?_ | refine g_pu rfl rfl rfl (pu_geq rfl rfl rfl) ?_
      first | refine g_pass rfl rfl rfl ?_ | refine g_pu rfl rfl rfl (pu_pick_t rfl rfl rfl) ?_ | refine g_pu rfl rfl rfl (pu_pick_f rfl rfl rfl) ?_
      refine g_pu rfl rfl rfl (pu_neqB rfl rfl rfl) ?_
      rw [decide_eq_false (show ¬ (false ≠ false) from fun h => h rfl)]
      first | refine g_pu rfl rfl rfl (pu_pick_t rfl rfl rfl) ?_ | refine g_pu rfl rfl rfl (pu_pick_f rfl rfl rfl) ?_
      refine g_nil ?_
      (repeat refine g_seq ?_)
      refine g_cond_f rfl (g_skip ?_)
      (repeat refine g_seq ?_)
      refine g_region ?_
      refine g_pu rfl rfl rfl (pu_move rfl rfl) ?_
      refine g_pu rfl rfl rfl (pu_move rfl rfl) ?_
      refine g_lo [94] rfl rfl rfl rfl (lo_buildSlice rfl rfl (by decide) (by decide) rfl rfl) (fun b94 hb94 => ?_)
      refine g_callW [56, 156] [56, 156] rfl rfl rfl rfl rfl rfl (fun j hj => hj.elim (fun h => ⟨56, by simp, _, rfl, h⟩) (fun h => ⟨156, by simp, _, rfl, h⟩)) (fun w' hm => Write_b w' x56.1 (L := all.take t) (J := []) y 1 (LL := [x67.sl bn]) (ls := [b]) (hm.holds 56 _ rfl) (hm.holds 156 _ rfl) (fun j hj he => hm.apart 156 _ 56 _ rfl rfl (by decide) j hj he) (fun j hj => hm.below 156 _ rfl j hj) (hm.rowA 94 rfl) rfl (All2.cons (IsB.own 67 rfl hm hbn (by omega)) All2.nil) (fun _ b o e hb => by cases e; exact hb.elim (fun h1 => hm.apart 94 _ 56 _ rfl rfl (by decide) _ rfl h1) (fun h1 => hm.apart 94 _ 156 _ rfl rfl (by decide) _ rfl h1)) (fun q m c hv _ j hj hb => by cases List.mem_singleton.1 hv; exact hb.elim (fun h1 => hm.apart 67 _ 56 _ rfl rfl (by decide) j hj h1) (fun h1 => hm.apart 67 _ 156 _ rfl rfl (by decide) j hj h1)) (by omega) (by rw [flatT]; omega)) (fun y' _ => ?_)
      rw [flatT, hstep]
      refine g_nil ?_
      refine g_blk ?_
      (repeat refine g_seq ?_)
      refine g_region ?_
      refine g_pu rfl rfl rfl (pu_addI rfl rfl rfl (by omega)) ?_
      refine g_pu rfl rfl rfl (pu_move rfl rfl) ?_
      refine g_nil ?_
      exact g_round3 (i + 1) t2 y' ⟨by omega, htn⟩ (by omega) ⟨rfl, rfl, rfl, rfl, rfl, rfl, rfl, trivial⟩ ⟨rfl, rfl, rfl, rfl, rfl, rfl, rfl, trivial⟩
    · have hb0 := hv0 (by decide)
      have hbn0 : bn = 0 := by rw [← hbn, hb0]; rfl
      (repeat refine g_seq ?_)
      refine g_region ?_
      refine g_pu rfl rfl rfl (pu_move rfl rfl) ?_
      refine g_pu rfl rfl rfl (pu_lss_f rfl rfl rfl (by omega)) ?_
      refine g_pu rfl rfl rfl (pu_move rfl rfl) ?_
      first | refine g_pu rfl rfl rfl (pu_eql_t rfl rfl rfl (by omega)) ?_ | refine g_pu rfl rfl rfl (pu_eql_f rfl rfl rfl (by omega)) ?_ | refine g_pu rfl rfl rfl (pu_eql rfl rfl rfl) ?_
      refine g_pu rfl rfl rfl (pu_neqB rfl rfl rfl) ?_
      rw [decide_eq_false (show ¬ (false ≠ false) from fun h => h rfl)]
      refine g_pu rfl rfl rfl (pu_move rfl rfl) ?_
      first | refine g_pass rfl rfl rfl ?_ | refine g_pu rfl rfl rfl (pu_move rfl rfl) ?_
      refine g_pu rfl rfl rfl (pu_geq_t rfl rfl rfl (by omega)) ?_
      first | refine g_pass rfl rfl rfl ?_ | refine g_pu rfl rfl rfl (pu_move rfl rfl) ?_
      first | refine g_pass rfl rfl rfl ?_ | refine g_pu rfl rfl rfl (pu_move rfl rfl) ?_
      first | refine g_pass rfl rfl rfl ?_ | refine g_pu rfl rfl rfl (pu_eql_t rfl rfl rfl (by omega)) ?_ | refine g_pu rfl rfl rfl (pu_eql_f rfl rfl rfl (by omega)) ?_ | refine g_pu rfl rfl rfl (pu_eql rfl rfl rfl) ?_
      first | refine g_pass rfl rfl rfl ?_ | refine g_pu rfl rfl rfl (pu_pick_t rfl rfl rfl) ?_ | refine g_pu rfl rfl rfl (pu_pick_f rfl rfl rfl) ?_
      first | refine g_pass rfl rfl rfl ?_ | refine g_pu rfl rfl rfl (pu_move rfl rfl) ?_
      first | refine g_pass rfl rfl rfl ?_ | refine g_pu rfl rfl rfl (pu_len rfl rfl) ?_ | refine g_pu rfl rfl rfl (pu_lenS rfl rfl) ?_
      first | refine g_pass rfl rfl rfl ?_ | refine g_pu rfl rfl rfl (pu_move rfl rfl) ?_
      refine g_pu rfl rfl rfl (pu_eql_f rfl rfl rfl (by omega)) ?_
      first | refine g_pass rfl rfl rfl ?_ | refine g_pu rfl rfl rfl (pu_move rfl rfl) ?_
      first | refine g_pass rfl rfl rfl ?_ | refine g_pu rfl rfl rfl (pu_move rfl rfl) ?_
      first | refine g_pass rfl rfl rfl ?_ | refine g_pu rfl rfl rfl (pu_geq_t rfl rfl rfl (by omega)) ?_ | refine g_pu rfl rfl rfl (pu_geq_f rfl rfl rfl (by omega)) ?_ | refine g_pu rfl rfl rfl (pu_geq rfl rfl rfl) ?_
      first | refine g_pass rfl rfl rfl ?_ | refine g_pu rfl rfl rfl (pu_pick_t rfl rfl rfl) ?_ | refine g_pu rfl rfl rfl (pu_pick_f rfl rfl rfl) ?_
      refine g_pu rfl rfl rfl (pu_neqB rfl rfl rfl) ?_
      rw [decide_eq_false (show ¬ (false ≠ false) from fun h => h rfl)]
      first | refine g_pu rfl rfl rfl (pu_pick_t rfl rfl rfl) ?_ | refine g_pu rfl rfl rfl (pu_pick_f rfl rfl rfl) ?_
      refine g_nil ?_
      (repeat refine g_seq ?_)
      refine g_cond_f rfl (g_skip ?_)
      (repeat refine g_seq ?_)
      refine g_region ?_
      refine g_pu rfl rfl rfl (pu_move rfl rfl) ?_
      refine g_pu rfl rfl rfl (pu_move rfl rfl) ?_
      refine g_lo [94] rfl rfl rfl rfl (lo_buildSlice rfl rfl (by decide) (by decide) rfl rfl) (fun b94 hb94 => ?_)
      refine g_callW [56, 156] [56, 156] rfl rfl rfl rfl rfl rfl (fun j hj => hj.elim (fun h => ⟨56, by simp, _, rfl, h⟩) (fun h => ⟨156, by simp, _, rfl, h⟩)) (fun w' hm => Write_b w' x56.1 (L := all.take t) (J := []) y 1 (LL := [x67.sl bn]) (ls := [b]) (hm.holds 56 _ rfl) (hm.holds 156 _ rfl) (fun j hj he => hm.apart 156 _ 56 _ rfl rfl (by decide) j hj he) (fun j hj => hm.below 156 _ rfl j hj) (hm.rowA 94 rfl) rfl (All2.cons (IsB.own 67 rfl hm hbn (by omega)) All2.nil) (fun _ b o e hb => by cases e; exact hb.elim (fun h1 => hm.apart 94 _ 56 _ rfl rfl (by decide) _ rfl h1) (fun h1 => hm.apart 94 _ 156 _ rfl rfl (by decide) _ rfl h1)) (fun q m c hv _ j hj hb => by cases List.mem_singleton.1 hv; exact hb.elim (fun h1 => hm.apart 67 _ 56 _ rfl rfl (by decide) j hj h1) (fun h1 => hm.apart 67 _ 156 _ rfl rfl (by decide) j hj h1)) (by omega) (by rw [flatT]; omega)) (fun y' _ => ?_)
      rw [flatT, hstep]
      refine g_nil ?_
      refine g_blk ?_
      (repeat refine g_seq ?_)
      refine g_region ?_
      refine g_pu rfl rfl rfl (pu_addI rfl rfl rfl (by omega)) ?_
      refine g_pu rfl rfl rfl (pu_move rfl rfl) ?_
      refine g_nil ?_
      exact g_round3 (i + 1) t2 y' ⟨by omega, htn⟩ (by omega) ⟨rfl, rfl, rfl, rfl, rfl, rfl, rfl, trivial⟩ ⟨rfl, rfl, rfl, rfl, rfl, rfl, rfl, trivial⟩
    · have hvz := (hvl rfl).1
      (repeat refine g_seq ?_)
      refine g_region ?_
      refine g_pu rfl rfl rfl (pu_move rfl rfl) ?_
      refine g_pu rfl rfl rfl (pu_lss_f rfl rfl rfl (by omega)) ?_
      refine g_pu rfl rfl rfl (pu_move rfl rfl) ?_
      first | refine g_pu rfl rfl rfl (pu_eql_t rfl rfl rfl (by omega)) ?_ | refine g_pu rfl rfl rfl (pu_eql_f rfl rfl rfl (by omega)) ?_ | refine g_pu rfl rfl rfl (pu_eql rfl rfl rfl) ?_
      refine g_pu rfl rfl rfl (pu_neqB rfl rfl rfl) ?_
      rw [decide_eq_false (show ¬ (false ≠ false) from fun h => h rfl)]
      refine g_pu rfl rfl rfl (pu_move rfl rfl) ?_
      first | refine g_pass rfl rfl rfl ?_ | refine g_pu rfl rfl rfl (pu_move rfl rfl) ?_
      refine g_pu rfl rfl rfl (pu_geq_t rfl rfl rfl (by omega)) ?_
      first | refine g_pass rfl rfl rfl ?_ | refine g_pu rfl rfl rfl (pu_move rfl rfl) ?_
      first | refine g_pass rfl rfl rfl ?_ | refine g_pu rfl rfl rfl (pu_move rfl rfl) ?_
      first | refine g_pass rfl rfl rfl ?_ | refine g_pu rfl rfl rfl (pu_eql_t rfl rfl rfl (by omega)) ?_ | refine g_pu rfl rfl rfl (pu_eql_f rfl rfl rfl (by omega)) ?_ | refine g_pu rfl rfl rfl (pu_eql rfl rfl rfl) ?_
      first | refine g_pass rfl rfl rfl ?_ | refine g_pu rfl rfl rfl (pu_pick_t rfl rfl rfl) ?_ | refine g_pu rfl rfl rfl (pu_pick_f rfl rfl rfl) ?_
      first | refine g_pass rfl rfl rfl ?_ | refine g_pu rfl rfl rfl (pu_move rfl rfl) ?_
      first | refine g_pass rfl rfl rfl ?_ | refine g_pu rfl rfl rfl (pu_len rfl rfl) ?_ | refine g_pu rfl rfl rfl (pu_lenS rfl rfl) ?_
      first | refine g_pass rfl rfl rfl ?_ | refine g_pu rfl rfl rfl (pu_move rfl rfl) ?_
      refine g_pu rfl rfl rfl (pu_eql_t rfl rfl rfl (by omega)) ?_
      first | refine g_pass rfl rfl rfl ?_ | refine g_pu rfl rfl rfl (pu_move rfl rfl) ?_
      first | refine g_pass rfl rfl rfl ?_ | refine g_pu rfl rfl rfl (pu_move rfl rfl) ?_
      refine g_pu rfl rfl rfl (pu_geq_t rfl rfl rfl (by omega)) ?_
      first | refine g_pass rfl rfl rfl ?_ | refine g_pu rfl rfl rfl (pu_pick_t rfl rfl rfl) ?_ | refine g_pu rfl rfl rfl (pu_pick_f rfl rfl rfl) ?_
      refine g_pu rfl rfl rfl (pu_neqB rfl rfl rfl) ?_
      rw [decide_eq_false (show ¬ (true ≠ true) from fun h => h rfl)]
      first | refine g_pu rfl rfl rfl (pu_pick_t rfl rfl rfl) ?_ | refine g_pu rfl rfl rfl (pu_pick_f rfl rfl rfl) ?_
      refine g_nil ?_
      (repeat refine g_seq ?_)
      refine g_cond_f rfl (g_skip ?_)
      (repeat refine g_seq ?_)
      refine g_region ?_
      refine g_pu rfl rfl rfl (pu_move rfl rfl) ?_
      refine g_pu rfl rfl rfl (pu_move rfl rfl) ?_
      refine g_lo [94] rfl rfl rfl rfl (lo_buildSlice rfl rfl (by decide) (by decide) rfl rfl) (fun b94 hb94 => ?_)
      refine g_callW [56, 156] [56, 156] rfl rfl rfl rfl rfl rfl (fun j hj => hj.elim (fun h => ⟨56, by simp, _, rfl, h⟩) (fun h => ⟨156, by simp, _, rfl, h⟩)) (fun w' hm => Write_b w' x56.1 (L := all.take t) (J := []) y 1 (LL := [x67.sl bn]) (ls := [b]) (hm.holds 56 _ rfl) (hm.holds 156 _ rfl) (fun j hj he => hm.apart 156 _ 56 _ rfl rfl (by decide) j hj he) (fun j hj => hm.below 156 _ rfl j hj) (hm.rowA 94 rfl) rfl (All2.cons (IsB.own 67 rfl hm hbn (by omega)) All2.nil) (fun _ b o e hb => by cases e; exact hb.elim (fun h1 => hm.apart 94 _ 56 _ rfl rfl (by decide) _ rfl h1) (fun h1 => hm.apart 94 _ 156 _ rfl rfl (by decide) _ rfl h1)) (fun q m c hv _ j hj hb => by cases List.mem_singleton.1 hv; exact hb.elim (fun h1 => hm.apart 67 _ 56 _ rfl rfl (by decide) j hj h1) (fun h1 => hm.apart 67 _ 156 _ rfl rfl (by decide) j hj h1)) (by omega) (by rw [flatT]; omega)) (fun y' _ => ?_)
      rw [flatT, hstep]
      refine g_nil ?_
      refine g_blk ?_
      (repeat refine g_seq ?_)
      refine g_region ?_
      refine g_pu rfl rfl rfl (pu_addI rfl rfl rfl (by omega)) ?_
      refine g_pu rfl rfl rfl (pu_move rfl rfl) ?_
      refine g_nil ?_
      exact g_round3 (i + 1) t2 y' ⟨by omega, htn⟩ (by omega) ⟨rfl, rfl, rfl, rfl, rfl, rfl, rfl, trivial⟩ ⟨rfl, rfl, rfl, rfl, rfl, rfl, rfl, trivial⟩
  · (repeat refine g_seq ?_)
    refine g_region ?_
    first | refine g_pu rfl rfl rfl (pu_lss_t rfl rfl rfl (by omega)) ?_ | refine g_pu rfl rfl rfl (pu_lss_f rfl rfl rfl (by omega)) ?_ | refine g_pu rfl rfl rfl (pu_lss rfl rfl rfl) ?_
    refine g_nil ?_
    (repeat refine g_seq ?_)
    refine g_cond_f rfl (g_exit rfl ?_)
    have hE : takeE N t ((N - t : Nat) : Int) = 0 := by unfold takeE; rw [if_neg (by omega), if_neg (by omega)]
    have hV : takeV all t ((N - t : Nat) : Int) = all.drop t := by
      unfold takeV
      rw [hN, if_pos hE, Int.toNat_natCast, List.take_of_length_le (by rw [List.length_drop]; omega)]
    have hTn : takeN N t ((N - t : Nat) : Int) = N := by
      unfold takeN
      rw [if_pos hE, Int.toNat_natCast]; omega
    have hdl : (all.drop t).length = N - t := by rw [List.length_drop, hN]
    have htl : (all.take t).length = t := by rw [List.length_take]; omega
    have hta : all.take t ++ all.drop t = all := List.take_append_drop _ _
    (repeat refine g_seq ?_)
    refine g_region ?_
    refine g_pu rfl rfl rfl (pu_move rfl rfl) ?_
    refine g_pu rfl rfl rfl (pu_move rfl rfl) ?_
    refine g_callW [55] [55] rfl rfl rfl rfl rfl rfl (fun j hj => ⟨55, by simp, _, rfl, hj⟩) (fun w' hm => Left_b w' x55.1 (hm.holds 55 _ rfl) (by omega) ht) (fun _ _ => ?_)
    refine g_callW [55] [55, 101] rfl rfl rfl rfl rfl rfl (fun j hj => ⟨55, by simp, _, rfl, hj⟩) (fun w' hm => Take_b w' x55.1 (l := all) ((N - t : Nat) : Int) (hm.holds 55 _ rfl) (By.ow 155 rfl hm hN (by omega)) (leT hm 155 rfl hN) (apartT hm 155 55 rfl rfl (by decide)) ht) (fun x101 _ => ?_)
    rw [hE, hV, hTn, hdl]
    refine g_pu rfl rfl rfl (pu_move rfl rfl) ?_
    refine g_pu rfl rfl rfl (pu_extract rfl rfl rfl) ?_
    refine g_pu rfl rfl rfl (pu_extract rfl rfl rfl) ?_
    refine g_pu rfl rfl rfl (pu_assign rfl rfl) ?_
    refine g_pu rfl rfl rfl (pu_assign rfl rfl) ?_
    refine g_nil ?_
    (repeat refine g_seq ?_)
    refine g_region ?_
    refine g_pu rfl rfl rfl (pu_move rfl rfl) ?_
    first | refine g_pu rfl rfl rfl (pu_neq_t rfl rfl rfl (by omega)) ?_ | refine g_pu rfl rfl rfl (pu_neq_f rfl rfl rfl (by omega)) ?_ | refine g_pu rfl rfl rfl (pu_neq rfl rfl rfl) ?_
    refine g_pu rfl rfl rfl (pu_move rfl rfl) ?_
    first | refine g_pass rfl rfl rfl ?_ | refine g_pu rfl rfl rfl (pu_move rfl rfl) ?_
    refine g_callW [55] [55] rfl rfl rfl rfl rfl rfl (fun j hj => ⟨55, by simp, _, rfl, hj⟩) (fun w' hm => Left_b w' x55.1 (hm.holds 55 _ rfl) (by omega) (Nat.le_refl _)) (fun _ _ => ?_)
    refine g_pu rfl rfl rfl (pu_neq_f rfl rfl rfl (by omega)) ?_
    first | refine g_pu rfl rfl rfl (pu_pick_t rfl rfl rfl) ?_ | refine g_pu rfl rfl rfl (pu_pick_f rfl rfl rfl) ?_
    refine g_pu rfl rfl rfl (pu_move rfl rfl) ?_
    first | refine g_pass rfl rfl rfl ?_ | refine g_pu rfl rfl rfl (pu_move rfl rfl) ?_
    refine g_callW [55] [55] rfl rfl rfl rfl rfl rfl (fun j hj => ⟨55, by simp, _, rfl, hj⟩) (fun w' hm => Done_b w' x55.1 (hm.holds 55 _ rfl)) (fun _ _ => ?_)
    first | refine g_pass rfl rfl rfl ?_ | refine g_pu rfl rfl rfl (pu_move rfl rfl) ?_
    first | refine g_pass rfl rfl rfl ?_ | refine g_pu rfl rfl rfl (pu_len rfl rfl) ?_ | refine g_pu rfl rfl rfl (pu_lenS rfl rfl) ?_
    refine g_pu rfl rfl rfl (pu_neq_f rfl rfl rfl (fun h => h rfl)) ?_
    first | refine g_pu rfl rfl rfl (pu_pick_t rfl rfl rfl) ?_ | refine g_pu rfl rfl rfl (pu_pick_f rfl rfl rfl) ?_
    refine g_nil ?_
    (repeat refine g_seq ?_)
    refine g_cond_f rfl (g_skip ?_)
    (repeat refine g_seq ?_)
    refine g_anyK [(7, .pt b7 (.cells (bs (shaL all)).toArray 24 (0, 0)))] ?_
    refine a_puK 0 rfl rfl rfl rfl ⟨rfl, trivial⟩ (pu_move rfl rfl) (by kernel_rfl) ?_
    refine a_puK 1 rfl rfl rfl rfl ⟨rfl, trivial⟩ (pu_move rfl rfl) (by kernel_rfl) ?_
    refine a_puK 5 rfl rfl rfl rfl ⟨rfl, trivial⟩ (pu_loadW 7 (L := bs (shaL all)) rfl rfl rfl hsl) (by kernel_rfl) ?_
    refine a_doK 2 120 [120] (does_lo rfl rfl rfl (lo_buildSlice rfl rfl (by decide) (by decide) rfl rfl)) rfl rfl (fun v cs ho => by obtain ⟨_, _, _, h⟩ := ho; subst h; exact ⟨rfl, trivial⟩) (by kernel_rfl) ?_; rintro v_ cs_ ⟨b120, hb120, rfl, rfl⟩
    refine a_callK 3 [56, 156] [56, 156] rfl rfl rfl rfl rfl rfl rfl (fun j hj => hj.elim (fun h => ⟨56, by simp, _, rfl, h⟩) (fun h => ⟨156, by simp, _, rfl, h⟩)) (fun w' hm => Write_b w' x56.1 (L := all.take t) (J := []) y 1 (LL := [x101.sl (N - t)]) (ls := [all.drop t]) (hm.holds 56 _ rfl) (hm.holds 156 _ rfl) (fun j hj he => hm.apart 156 _ 56 _ rfl rfl (by decide) j hj he) (fun j hj => hm.below 156 _ rfl j hj) (hm.rowA 120 rfl) rfl (All2.cons (IsB.own 101 rfl hm hdl (by omega)) All2.nil) (fun _ b o e hb => by cases e; exact hb.elim (fun h1 => hm.apart 120 _ 56 _ rfl rfl (by decide) _ rfl h1) (fun h1 => hm.apart 120 _ 156 _ rfl rfl (by decide) _ rfl h1)) (fun q m c hv _ j hj hb => by cases List.mem_singleton.1 hv; exact hb.elim (fun h1 => hm.apart 101 _ 56 _ rfl rfl (by decide) j hj h1) (fun h1 => hm.apart 101 _ 156 _ rfl rfl (by decide) j hj h1)) (by omega) (by rw [flatT]; omega)) (fun x => ⟨rfl, trivial⟩) (by kernel_rfl) (fun y' _ => ?_)
    rw [flatT, hta]
    refine a_doK 4 122 [] (does_call rfl rfl rfl rfl rfl (fun w' hm => HashSum_b w' x56.1 (L := all) (J := []) y' (hm.holds 56 _ rfl) (OwnO.rd (hm.holds 156 _ rfl)) (by omega))) rfl rfl (fun v cs ho => by obtain ⟨_, _, _, h⟩ := ho; subst h; exact ⟨rfl, trivial⟩) (by kernel_rfl) ?_; rintro v_ cs_ ⟨_, _, rfl, rfl⟩
    refine a_puK 6 rfl rfl rfl rfl ⟨rfl, trivial⟩ (pu_eqlA_t (a := bs (shaL all)) (b := bs (shaL all)) rfl rfl rfl rfl (all_bs _) hsl) (by kernel_rfl) ?_
    refine a_puK 7 rfl rfl rfl rfl ⟨rfl, trivial⟩ (pu_move rfl rfl) (by kernel_rfl) ?_
    refine a_puK 8 rfl rfl rfl rfl ⟨rfl, trivial⟩ (pu_move rfl rfl) (by kernel_rfl) ?_
    refine a_puK 10 rfl rfl rfl rfl ⟨rfl, trivial⟩ (pu_move rfl rfl) (by kernel_rfl) ?_
    refine a_puK 11 rfl rfl rfl rfl ⟨rfl, trivial⟩ (pu_len rfl rfl) (by kernel_rfl) ?_
    refine a_doK 9 127 [] (does_call rfl rfl rfl rfl rfl (fun w' hm => ShaLen_b w' x56.1 (L := all) (J := []) y' (hm.holds 56 _ rfl))) rfl rfl (fun v cs ho => by obtain ⟨_, _, _, h⟩ := ho; subst h; exact ⟨rfl, trivial⟩) (by kernel_rfl) ?_; rintro v_ cs_ ⟨_, _, rfl, rfl⟩
    refine a_puK 12 rfl rfl rfl rfl ⟨rfl, trivial⟩ (pu_eql_t rfl rfl rfl (by rw [hN])) (by kernel_rfl) ?_
    refine a_puK 13 rfl rfl rfl rfl ⟨rfl, trivial⟩ (pu_pick_t rfl rfl rfl) (by kernel_rfl) ?_
    refine a_puK 14 rfl rfl rfl rfl ⟨rfl, trivial⟩ (pu_assign rfl rfl) (by kernel_rfl) ?_
    refine a_doneK (by kernel_rfl) ?_
    exact g_ret1 rfl rfl (fun w' hm => ⟨(), trivial, rfl, hm.grows [] trivial rfl⟩)
end Go.Sx

/-
  CodecJoins: lists of bytes that are joined are one list, and cut at their lengths they are the old lists again. Condition: at most 2^47 bytes together.
-/
import Derived.Test.YtmhleegjffdnkaaCodecCuts
set_option linter.unusedVariables false
set_option linter.unusedSimpArgs false
namespace Go.Sx
open Go Go.Proofs

def lens (ls : List (List (BitVec 8))) : List Int := ls.map fun l => (l.length : Int)
theorem lens_length (ls : List (List (BitVec 8))) : (lens ls).length = ls.length := by simp [lens]
theorem cut_lens (ls : List (List (BitVec 8))) : cutE ls.flatten (lens ls) = 0 ∧ cutV ls.flatten (lens ls) = ls := by
  have h := cut_ok (noNeg_flat ls) (cutS_flat ls)
  exact ⟨h.1, h.2.trans (cutP_flat ls)⟩

theorem CodecJoins_spec (w : World) {p : Option Addr} {n : Nat} (c : Nat) {L : List Value} {ls : List (List (BitVec 8))} (ha : ByL w p n L ls) (hc : n ≤ c) (hlen : ls.flatten.length ≤ 140737488355328) :
    Spec Try.prog 9 #[.slice p n c] w (σ := Unit) (fun _ => True) (fun _ => .bool true) Nob (fun _ => []) := by
  refine enter Try.func9 rfl rfl (Mem.start w) ?_
  have hn := ha.len
  have hbig := ha.big
  have hln := ha.lenL
  (repeat refine g_seq ?_)
  refine g_region ?_
  refine g_pu rfl rfl rfl (pu_assign rfl rfl) ?_
  refine g_nil ?_
  (repeat refine g_seq ?_)
  refine g_region ?_
  refine g_call [] rfl rfl rfl rfl rfl rfl (fun w' hm => awake_b w') (fun _ _ => ?_)
  refine g_pu rfl rfl rfl (pu_not rfl rfl) ?_
  refine g_nil ?_
  (repeat refine g_seq ?_)
  refine g_cond_f rfl (g_skip ?_)
  (repeat refine g_seq ?_)
  refine g_region ?_
  refine g_pu rfl rfl rfl (pu_move rfl rfl) ?_
  refine g_call [12, 112] rfl rfl rfl rfl rfl rfl (fun w' hm => Copies_b w' c (ha.m hm)) (fun x12 h12 => ?_)
  refine g_call [13] rfl rfl rfl rfl rfl rfl (fun w' hm => Join_b w' _ (Owl.by 12 112 rfl rfl hm h12.1 hbig) (by rw [← h12.1]; exact Owl.le 12 rfl hm) hlen) (fun x13 _ => ?_)
  refine g_pu rfl rfl rfl (pu_assign rfl rfl) ?_
  refine g_nil ?_
  (repeat refine g_seq ?_)
  refine g_region ?_
  refine g_pu rfl rfl rfl (pu_move rfl rfl) ?_
  refine g_pu rfl rfl rfl (pu_move rfl rfl) ?_
  refine g_call [16] rfl rfl rfl rfl rfl rfl (fun w' hm => RJoin_b w' c (ha.m hm) hlen) (fun x16 _ => ?_)
  refine g_call [] rfl rfl rfl rfl rfl rfl (fun w' hm => Equal_b w' _ _ (By.ow 13 rfl hm rfl hlen) (By.ow 16 rfl hm rfl hlen)) (fun _ _ => ?_)
  refine g_as (t := 17) (u := .bool true) rfl (by simp) rfl ?_
  refine g_pu rfl rfl rfl (pu_not rfl rfl) ?_
  refine g_nil ?_
  (repeat refine g_seq ?_)
  refine g_cond_f rfl (g_skip ?_)
  (repeat refine g_seq ?_)
  refine g_region ?_
  refine g_pu rfl rfl rfl (pu_assign rfl rfl) ?_
  refine g_nil ?_
  refine g_nilOwn 90 3 1 rfl ?_
  (repeat refine g_seq ?_)
  refine g_region ?_
  refine g_pu rfl rfl rfl (pu_move rfl rfl) ?_
  first | refine g_pu rfl rfl rfl (pu_len rfl rfl) ?_ | refine g_pu rfl rfl rfl (pu_lenS rfl rfl) ?_
  refine g_pu rfl rfl rfl (pu_move rfl rfl) ?_
  refine g_nil ?_
  refine g_block (g_loop2 (fun (i : Nat) (x : Ow) => [(0, .slice p n c), (3, x13.sl ls.flatten.length), (4, x.sl i), (19, .slice p n c), (20, .int .i64 (n : Int)), (21, .int .i64 (i : Int))]) (fun i x => [(13, x13.ck 5 1 (bs ls.flatten)), (90, x.ck 3 1 (is (lens (ls.take i))))]) (fun i _ => i ≤ n) (fun i _ => n - i) 0 ⟨none, 0⟩ ⟨rfl, rfl, rfl, rfl, rfl, rfl, trivial⟩ ⟨rfl, rfl, trivial⟩ (by omega) ?_)
  intro i x hi
  by_cases hlt : i < n
  · (repeat refine g_seq ?_)
    refine g_region ?_
    first | refine g_pu rfl rfl rfl (pu_lss_t rfl rfl rfl (by omega)) ?_ | refine g_pu rfl rfl rfl (pu_lss_f rfl rfl rfl (by omega)) ?_ | refine g_pu rfl rfl rfl (pu_lss rfl rfl rfl) ?_
    refine g_nil ?_
    (repeat refine g_seq ?_)
    refine g_cond_t rfl (g_skip ?_)
    have hl : ls[i]? = some ls[i] := List.getElem?_eq_getElem (by omega)
    generalize ls[i] = b at hl
    obtain ⟨q, m, cc, hL, hq⟩ := ha.at hl
    have hq1 := hq.len
    (repeat refine g_seq ?_); refine g_block ?_
    (repeat refine g_seq ?_)
    refine g_region ?_
    refine g_pu rfl rfl rfl (pu_atM1 i (fun w' hm => (ha.m hm).rd) rfl rfl rfl rfl hlt (by omega)) ?_
    refine g_pu rfl rfl rfl (pu_rdM (fun w' hm => (ha.m hm).rd) rfl rfl hL) ?_
    refine g_pu rfl rfl rfl (pu_assign rfl rfl) ?_
    refine g_nil ?_
    (repeat refine g_seq ?_)
    refine g_region ?_
    refine g_pu rfl rfl rfl (pu_move rfl rfl) ?_
    refine g_pu rfl rfl rfl (pu_move rfl rfl) ?_
    first | refine g_pu rfl rfl rfl (pu_len rfl rfl) ?_ | refine g_pu rfl rfl rfl (pu_lenS rfl rfl) ?_
    refine g_lo [28] rfl rfl rfl rfl (lo_buildSlice rfl rfl (by decide) (by decide) rfl rfl) (fun b28 hb28 => ?_)
    refine g_append1 90 [.int .i64 (m : Int)] rfl rfl rfl rfl rfl rfl rfl rfl (by rw [is_length, lens_length, List.length_take]; omega) (fun w' hm => hm.row 28 (J := []) rfl) rfl (fun u hu => by obtain rfl := List.mem_singleton.1 hu; rfl) (by omega) (by omega) (fun p' c' => ?_)
    refine g_pu rfl rfl rfl (pu_assign rfl rfl) ?_
    refine g_nil ?_
    refine g_blk ?_
    (repeat refine g_seq ?_)
    refine g_region ?_
    refine g_pu rfl rfl rfl (pu_addI rfl rfl rfl (by omega)) ?_
    refine g_pu rfl rfl rfl (pu_move rfl rfl) ?_
    refine g_nil ?_
    have ht : is (lens (ls.take i)) ++ [Value.int .i64 (m : Int)] = is (lens (ls.take (i + 1))) := by
      rw [List.take_add_one, hl]; simp [lens, is, hq1]
    rw [ht]
    refine g_round2 (i + 1) (⟨p', c'⟩ : Ow) (by omega) (by omega) ⟨rfl, rfl, rfl, rfl, rfl, rfl, trivial⟩ ⟨rfl, rfl, trivial⟩
  · (repeat refine g_seq ?_)
    refine g_region ?_
    first | refine g_pu rfl rfl rfl (pu_lss_t rfl rfl rfl (by omega)) ?_ | refine g_pu rfl rfl rfl (pu_lss_f rfl rfl rfl (by omega)) ?_ | refine g_pu rfl rfl rfl (pu_lss rfl rfl rfl) ?_
    refine g_nil ?_
    (repeat refine g_seq ?_)
    refine g_cond_f rfl (g_exit rfl ?_)
    have e1 : i = n := by omega
    subst e1
    rw [List.take_of_length_le (by omega)]
    obtain ⟨hE, hV⟩ := cut_lens ls
    (repeat refine g_seq ?_)
    refine g_region ?_
    refine g_pu rfl rfl rfl (pu_move rfl rfl) ?_
    refine g_pu rfl rfl rfl (pu_move rfl rfl) ?_
    refine g_call [34, 134] rfl rfl rfl rfl rfl rfl (fun w' hm => Cut_b w' _ _ (lens ls) (By.ow 13 rfl hm rfl hlen) (by have := Own.le (hm.holds 13 _ rfl); rw [bs_length] at this; omega) (Own.rd (hm.holds 90 _ rfl)) (by rw [lens_length]; omega) (by omega)) (fun x34 h34 => ?_)
    rw [hE]
    refine g_pu rfl rfl rfl (pu_move rfl rfl) ?_
    refine g_pu rfl rfl rfl (pu_extract rfl rfl rfl) ?_
    refine g_pu rfl rfl rfl (pu_extract rfl rfl rfl) ?_
    refine g_pu rfl rfl rfl (pu_assign rfl rfl) ?_
    refine g_pu rfl rfl rfl (pu_assign rfl rfl) ?_
    refine g_nil ?_
    (repeat refine g_seq ?_)
    refine g_region ?_
    refine g_pu rfl rfl rfl (pu_move rfl rfl) ?_
    first | refine g_pu rfl rfl rfl (pu_eql_t rfl rfl rfl (by omega)) ?_ | refine g_pu rfl rfl rfl (pu_eql_f rfl rfl rfl (by omega)) ?_ | refine g_pu rfl rfl rfl (pu_eql rfl rfl rfl) ?_
    refine g_pu rfl rfl rfl (pu_move rfl rfl) ?_
    first | refine g_pass rfl rfl rfl ?_ | refine g_pu rfl rfl rfl (pu_move rfl rfl) ?_
    first | refine g_pass rfl rfl rfl ?_ | refine g_pu rfl rfl rfl (pu_move rfl rfl) ?_
    refine g_call [] rfl rfl rfl rfl rfl rfl (fun w' hm => Equals_b w' _ _ (Owl.by 34 134 rfl rfl hm h34.1 (by rw [hV]; omega)) (ha.m hm)) (fun _ _ => ?_)
    first | refine g_pu rfl rfl rfl (pu_pick_t rfl rfl rfl) ?_ | refine g_pu rfl rfl rfl (pu_pick_f rfl rfl rfl) ?_
    refine g_pu rfl rfl rfl (pu_assign rfl rfl) ?_
    refine g_nil ?_
    exact g_ret1 rfl rfl (fun w' hm => ⟨(), trivial, by simp [hV], hm.grows [] trivial rfl⟩)
end Go.Sx

/-
  HKDF's second step: the program's and the document's way come to the same bytes.
-/
import Derived.Test.YtfnbedjnbofliaaM2
set_option linter.unusedVariables false
set_option linter.unusedSimpArgs false
namespace Go.Sx
open Go Go.Proofs

theorem Own.take {E : TypeId} {s c n : Nat} {p : Option Addr} {L : List Value} {w : World} (h : Own E s p c L w) : Own E s p c (L.take n) w := by
  rcases h with ⟨rfl, rfl, rfl⟩ | ⟨b, J, rfl, hb, hl, hc⟩
  · exact .inl ⟨rfl, by simp, rfl⟩
  · refine .inr ⟨b, L.drop n ++ J, rfl, by rw [← List.append_assoc, List.take_append_drop]; exact hb, ⟨by rw [List.length_take]; omega, by rw [← List.append_assoc, List.take_append_drop]; exact hl.2⟩, hc⟩
section
variable {P : Program} {fn : Func} {R : Ending → World → Prop} {N : Nat} {w0 : World} {D : Blocks} {e : List (Nat × Value)} {M : List (Nat × Ck)} {k : List It}
/-- Of an own slice the beginning. -/
theorem g_fst (t n : Nat) {E : TypeId} {s c : Nat} {p : Option Addr} {L : List Value} (ht : mget M t = some (.fact (At p) (Own E s p c L)))
    (h : G P fn R N w0 D e ((t, .fact (At p) (Own E s p c (L.take n))) :: M) k) : G P fn R N w0 D e M k :=
  g_recast t _ (.fact (At p) (Own E s p c (L.take n))) ht (fun _ hw => Own.take hw) Own.loc (fun _ hj => hj) h
end

def expT (key info : List (BitVec 8)) : Nat → List (BitVec 8)
  | 0 => []
  | k + 1 => hmacL key (expT key info k ++ info ++ [BitVec.ofInt 8 ((k + 1 : Nat) : Int)])
def expO (key info : List (BitVec 8)) : Nat → List (BitVec 8)
  | 0 => []
  | k + 1 => expO key info k ++ expT key info (k + 1)
def expL (key info : List (BitVec 8)) (n : Nat) : List (BitVec 8) := (expO key info ((n + 31) / 32)).take n
theorem expT_succ (key info : List (BitVec 8)) (k : Nat) : (expT key info (k + 1)).length = 32 := hmacL_length _ _
theorem expT_le (key info : List (BitVec 8)) : ∀ k, (expT key info k).length ≤ 32
  | 0 => Nat.zero_le _
  | k + 1 => by rw [expT_succ]; omega
theorem expO_length (key info : List (BitVec 8)) : ∀ k, (expO key info k).length = 32 * k
  | 0 => rfl
  | k + 1 => by rw [expO, List.length_append, expO_length, expT_succ]; omega
theorem expO_pre (key info : List (BitVec 8)) {k : Nat} : ∀ {K : Nat}, k ≤ K → (expO key info K).take (32 * k) = expO key info k
  | 0, h => by obtain rfl : k = 0 := by omega
               rfl
  | K + 1, h => by
    rcases Nat.lt_or_ge k (K + 1) with h1 | h1
    · rw [expO, List.take_append_of_le_length (by rw [expO_length]; omega)]
      exact expO_pre key info (by omega)
    · obtain rfl : k = K + 1 := by omega
      rw [List.take_of_length_le (by rw [expO_length]; omega)]
theorem expL_of {key info : List (BitVec 8)} {n k : Nat} (h : n ≤ 32 * k) : (expO key info k).take n = expL key info n := by
  unfold expL
  rw [← expO_pre key info (show (n + 31) / 32 ≤ k by omega), List.take_take]
  congr 1
  omega
theorem expL_length {key info : List (BitVec 8)} (n : Nat) : (expL key info n).length = n := by
  unfold expL
  rw [List.length_take, expO_length]; omega
theorem expL_take {key info : List (BitVec 8)} {n m : Nat} (h : n ≤ m) : (expL key info m).take n = expL key info n := by
  rw [← expL_of (k := (m + 31) / 32) (show n ≤ 32 * ((m + 31) / 32) by omega)]
  unfold expL
  rw [List.take_take]
  congr 1
  omega

theorem Expand_bad (w : World) {p q : Option Addr} {n m : Nat} (c d : Nat) (z : Int) (hz : z < 0 ∨ z > 8160) :
    Spec Try.prog 10 #[.slice p n c, .int .i64 z, .slice q m d] w (σ := Unit) (fun _ => True) (fun _ => .tuple #[.slice none 0 0, .int .i64 1]) Nob (fun _ => []) := by
  refine enter Try.func10 rfl rfl (Mem.start w) ?_
  (repeat refine g_seq ?_)
  refine g_region ?_
  refine g_pu rfl rfl rfl (pu_assign rfl rfl) ?_
  refine g_pu rfl rfl rfl (pu_assign rfl rfl) ?_
  refine g_nil ?_
  rcases hz with hz | hz
  · (repeat refine g_seq ?_)
    refine g_region ?_
    refine g_pu rfl rfl rfl (pu_move rfl rfl) ?_
    first | refine g_pu rfl rfl rfl (pu_lss_t rfl rfl rfl (by omega)) ?_ | refine g_pu rfl rfl rfl (pu_lss_f rfl rfl rfl (by omega)) ?_ | refine g_pu rfl rfl rfl (pu_lss rfl rfl rfl) ?_
    refine g_pu rfl rfl rfl (pu_move rfl rfl) ?_
    first | refine g_pass rfl rfl rfl ?_ | refine g_pu rfl rfl rfl (pu_move rfl rfl) ?_
    first | refine g_pass rfl rfl rfl ?_ | refine g_pu rfl rfl rfl (pu_gtr_t rfl rfl rfl (by omega)) ?_ | refine g_pu rfl rfl rfl (pu_gtr_f rfl rfl rfl (by omega)) ?_ | refine g_pu rfl rfl rfl (pu_gtr rfl rfl rfl) ?_
    first | refine g_pu rfl rfl rfl (pu_pick_t rfl rfl rfl) ?_ | refine g_pu rfl rfl rfl (pu_pick_f rfl rfl rfl) ?_
    refine g_nil ?_
    (repeat refine g_seq ?_)
    refine g_cond_t rfl ?_
    (repeat refine g_seq ?_)
    refine g_region ?_
    refine g_pu rfl rfl rfl (pu_assign rfl rfl) ?_
    refine g_pu rfl rfl rfl (pu_assign rfl rfl) ?_
    refine g_nil ?_
    exact g_ret2 rfl rfl rfl (fun w' hm => ⟨(), trivial, rfl, hm.grows [] trivial rfl⟩)
  · have hz0 : ¬ z < 0 := by omega
    (repeat refine g_seq ?_)
    refine g_region ?_
    refine g_pu rfl rfl rfl (pu_move rfl rfl) ?_
    first | refine g_pu rfl rfl rfl (pu_lss_t rfl rfl rfl (by omega)) ?_ | refine g_pu rfl rfl rfl (pu_lss_f rfl rfl rfl (by omega)) ?_ | refine g_pu rfl rfl rfl (pu_lss rfl rfl rfl) ?_
    refine g_pu rfl rfl rfl (pu_move rfl rfl) ?_
    first | refine g_pass rfl rfl rfl ?_ | refine g_pu rfl rfl rfl (pu_move rfl rfl) ?_
    first | refine g_pass rfl rfl rfl ?_ | refine g_pu rfl rfl rfl (pu_gtr_t rfl rfl rfl (by omega)) ?_ | refine g_pu rfl rfl rfl (pu_gtr_f rfl rfl rfl (by omega)) ?_ | refine g_pu rfl rfl rfl (pu_gtr rfl rfl rfl) ?_
    first | refine g_pu rfl rfl rfl (pu_pick_t rfl rfl rfl) ?_ | refine g_pu rfl rfl rfl (pu_pick_f rfl rfl rfl) ?_
    refine g_nil ?_
    (repeat refine g_seq ?_)
    refine g_cond_t rfl ?_
    (repeat refine g_seq ?_)
    refine g_region ?_
    refine g_pu rfl rfl rfl (pu_assign rfl rfl) ?_
    refine g_pu rfl rfl rfl (pu_assign rfl rfl) ?_
    refine g_nil ?_
    exact g_ret2 rfl rfl rfl (fun w' hm => ⟨(), trivial, rfl, hm.grows [] trivial rfl⟩)

theorem Expand_b (w : World) {p q : Option Addr} {n m : Nat} (c d : Nat) (z : Nat) {key : List (BitVec 8)} {L : List Value} {ls : List (List (BitVec 8))} (ha : By w p n key) (hb : ByL w q m L ls) (hmd : m ≤ d) (hz : z ≤ 8160) (hnb : n ≤ 140737488355200) (hlen : ls.flatten.length ≤ 140737488355200) :
    Spec Try.prog 10 #[.slice p n c, .int .i64 (z : Int), .slice q m d] w (σ := Ow) (fun _ => True) (fun x => .tuple #[x.sl z, .int .i64 0]) Nob (fun x => [x.ck 5 1 (bs (expL key ls.flatten z))]) := by
  refine enter Try.func10 rfl rfl (Mem.start w) ?_
  (repeat refine g_seq ?_)
  refine g_region ?_
  refine g_pu rfl rfl rfl (pu_assign rfl rfl) ?_
  refine g_pu rfl rfl rfl (pu_assign rfl rfl) ?_
  refine g_nil ?_
  (repeat refine g_seq ?_)
  refine g_region ?_
  refine g_pu rfl rfl rfl (pu_move rfl rfl) ?_
  first | refine g_pu rfl rfl rfl (pu_lss_t rfl rfl rfl (by omega)) ?_ | refine g_pu rfl rfl rfl (pu_lss_f rfl rfl rfl (by omega)) ?_ | refine g_pu rfl rfl rfl (pu_lss rfl rfl rfl) ?_
  refine g_pu rfl rfl rfl (pu_move rfl rfl) ?_
  first | refine g_pass rfl rfl rfl ?_ | refine g_pu rfl rfl rfl (pu_move rfl rfl) ?_
  first | refine g_pass rfl rfl rfl ?_ | refine g_pu rfl rfl rfl (pu_gtr_t rfl rfl rfl (by omega)) ?_ | refine g_pu rfl rfl rfl (pu_gtr_f rfl rfl rfl (by omega)) ?_ | refine g_pu rfl rfl rfl (pu_gtr rfl rfl rfl) ?_
  first | refine g_pu rfl rfl rfl (pu_pick_t rfl rfl rfl) ?_ | refine g_pu rfl rfl rfl (pu_pick_f rfl rfl rfl) ?_
  refine g_nil ?_
  (repeat refine g_seq ?_)
  refine g_cond_f rfl (g_skip ?_)
  (repeat refine g_seq ?_)
  refine g_region ?_
  refine g_pu rfl rfl rfl (pu_move rfl rfl) ?_
  refine g_call [20] rfl rfl rfl rfl rfl rfl (fun w' hm => Join_b w' d (hb.m hm) hmd (by omega)) (fun x20 _ => ?_)
  refine g_pu rfl rfl rfl (pu_assign rfl rfl) ?_
  refine g_nil ?_
  (repeat refine g_seq ?_)
  refine g_region ?_
  refine g_pu rfl rfl rfl (pu_assign rfl rfl) ?_
  refine g_pu rfl rfl rfl (pu_assign rfl rfl) ?_
  refine g_nil ?_
  (repeat refine g_seq ?_)
  refine g_region ?_
  refine g_pu rfl rfl rfl (pu_assign rfl rfl) ?_
  refine g_nil ?_
  generalize ls.flatten = W at hlen
  refine g_nilOwn 80 34 1 rfl ?_
  refine g_nilOwn 90 5 1 rfl ?_
  refine g_block (g_loop3 (fun (k : Nat) (y x : Ow) => [(0, .slice p n c), (1, .int .i64 (z : Int)), (8, x20.sl W.length), (9, x.sl (32 * k)), (10, y.sl (expT key W k).length), (11, .int .i64 ((k + 1 : Nat) : Int))]) (fun k y x => [(20, x20.ck 5 1 (bs W)), (80, y.ck 34 1 (bs (expT key W k))), (90, x.ck 5 1 (bs (expO key W k)))]) (fun k _ _ => 32 * k < z + 32) (fun k _ _ => z + 32 - 32 * k) 0 ⟨none, 0⟩ ⟨none, 0⟩ ⟨rfl, rfl, rfl, rfl, rfl, rfl, trivial⟩ ⟨rfl, rfl, rfl, trivial⟩ (by omega) ?_)
  intro k y x hk
  have hol := expO_length key W k
  have htl := expT_le key W k
  by_cases hlt : 32 * k < z
  · (repeat refine g_seq ?_)
    refine g_region ?_
    refine g_pu rfl rfl rfl (pu_move rfl rfl) ?_
    first | refine g_pu rfl rfl rfl (pu_len rfl rfl) ?_ | refine g_pu rfl rfl rfl (pu_lenS rfl rfl) ?_
    refine g_pu rfl rfl rfl (pu_move rfl rfl) ?_
    refine g_pu rfl rfl rfl (pu_lss_t rfl rfl rfl (by omega)) ?_
    refine g_nil ?_
    (repeat refine g_seq ?_)
    refine g_cond_t rfl (g_skip ?_)
    have hts := expT_succ key W k
    have hT : hmacL key [expT key W k, W, [BitVec.ofInt 8 ((k + 1 : Nat) : Int)]].flatten = expT key W (k + 1) := by
      rw [show [expT key W k, W, [BitVec.ofInt 8 ((k + 1 : Nat) : Int)]].flatten = expT key W k ++ W ++ [BitVec.ofInt 8 ((k + 1 : Nat) : Int)] by simp]
      rfl
    have hO : expO key W (k + 1) = expO key W k ++ expT key W (k + 1) := rfl
    (repeat refine g_seq ?_); refine g_block ?_
    (repeat refine g_seq ?_)
    refine g_region ?_
    refine g_pu rfl rfl rfl (pu_move rfl rfl) ?_
    refine g_pu rfl rfl rfl (pu_move rfl rfl) ?_
    refine g_pu rfl rfl rfl (pu_move rfl rfl) ?_
    refine g_pu rfl rfl rfl (pu_move rfl rfl) ?_
    refine g_pu rfl rfl rfl (pu_convI_8 rfl rfl) ?_
    refine g_lo [32] rfl rfl rfl rfl (lo_buildSlice rfl rfl (by decide) (by decide) rfl rfl) (fun q32 hq32 => ?_)
    refine g_lo [33] rfl rfl rfl rfl (lo_buildSlice rfl rfl (by decide) (by decide) rfl rfl) (fun b33 hb33 => ?_)
    refine g_call [] rfl rfl rfl rfl rfl rfl (fun w' hm => Tag_b w' c _ (LL := [y.sl (expT key W k).length, x20.sl W.length, .slice (some ⟨q32, 0, none⟩) 1 1]) (ls := [expT key W k, W, [BitVec.ofInt 8 ((k + 1 : Nat) : Int)]]) (ha.m hm) ⟨hm.rowA 33 rfl, rfl, All2.cons (IsB.own 80 rfl hm rfl (by omega)) (All2.cons (IsB.own 20 rfl hm rfl (by omega)) (All2.cons (IsB.full (l := [BitVec.ofInt 8 ((k + 1 : Nat) : Int)]) 32 rfl hm rfl (by omega)) All2.nil)), by omega⟩ hnb (fun l hl => by simp only [List.mem_cons, List.not_mem_nil, or_false] at hl; rcases hl with rfl | rfl | rfl <;> first | omega | simp) (by simp; omega)) (fun _ _ => ?_)
    rw [hT]
    refine g_lo [12] rfl rfl rfl rfl (lo_alloc rfl) (fun b12 hb12 => ?_)
    refine g_storeL 12 (s := 32) (C := bs (expT key W (k + 1))) rfl rfl rfl rfl rfl rfl (by rw [bs_length, hts]) rfl (oneCell_bs _) ?_
    refine g_nil ?_
    (repeat refine g_seq ?_)
    refine g_region ?_
    refine g_pu rfl rfl rfl (pu_sliceA rfl rfl) ?_
    refine g_pu rfl rfl rfl (pu_assign rfl rfl) ?_
    refine g_nil ?_
    (repeat refine g_seq ?_)
    refine g_region ?_
    refine g_pu rfl rfl rfl (pu_move rfl rfl) ?_
    refine g_pu rfl rfl rfl (pu_move rfl rfl) ?_
    refine g_append1 90 (bs (expT key W (k + 1))) rfl rfl rfl rfl rfl rfl rfl rfl (by rw [bs_length, hol]) (fun w' hm => hm.rowA 12 rfl) (by rw [bs_length, hts]) (oneCell_bs _) (by omega) (by omega) (fun p' c' => ?_)
    rw [← bs_append, ← hO]
    refine g_pu rfl rfl rfl (pu_assign rfl rfl) ?_
    refine g_nil ?_
    refine g_own 12 (L := bs (expT key W (k + 1))) (J := []) (c := 32) (s := 1) (by rw [List.append_nil]; rfl) (by simp [bs_length, hts]) (by omega) ?_
    refine g_retag 12 80 _ rfl rfl ?_
    refine g_blk ?_
    (repeat refine g_seq ?_)
    refine g_region ?_
    refine g_pu rfl rfl rfl (pu_move rfl rfl) ?_
    refine g_pu rfl rfl rfl (pu_addI rfl rfl rfl (by omega)) ?_
    refine g_pu rfl rfl rfl (pu_assign rfl rfl) ?_
    refine g_nil ?_
    exact g_round3 (k + 1) (⟨some ⟨b12, 0, none⟩, 32⟩ : Ow) (⟨p', c'⟩ : Ow) (by omega) (by omega) ⟨rfl, rfl, rfl, by rw [Nat.mul_add]; rfl, by rw [hts]; rfl, rfl, trivial⟩ ⟨rfl, rfl, rfl, trivial⟩
  · (repeat refine g_seq ?_)
    refine g_region ?_
    refine g_pu rfl rfl rfl (pu_move rfl rfl) ?_
    first | refine g_pu rfl rfl rfl (pu_len rfl rfl) ?_ | refine g_pu rfl rfl rfl (pu_lenS rfl rfl) ?_
    refine g_pu rfl rfl rfl (pu_move rfl rfl) ?_
    refine g_pu rfl rfl rfl (pu_lss_f rfl rfl rfl (by omega)) ?_
    refine g_nil ?_
    (repeat refine g_seq ?_)
    refine g_cond_f rfl (g_exit rfl ?_)
    refine g_know (φ := 32 * k ≤ x.c) (fun w' hm => by have := Own.le (hm.holds 90 _ rfl); rwa [bs_length, hol] at this) (fun hxc => ?_)
    (repeat refine g_seq ?_)
    refine g_region ?_
    refine g_pu rfl rfl rfl (pu_move rfl rfl) ?_
    refine g_pu rfl rfl rfl (pu_move rfl rfl) ?_
    refine g_pu rfl rfl rfl (pu_slice_h z rfl rfl rfl rfl (by omega)) ?_
    refine g_pu rfl rfl rfl (pu_assign rfl rfl) ?_
    refine g_pu rfl rfl rfl (pu_assign rfl rfl) ?_
    refine g_nil ?_
    refine g_fst 90 z rfl ?_
    rw [bs_take, expL_of (show z ≤ 32 * k by omega)]
    exact g_ret2 rfl rfl rfl (fun w' hm => ⟨x, trivial, rfl, hm.grows [90] ⟨rfl, trivial⟩ rfl⟩)

theorem RExpand_bad (w : World) {p q : Option Addr} {n m : Nat} (c d : Nat) (z : Int) (hz : z < 0 ∨ z > 8160) :
    Spec Try.prog 13 #[.slice p n c, .int .i64 z, .slice q m d] w (σ := Unit) (fun _ => True) (fun _ => .tuple #[.slice none 0 0, .int .i64 1]) Nob (fun _ => []) := by
  refine enter Try.func13 rfl rfl (Mem.start w) ?_
  (repeat refine g_seq ?_)
  refine g_region ?_
  refine g_pu rfl rfl rfl (pu_assign rfl rfl) ?_
  refine g_pu rfl rfl rfl (pu_assign rfl rfl) ?_
  refine g_nil ?_
  rcases hz with hz | hz
  · (repeat refine g_seq ?_)
    refine g_region ?_
    refine g_pu rfl rfl rfl (pu_move rfl rfl) ?_
    first | refine g_pu rfl rfl rfl (pu_lss_t rfl rfl rfl (by omega)) ?_ | refine g_pu rfl rfl rfl (pu_lss_f rfl rfl rfl (by omega)) ?_ | refine g_pu rfl rfl rfl (pu_lss rfl rfl rfl) ?_
    refine g_pu rfl rfl rfl (pu_move rfl rfl) ?_
    first | refine g_pass rfl rfl rfl ?_ | refine g_pu rfl rfl rfl (pu_move rfl rfl) ?_
    first | refine g_pass rfl rfl rfl ?_ | refine g_pu rfl rfl rfl (pu_gtr_t rfl rfl rfl (by omega)) ?_ | refine g_pu rfl rfl rfl (pu_gtr_f rfl rfl rfl (by omega)) ?_ | refine g_pu rfl rfl rfl (pu_gtr rfl rfl rfl) ?_
    first | refine g_pu rfl rfl rfl (pu_pick_t rfl rfl rfl) ?_ | refine g_pu rfl rfl rfl (pu_pick_f rfl rfl rfl) ?_
    refine g_nil ?_
    (repeat refine g_seq ?_)
    refine g_cond_t rfl ?_
    (repeat refine g_seq ?_)
    refine g_region ?_
    refine g_pu rfl rfl rfl (pu_assign rfl rfl) ?_
    refine g_pu rfl rfl rfl (pu_assign rfl rfl) ?_
    refine g_nil ?_
    exact g_ret2 rfl rfl rfl (fun w' hm => ⟨(), trivial, rfl, hm.grows [] trivial rfl⟩)
  · have hz0 : ¬ z < 0 := by omega
    (repeat refine g_seq ?_)
    refine g_region ?_
    refine g_pu rfl rfl rfl (pu_move rfl rfl) ?_
    first | refine g_pu rfl rfl rfl (pu_lss_t rfl rfl rfl (by omega)) ?_ | refine g_pu rfl rfl rfl (pu_lss_f rfl rfl rfl (by omega)) ?_ | refine g_pu rfl rfl rfl (pu_lss rfl rfl rfl) ?_
    refine g_pu rfl rfl rfl (pu_move rfl rfl) ?_
    first | refine g_pass rfl rfl rfl ?_ | refine g_pu rfl rfl rfl (pu_move rfl rfl) ?_
    first | refine g_pass rfl rfl rfl ?_ | refine g_pu rfl rfl rfl (pu_gtr_t rfl rfl rfl (by omega)) ?_ | refine g_pu rfl rfl rfl (pu_gtr_f rfl rfl rfl (by omega)) ?_ | refine g_pu rfl rfl rfl (pu_gtr rfl rfl rfl) ?_
    first | refine g_pu rfl rfl rfl (pu_pick_t rfl rfl rfl) ?_ | refine g_pu rfl rfl rfl (pu_pick_f rfl rfl rfl) ?_
    refine g_nil ?_
    (repeat refine g_seq ?_)
    refine g_cond_t rfl ?_
    (repeat refine g_seq ?_)
    refine g_region ?_
    refine g_pu rfl rfl rfl (pu_assign rfl rfl) ?_
    refine g_pu rfl rfl rfl (pu_assign rfl rfl) ?_
    refine g_nil ?_
    exact g_ret2 rfl rfl rfl (fun w' hm => ⟨(), trivial, rfl, hm.grows [] trivial rfl⟩)

theorem RExpand_b (w : World) {p q : Option Addr} {n m : Nat} (c d : Nat) (z : Nat) {key W : List (BitVec 8)} (ha : By w p n key) (hb : By w q m W) (hz : z ≤ 8160) (hnb : n ≤ 140737488355200) (hmb : m ≤ 140737488355072) :
    Spec Try.prog 13 #[.slice p n c, .int .i64 (z : Int), .slice q m d] w (σ := Ow) (fun _ => True) (fun x => .tuple #[x.sl z, .int .i64 0]) Nob (fun x => [x.ck 5 1 (bs (expL key W z))]) := by
  refine enter Try.func13 rfl rfl (Mem.start w) ?_
  have hbl := hb.len
  (repeat refine g_seq ?_)
  refine g_region ?_
  refine g_pu rfl rfl rfl (pu_assign rfl rfl) ?_
  refine g_pu rfl rfl rfl (pu_assign rfl rfl) ?_
  refine g_nil ?_
  (repeat refine g_seq ?_)
  refine g_region ?_
  refine g_pu rfl rfl rfl (pu_move rfl rfl) ?_
  first | refine g_pu rfl rfl rfl (pu_lss_t rfl rfl rfl (by omega)) ?_ | refine g_pu rfl rfl rfl (pu_lss_f rfl rfl rfl (by omega)) ?_ | refine g_pu rfl rfl rfl (pu_lss rfl rfl rfl) ?_
  refine g_pu rfl rfl rfl (pu_move rfl rfl) ?_
  first | refine g_pass rfl rfl rfl ?_ | refine g_pu rfl rfl rfl (pu_move rfl rfl) ?_
  first | refine g_pass rfl rfl rfl ?_ | refine g_pu rfl rfl rfl (pu_gtr_t rfl rfl rfl (by omega)) ?_ | refine g_pu rfl rfl rfl (pu_gtr_f rfl rfl rfl (by omega)) ?_ | refine g_pu rfl rfl rfl (pu_gtr rfl rfl rfl) ?_
  first | refine g_pu rfl rfl rfl (pu_pick_t rfl rfl rfl) ?_ | refine g_pu rfl rfl rfl (pu_pick_f rfl rfl rfl) ?_
  refine g_nil ?_
  (repeat refine g_seq ?_)
  refine g_cond_f rfl (g_skip ?_)
  (repeat refine g_seq ?_)
  refine g_region ?_
  refine g_pu rfl rfl rfl (pu_assign rfl rfl) ?_
  refine g_nil ?_
  (repeat refine g_seq ?_)
  refine g_region ?_
  refine g_pu rfl rfl rfl (pu_assign rfl rfl) ?_
  refine g_nil ?_
  (repeat refine g_seq ?_)
  refine g_region ?_
  refine g_pu rfl rfl rfl (pu_assign rfl rfl) ?_
  refine g_nil ?_
  refine g_nilOwn 80 5 1 rfl ?_
  refine g_nilOwn 90 5 1 rfl ?_
  refine g_block (g_loop3 (fun (k : Nat) (y x : Ow) => [(0, .slice p n c), (1, .int .i64 (z : Int)), (2, .slice q m d), (8, x.sl (32 * k)), (9, y.sl (expT key W k).length), (10, .int .i64 ((k + 1 : Nat) : Int))]) (fun k y x => [(80, y.ck 5 1 (bs (expT key W k))), (90, x.ck 5 1 (bs (expO key W k)))]) (fun k _ _ => 32 * k < z + 32) (fun k _ _ => z + 32 - 32 * k) 0 ⟨none, 0⟩ ⟨none, 0⟩ ⟨rfl, rfl, rfl, rfl, rfl, rfl, trivial⟩ ⟨rfl, rfl, trivial⟩ (by omega) ?_)
  intro k y x hk
  have hol := expO_length key W k
  have htl := expT_le key W k
  by_cases hlt : 32 * k < z
  · (repeat refine g_seq ?_)
    refine g_region ?_
    refine g_pu rfl rfl rfl (pu_move rfl rfl) ?_
    first | refine g_pu rfl rfl rfl (pu_len rfl rfl) ?_ | refine g_pu rfl rfl rfl (pu_lenS rfl rfl) ?_
    refine g_pu rfl rfl rfl (pu_move rfl rfl) ?_
    refine g_pu rfl rfl rfl (pu_lss_t rfl rfl rfl (by omega)) ?_
    refine g_nil ?_
    (repeat refine g_seq ?_)
    refine g_cond_t rfl (g_skip ?_)
    have hts := expT_succ key W k
    have hT : hmacL key (expT key W k ++ W ++ [BitVec.ofInt 8 ((k + 1 : Nat) : Int)]) = expT key W (k + 1) := rfl
    have hO : expO key W (k + 1) = expO key W k ++ expT key W (k + 1) := rfl
    generalize hB : BitVec.ofInt 8 ((k + 1 : Nat) : Int) = B at hT
    have hal : (expT key W k ++ W ++ [B]).length = (expT key W k).length + m + 1 := by simp [hbl]; omega
    (repeat refine g_seq ?_); refine g_block ?_
    (repeat refine g_seq ?_)
    refine g_region ?_
    refine g_pu rfl rfl rfl (pu_move rfl rfl) ?_
    refine g_call [26] rfl rfl rfl rfl rfl rfl (fun w' hm => Copy_b w' _ (By.ow 80 rfl hm rfl (by omega))) (fun x26 _ => ?_)
    refine g_pu rfl rfl rfl (pu_move rfl rfl) ?_
    refine g_append1 26 (bs W) rfl rfl rfl rfl rfl rfl rfl rfl (by rw [bs_length]) (fun w' hm => (hb.m hm).rd) (by rw [bs_length, hbl]) (oneCell_bs _) (by omega) (by omega) (fun p1 c1 => ?_)
    refine g_pu rfl rfl rfl (pu_move rfl rfl) ?_
    refine g_pu rfl rfl rfl (pu_convI_8 rfl rfl) ?_
    refine g_lo [31] rfl rfl rfl rfl (lo_buildSlice rfl rfl (by decide) (by decide) rfl rfl) (fun b31 hb31 => ?_)
    refine g_append1 26 (bs [B]) rfl rfl rfl rfl rfl rfl rfl rfl (by rw [List.length_append, bs_length, bs_length, hbl]) (fun w' hm => by rw [← hB]; exact hm.rowA 31 rfl) rfl (oneCell_bs _) (by omega) (by omega) (fun p2 c2 => ?_)
    rw [← bs_append, ← bs_append]
    refine g_pu rfl rfl rfl (pu_assign rfl rfl) ?_
    refine g_nil ?_
    (repeat refine g_seq ?_)
    refine g_region ?_
    refine g_pu rfl rfl rfl (pu_move rfl rfl) ?_
    refine g_pu rfl rfl rfl (pu_move rfl rfl) ?_
    refine g_call [] rfl rfl rfl rfl rfl rfl (fun w' hm => RTag_b w' c _ (b := expT key W k ++ W ++ [B]) (ha.m hm) (By.own 26 rfl hm hal (by omega)) hnb (by omega)) (fun _ _ => ?_)
    rw [hT]
    refine g_lo [12] rfl rfl rfl rfl (lo_alloc rfl) (fun b12 hb12 => ?_)
    refine g_storeL 12 (s := 32) (C := bs (expT key W (k + 1))) rfl rfl rfl rfl rfl rfl (by rw [bs_length, hts]) rfl (oneCell_bs _) ?_
    refine g_nil ?_
    (repeat refine g_seq ?_)
    refine g_region ?_
    refine g_pu rfl rfl rfl (pu_sliceA rfl rfl) ?_
    refine g_call [37] rfl rfl rfl rfl rfl rfl (fun w' hm => Copy_b w' _ (l := expT key W (k + 1)) (By.full 12 rfl hm hts (by omega))) (fun x37 _ => ?_)
    refine g_pu rfl rfl rfl (pu_assign rfl rfl) ?_
    refine g_nil ?_
    (repeat refine g_seq ?_)
    refine g_region ?_
    refine g_pu rfl rfl rfl (pu_move rfl rfl) ?_
    refine g_pu rfl rfl rfl (pu_move rfl rfl) ?_
    refine g_append1 90 (bs (expT key W (k + 1))) rfl rfl rfl rfl rfl rfl rfl rfl (by rw [bs_length, hol]) (fun w' hm => Ow.rd (t := 37) rfl hm) (by rw [bs_length, hts]) (oneCell_bs _) (by omega) (by omega) (fun p' c' => ?_)
    rw [← bs_append, ← hO]
    refine g_pu rfl rfl rfl (pu_assign rfl rfl) ?_
    refine g_nil ?_
    refine g_retag 37 80 _ rfl rfl ?_
    refine g_blk ?_
    (repeat refine g_seq ?_)
    refine g_region ?_
    refine g_pu rfl rfl rfl (pu_move rfl rfl) ?_
    refine g_pu rfl rfl rfl (pu_addI rfl rfl rfl (by omega)) ?_
    refine g_pu rfl rfl rfl (pu_assign rfl rfl) ?_
    refine g_nil ?_
    exact g_round3 (k + 1) x37 (⟨p', c'⟩ : Ow) (by omega) (by omega) ⟨rfl, rfl, rfl, by rw [Nat.mul_add]; rfl, by rw [hts]; rfl, rfl, trivial⟩ ⟨rfl, rfl, trivial⟩
  · (repeat refine g_seq ?_)
    refine g_region ?_
    refine g_pu rfl rfl rfl (pu_move rfl rfl) ?_
    first | refine g_pu rfl rfl rfl (pu_len rfl rfl) ?_ | refine g_pu rfl rfl rfl (pu_lenS rfl rfl) ?_
    refine g_pu rfl rfl rfl (pu_move rfl rfl) ?_
    refine g_pu rfl rfl rfl (pu_lss_f rfl rfl rfl (by omega)) ?_
    refine g_nil ?_
    (repeat refine g_seq ?_)
    refine g_cond_f rfl (g_exit rfl ?_)
    refine g_know (φ := 32 * k ≤ x.c) (fun w' hm => by have := Own.le (hm.holds 90 _ rfl); rwa [bs_length, hol] at this) (fun hxc => ?_)
    have hel := expL_length (key := key) (info := W) z
    (repeat refine g_seq ?_)
    refine g_region ?_
    refine g_pu rfl rfl rfl (pu_move rfl rfl) ?_
    refine g_pu rfl rfl rfl (pu_move rfl rfl) ?_
    refine g_pu rfl rfl rfl (pu_slice_h z rfl rfl rfl rfl (by omega)) ?_
    refine g_fst 90 z rfl ?_
    rw [bs_take, expL_of (show z ≤ 32 * k by omega)]
    refine g_call [44] rfl rfl rfl rfl rfl rfl (fun w' hm => Copy_b w' _ (l := expL key W z) (By.own 90 rfl hm hel (by omega))) (fun x44 _ => ?_)
    refine g_pu rfl rfl rfl (pu_assign rfl rfl) ?_
    refine g_pu rfl rfl rfl (pu_assign rfl rfl) ?_
    refine g_nil ?_
    exact g_ret2 rfl rfl rfl (fun w' hm => ⟨x44, trivial, rfl, hm.grows [44] ⟨rfl, trivial⟩ rfl⟩)
end Go.Sx

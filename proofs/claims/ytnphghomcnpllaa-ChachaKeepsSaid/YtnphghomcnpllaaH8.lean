/-
  Bytes turned by the stream: of the program and of its reference. All bytes together are at most 2^46.
-/
import Derived.Test.YtnphghomcnpllaaH7
import Derived.Test.YtnphghomcnpllaaC10
import Derived.Test.YtnphghomcnpllaaC6
import Derived.Test.YtnphghomcnpllaaSxEq
set_option linter.unusedVariables false
set_option linter.unusedSimpArgs false
namespace Go.Sx
open Go Go.Proofs

def turnE (key : List (BitVec 8)) (n : Nat) : Int := if key.length ≠ 32 then 2 else if n > 65536 then 11 else 0
def turnL (key all : List (BitVec 8)) : List (BitVec 8) := if turnE key all.length = 0 then xorL all (streamL key 0 all.length) else []
theorem turnL_length {key all : List (BitVec 8)} : (turnL key all).length ≤ all.length := by
  unfold turnL
  split
  · rw [xorL_length (by rw [streamL_length])]; omega
  · simp
theorem xorV_two {a b : List (BitVec 8)} (h : b.length = a.length) : xorV [a, b] = xorL a b ∧ xorE [a, b] = 0 := by
  have h1 : xorOk [a, b] = true := by simp [xorOk, h]
  exact ⟨by simp [xorV, h1], by simp [xorE, h1]⟩
theorem xorL_comm (a b : List (BitVec 8)) : xorL a b = xorL b a := by
  unfold xorL
  exact List.zipWith_comm_of_comm (fun x y => BitVec.xor_comm x y)
theorem xorL_back {a b : List (BitVec 8)} (h : b.length = a.length) : xorL (xorL a b) b = a := by
  apply List.ext_getElem?
  intro i
  unfold xorL
  by_cases hi : i < a.length
  · rw [List.getElem?_zipWith, List.getElem?_zipWith, List.getElem?_eq_getElem hi, List.getElem?_eq_getElem (show i < b.length by omega)]
    simp [BitVec.xor_assoc]
  · rw [List.getElem?_eq_none (by simp; omega), List.getElem?_eq_none (by omega)]

theorem FTurn_b (w : World) (bb : Nat) {key : List (BitVec 8)} (t : Nat) {p : Option Addr} {n : Nat} (c : Nat) {L : List Value} {ls : List (List (BitVec 8))} (h : w.heap[bb]? = some (.cells (flowC key t).toArray 72 (0, 0))) (hk : key.length = 32) (ha : ByL w p n L ls) (hc : n ≤ c) (hlen : ls.flatten.length ≤ 281474976710656) (hD : 0 < n → ∀ b o, p = some ⟨b, o, none⟩ → ¬ b = bb) (hE : ∀ q m c, Value.slice q m c ∈ L → 0 < m → ∀ j, At q j → ¬ j = bb) (hn : t + ls.flatten.length ≤ 65536) :
    Spec Try.prog 35 #[.pointer (some ⟨bb, 0, none⟩), .slice p n c] w (σ := Ow) (fun _ => True) (fun x => .tuple #[x.sl ls.flatten.length, .int .i64 0]) (fun j => j = bb) (fun x => [x.ck 5 1 (bs (xorL ls.flatten (streamL key t ls.flatten.length))), .pt bb (.cells (flowC key (t + ls.flatten.length)).toArray 72 (0, 0))]) := by
  refine enter Try.func35 rfl rfl (Mem.start1 (.pt bb (.cells (flowC key t).toArray 72 (0, 0))) h trivial (fun j hj => by rw [show j = bb from hj]; exact lt_of_some h)) ?_
  have hload : ∀ u, (flowC key u).toArray[0 + 32]? = some (.int .i64 (u : Int)) := fun u => by simp [flowC, bs_length, hk]
  have hx := xorV_two (a := ls.flatten) (b := streamL key t ls.flatten.length) (by rw [streamL_length])
  have hxl := xorL_length (a := ls.flatten) (b := streamL key t ls.flatten.length) (by rw [streamL_length])
  (repeat refine g_seq ?_)
  refine g_region ?_
  refine g_pu rfl rfl rfl (pu_assign rfl rfl) ?_
  refine g_pu rfl rfl rfl (pu_assign rfl rfl) ?_
  refine g_nil ?_
  (repeat refine g_seq ?_)
  refine g_region ?_
  refine g_pu rfl rfl rfl (pu_move rfl rfl) ?_
  refine g_call [10] rfl rfl rfl rfl rfl rfl (fun w' hm => Join_b w' c (ha.mD hm hD hE) hc hlen) (fun x10 _ => ?_)
  refine g_pu rfl rfl rfl (pu_assign rfl rfl) ?_
  refine g_nil ?_
  (repeat refine g_seq ?_)
  refine g_region ?_
  refine g_pu rfl rfl rfl (pu_move rfl rfl) ?_
  first | refine g_pu rfl rfl rfl (pu_len rfl rfl) ?_ | refine g_pu rfl rfl rfl (pu_lenS rfl rfl) ?_
  refine g_pu rfl rfl rfl (pu_move rfl rfl) ?_
  refine g_pu rfl rfl rfl (pu_nil rfl rfl) ?_
  refine g_pu rfl rfl rfl (pu_fieldAddr (by decide) rfl rfl) ?_
  refine g_pu rfl rfl rfl (pu_load 0 rfl rfl rfl (hload t)) ?_
  refine g_pu rfl rfl rfl (pu_subI rfl rfl rfl (by omega)) ?_
  first | refine g_pu rfl rfl rfl (pu_gtr_t rfl rfl rfl (by omega)) ?_ | refine g_pu rfl rfl rfl (pu_gtr_f rfl rfl rfl (by omega)) ?_ | refine g_pu rfl rfl rfl (pu_gtr rfl rfl rfl) ?_
  refine g_nil ?_
  (repeat refine g_seq ?_)
  refine g_cond_f rfl (g_skip ?_)
  (repeat refine g_seq ?_)
  refine g_region ?_
  refine g_pu rfl rfl rfl (pu_move rfl rfl) ?_
  refine g_pu rfl rfl rfl (pu_move rfl rfl) ?_
  first | refine g_pu rfl rfl rfl (pu_len rfl rfl) ?_ | refine g_pu rfl rfl rfl (pu_lenS rfl rfl) ?_
  refine g_callW [0] [23, 0] rfl rfl rfl rfl rfl rfl (fun j hj => ⟨0, by simp, _, rfl, hj⟩) (fun w' hm => Next_b w' bb t ls.flatten.length (hm.holds 0 _ rfl) hk hn) (fun x23 _ => ?_)
  refine g_pu rfl rfl rfl (pu_move rfl rfl) ?_
  refine g_pu rfl rfl rfl (pu_extract rfl rfl rfl) ?_
  refine g_pu rfl rfl rfl (pu_extract rfl rfl rfl) ?_
  refine g_pu rfl rfl rfl (pu_assign rfl rfl) ?_
  refine g_pu rfl rfl rfl (pu_assign rfl rfl) ?_
  refine g_nil ?_
  (repeat refine g_seq ?_)
  refine g_region ?_
  refine g_pu rfl rfl rfl (pu_move rfl rfl) ?_
  refine g_pu rfl rfl rfl (pu_move rfl rfl) ?_
  refine g_lo [28] rfl rfl rfl rfl (lo_buildSlice rfl rfl (by decide) (by decide) rfl rfl) (fun b28 hb28 => ?_)
  refine g_call [29] rfl rfl rfl rfl rfl rfl (fun w' hm => Xor_b w' 2 (L := [x10.sl ls.flatten.length, x23.sl ls.flatten.length]) (ls := [ls.flatten, streamL key t ls.flatten.length]) ⟨hm.rowA 28 rfl, rfl, All2.cons (IsB.own 10 rfl hm rfl (by omega)) (All2.cons (IsB.own 23 rfl hm (by rw [streamL_length]) (by omega)) All2.nil), by omega⟩ (by omega)) (fun x29 _ => ?_)
  rw [hx.1, hx.2, hxl]
  refine g_pu rfl rfl rfl (pu_extract rfl rfl rfl) ?_
  refine g_pu rfl rfl rfl (pu_extract rfl rfl rfl) ?_
  refine g_pu rfl rfl rfl (pu_assign rfl rfl) ?_
  refine g_pu rfl rfl rfl (pu_assign rfl rfl) ?_
  refine g_nil ?_
  exact g_ret2 rfl rfl rfl (fun w' hm => ⟨x29, trivial, rfl, hm.grows [29, 0] ⟨rfl, rfl, trivial⟩ rfl⟩)
theorem FTurn_e (w : World) (bb : Nat) {key : List (BitVec 8)} (t : Nat) {p : Option Addr} {n : Nat} (c : Nat) {L : List Value} {ls : List (List (BitVec 8))} (h : w.heap[bb]? = some (.cells (flowC key t).toArray 72 (0, 0))) (hk : key.length = 32) (ha : ByL w p n L ls) (hc : n ≤ c) (hlen : ls.flatten.length ≤ 281474976710656) (hD : 0 < n → ∀ b o, p = some ⟨b, o, none⟩ → ¬ b = bb) (hE : ∀ q m c, Value.slice q m c ∈ L → 0 < m → ∀ j, At q j → ¬ j = bb) (ht : t ≤ 65536) (hn : ¬ t + ls.flatten.length ≤ 65536) :
    Spec Try.prog 35 #[.pointer (some ⟨bb, 0, none⟩), .slice p n c] w (σ := Unit) (fun _ => True) (fun _ => .tuple #[.slice none 0 0, .int .i64 11]) (fun j => j = bb) (fun _ => [.pt bb (.cells (flowC key t).toArray 72 (0, 0))]) := by
  refine enter Try.func35 rfl rfl (Mem.start1 (.pt bb (.cells (flowC key t).toArray 72 (0, 0))) h trivial (fun j hj => by rw [show j = bb from hj]; exact lt_of_some h)) ?_
  have hload : ∀ u, (flowC key u).toArray[0 + 32]? = some (.int .i64 (u : Int)) := fun u => by simp [flowC, bs_length, hk]
  (repeat refine g_seq ?_)
  refine g_region ?_
  refine g_pu rfl rfl rfl (pu_assign rfl rfl) ?_
  refine g_pu rfl rfl rfl (pu_assign rfl rfl) ?_
  refine g_nil ?_
  (repeat refine g_seq ?_)
  refine g_region ?_
  refine g_pu rfl rfl rfl (pu_move rfl rfl) ?_
  refine g_call [10] rfl rfl rfl rfl rfl rfl (fun w' hm => Join_b w' c (ha.mD hm hD hE) hc hlen) (fun x10 _ => ?_)
  refine g_pu rfl rfl rfl (pu_assign rfl rfl) ?_
  refine g_nil ?_
  (repeat refine g_seq ?_)
  refine g_region ?_
  refine g_pu rfl rfl rfl (pu_move rfl rfl) ?_
  first | refine g_pu rfl rfl rfl (pu_len rfl rfl) ?_ | refine g_pu rfl rfl rfl (pu_lenS rfl rfl) ?_
  refine g_pu rfl rfl rfl (pu_move rfl rfl) ?_
  refine g_pu rfl rfl rfl (pu_nil rfl rfl) ?_
  refine g_pu rfl rfl rfl (pu_fieldAddr (by decide) rfl rfl) ?_
  refine g_pu rfl rfl rfl (pu_load 0 rfl rfl rfl (hload t)) ?_
  refine g_pu rfl rfl rfl (pu_subI rfl rfl rfl (by omega)) ?_
  first | refine g_pu rfl rfl rfl (pu_gtr_t rfl rfl rfl (by omega)) ?_ | refine g_pu rfl rfl rfl (pu_gtr_f rfl rfl rfl (by omega)) ?_ | refine g_pu rfl rfl rfl (pu_gtr rfl rfl rfl) ?_
  refine g_nil ?_
  (repeat refine g_seq ?_)
  refine g_cond_t rfl ?_
  (repeat refine g_seq ?_)
  refine g_region ?_
  refine g_pu rfl rfl rfl (pu_assign rfl rfl) ?_
  refine g_pu rfl rfl rfl (pu_assign rfl rfl) ?_
  refine g_nil ?_
  exact g_ret2 rfl rfl rfl (fun w' hm => ⟨(), trivial, rfl, hm.grows [0] ⟨rfl, trivial⟩ rfl⟩)

theorem Turn_b (w : World) {q : Option Addr} {m : Nat} (d : Nat) {key : List (BitVec 8)} {p : Option Addr} {n : Nat} (c : Nat) {L : List Value} {ls : List (List (BitVec 8))} (hb : By w q m key) (ha : ByL w p n L ls) (hc : n ≤ c) (hlen : ls.flatten.length ≤ 281474976710656) :
    Spec Try.prog 18 #[.slice q m d, .slice p n c] w (σ := Ow) (fun _ => True) (fun x => .tuple #[x.sl (turnL key ls.flatten).length, .int .i64 (turnE key ls.flatten.length)]) Nob (fun x => [x.ck 5 1 (bs (turnL key ls.flatten))]) := by
  refine enter Try.func18 rfl rfl (Mem.start w) ?_
  have hkl := hb.len
  (repeat refine g_seq ?_)
  refine g_region ?_
  refine g_pu rfl rfl rfl (pu_assign rfl rfl) ?_
  refine g_pu rfl rfl rfl (pu_assign rfl rfl) ?_
  refine g_nil ?_
  by_cases h32 : m = 32
  · subst h32
    (repeat refine g_seq ?_)
    refine g_region ?_
    refine g_pu rfl rfl rfl (pu_move rfl rfl) ?_
    refine g_call [10] rfl rfl rfl rfl rfl rfl (fun w' hm => New_b w' d (hb.m hm)) (fun x10 _ => ?_)
    refine g_pu rfl rfl rfl (pu_move rfl rfl) ?_
    refine g_pu rfl rfl rfl (pu_extract rfl rfl rfl) ?_
    refine g_pu rfl rfl rfl (pu_extract rfl rfl rfl) ?_
    refine g_pu rfl rfl rfl (pu_assign rfl rfl) ?_
    refine g_pu rfl rfl rfl (pu_assign rfl rfl) ?_
    refine g_nil ?_
    refine g_know (φ := w.heap.size ≤ x10) (fun w' hm => (hm.above 10 _ rfl x10 rfl).resolve_right (fun h => h)) (fun hx10 => ?_)
    (repeat refine g_seq ?_)
    refine g_region ?_
    refine g_pu rfl rfl rfl (pu_move rfl rfl) ?_
    first | refine g_pu rfl rfl rfl (pu_neq_t rfl rfl rfl (by omega)) ?_ | refine g_pu rfl rfl rfl (pu_neq_f rfl rfl rfl (by omega)) ?_ | refine g_pu rfl rfl rfl (pu_neq rfl rfl rfl) ?_
    refine g_nil ?_
    (repeat refine g_seq ?_)
    refine g_cond_f rfl (g_skip ?_)
    by_cases hn : ls.flatten.length ≤ 65536
    · have hE0 : turnE key ls.flatten.length = 0 := by unfold turnE; rw [if_neg (by omega), if_neg (by omega)]
      have hL0 : turnL key ls.flatten = xorL ls.flatten (streamL key 0 ls.flatten.length) := by unfold turnL; rw [if_pos hE0]
      rw [hE0, hL0, xorL_length (by rw [streamL_length])]
      (repeat refine g_seq ?_)
      refine g_region ?_
      refine g_pu rfl rfl rfl (pu_move rfl rfl) ?_
      refine g_pu rfl rfl rfl (pu_move rfl rfl) ?_
      refine g_callW [10] [18, 10] rfl rfl rfl rfl rfl rfl (fun j hj => ⟨10, by simp, _, rfl, hj⟩) (fun w' hm => FTurn_b w' x10 0 c (hm.holds 10 _ rfl) hkl (ha.m hm) hc hlen (fun h0 b o e h => by have := ha.lt1 h0 b o e; omega) (fun q m c hv h0 j hj h => by have := ha.lt2 q m c hv h0 j hj; omega) (by omega)) (fun x18 _ => ?_)
      refine g_pu rfl rfl rfl (pu_extract rfl rfl rfl) ?_
      refine g_pu rfl rfl rfl (pu_extract rfl rfl rfl) ?_
      refine g_pu rfl rfl rfl (pu_assign rfl rfl) ?_
      refine g_pu rfl rfl rfl (pu_assign rfl rfl) ?_
      refine g_nil ?_
      exact g_ret2 rfl rfl rfl (fun w' hm => ⟨x18, trivial, rfl, hm.grows [18] ⟨rfl, trivial⟩ rfl⟩)
    · have hE0 : turnE key ls.flatten.length = 11 := by unfold turnE; rw [if_neg (by omega), if_pos (by omega)]
      have hL0 : turnL key ls.flatten = [] := by unfold turnL; rw [if_neg (by omega)]
      rw [hE0, hL0]
      (repeat refine g_seq ?_)
      refine g_region ?_
      refine g_pu rfl rfl rfl (pu_move rfl rfl) ?_
      refine g_pu rfl rfl rfl (pu_move rfl rfl) ?_
      refine g_callW [10] [10] rfl rfl rfl rfl rfl rfl (fun j hj => ⟨10, by simp, _, rfl, hj⟩) (fun w' hm => FTurn_e w' x10 0 c (hm.holds 10 _ rfl) hkl (ha.m hm) hc hlen (fun h0 b o e h => by have := ha.lt1 h0 b o e; omega) (fun q m c hv h0 j hj h => by have := ha.lt2 q m c hv h0 j hj; omega) (by omega) (by omega)) (fun _ _ => ?_)
      refine g_pu rfl rfl rfl (pu_extract rfl rfl rfl) ?_
      refine g_pu rfl rfl rfl (pu_extract rfl rfl rfl) ?_
      refine g_pu rfl rfl rfl (pu_assign rfl rfl) ?_
      refine g_pu rfl rfl rfl (pu_assign rfl rfl) ?_
      refine g_nil ?_
      exact g_nilOwn 90 5 1 rfl (g_ret2 rfl rfl rfl (fun w' hm => ⟨⟨none, 0⟩, trivial, rfl, hm.grows [90] ⟨rfl, trivial⟩ rfl⟩))
  · have hE0 : turnE key ls.flatten.length = 2 := by unfold turnE; rw [if_pos (by omega)]
    have hL0 : turnL key ls.flatten = [] := by unfold turnL; rw [if_neg (by omega)]
    rw [hE0, hL0]
    (repeat refine g_seq ?_)
    refine g_region ?_
    refine g_pu rfl rfl rfl (pu_move rfl rfl) ?_
    refine g_call [] rfl rfl rfl rfl rfl rfl (fun w' hm => New_e w' d h32) (fun _ _ => ?_)
    refine g_pu rfl rfl rfl (pu_move rfl rfl) ?_
    refine g_pu rfl rfl rfl (pu_extract rfl rfl rfl) ?_
    refine g_pu rfl rfl rfl (pu_extract rfl rfl rfl) ?_
    refine g_pu rfl rfl rfl (pu_assign rfl rfl) ?_
    refine g_pu rfl rfl rfl (pu_assign rfl rfl) ?_
    refine g_nil ?_
    (repeat refine g_seq ?_)
    refine g_region ?_
    refine g_pu rfl rfl rfl (pu_move rfl rfl) ?_
    first | refine g_pu rfl rfl rfl (pu_neq_t rfl rfl rfl (by omega)) ?_ | refine g_pu rfl rfl rfl (pu_neq_f rfl rfl rfl (by omega)) ?_ | refine g_pu rfl rfl rfl (pu_neq rfl rfl rfl) ?_
    refine g_nil ?_
    (repeat refine g_seq ?_)
    refine g_cond_t rfl ?_
    (repeat refine g_seq ?_)
    refine g_region ?_
    refine g_pu rfl rfl rfl (pu_move rfl rfl) ?_
    refine g_pu rfl rfl rfl (pu_assign rfl rfl) ?_
    refine g_pu rfl rfl rfl (pu_assign rfl rfl) ?_
    refine g_nil ?_
    exact g_nilOwn 90 5 1 rfl (g_ret2 rfl rfl rfl (fun w' hm => ⟨⟨none, 0⟩, trivial, rfl, hm.grows [90] ⟨rfl, trivial⟩ rfl⟩))

theorem RTurn_b (w : World) {q p : Option Addr} {m n : Nat} (d c : Nat) {key all : List (BitVec 8)} (hb : By w q m key) (ha : By w p n all) :
    Spec Try.prog 20 #[.slice q m d, .slice p n c] w (σ := Ow) (fun _ => True) (fun x => .tuple #[x.sl (turnL key all).length, .int .i64 (turnE key n)]) Nob (fun x => [x.ck 5 1 (bs (turnL key all))]) := by
  refine enter Try.func20 rfl rfl (Mem.start w) ?_
  have hkl := hb.len
  have hal := ha.len
  (repeat refine g_seq ?_)
  refine g_region ?_
  refine g_pu rfl rfl rfl (pu_assign rfl rfl) ?_
  refine g_pu rfl rfl rfl (pu_assign rfl rfl) ?_
  refine g_nil ?_
  by_cases h32 : m = 32
  · subst h32
    (repeat refine g_seq ?_)
    refine g_region ?_
    refine g_pu rfl rfl rfl (pu_move rfl rfl) ?_
    first | refine g_pu rfl rfl rfl (pu_len rfl rfl) ?_ | refine g_pu rfl rfl rfl (pu_lenS rfl rfl) ?_
    first | refine g_pu rfl rfl rfl (pu_neq_t rfl rfl rfl (by omega)) ?_ | refine g_pu rfl rfl rfl (pu_neq_f rfl rfl rfl (by omega)) ?_ | refine g_pu rfl rfl rfl (pu_neq rfl rfl rfl) ?_
    refine g_nil ?_
    (repeat refine g_seq ?_)
    refine g_cond_f rfl (g_skip ?_)
    by_cases hn : n ≤ 65536
    · have hE0 : turnE key n = 0 := by unfold turnE; rw [if_neg (by omega), if_neg (by omega)]
      have hL0 : turnL key all = xorL (streamL key 0 n) all := by unfold turnL; rw [hal, if_pos hE0, xorL_comm]
      have hsl := streamL_length key 0 n
      have hll : all.length = (streamL key 0 n).length := by omega
      rw [hE0, hL0, xorL_length (by omega), hsl]
      (repeat refine g_seq ?_)
      refine g_region ?_
      refine g_pu rfl rfl rfl (pu_move rfl rfl) ?_
      first | refine g_pu rfl rfl rfl (pu_len rfl rfl) ?_ | refine g_pu rfl rfl rfl (pu_lenS rfl rfl) ?_
      first | refine g_pu rfl rfl rfl (pu_gtr_t rfl rfl rfl (by omega)) ?_ | refine g_pu rfl rfl rfl (pu_gtr_f rfl rfl rfl (by omega)) ?_ | refine g_pu rfl rfl rfl (pu_gtr rfl rfl rfl) ?_
      refine g_nil ?_
      (repeat refine g_seq ?_)
      refine g_cond_f rfl (g_skip ?_)
      (repeat refine g_seq ?_)
      refine g_region ?_
      refine g_pu rfl rfl rfl (pu_move rfl rfl) ?_
      refine g_pu rfl rfl rfl (pu_move rfl rfl) ?_
      first | refine g_pu rfl rfl rfl (pu_len rfl rfl) ?_ | refine g_pu rfl rfl rfl (pu_lenS rfl rfl) ?_
      refine g_call [17] rfl rfl rfl rfl rfl rfl (fun w' hm => RBytes_b w' d 0 n (hb.m hm) (by omega)) (fun x17 _ => ?_)
      refine g_pu rfl rfl rfl (pu_assign rfl rfl) ?_
      refine g_nil ?_
      generalize streamL key 0 n = st at hsl hll
      (repeat refine g_seq ?_)
      refine g_region ?_
      refine g_pu rfl rfl rfl (pu_assign rfl rfl) ?_
      refine g_nil ?_
      (repeat refine g_seq ?_)
      refine g_block (g_loop (σ := Nat) (fun i => [(1, .slice p n c), (6, x17.sl n), (7, .int .i64 (i : Int))]) (fun i => [(17, x17.ck 5 1 (bs (xorAt st all i)))]) (fun i => i ≤ n) (fun i => n - i) 0 ⟨rfl, rfl, rfl, trivial⟩ ⟨by rw [xorAt_zero]; rfl, trivial⟩ (by omega) ?_)
      intro i hi
      by_cases hlt : i < n
      · (repeat refine g_seq ?_)
        refine g_region ?_
        refine g_pu rfl rfl rfl (pu_move rfl rfl) ?_
        refine g_pu rfl rfl rfl (pu_move rfl rfl) ?_
        first | refine g_pu rfl rfl rfl (pu_len rfl rfl) ?_ | refine g_pu rfl rfl rfl (pu_lenS rfl rfl) ?_
        first | refine g_pu rfl rfl rfl (pu_lss_t rfl rfl rfl (by omega)) ?_ | refine g_pu rfl rfl rfl (pu_lss_f rfl rfl rfl (by omega)) ?_ | refine g_pu rfl rfl rfl (pu_lss rfl rfl rfl) ?_
        refine g_nil ?_
        (repeat refine g_seq ?_)
        refine g_cond_t rfl (g_skip ?_)
        have hg1 : st[i]? = some (st.getD i 0#8) := by rw [List.getElem?_eq_getElem (by omega)]; simp [List.getD, show i < st.length by omega]
        have hg2 : all[i]? = some (all.getD i 0#8) := by rw [List.getElem?_eq_getElem (by omega)]; simp [List.getD, show i < all.length by omega]
        have hxl := xorAt_length (i := i) hll (by omega)
        have hxg := xorAt_get (i := i) hll (by omega)
        rw [hg1] at hxg
        obtain ⟨pb, po, hpe, _⟩ := ha.rd.place (by rw [bs_length]; omega)
        subst hpe
        (repeat refine g_seq ?_); refine g_block ?_
        refine g_row 17 rfl (by rw [bs_length]; omega) (fun bb J hp hJ hcap => ?_)
        obtain ⟨xp, xc⟩ := x17
        simp only at hp
        subst hp
        (repeat refine g_seq ?_)
        refine g_any (12, []) ?_
        refine a_pu 0 rfl rfl rfl rfl (pu_move rfl rfl) rfl rfl (by kernel_rfl) ?_
        refine a_pu 1 rfl rfl rfl rfl (pu_move rfl rfl) rfl rfl (by kernel_rfl) ?_
        refine a_pu 2 rfl rfl rfl rfl (pu_move rfl rfl) rfl rfl (by kernel_rfl) ?_
        refine a_pu 3 rfl rfl rfl rfl (pu_move rfl rfl) rfl rfl (by kernel_rfl) ?_
        refine a_pu 4 rfl rfl rfl rfl (pu_at1 i rfl rfl rfl rfl (by omega)) rfl rfl (by kernel_rfl) ?_
        refine a_pu 5 rfl rfl rfl rfl (pu_load 17 rfl rfl rfl (bs_load hxg)) rfl rfl (by kernel_rfl) ?_
        refine a_pu 6 rfl rfl rfl rfl (pu_move rfl rfl) rfl rfl (by kernel_rfl) ?_
        refine a_pu 7 rfl rfl rfl rfl (pu_move rfl rfl) rfl rfl (by kernel_rfl) ?_
        refine a_pu 8 rfl rfl rfl rfl (pu_at1 i rfl rfl rfl rfl (by omega)) rfl rfl (by kernel_rfl) ?_
        refine a_pu 9 rfl rfl rfl rfl (pu_rdB (j := i) (fun w' hm => ha.m hm) rfl rfl hg2) rfl rfl (by kernel_rfl) ?_
        refine a_pu 10 rfl rfl rfl rfl (pu_xor8 rfl rfl rfl) rfl rfl (by kernel_rfl) ?_
        refine a_pu 11 rfl rfl rfl rfl (pu_at1 i rfl rfl rfl rfl (by omega)) rfl rfl (by kernel_rfl) ?_
        refine a_tail [12] (by kernel_rfl) rfl rfl (by kernel_rfl) ?_
        refine g_store 17 (v := b8 (st.getD i 0#8 ^^^ all.getD i 0#8)) rfl rfl rfl rfl rfl rfl rfl (by rw [List.length_append, bs_length]; omega) ?_
        rw [Nat.zero_add, xorAt_set hll hg1 hg2 J]
        refine g_nil ?_
        have hxl2 := xorAt_length (i := i + 1) hll (by omega)
        refine g_own 17 (L := bs (xorAt st all (i + 1))) (J := J) (c := xc) (s := 1) rfl (by simp only [List.length_append, bs_length] at hJ ⊢; omega) hcap ?_
        refine g_blk ?_
        (repeat refine g_seq ?_)
        refine g_region ?_
        refine g_pu rfl rfl rfl (pu_move rfl rfl) ?_
        refine g_pu rfl rfl rfl (pu_addI rfl rfl rfl (by omega)) ?_
        refine g_pu rfl rfl rfl (pu_assign rfl rfl) ?_
        refine g_nil ?_
        exact g_round (i + 1) (by omega) (by omega) ⟨rfl, rfl, rfl, trivial⟩ ⟨rfl, trivial⟩
      · (repeat refine g_seq ?_)
        refine g_region ?_
        refine g_pu rfl rfl rfl (pu_move rfl rfl) ?_
        refine g_pu rfl rfl rfl (pu_move rfl rfl) ?_
        first | refine g_pu rfl rfl rfl (pu_len rfl rfl) ?_ | refine g_pu rfl rfl rfl (pu_lenS rfl rfl) ?_
        first | refine g_pu rfl rfl rfl (pu_lss_t rfl rfl rfl (by omega)) ?_ | refine g_pu rfl rfl rfl (pu_lss_f rfl rfl rfl (by omega)) ?_ | refine g_pu rfl rfl rfl (pu_lss rfl rfl rfl) ?_
        refine g_nil ?_
        (repeat refine g_seq ?_)
        refine g_cond_f rfl (g_exit rfl ?_)
        (repeat refine g_seq ?_)
        refine g_region ?_
        refine g_pu rfl rfl rfl (pu_move rfl rfl) ?_
        refine g_pu rfl rfl rfl (pu_assign rfl rfl) ?_
        refine g_pu rfl rfl rfl (pu_assign rfl rfl) ?_
        refine g_nil ?_
        have e1 : i = n := by omega
        subst e1
        rw [xorAt_end hll hsl]
        exact g_ret2 rfl rfl rfl (fun w' hm => ⟨x17, trivial, rfl, hm.grows [17] ⟨rfl, trivial⟩ rfl⟩)
    · have hE0 : turnE key n = 11 := by unfold turnE; rw [if_neg (by omega), if_pos (by omega)]
      have hL0 : turnL key all = [] := by unfold turnL; rw [hal, if_neg (by omega)]
      rw [hE0, hL0]
      (repeat refine g_seq ?_)
      refine g_region ?_
      refine g_pu rfl rfl rfl (pu_move rfl rfl) ?_
      first | refine g_pu rfl rfl rfl (pu_len rfl rfl) ?_ | refine g_pu rfl rfl rfl (pu_lenS rfl rfl) ?_
      first | refine g_pu rfl rfl rfl (pu_gtr_t rfl rfl rfl (by omega)) ?_ | refine g_pu rfl rfl rfl (pu_gtr_f rfl rfl rfl (by omega)) ?_ | refine g_pu rfl rfl rfl (pu_gtr rfl rfl rfl) ?_
      refine g_nil ?_
      (repeat refine g_seq ?_)
      refine g_cond_t rfl ?_
      (repeat refine g_seq ?_)
      refine g_region ?_
      refine g_pu rfl rfl rfl (pu_assign rfl rfl) ?_
      refine g_pu rfl rfl rfl (pu_assign rfl rfl) ?_
      refine g_nil ?_
      exact g_nilOwn 90 5 1 rfl (g_ret2 rfl rfl rfl (fun w' hm => ⟨⟨none, 0⟩, trivial, rfl, hm.grows [90] ⟨rfl, trivial⟩ rfl⟩))
  · have hE0 : turnE key n = 2 := by unfold turnE; rw [if_pos (by omega)]
    have hL0 : turnL key all = [] := by unfold turnL; rw [hal, hE0, if_neg (by omega)]
    rw [hE0, hL0]
    (repeat refine g_seq ?_)
    refine g_region ?_
    refine g_pu rfl rfl rfl (pu_move rfl rfl) ?_
    first | refine g_pu rfl rfl rfl (pu_len rfl rfl) ?_ | refine g_pu rfl rfl rfl (pu_lenS rfl rfl) ?_
    first | refine g_pu rfl rfl rfl (pu_neq_t rfl rfl rfl (by omega)) ?_ | refine g_pu rfl rfl rfl (pu_neq_f rfl rfl rfl (by omega)) ?_ | refine g_pu rfl rfl rfl (pu_neq rfl rfl rfl) ?_
    refine g_nil ?_
    (repeat refine g_seq ?_)
    refine g_cond_t rfl ?_
    (repeat refine g_seq ?_)
    refine g_region ?_
    refine g_pu rfl rfl rfl (pu_assign rfl rfl) ?_
    refine g_pu rfl rfl rfl (pu_assign rfl rfl) ?_
    refine g_nil ?_
    exact g_nilOwn 90 5 1 rfl (g_ret2 rfl rfl rfl (fun w' hm => ⟨⟨none, 0⟩, trivial, rfl, hm.grows [90] ⟨rfl, trivial⟩ rfl⟩))
end Go.Sx

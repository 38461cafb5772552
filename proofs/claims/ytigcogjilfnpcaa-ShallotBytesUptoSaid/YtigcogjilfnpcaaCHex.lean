import Derived.Test.YtigcogjilfnpcaaXC
import Derived.Test.YtigcogjilfnpcaaYA
set_option linter.unusedVariables false
set_option linter.unusedSimpArgs false
/-
  Bytes as text and back. No condition but that the text has at most 2^47 bytes.
-/
namespace Go.Sx
open Go Go.Proofs

def hexD : List (BitVec 8) := [48#8, 49#8, 50#8, 51#8, 52#8, 53#8, 54#8, 55#8, 56#8, 57#8, 97#8, 98#8, 99#8, 100#8, 101#8, 102#8]
def hex2 (x : BitVec 8) : List (BitVec 8) := [hexD.getD (x >>> 4).toNat 0#8, hexD.getD (x &&& 15#8).toNat 0#8]
def hexL (l : List (BitVec 8)) : List (BitVec 8) := l.flatMap hex2
theorem hexL_length : ∀ l : List (BitVec 8), (hexL l).length = 2 * l.length
  | [] => rfl
  | x :: l => by rw [hexL, List.flatMap_cons, List.length_append]; have := hexL_length l; unfold hexL at this; rw [this]; simp [hex2]; omega
theorem hexL_snoc {l : List (BitVec 8)} {i : Nat} {x : BitVec 8} (h : l[i]? = some x) : hexL (l.take (i + 1)) = hexL (l.take i) ++ hex2 x := by
  rw [List.take_add_one, h]; simp [hexL]
theorem hexL_get {l : List (BitVec 8)} {i : Nat} {x : BitVec 8} (h : l[i]? = some x) : (hexL l)[2 * i]? = some (hexD.getD (x >>> 4).toNat 0#8) ∧ (hexL l)[2 * i + 1]? = some (hexD.getD (x &&& 15#8).toNat 0#8) := by
  have hi := (List.getElem?_eq_some_iff.1 h).1
  have e : hexL l = hexL (l.take i) ++ (hex2 x ++ hexL (l.drop (i + 1))) := by
    rw [← List.append_assoc, ← hexL_snoc h]
    unfold hexL
    rw [← List.flatMap_append, List.take_append_drop]
  have hl : (hexL (l.take i)).length = 2 * i := by rw [hexL_length, List.length_take]; omega
  rw [e]
  constructor
  · rw [List.getElem?_append_right (by omega), hl, Nat.sub_self]; rfl
  · rw [List.getElem?_append_right (by omega), hl, show 2 * i + 1 - 2 * i = 1 by omega]; rfl
theorem nib_hi (x : BitVec 8) : (x >>> 4).toNat < 16 := by
  have := x.isLt
  simp [BitVec.toNat_ushiftRight, Nat.shiftRight_eq_div_pow]; omega
theorem nib_lo (x : BitVec 8) : (x &&& 15#8).toNat < 16 := by
  rw [BitVec.toNat_and]
  exact Nat.lt_of_le_of_lt Nat.and_le_right (by decide)
theorem nib_back : ∀ x : BitVec 8, ((x >>> 4) <<< 4) ||| (x &&& 15#8) = x := fun ⟨n⟩ => by
  revert n
  decide +kernel
def DigOk (c v : BitVec 8) : Prop := (48 ≤ c.toNat ∧ c.toNat ≤ 57 ∧ c - 48#8 = v) ∨ (97 ≤ c.toNat ∧ c.toNat ≤ 102 ∧ c - 97#8 + 10#8 = v)
theorem digOk {k : Nat} (h : k < 16) : DigOk (hexD.getD k 0#8) (BitVec.ofNat 8 k) := by
  have hh : ∀ k : Fin 16, DigOk (hexD.getD k.1 0#8) (BitVec.ofNat 8 k.1) := by unfold DigOk; decide
  exact hh ⟨k, h⟩
theorem hexD_get {k : Nat} (h : k < 16) : hexD[k]? = some (hexD.getD k 0#8) := by
  rw [List.getD_eq_getElem?_getD]
  have : k < hexD.length := h
  rw [List.getElem?_eq_getElem this]; rfl

theorem digit_b (w : World) (c v : BitVec 8) (h : DigOk c v) : Spec Try.prog 73 #[b8 c] w (σ := Unit) (fun _ => True) (fun _ => b8 v) Nob (fun _ => []) := by
  refine enter Try.func73 rfl rfl (Mem.start w) ?_
  (repeat refine g_seq ?_)
  refine g_region ?_
  refine g_pu rfl rfl rfl (pu_assign (v := b8 0#8) rfl rfl) ?_
  refine g_nil ?_
  (repeat refine g_seq ?_); refine g_block ?_
  rcases h with ⟨h1, h2, rfl⟩ | ⟨h1, h2, rfl⟩
  · (repeat refine g_seq ?_)
    refine g_region ?_
    refine g_pu rfl rfl rfl (pu_move rfl rfl) ?_
    refine g_pu rfl rfl rfl (pu_geq_t rfl rfl rfl (by omega)) ?_
    refine g_pu rfl rfl rfl (pu_move rfl rfl) ?_
    first | refine g_pass rfl rfl rfl ?_ | refine g_pu rfl rfl rfl (pu_move rfl rfl) ?_
    refine g_pu rfl rfl rfl (pu_leq_t rfl rfl rfl (by omega)) ?_
    first | refine g_pu rfl rfl rfl (pu_pick_t rfl rfl rfl) ?_ | refine g_pu rfl rfl rfl (pu_pick_f rfl rfl rfl) ?_
    refine g_pu rfl rfl rfl (pu_assign rfl rfl) ?_
    refine g_nil ?_
    (repeat refine g_seq ?_)
    refine g_cond_t rfl ?_
    (repeat refine g_seq ?_)
    refine g_region ?_
    refine g_pu rfl rfl rfl (pu_move rfl rfl) ?_
    refine g_pu rfl rfl rfl (pu_sub8 (b := 48#8) rfl rfl rfl) ?_
    refine g_pu rfl rfl rfl (pu_assign rfl rfl) ?_
    refine g_nil ?_
    exact g_ret1 rfl rfl (fun w' hm => ⟨(), trivial, rfl, hm.grows [] trivial rfl⟩)
  · (repeat refine g_seq ?_)
    refine g_region ?_
    refine g_pu rfl rfl rfl (pu_move rfl rfl) ?_
    refine g_pu rfl rfl rfl (pu_geq_t rfl rfl rfl (by omega)) ?_
    refine g_pu rfl rfl rfl (pu_move rfl rfl) ?_
    first | refine g_pass rfl rfl rfl ?_ | refine g_pu rfl rfl rfl (pu_move rfl rfl) ?_
    refine g_pu rfl rfl rfl (pu_leq_f rfl rfl rfl (by omega)) ?_
    first | refine g_pu rfl rfl rfl (pu_pick_t rfl rfl rfl) ?_ | refine g_pu rfl rfl rfl (pu_pick_f rfl rfl rfl) ?_
    refine g_pu rfl rfl rfl (pu_assign rfl rfl) ?_
    refine g_nil ?_
    (repeat refine g_seq ?_)
    refine g_cond_f rfl ?_
    (repeat refine g_seq ?_)
    refine g_region ?_
    refine g_pu rfl rfl rfl (pu_move rfl rfl) ?_
    refine g_pu rfl rfl rfl (pu_geq_t rfl rfl rfl (by omega)) ?_
    refine g_pu rfl rfl rfl (pu_move rfl rfl) ?_
    first | refine g_pass rfl rfl rfl ?_ | refine g_pu rfl rfl rfl (pu_move rfl rfl) ?_
    refine g_pu rfl rfl rfl (pu_leq_t rfl rfl rfl (by omega)) ?_
    first | refine g_pu rfl rfl rfl (pu_pick_t rfl rfl rfl) ?_ | refine g_pu rfl rfl rfl (pu_pick_f rfl rfl rfl) ?_
    refine g_pu rfl rfl rfl (pu_assign rfl rfl) ?_
    refine g_nil ?_
    (repeat refine g_seq ?_)
    refine g_cond_t rfl ?_
    (repeat refine g_seq ?_)
    refine g_region ?_
    refine g_pu rfl rfl rfl (pu_move rfl rfl) ?_
    refine g_pu rfl rfl rfl (pu_sub8 (b := 97#8) rfl rfl rfl) ?_
    refine g_pu rfl rfl rfl (pu_add8 (b := 10#8) rfl rfl rfl) ?_
    refine g_pu rfl rfl rfl (pu_assign rfl rfl) ?_
    refine g_nil ?_
    exact g_ret1 rfl rfl (fun w' hm => ⟨(), trivial, rfl, hm.grows [] trivial rfl⟩)

theorem Hex_b (w : World) {p : Option Addr} {n : Nat} (c : Nat) {l : List (BitVec 8)} (ha : By w p n l) (hnb : n ≤ 35184372088832) :
    Spec Try.prog 13 #[.slice p n c] w (σ := Unit) (fun _ => True) (fun _ => .string (strOf (hexL l))) Nob (fun _ => []) := by
  refine enter Try.func13 rfl rfl (Mem.start w) ?_
  have hl := ha.len
  (repeat refine g_seq ?_)
  refine g_region ?_
  refine g_pu rfl rfl rfl (pu_assign rfl rfl) ?_
  refine g_nil ?_
  (repeat refine g_seq ?_)
  refine g_region ?_
  refine g_pu rfl rfl rfl (pu_move rfl rfl) ?_
  first | refine g_pu rfl rfl rfl (pu_len rfl rfl) ?_ | refine g_pu rfl rfl rfl (pu_lenS rfl rfl) ?_
  refine g_pu rfl rfl rfl (pu_mulI rfl rfl rfl (by omega)) ?_
  refine g_lo [9] rfl rfl rfl rfl (lo_make (n := 0) (c := 2 * n) rfl rfl (congrArg (fun z => some (Value.int .i64 z)) (by omega)) (by omega) (by omega) (by omega) rfl) (fun b9 hb9 => ?_)
  refine g_own 9 (L := []) (J := List.replicate (2 * n) (b8 0#8)) (c := 2 * n) (s := 1) rfl (by simp) (by omega) ?_
  refine g_pu rfl rfl rfl (pu_assign rfl rfl) ?_
  refine g_nil ?_
  (repeat refine g_seq ?_)
  refine g_region ?_
  refine g_pu rfl rfl rfl (pu_move rfl rfl) ?_
  first | refine g_pu rfl rfl rfl (pu_len rfl rfl) ?_ | refine g_pu rfl rfl rfl (pu_lenS rfl rfl) ?_
  refine g_pu rfl rfl rfl (pu_move rfl rfl) ?_
  refine g_nil ?_
  refine g_block (g_loop2 (fun (i : Nat) (x : Ow) => [(0, .slice p n c), (3, x.sl (2 * i)), (10, .slice p n c), (11, .int .i64 (n : Int)), (12, .int .i64 (i : Int))]) (fun i x => [(9, x.ck 5 1 (bs (hexL (l.take i))))]) (fun i _ => i ≤ n) (fun i _ => n - i) 0 ⟨some ⟨b9, 0, none⟩, 2 * n⟩ ⟨rfl, rfl, rfl, rfl, rfl, trivial⟩ ⟨rfl, trivial⟩ (by omega) ?_)
  intro i x hi
  have hhl : (hexL (l.take i)).length = 2 * i := by rw [hexL_length, List.length_take]; omega
  by_cases hlt : i < n
  · (repeat refine g_seq ?_)
    refine g_region ?_
    first | refine g_pu rfl rfl rfl (pu_lss_t rfl rfl rfl (by omega)) ?_ | refine g_pu rfl rfl rfl (pu_lss_f rfl rfl rfl (by omega)) ?_ | refine g_pu rfl rfl rfl (pu_lss rfl rfl rfl) ?_
    refine g_nil ?_
    (repeat refine g_seq ?_)
    refine g_cond_t rfl (g_skip ?_)
    have h1 : l[i]? = some l[i] := List.getElem?_eq_getElem (by omega)
    generalize l[i] = y at h1
    have hS := hexL_snoc h1
    have n1 := nib_hi y
    have n2 := nib_lo y
    (repeat refine g_seq ?_); refine g_block ?_
    (repeat refine g_seq ?_)
    refine g_region ?_
    refine g_pu rfl rfl rfl (pu_atM1 i (fun w' hm => (ha.m hm).rd) rfl rfl rfl rfl hlt (by rw [bs_length]; omega)) ?_
    refine g_pu rfl rfl rfl (pu_rdM (fun w' hm => (ha.m hm).rd) rfl rfl (bs_get h1)) ?_
    refine g_pu rfl rfl rfl (pu_assign rfl rfl) ?_
    refine g_nil ?_
    (repeat refine g_seq ?_)
    refine g_any (7, [0]) ?_
    first | refine a_mv 0 rfl rfl rfl rfl (fun _ => (pu_move rfl rfl)) rfl rfl rfl (by kernel_rfl) (by kernel_rfl) (by kernel_rfl) rfl ?_
    refine a_pu 1 rfl rfl rfl rfl (pu_move rfl rfl) rfl rfl (by kernel_rfl) ?_
    refine a_pu 2 rfl rfl rfl rfl (pu_shr8 rfl rfl rfl (by omega)) rfl rfl (by kernel_rfl) ?_
    refine a_pu 3 rfl rfl rfl rfl (pu_indexS (y >>> 4).toNat rfl rfl rfl rfl (hexD_get n1)) rfl rfl (by kernel_rfl) ?_
    refine a_pu 4 rfl rfl rfl rfl (pu_move rfl rfl) rfl rfl (by kernel_rfl) ?_
    refine a_pu 5 rfl rfl rfl rfl (pu_and8 (b := 15#8) rfl rfl rfl) rfl rfl (by kernel_rfl) ?_
    refine a_pu 6 rfl rfl rfl rfl (pu_indexS (y &&& 15#8).toNat rfl rfl rfl rfl (hexD_get n2)) rfl rfl (by kernel_rfl) ?_
    refine a_tail [7, 8, 9] (by kernel_rfl) rfl rfl (by kernel_rfl) ?_
    refine g_lo [23] rfl rfl rfl rfl (lo_buildSlice rfl rfl (by decide) (by decide) rfl rfl) (fun b23 hb23 => ?_)
    refine g_append1 9 (bs (hex2 y)) rfl rfl rfl rfl rfl rfl rfl rfl (by rw [bs_length, hhl]) (fun w' hm => hm.rowA 23 rfl) rfl (oneCell_bs _) (by omega) (by omega) (fun p' c' => ?_)
    rw [← bs_append, ← hS]
    refine g_pu rfl rfl rfl (pu_assign rfl rfl) ?_
    refine g_nil ?_
    refine g_blk ?_
    (repeat refine g_seq ?_)
    refine g_region ?_
    refine g_pu rfl rfl rfl (pu_addI rfl rfl rfl (by omega)) ?_
    refine g_pu rfl rfl rfl (pu_move rfl rfl) ?_
    refine g_nil ?_
    exact g_round2 (i + 1) (⟨p', c'⟩ : Ow) (by omega) (by omega) ⟨rfl, by rw [Nat.mul_add]; rfl, rfl, rfl, rfl, trivial⟩ ⟨rfl, trivial⟩
  · (repeat refine g_seq ?_)
    refine g_region ?_
    first | refine g_pu rfl rfl rfl (pu_lss_t rfl rfl rfl (by omega)) ?_ | refine g_pu rfl rfl rfl (pu_lss_f rfl rfl rfl (by omega)) ?_ | refine g_pu rfl rfl rfl (pu_lss rfl rfl rfl) ?_
    refine g_nil ?_
    (repeat refine g_seq ?_)
    refine g_cond_f rfl (g_exit rfl ?_)
    have e1 : i = n := by omega
    subst e1
    rw [List.take_of_length_le (by omega)] at hhl ⊢
    (repeat refine g_seq ?_)
    refine g_region ?_
    refine g_pu rfl rfl rfl (pu_move rfl rfl) ?_
    refine g_pu rfl rfl rfl (pu_strOf (l := hexL l) (fun w' hm => By.ow 9 rfl hm hhl (by omega)) rfl rfl) ?_
    refine g_pu rfl rfl rfl (pu_assign rfl rfl) ?_
    refine g_nil ?_
    exact g_ret1 rfl rfl (fun w' hm => ⟨(), trivial, rfl, hm.grows [] trivial rfl⟩)

theorem Unhex_b (w : World) {l : List (BitVec 8)} (hnb : l.length ≤ 35184372088832) :
    Spec Try.prog 12 #[.string (strOf (hexL l))] w (σ := Ow) (fun _ => True) (fun x => .tuple #[x.sl l.length, .int .i64 0]) Nob (fun x => [x.ck 5 1 (bs l)]) := by
  refine enter Try.func12 rfl rfl (Mem.start w) ?_
  have hsz : (strOf (hexL l)).size = 2 * l.length := by rw [strOf_size, hexL_length]
  (repeat refine g_seq ?_)
  refine g_region ?_
  refine g_pu rfl rfl rfl (pu_assign rfl rfl) ?_
  refine g_pu rfl rfl rfl (pu_assign rfl rfl) ?_
  refine g_nil ?_
  (repeat refine g_seq ?_)
  refine g_region ?_
  refine g_pu rfl rfl rfl (pu_move rfl rfl) ?_
  refine g_pu rfl rfl rfl (pu_lenS rfl rfl) ?_
  rw [hsz]
  refine g_pu rfl rfl rfl (pu_remI rfl rfl rfl (by omega)) ?_
  refine g_pu rfl rfl rfl (pu_neq_f rfl rfl rfl (by omega)) ?_
  refine g_nil ?_
  (repeat refine g_seq ?_)
  refine g_cond_f rfl (g_skip ?_)
  (repeat refine g_seq ?_)
  refine g_region ?_
  refine g_pu rfl rfl rfl (pu_assign rfl rfl) ?_
  refine g_nil ?_
  (repeat refine g_seq ?_)
  refine g_region ?_
  refine g_pu rfl rfl rfl (pu_assign rfl rfl) ?_
  refine g_nil ?_
  refine g_nilOwn 90 5 1 rfl ?_
  refine g_block (g_loop2 (fun (i : Nat) (x : Ow) => [(0, .string (strOf (hexL l))), (4, x.sl i), (5, .int .i64 ((2 * i : Nat) : Int))]) (fun i x => [(90, x.ck 5 1 (bs (l.take i)))]) (fun i _ => i ≤ l.length) (fun i _ => l.length - i) 0 ⟨none, 0⟩ ⟨rfl, rfl, rfl, trivial⟩ ⟨rfl, trivial⟩ (by omega) ?_)
  intro i x hi
  by_cases hlt : i < l.length
  · (repeat refine g_seq ?_)
    refine g_region ?_
    refine g_pu rfl rfl rfl (pu_move rfl rfl) ?_
    refine g_pu rfl rfl rfl (pu_move rfl rfl) ?_
    refine g_pu rfl rfl rfl (pu_lenS rfl rfl) ?_
    rw [hsz]
    refine g_pu rfl rfl rfl (pu_lss_t rfl rfl rfl (by omega)) ?_
    refine g_nil ?_
    (repeat refine g_seq ?_)
    refine g_cond_t rfl (g_skip ?_)
    have h1 : l[i]? = some l[i] := List.getElem?_eq_getElem (by omega)
    generalize l[i] = y at h1
    have hg := hexL_get h1
    rw [← bytesOf_strOf (hexL l)] at hg
    have n1 := nib_hi y
    have n2 := nib_lo y
    have o1 := digOk n1
    have o2 := digOk n2
    rw [show BitVec.ofNat 8 (y >>> 4).toNat = y >>> 4 by rw [BitVec.ofNat_toNat, BitVec.setWidth_eq]] at o1
    rw [show BitVec.ofNat 8 (y &&& 15#8).toNat = y &&& 15#8 by rw [BitVec.ofNat_toNat, BitVec.setWidth_eq]] at o2
    (repeat refine g_seq ?_); refine g_block ?_
    (repeat refine g_seq ?_)
    refine g_any (3, [4, 5, 6, 7]) ?_
    refine a_pu 0 rfl rfl rfl rfl (pu_move rfl rfl) rfl rfl (by kernel_rfl) ?_
    refine a_pu 1 rfl rfl rfl rfl (pu_move rfl rfl) rfl rfl (by kernel_rfl) ?_
    refine a_pu 2 rfl rfl rfl rfl (pu_indexS (2 * i) rfl rfl rfl rfl hg.1) rfl rfl (by kernel_rfl) ?_
    first | refine a_mv 4 rfl rfl rfl rfl (fun _ => (pu_move rfl rfl)) rfl rfl rfl (by kernel_rfl) (by kernel_rfl) (by kernel_rfl) rfl ?_
    first | refine a_mv 5 rfl rfl rfl rfl (fun _ => (pu_move rfl rfl)) rfl rfl rfl (by kernel_rfl) (by kernel_rfl) (by kernel_rfl) rfl ?_
    first | refine a_mv 6 rfl rfl rfl rfl (fun _ => (pu_addI rfl rfl rfl (by omega))) rfl rfl rfl (by kernel_rfl) (by kernel_rfl) (by kernel_rfl) rfl ?_
    refine a_mv 7 rfl rfl rfl rfl (fun _ => pu_indexS (2 * i + 1) rfl rfl rfl rfl hg.2) rfl rfl rfl (by kernel_rfl) (by kernel_rfl) (by kernel_rfl) rfl ?_
    refine a_tail [3, 8, 9, 10] (by kernel_rfl) rfl rfl (by kernel_rfl) ?_
    refine g_call [] rfl rfl rfl rfl rfl rfl (fun w' hm => digit_b w' _ _ o1) (fun _ _ => ?_)
    refine g_call [] rfl rfl rfl rfl rfl rfl (fun w' hm => digit_b w' _ _ o2) (fun _ _ => ?_)
    refine g_pu rfl rfl rfl (pu_assign rfl rfl) ?_
    refine g_pu rfl rfl rfl (pu_assign rfl rfl) ?_
    refine g_nil ?_
    (repeat refine g_seq ?_)
    refine g_region ?_
    refine g_pu rfl rfl rfl (pu_move rfl rfl) ?_
    refine g_pu rfl rfl rfl (pu_gtr_f rfl rfl rfl (by omega)) ?_
    refine g_pu rfl rfl rfl (pu_move rfl rfl) ?_
    first | refine g_pass rfl rfl rfl ?_ | refine g_pu rfl rfl rfl (pu_move rfl rfl) ?_
    refine g_pu rfl rfl rfl (pu_gtr_f rfl rfl rfl (by omega)) ?_
    first | refine g_pu rfl rfl rfl (pu_pick_t rfl rfl rfl) ?_ | refine g_pu rfl rfl rfl (pu_pick_f rfl rfl rfl) ?_
    refine g_nil ?_
    (repeat refine g_seq ?_)
    refine g_cond_f rfl (g_skip ?_)
    (repeat refine g_seq ?_)
    refine g_region ?_
    refine g_pu rfl rfl rfl (pu_move rfl rfl) ?_
    refine g_pu rfl rfl rfl (pu_move rfl rfl) ?_
    refine g_pu rfl rfl rfl (pu_shl8 rfl rfl rfl (by omega)) ?_
    refine g_pu rfl rfl rfl (pu_move rfl rfl) ?_
    refine g_pu rfl rfl rfl (pu_or8 rfl rfl rfl) ?_
    refine g_lo [38] rfl rfl rfl rfl (lo_buildSlice rfl rfl (by decide) (by decide) rfl rfl) (fun b38 hb38 => ?_)
    refine g_append1 90 (bs [y]) rfl rfl rfl rfl rfl rfl rfl rfl (by rw [bs_length, List.length_take]; omega) (fun w' hm => by have := (hm.rowA 38 rfl : RdV w' _ (bs [((y >>> 4) <<< 4) ||| (y &&& 15#8)])); rwa [nib_back] at this) rfl (oneCell_bs _) (by omega) (by omega) (fun p' c' => ?_)
    rw [← bs_append, show l.take i ++ [y] = l.take (i + 1) by rw [List.take_add_one, h1]; rfl]
    refine g_pu rfl rfl rfl (pu_assign rfl rfl) ?_
    refine g_nil ?_
    refine g_blk ?_
    (repeat refine g_seq ?_)
    refine g_region ?_
    refine g_pu rfl rfl rfl (pu_move rfl rfl) ?_
    refine g_pu rfl rfl rfl (pu_addI rfl rfl rfl (by omega)) ?_
    refine g_pu rfl rfl rfl (pu_assign rfl rfl) ?_
    refine g_nil ?_
    exact g_round2 (i + 1) (⟨p', c'⟩ : Ow) (by omega) (by omega) ⟨rfl, rfl, congrArg (fun z => some (Value.int .i64 z)) (by omega), trivial⟩ ⟨rfl, trivial⟩
  · (repeat refine g_seq ?_)
    refine g_region ?_
    refine g_pu rfl rfl rfl (pu_move rfl rfl) ?_
    refine g_pu rfl rfl rfl (pu_move rfl rfl) ?_
    refine g_pu rfl rfl rfl (pu_lenS rfl rfl) ?_
    rw [hsz]
    refine g_pu rfl rfl rfl (pu_lss_f rfl rfl rfl (by omega)) ?_
    refine g_nil ?_
    (repeat refine g_seq ?_)
    refine g_cond_f rfl (g_exit rfl ?_)
    have e1 : i = l.length := by omega
    subst e1
    rw [List.take_of_length_le (Nat.le_refl _)]
    (repeat refine g_seq ?_)
    refine g_region ?_
    refine g_pu rfl rfl rfl (pu_move rfl rfl) ?_
    refine g_pu rfl rfl rfl (pu_assign rfl rfl) ?_
    refine g_pu rfl rfl rfl (pu_assign rfl rfl) ?_
    refine g_nil ?_
    exact g_ret2 rfl rfl rfl (fun w' hm => ⟨x, trivial, rfl, hm.grows [90] ⟨rfl, trivial⟩ rfl⟩)
end Go.Sx

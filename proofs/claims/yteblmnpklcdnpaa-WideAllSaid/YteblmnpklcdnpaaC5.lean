/-
  Copies of lists of bytes; the place by place turning of lists, of the codec and of its reference. A list of lists takes at most 2^47 bytes.
-/
import Derived.Test.YteblmnpklcdnpaaC2
set_option linter.unusedVariables false
set_option linter.unusedSimpArgs false
namespace Go.Sx
open Go Go.Proofs

theorem isSl_of {L : List Value} (h : L.all isSl = true) {v : Value} (hv : v ∈ L) : ∃ q m c, v = .slice q m c := by
  have := List.all_eq_true.1 h v hv
  cases v <;> simp [isSl] at this ⊢
theorem oneCell_sl {L : List Value} (h : L.all isSl = true) : ∀ u ∈ L, u.oneCell' = true := fun u hu => by
  obtain ⟨q, m, c, rfl⟩ := isSl_of h hu; rfl

theorem Copies_b (w : World) {p : Option Addr} {n : Nat} (c : Nat) {L : List Value} {ls : List (List (BitVec 8))} (ha : ByL w p n L ls) :
    Spec Try.prog 18 #[.slice p n c] w (σ := Owl) (Owl.ok n) (fun x => x.sl n) Nob (fun x => [x.ck 22, x.ckE ls]) := by
  refine enter Try.func18 rfl rfl (Mem.start w) ?_
  have hn := ha.len
  have hbig := ha.big
  have hln := ha.lenL
  (repeat refine g_seq ?_)
  refine g_region ?_
  refine g_pu rfl rfl rfl (pu_assign rfl rfl) ?_
  refine g_nil ?_
  (repeat refine g_seq ?_)
  refine g_region ?_
  refine g_pu rfl rfl rfl (pu_move rfl rfl) ?_
  first | refine g_pu rfl rfl rfl (pu_len rfl rfl) ?_ | refine g_pu rfl rfl rfl (pu_lenS rfl rfl) ?_
  refine g_lo [1] rfl rfl rfl rfl (lo_make (n := 0) (c := n) rfl rfl rfl (by omega) (by omega) (by omega) rfl) (fun b7 hb7 => ?_)
  refine g_pu rfl rfl rfl (pu_assign rfl rfl) ?_
  refine g_nil ?_
  refine g_own 1 (L := []) (J := List.replicate n (.slice none 0 0)) (c := n) (s := 1) rfl (by simp) (by omega) ?_
  refine g_noEls 2 rfl ?_
  (repeat refine g_seq ?_)
  refine g_region ?_
  refine g_pu rfl rfl rfl (pu_assign rfl rfl) ?_
  refine g_nil ?_
  refine g_block (g_loop2 (fun (i : Nat) (x : Owl) => [(0, .slice p n c), (3, x.sl i), (4, .int .i64 (i : Int))]) (fun i x => [(1, x.ck 22), (2, x.ckE (ls.take i))]) (fun i x => i ≤ n ∧ x.ok i) (fun i _ => n - i) 0 ⟨some ⟨b7, 0, none⟩, n, [], Nob⟩ ⟨rfl, rfl, rfl, trivial⟩ ⟨rfl, rfl, trivial⟩ ⟨by omega, rfl, rfl⟩ ?_)
  intro i x ⟨hi, hx⟩
  by_cases hlt : i < n
  · (repeat refine g_seq ?_)
    refine g_region ?_
    refine g_pu rfl rfl rfl (pu_move rfl rfl) ?_
    refine g_pu rfl rfl rfl (pu_move rfl rfl) ?_
    first | refine g_pu rfl rfl rfl (pu_len rfl rfl) ?_ | refine g_pu rfl rfl rfl (pu_lenS rfl rfl) ?_
    first | refine g_pu rfl rfl rfl (pu_lss_t rfl rfl rfl (by omega)) ?_ | refine g_pu rfl rfl rfl (pu_lss_f rfl rfl rfl (by omega)) ?_ | refine g_pu rfl rfl rfl (pu_lss rfl rfl rfl) ?_
    refine g_nil ?_
    (repeat refine g_seq ?_)
    refine g_cond_t rfl (g_skip ?_)
    have hl : ls[i]? = some ls[i] := List.getElem?_eq_getElem (by omega)
    obtain ⟨q, m, cc, hL, hq⟩ := ha.at hl
    (repeat refine g_seq ?_); refine g_block ?_
    (repeat refine g_seq ?_)
    refine g_region ?_
    refine g_pu rfl rfl rfl (pu_move rfl rfl) ?_
    refine g_pu rfl rfl rfl (pu_move rfl rfl) ?_
    refine g_pu rfl rfl rfl (pu_move rfl rfl) ?_
    refine g_pu rfl rfl rfl (pu_atM1 i (fun w' hm => (ha.m hm).rd) rfl rfl rfl rfl hlt (by omega)) ?_
    refine g_pu rfl rfl rfl (pu_rdM (fun w' hm => (ha.m hm).rd) rfl rfl hL) ?_
    refine g_call [19] rfl rfl rfl rfl rfl rfl (fun w' hm => Copy_b w' cc (hq.m hm)) (fun x19 _ => ?_)
    refine g_lo [20] rfl rfl rfl rfl (lo_buildSlice rfl rfl (by decide) (by decide) rfl rfl) (fun b20 hb20 => ?_)
    refine g_append1 1 [x19.sl m] rfl rfl rfl rfl rfl rfl rfl rfl hx.1 (fun w' hm => hm.row 20 (J := []) rfl) rfl (fun u hu => by obtain rfl := List.mem_singleton.1 hu; rfl) (by omega) (by omega) (fun p' c' => ?_)
    refine g_pu rfl rfl rfl (pu_assign rfl rfl) ?_
    refine g_nil ?_
    refine g_join_el 2 19 (S := x.S) (L := x.L) (ls := ls.take i) (x := x19) (n := m) (l := ls[i]) rfl rfl hq.len hq.big rfl ?_
    refine g_blk ?_
    (repeat refine g_seq ?_)
    refine g_region ?_
    refine g_pu rfl rfl rfl (pu_move rfl rfl) ?_
    refine g_pu rfl rfl rfl (pu_addI rfl rfl rfl (by omega)) ?_
    refine g_pu rfl rfl rfl (pu_assign rfl rfl) ?_
    refine g_nil ?_
    have ht : ls.take (i + 1) = ls.take i ++ [ls[i]] := by rw [List.take_add_one, hl]; rfl
    refine g_round2 (i + 1) (⟨p', c', x.L ++ [x19.sl m], fun j => x.S j ∨ At x19.p j⟩ : Owl) ⟨by omega, by simp [hx.1], by simp [hx.2, Ow.sl, isSl]⟩ (by omega) ⟨rfl, rfl, rfl, trivial⟩ ⟨rfl, by rw [ht]; rfl, trivial⟩
  · (repeat refine g_seq ?_)
    refine g_region ?_
    refine g_pu rfl rfl rfl (pu_move rfl rfl) ?_
    refine g_pu rfl rfl rfl (pu_move rfl rfl) ?_
    first | refine g_pu rfl rfl rfl (pu_len rfl rfl) ?_ | refine g_pu rfl rfl rfl (pu_lenS rfl rfl) ?_
    first | refine g_pu rfl rfl rfl (pu_lss_t rfl rfl rfl (by omega)) ?_ | refine g_pu rfl rfl rfl (pu_lss_f rfl rfl rfl (by omega)) ?_ | refine g_pu rfl rfl rfl (pu_lss rfl rfl rfl) ?_
    refine g_nil ?_
    (repeat refine g_seq ?_)
    refine g_cond_f rfl (g_exit rfl ?_)
    (repeat refine g_seq ?_)
    refine g_region ?_
    refine g_pu rfl rfl rfl (pu_move rfl rfl) ?_
    refine g_pu rfl rfl rfl (pu_assign rfl rfl) ?_
    refine g_nil ?_
    have e1 : i = n := by omega
    subst e1
    rw [List.take_of_length_le (by omega)]
    exact g_ret1 rfl rfl (fun w' hm => ⟨x, hx, rfl, hm.grows [1, 2] ⟨rfl, rfl, trivial⟩ rfl⟩)

theorem Clone_b (w : World) {p : Option Addr} {n : Nat} (c : Nat) {l : List (BitVec 8)} (ha : By w p n l) :
    Spec Try.prog 29 #[.slice p n c] w (σ := Ow) (fun _ => True) (fun x => x.sl n) Nob (fun x => [x.ck 5 1 (bs l)]) := by
  refine enter Try.func29 rfl rfl (Mem.start w) ?_
  have hn := ha.len
  have hbig := ha.big
  (repeat refine g_seq ?_)
  refine g_region ?_
  refine g_pu rfl rfl rfl (pu_assign rfl rfl) ?_
  refine g_nil ?_
  cases p with
  | none =>
    have h0 := ha.nil0
    subst h0
    have hl0 : l = [] := List.eq_nil_of_length_eq_zero hn
    subst hl0
    (repeat refine g_seq ?_)
    refine g_region ?_
    refine g_pu rfl rfl rfl (pu_move rfl rfl) ?_
    refine g_pu rfl rfl rfl (pu_eqlN rfl rfl rfl) ?_
    refine g_nil ?_
    (repeat refine g_seq ?_)
    refine g_cond_t rfl ?_
    (repeat refine g_seq ?_)
    refine g_region ?_
    refine g_pu rfl rfl rfl (pu_assign rfl rfl) ?_
    refine g_nil ?_
    exact g_nilOwn 90 5 1 rfl (g_ret1 rfl rfl (fun w' hm => ⟨⟨none, 0⟩, trivial, rfl, hm.grows [90] ⟨rfl, trivial⟩ rfl⟩))
  | some a =>
    (repeat refine g_seq ?_)
    refine g_region ?_
    refine g_pu rfl rfl rfl (pu_move rfl rfl) ?_
    refine g_pu rfl rfl rfl (pu_eqlN rfl rfl rfl) ?_
    refine g_nil ?_
    (repeat refine g_seq ?_)
    refine g_cond_f rfl (g_skip ?_)
    (repeat refine g_seq ?_)
    refine g_region ?_
    refine g_lo [5] rfl rfl rfl rfl (lo_buildSlice0 rfl) (fun b5 hb5 => ?_)
    refine g_own 5 (L := []) (J := []) (c := 0) (s := 1) rfl (by simp) (by omega) ?_
    refine g_pu rfl rfl rfl (pu_move rfl rfl) ?_
    refine g_append1 5 (bs l) rfl rfl rfl rfl rfl rfl rfl rfl rfl (fun w' hm => (ha.m hm).rd) (by rw [bs_length, hn]) (oneCell_bs l) (by omega) (by omega) (fun p' c' => ?_)
    refine g_pu rfl rfl rfl (pu_assign rfl rfl) ?_
    refine g_nil ?_
    exact g_ret1 rfl rfl (fun w' hm => ⟨⟨p', c'⟩, trivial, by simp [Ow.sl], hm.grows [5] ⟨rfl, trivial⟩ rfl⟩)

/-! ## Turning lists by one another -/
def xorL (a b : List (BitVec 8)) : List (BitVec 8) := List.zipWith (· ^^^ ·) a b
def xorAt (a b : List (BitVec 8)) (i : Nat) : List (BitVec 8) := (xorL a b).take i ++ a.drop i
def xorOk : List (List (BitVec 8)) → Bool
  | [] => true
  | l :: r => r.all fun m => m.length == l.length
def xorV : List (List (BitVec 8)) → List (BitVec 8)
  | [] => []
  | l :: r => if xorOk (l :: r) then r.foldl xorL l else []
def xorE (ls : List (List (BitVec 8))) : Int := if xorOk ls then 0 else 2

theorem xorL_length {a b : List (BitVec 8)} (h : b.length = a.length) : (xorL a b).length = a.length := by simp [xorL, h]
theorem xorAt_zero (a b : List (BitVec 8)) : xorAt a b 0 = a := by simp [xorAt]
theorem xorAt_end {a b : List (BitVec 8)} {n : Nat} (h : b.length = a.length) (hn : a.length = n) : xorAt a b n = xorL a b := by
  unfold xorAt
  rw [List.take_of_length_le (by rw [xorL_length h]; omega), List.drop_of_length_le (by omega), List.append_nil]
theorem xorAt_length {a b : List (BitVec 8)} {i : Nat} (h : b.length = a.length) (hi : i ≤ a.length) : (xorAt a b i).length = a.length := by
  simp [xorAt, xorL_length h]; omega
theorem xorAt_get {a b : List (BitVec 8)} {i : Nat} (h : b.length = a.length) (hi : i < a.length) : (xorAt a b i)[i]? = a[i]? := by
  unfold xorAt
  rw [List.getElem?_append_right (by simp [xorL_length h]; omega)]
  simp [xorL_length h, Nat.min_eq_left (Nat.le_of_lt hi)]
theorem xorAt_set {a b : List (BitVec 8)} {i : Nat} {x y : BitVec 8} (h : b.length = a.length) (hx : a[i]? = some x) (hy : b[i]? = some y) (J : List Value) :
    (bs (xorAt a b i) ++ J).set i (b8 (x ^^^ y)) = bs (xorAt a b (i + 1)) ++ J := by
  have hi : i < a.length := (List.getElem?_eq_some_iff.1 hx).1
  have hl : (bs (xorAt a b i)).length = a.length := by rw [bs_length, xorAt_length h (by omega)]
  rw [List.set_append_left _ _ (by omega)]
  congr 1
  apply List.ext_getElem?
  intro j
  have hz : (xorL a b)[i]? = some (x ^^^ y) := by simp [xorL, List.getElem?_zipWith, hx, hy]
  have hxl := xorL_length h
  by_cases hj : i = j
  · subst hj
    rw [List.getElem?_set_self (by omega)]
    simp only [bs, List.getElem?_map, xorAt]
    rw [List.getElem?_append_left (by simp [hxl]; omega), List.getElem?_take, if_pos (by omega), hz]
    rfl
  · rw [List.getElem?_set_ne hj]
    simp only [bs, List.getElem?_map]
    congr 1
    unfold xorAt
    by_cases hlt : j < i
    · rw [List.getElem?_append_left (by simp [hxl]; omega), List.getElem?_append_left (by simp [hxl]; omega), List.getElem?_take, List.getElem?_take, if_pos hlt, if_pos (by omega)]
    · rw [List.getElem?_append_right (by simp [hxl]; omega), List.getElem?_append_right (by simp [hxl]; omega)]
      simp only [List.length_take, hxl, List.getElem?_drop]
      congr 1; omega

theorem ByL.cut {w : World} {p : Option Addr} {n c : Nat} {L : List Value} {ls : List (List (BitVec 8))} (h : ByL w p n L ls) (hc : n ≤ c) (j : Nat) : ByL w (cutp p c j 1) (n - j) (L.drop j) (ls.drop j) := by
  refine ⟨h.rd.cut (by rw [h.len]; exact hc), by rw [List.length_drop, h.len], ⟨by simp [h.els.1], fun i x y hx hy => ?_⟩, by have := h.big; omega⟩
  rw [List.getElem?_drop] at hx hy
  exact h.els.2 _ x y hx hy

theorem Xor_b (w : World) {p : Option Addr} {n : Nat} (c : Nat) {L : List Value} {ls : List (List (BitVec 8))} (ha : ByL w p n L ls) (hc : n ≤ c) :
    Spec Try.prog 41 #[.slice p n c] w (σ := Ow) (fun _ => True) (fun x => .tuple #[x.sl (xorV ls).length, .int .i64 (xorE ls)]) Nob (fun x => [x.ck 5 1 (bs (xorV ls))]) := by
  refine enter Try.func41 rfl rfl (Mem.start w) ?_
  have hn := ha.len
  have hbig := ha.big
  have hln := ha.lenL
  (repeat refine g_seq ?_)
  refine g_region ?_
  refine g_pu rfl rfl rfl (pu_assign rfl rfl) ?_
  refine g_pu rfl rfl rfl (pu_assign rfl rfl) ?_
  refine g_nil ?_
  by_cases h0 : n = 0
  · (repeat refine g_seq ?_)
    refine g_region ?_
    refine g_pu rfl rfl rfl (pu_move rfl rfl) ?_
    first | refine g_pu rfl rfl rfl (pu_len rfl rfl) ?_ | refine g_pu rfl rfl rfl (pu_lenS rfl rfl) ?_
    first | refine g_pu rfl rfl rfl (pu_eql_t rfl rfl rfl (by omega)) ?_ | refine g_pu rfl rfl rfl (pu_eql_f rfl rfl rfl (by omega)) ?_ | refine g_pu rfl rfl rfl (pu_eql rfl rfl rfl) ?_
    refine g_nil ?_
    (repeat refine g_seq ?_)
    refine g_cond_t rfl ?_
    (repeat refine g_seq ?_)
    refine g_region ?_
    refine g_pu rfl rfl rfl (pu_assign rfl rfl) ?_
    refine g_pu rfl rfl rfl (pu_assign rfl rfl) ?_
    refine g_nil ?_
    have hl0 : ls = [] := List.eq_nil_of_length_eq_zero (by omega)
    subst hl0
    exact g_nilOwn 90 5 1 rfl (g_ret2 rfl rfl rfl (fun w' hm => ⟨⟨none, 0⟩, trivial, rfl, hm.grows [90] ⟨rfl, trivial⟩ rfl⟩))
  · (repeat refine g_seq ?_)
    refine g_region ?_
    refine g_pu rfl rfl rfl (pu_move rfl rfl) ?_
    first | refine g_pu rfl rfl rfl (pu_len rfl rfl) ?_ | refine g_pu rfl rfl rfl (pu_lenS rfl rfl) ?_
    first | refine g_pu rfl rfl rfl (pu_eql_t rfl rfl rfl (by omega)) ?_ | refine g_pu rfl rfl rfl (pu_eql_f rfl rfl rfl (by omega)) ?_ | refine g_pu rfl rfl rfl (pu_eql rfl rfl rfl) ?_
    refine g_nil ?_
    (repeat refine g_seq ?_)
    refine g_cond_f rfl (g_skip ?_)
    obtain ⟨l0, r, rfl⟩ : ∃ l0 r, ls = l0 :: r := by
      cases ls with
      | nil => simp at hln; omega
      | cons a r => exact ⟨a, r, rfl⟩
    obtain ⟨q, m, cc, hL, hq⟩ := ha.at (i := 0) (l := l0) rfl
    have hq1 := hq.len
    have hq2 := hq.big
    have hcut := ha.cut hc 1
    simp only [List.drop_succ_cons, List.drop_zero] at hcut
    have hrl : r.length = n - 1 := by simp at hln; omega
    (repeat refine g_seq ?_)
    refine g_region ?_
    refine g_pu rfl rfl rfl (pu_move rfl rfl) ?_
    refine g_pu rfl rfl rfl (pu_atM1 0 (fun w' hm => (ha.m hm).rd) rfl rfl rfl rfl (by omega) (by omega)) ?_
    refine g_pu rfl rfl rfl (pu_rdM (fun w' hm => (ha.m hm).rd) rfl rfl hL) ?_
    refine g_call [14] rfl rfl rfl rfl rfl rfl (fun w' hm => Clone_b w' cc (hq.m hm)) (fun x14 _ => ?_)
    refine g_pu rfl rfl rfl (pu_assign rfl rfl) ?_
    refine g_nil ?_
    obtain ⟨p14, c14⟩ := x14
    (repeat refine g_seq ?_)
    refine g_region ?_
    refine g_pu rfl rfl rfl (pu_move rfl rfl) ?_
    refine g_pu rfl rfl rfl (pu_slice_l 1 rfl rfl rfl rfl (by omega)) ?_
    first | refine g_pu rfl rfl rfl (pu_len rfl rfl) ?_ | refine g_pu rfl rfl rfl (pu_lenS rfl rfl) ?_
    refine g_pu rfl rfl rfl (pu_move rfl rfl) ?_
    refine g_nil ?_
    refine g_block (g_loop (σ := Nat) (fun j => [(4, .slice p14 m c14), (16, .slice (cutp p c 1 1) (n - 1) (c - 1)), (17, .int .i64 ((n - 1 : Nat) : Int)), (18, .int .i64 (j : Int))]) (fun j => [(14, .fact (At p14) (Own 5 1 p14 c14 (bs ((r.take j).foldl xorL l0))))]) (fun j => j ≤ r.length ∧ ((r.take j).all fun m => m.length == l0.length) = true ∧ ((r.take j).foldl xorL l0).length = m) (fun j => n - j) 0 ⟨rfl, rfl, rfl, rfl, trivial⟩ ⟨rfl, trivial⟩ ⟨by omega, rfl, hq1⟩ ?_)
    intro j ⟨hj, hall, hlen⟩
    by_cases hlt : j < n - 1
    · (repeat refine g_seq ?_)
      refine g_region ?_
      first | refine g_pu rfl rfl rfl (pu_lss_t rfl rfl rfl (by omega)) ?_ | refine g_pu rfl rfl rfl (pu_lss_f rfl rfl rfl (by omega)) ?_ | refine g_pu rfl rfl rfl (pu_lss rfl rfl rfl) ?_
      refine g_nil ?_
      (repeat refine g_seq ?_)
      refine g_cond_t rfl (g_skip ?_)
      have hl : r[j]? = some r[j] := List.getElem?_eq_getElem (by omega)
      generalize r[j] = b at hl
      obtain ⟨q2, m2, c2, hL2, hq'⟩ := hcut.at hl
      have hq3 := hq'.len
      have ht : r.take (j + 1) = r.take j ++ [b] := by rw [List.take_add_one, hl]; rfl
      (repeat refine g_seq ?_); refine g_block ?_
      (repeat refine g_seq ?_)
      refine g_region ?_
      refine g_pu rfl rfl rfl (pu_atM1 j (fun w' hm => (hcut.m hm).rd) rfl rfl rfl rfl (by omega) (by rw [hcut.len]; omega)) ?_
      refine g_pu rfl rfl rfl (pu_rdM (fun w' hm => (hcut.m hm).rd) rfl rfl hL2) ?_
      refine g_pu rfl rfl rfl (pu_assign rfl rfl) ?_
      refine g_nil ?_
      by_cases hne : m2 = m
      · (repeat refine g_seq ?_)
        refine g_region ?_
        refine g_pu rfl rfl rfl (pu_move rfl rfl) ?_
        first | refine g_pu rfl rfl rfl (pu_len rfl rfl) ?_ | refine g_pu rfl rfl rfl (pu_lenS rfl rfl) ?_
        refine g_pu rfl rfl rfl (pu_move rfl rfl) ?_
        first | refine g_pu rfl rfl rfl (pu_len rfl rfl) ?_ | refine g_pu rfl rfl rfl (pu_lenS rfl rfl) ?_
        first | refine g_pu rfl rfl rfl (pu_neq_t rfl rfl rfl (by omega)) ?_ | refine g_pu rfl rfl rfl (pu_neq_f rfl rfl rfl (by omega)) ?_ | refine g_pu rfl rfl rfl (pu_neq rfl rfl rfl) ?_
        refine g_nil ?_
        (repeat refine g_seq ?_)
        refine g_cond_f rfl (g_skip ?_)
        subst hne
        generalize hacc : (r.take j).foldl xorL l0 = a at hlen
        (repeat refine g_seq ?_)
        refine g_region ?_
        refine g_pu rfl rfl rfl (pu_move rfl rfl) ?_
        first | refine g_pu rfl rfl rfl (pu_len rfl rfl) ?_ | refine g_pu rfl rfl rfl (pu_lenS rfl rfl) ?_
        refine g_pu rfl rfl rfl (pu_move rfl rfl) ?_
        refine g_nil ?_
        have hab : b.length = a.length := by omega
        refine g_block (g_loop (σ := Nat) (fun i => [(4, .slice p14 m2 c14), (6, .slice q2 m2 c2), (16, .slice (cutp p c 1 1) (n - 1) (c - 1)), (17, .int .i64 ((n - 1 : Nat) : Int)), (18, .int .i64 (j : Int)), (28, .int .i64 (m2 : Int)), (29, .int .i64 (i : Int))]) (fun i => [(14, .fact (At p14) (Own 5 1 p14 c14 (bs (xorAt a b i))))]) (fun i => i ≤ m2) (fun i => m2 - i) 0 ⟨rfl, rfl, rfl, rfl, rfl, rfl, rfl, trivial⟩ ⟨by rw [xorAt_zero, ← hacc]; rfl, trivial⟩ (by omega) ?_)
        intro i hi
        have hxl := xorAt_length (i := i) hab (by omega)
        by_cases hlt2 : i < m2
        · (repeat refine g_seq ?_)
          refine g_region ?_
          first | refine g_pu rfl rfl rfl (pu_lss_t rfl rfl rfl (by omega)) ?_ | refine g_pu rfl rfl rfl (pu_lss_f rfl rfl rfl (by omega)) ?_ | refine g_pu rfl rfl rfl (pu_lss rfl rfl rfl) ?_
          refine g_nil ?_
          (repeat refine g_seq ?_)
          refine g_cond_t rfl (g_skip ?_)
          have h1 : a[i]? = some a[i] := List.getElem?_eq_getElem (by omega)
          have h2 : b[i]? = some b[i] := List.getElem?_eq_getElem (by omega)
          (repeat refine g_seq ?_); refine g_block ?_
          (repeat refine g_seq ?_)
          refine g_region ?_
          refine g_pu rfl rfl rfl (pu_move rfl rfl) ?_
          refine g_pu rfl rfl rfl (pu_assign rfl rfl) ?_
          refine g_nil ?_
          refine g_row 14 rfl (by rw [bs_length]; omega) (fun bb J hp hJ hcap => ?_)
          subst hp
          (repeat refine g_seq ?_)
          refine g_any (10, []) ?_
          refine a_pu 0 rfl rfl rfl rfl (pu_move rfl rfl) rfl rfl (by kernel_rfl) ?_
          refine a_pu 1 rfl rfl rfl rfl (pu_move rfl rfl) rfl rfl (by kernel_rfl) ?_
          refine a_pu 2 rfl rfl rfl rfl (pu_at1 i rfl rfl rfl rfl (by omega)) rfl rfl (by kernel_rfl) ?_
          refine a_pu 3 rfl rfl rfl rfl (pu_load 14 (v := b8 a[i]) rfl rfl rfl (by rw [Nat.zero_add, List.getElem?_toArray, List.getElem?_append_left (by rw [bs_length]; omega)]; exact bs_get ((xorAt_get hab (by omega)).trans h1))) rfl rfl (by kernel_rfl) ?_
          refine a_pu 4 rfl rfl rfl rfl (pu_move rfl rfl) rfl rfl (by kernel_rfl) ?_
          refine a_pu 5 rfl rfl rfl rfl (pu_move rfl rfl) rfl rfl (by kernel_rfl) ?_
          refine a_pu 6 rfl rfl rfl rfl (pu_atB i (fun w' hm => hq'.m hm) rfl rfl rfl (by omega) (by omega)) rfl rfl (by kernel_rfl) ?_
          refine a_pu 7 rfl rfl rfl rfl (pu_rdB (fun w' hm => hq'.m hm) rfl rfl h2) rfl rfl (by kernel_rfl) ?_
          refine a_pu 8 rfl rfl rfl rfl (pu_xor8 rfl rfl rfl) rfl rfl (by kernel_rfl) ?_
          refine a_pu 9 rfl rfl rfl rfl (pu_at1 i rfl rfl rfl rfl (by omega)) rfl rfl (by kernel_rfl) ?_
          refine a_tail [10] (by kernel_rfl) rfl rfl (by kernel_rfl) ?_
          refine g_store 14 (v := b8 (a[i] ^^^ b[i])) rfl rfl rfl rfl rfl rfl rfl (by rw [List.length_append, bs_length]; omega) ?_
          refine g_nil ?_
          have hset := xorAt_set (i := i) hab h1 h2 J
          refine g_own 14 (L := bs (xorAt a b (i + 1))) (J := J) (c := c14) (s := 1) (by rw [← hset, Nat.zero_add]; rfl) (by refine ⟨?_, by rw [← hset, List.length_set]; exact hJ.2⟩; have hJ1 := hJ.1; rw [bs_length, xorAt_length hab (by omega)] at hJ1 ⊢; exact hJ1) hcap ?_
          refine g_blk ?_
          (repeat refine g_seq ?_)
          refine g_region ?_
          refine g_pu rfl rfl rfl (pu_addI rfl rfl rfl (by omega)) ?_
          refine g_pu rfl rfl rfl (pu_move rfl rfl) ?_
          refine g_nil ?_
          exact g_round (i + 1) (by omega) (by omega) ⟨rfl, rfl, rfl, rfl, rfl, rfl, rfl, trivial⟩ ⟨rfl, trivial⟩
        · (repeat refine g_seq ?_)
          refine g_region ?_
          first | refine g_pu rfl rfl rfl (pu_lss_t rfl rfl rfl (by omega)) ?_ | refine g_pu rfl rfl rfl (pu_lss_f rfl rfl rfl (by omega)) ?_ | refine g_pu rfl rfl rfl (pu_lss rfl rfl rfl) ?_
          refine g_nil ?_
          (repeat refine g_seq ?_)
          refine g_cond_f rfl (g_exit rfl ?_)
          have e1 : i = m2 := by omega
          subst e1
          refine g_blk ?_
          (repeat refine g_seq ?_)
          refine g_region ?_
          refine g_pu rfl rfl rfl (pu_addI rfl rfl rfl (by omega)) ?_
          refine g_pu rfl rfl rfl (pu_move rfl rfl) ?_
          refine g_nil ?_
          have hfold : (r.take (j + 1)).foldl xorL l0 = xorL a b := by rw [ht, List.foldl_append, hacc]; rfl
          refine g_round (j + 1) ⟨by omega, ?_, ?_⟩ (by omega) ⟨rfl, rfl, rfl, rfl, trivial⟩ ⟨by rw [hfold, ← xorAt_end hab hlen]; rfl, trivial⟩
          · rw [ht, List.all_append, hall]
            simp; omega
          · rw [hfold, xorL_length hab, hlen]
      · (repeat refine g_seq ?_)
        refine g_region ?_
        refine g_pu rfl rfl rfl (pu_move rfl rfl) ?_
        first | refine g_pu rfl rfl rfl (pu_len rfl rfl) ?_ | refine g_pu rfl rfl rfl (pu_lenS rfl rfl) ?_
        refine g_pu rfl rfl rfl (pu_move rfl rfl) ?_
        first | refine g_pu rfl rfl rfl (pu_len rfl rfl) ?_ | refine g_pu rfl rfl rfl (pu_lenS rfl rfl) ?_
        first | refine g_pu rfl rfl rfl (pu_neq_t rfl rfl rfl (by omega)) ?_ | refine g_pu rfl rfl rfl (pu_neq_f rfl rfl rfl (by omega)) ?_ | refine g_pu rfl rfl rfl (pu_neq rfl rfl rfl) ?_
        refine g_nil ?_
        (repeat refine g_seq ?_)
        refine g_cond_t rfl ?_
        (repeat refine g_seq ?_)
        refine g_region ?_
        refine g_pu rfl rfl rfl (pu_assign rfl rfl) ?_
        refine g_pu rfl rfl rfl (pu_assign rfl rfl) ?_
        refine g_nil ?_
        have hbad : xorOk (l0 :: r) = false := by
          rw [Bool.eq_false_iff]
          intro h
          have := List.all_eq_true.1 h b (List.mem_of_getElem? hl)
          simp at this; omega
        have hE : xorE (l0 :: r) = 2 := by simp [xorE, hbad]
        have hV : xorV (l0 :: r) = [] := by simp [xorV, hbad]
        rw [hE, hV]
        exact g_nilOwn 90 5 1 rfl (g_ret2 rfl rfl rfl (fun w' hm => ⟨⟨none, 0⟩, trivial, rfl, hm.grows [90] ⟨rfl, trivial⟩ rfl⟩))
    · (repeat refine g_seq ?_)
      refine g_region ?_
      first | refine g_pu rfl rfl rfl (pu_lss_t rfl rfl rfl (by omega)) ?_ | refine g_pu rfl rfl rfl (pu_lss_f rfl rfl rfl (by omega)) ?_ | refine g_pu rfl rfl rfl (pu_lss rfl rfl rfl) ?_
      refine g_nil ?_
      (repeat refine g_seq ?_)
      refine g_cond_f rfl (g_exit rfl ?_)
      (repeat refine g_seq ?_)
      refine g_region ?_
      refine g_pu rfl rfl rfl (pu_move rfl rfl) ?_
      refine g_pu rfl rfl rfl (pu_assign rfl rfl) ?_
      refine g_pu rfl rfl rfl (pu_assign rfl rfl) ?_
      refine g_nil ?_
      have e1 : j = r.length := by omega
      subst e1
      rw [List.take_of_length_le (Nat.le_refl _)] at hall hlen ⊢
      have hok : xorOk (l0 :: r) = true := hall
      have hE : xorE (l0 :: r) = 0 := by simp [xorE, hok]
      have hV : xorV (l0 :: r) = r.foldl xorL l0 := by simp [xorV, hok]
      rw [hE, hV, hlen]
      exact g_ret2 rfl rfl rfl (fun w' hm => ⟨⟨p14, c14⟩, trivial, rfl, hm.grows [14] ⟨rfl, trivial⟩ rfl⟩)
end Go.Sx

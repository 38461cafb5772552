/-
  Copies of lists of bytes; the place by place turning of lists, of the codec and of its reference. A list of lists takes at most 2^47 bytes.
-/
import Derived.Test.YtjmihjcahjpkmaaC2
set_option linter.unusedVariables false
set_option linter.unusedSimpArgs false
namespace Go.Sx
open Go Go.Proofs

theorem isSl_of {L : List Value} (h : L.all isSl = true) {v : Value} (hv : v ∈ L) : ∃ q m c, v = .slice q m c := by
  have := List.all_eq_true.1 h v hv
  cases v <;> simp [isSl] at this ⊢
theorem oneCell_sl {L : List Value} (h : L.all isSl = true) : ∀ u ∈ L, u.oneCell' = true := fun u hu => by
  obtain ⟨q, m, c, rfl⟩ := isSl_of h hu; rfl

theorem Copies_b (w : World) {p : Option Addr} {n : Nat} (c : Nat) {L : List Value} {ls : List (List (BitVec 8))} (ha : ByL w p n L ls) :
    Spec Try.prog 22 #[.slice p n c] w (σ := Owl) (Owl.ok n) (fun x => x.sl n) Nob (fun x => [x.ck 22, x.ckE ls]) := by
  refine enter Try.func22 rfl rfl (Mem.start w) ?_
  have hn := ha.len
  have hbig := ha.big
  have hln := ha.lenL
  (repeat refine g_seq ?_)
  refine g_region ?_
  refine g_pu rfl rfl rfl (pu_assign rfl rfl) ?_
  refine g_nil ?_
  (repeat refine g_seq ?_)
  refine g_region ?_
  refine g_pu rfl rfl rfl (pu_move rfl rfl) ?_
  first | refine g_pu rfl rfl rfl (pu_len rfl rfl) ?_ | refine g_pu rfl rfl rfl (pu_lenS rfl rfl) ?_
  refine g_lo [1] rfl rfl rfl rfl (lo_make (n := 0) (c := n) rfl rfl rfl (by omega) (by omega) (by omega) rfl) (fun b7 hb7 => ?_)
  refine g_pu rfl rfl rfl (pu_assign rfl rfl) ?_
  refine g_nil ?_
  refine g_own 1 (L := []) (J := List.replicate n (.slice none 0 0)) (c := n) (s := 1) rfl (by simp) (by omega) ?_
  refine g_noEls 2 rfl ?_
  (repeat refine g_seq ?_)
  refine g_region ?_
  refine g_pu rfl rfl rfl (pu_assign rfl rfl) ?_
  refine g_nil ?_
  refine g_block (g_loop2 (fun (i : Nat) (x : Owl) => [(0, .slice p n c), (3, x.sl i), (4, .int .i64 (i : Int))]) (fun i x => [(1, x.ck 22), (2, x.ckE (ls.take i))]) (fun i x => i ≤ n ∧ x.ok i) (fun i _ => n - i) 0 ⟨some ⟨b7, 0, none⟩, n, [], Nob⟩ ⟨rfl, rfl, rfl, trivial⟩ ⟨rfl, rfl, trivial⟩ ⟨by omega, rfl, rfl⟩ ?_)
  intro i x ⟨hi, hx⟩
  by_cases hlt : i < n
  · (repeat refine g_seq ?_)
    refine g_region ?_
    refine g_pu rfl rfl rfl (pu_move rfl rfl) ?_
    refine g_pu rfl rfl rfl (pu_move rfl rfl) ?_
    first | refine g_pu rfl rfl rfl (pu_len rfl rfl) ?_ | refine g_pu rfl rfl rfl (pu_lenS rfl rfl) ?_
    first | refine g_pu rfl rfl rfl (pu_lss_t rfl rfl rfl (by omega)) ?_ | refine g_pu rfl rfl rfl (pu_lss_f rfl rfl rfl (by omega)) ?_ | refine g_pu rfl rfl rfl (pu_lss rfl rfl rfl) ?_
    refine g_nil ?_
    (repeat refine g_seq ?_)
    refine g_cond_t rfl (g_skip ?_)
    have hl : ls[i]? = some ls[i] := List.getElem?_eq_getElem (by omega)
    obtain ⟨q, m, cc, hL, hq⟩ := ha.at hl
    (repeat refine g_seq ?_); refine g_block ?_
    (repeat refine g_seq ?_)
    refine g_region ?_
    refine g_pu rfl rfl rfl (pu_move rfl rfl) ?_
    refine g_pu rfl rfl rfl (pu_move rfl rfl) ?_
    refine g_pu rfl rfl rfl (pu_move rfl rfl) ?_
    refine g_pu rfl rfl rfl (pu_atM1 i (fun w' hm => (ha.m hm).rd) rfl rfl rfl rfl hlt (by omega)) ?_
    refine g_pu rfl rfl rfl (pu_rdM (fun w' hm => (ha.m hm).rd) rfl rfl hL) ?_
    refine g_call [19] rfl rfl rfl rfl rfl rfl (fun w' hm => Copy_b w' cc (hq.m hm)) (fun x19 _ => ?_)
    refine g_lo [20] rfl rfl rfl rfl (lo_buildSlice rfl rfl (by decide) (by decide) rfl rfl) (fun b20 hb20 => ?_)
    refine g_append1 1 [x19.sl m] rfl rfl rfl rfl rfl rfl rfl rfl hx.1 (fun w' hm => hm.row 20 (J := []) rfl) rfl (fun u hu => by obtain rfl := List.mem_singleton.1 hu; rfl) (by omega) (by omega) (fun p' c' => ?_)
    refine g_pu rfl rfl rfl (pu_assign rfl rfl) ?_
    refine g_nil ?_
    refine g_join_el 2 19 (S := x.S) (L := x.L) (ls := ls.take i) (x := x19) (n := m) (l := ls[i]) rfl rfl hq.len hq.big rfl ?_
    refine g_blk ?_
    (repeat refine g_seq ?_)
    refine g_region ?_
    refine g_pu rfl rfl rfl (pu_move rfl rfl) ?_
    refine g_pu rfl rfl rfl (pu_addI rfl rfl rfl (by omega)) ?_
    refine g_pu rfl rfl rfl (pu_assign rfl rfl) ?_
    refine g_nil ?_
    have ht : ls.take (i + 1) = ls.take i ++ [ls[i]] := by rw [List.take_add_one, hl]; rfl
    refine g_round2 (i + 1) (⟨p', c', x.L ++ [x19.sl m], fun j => x.S j ∨ At x19.p j⟩ : Owl) ⟨by omega, by simp [hx.1], by simp [hx.2, Ow.sl, isSl]⟩ (by omega) ⟨rfl, rfl, rfl, trivial⟩ ⟨rfl, by rw [ht]; rfl, trivial⟩
  · (repeat refine g_seq ?_)
    refine g_region ?_
    refine g_pu rfl rfl rfl (pu_move rfl rfl) ?_
    refine g_pu rfl rfl rfl (pu_move rfl rfl) ?_
    first | refine g_pu rfl rfl rfl (pu_len rfl rfl) ?_ | refine g_pu rfl rfl rfl (pu_lenS rfl rfl) ?_
    first | refine g_pu rfl rfl rfl (pu_lss_t rfl rfl rfl (by omega)) ?_ | refine g_pu rfl rfl rfl (pu_lss_f rfl rfl rfl (by omega)) ?_ | refine g_pu rfl rfl rfl (pu_lss rfl rfl rfl) ?_
    refine g_nil ?_
    (repeat refine g_seq ?_)
    refine g_cond_f rfl (g_exit rfl ?_)
    (repeat refine g_seq ?_)
    refine g_region ?_
    refine g_pu rfl rfl rfl (pu_move rfl rfl) ?_
    refine g_pu rfl rfl rfl (pu_assign rfl rfl) ?_
    refine g_nil ?_
    have e1 : i = n := by omega
    subst e1
    rw [List.take_of_length_le (by omega)]
    exact g_ret1 rfl rfl (fun w' hm => ⟨x, hx, rfl, hm.grows [1, 2] ⟨rfl, rfl, trivial⟩ rfl⟩)

/-! ## Turning lists by one another -/
def xorL (a b : List (BitVec 8)) : List (BitVec 8) := List.zipWith (· ^^^ ·) a b
def xorAt (a b : List (BitVec 8)) (i : Nat) : List (BitVec 8) := (xorL a b).take i ++ a.drop i
def xorOk : List (List (BitVec 8)) → Bool
  | [] => true
  | l :: r => r.all fun m => m.length == l.length
def xorV : List (List (BitVec 8)) → List (BitVec 8)
  | [] => []
  | l :: r => if xorOk (l :: r) then r.foldl xorL l else []
def xorE (ls : List (List (BitVec 8))) : Int := if xorOk ls then 0 else 2

theorem xorL_length {a b : List (BitVec 8)} (h : b.length = a.length) : (xorL a b).length = a.length := by simp [xorL, h]
theorem xorAt_zero (a b : List (BitVec 8)) : xorAt a b 0 = a := by simp [xorAt]
theorem xorAt_end {a b : List (BitVec 8)} {n : Nat} (h : b.length = a.length) (hn : a.length = n) : xorAt a b n = xorL a b := by
  unfold xorAt
  rw [List.take_of_length_le (by rw [xorL_length h]; omega), List.drop_of_length_le (by omega), List.append_nil]
theorem xorAt_length {a b : List (BitVec 8)} {i : Nat} (h : b.length = a.length) (hi : i ≤ a.length) : (xorAt a b i).length = a.length := by
  simp [xorAt, xorL_length h]; omega
theorem xorAt_get {a b : List (BitVec 8)} {i : Nat} (h : b.length = a.length) (hi : i < a.length) : (xorAt a b i)[i]? = a[i]? := by
  unfold xorAt
  rw [List.getElem?_append_right (by simp [xorL_length h]; omega)]
  simp [xorL_length h, Nat.min_eq_left (Nat.le_of_lt hi)]
theorem xorAt_set {a b : List (BitVec 8)} {i : Nat} {x y : BitVec 8} (h : b.length = a.length) (hx : a[i]? = some x) (hy : b[i]? = some y) (J : List Value) :
    (bs (xorAt a b i) ++ J).set i (b8 (x ^^^ y)) = bs (xorAt a b (i + 1)) ++ J := by
  have hi : i < a.length := (List.getElem?_eq_some_iff.1 hx).1
  have hl : (bs (xorAt a b i)).length = a.length := by rw [bs_length, xorAt_length h (by omega)]
  rw [List.set_append_left _ _ (by omega)]
  congr 1
  apply List.ext_getElem?
  intro j
  have hz : (xorL a b)[i]? = some (x ^^^ y) := by simp [xorL, List.getElem?_zipWith, hx, hy]
  have hxl := xorL_length h
  by_cases hj : i = j
  · subst hj
    rw [List.getElem?_set_self (by omega)]
    simp only [bs, List.getElem?_map, xorAt]
    rw [List.getElem?_append_left (by simp [hxl]; omega), List.getElem?_take, if_pos (by omega), hz]
    rfl
  · rw [List.getElem?_set_ne hj]
    simp only [bs, List.getElem?_map]
    congr 1
    unfold xorAt
    by_cases hlt : j < i
    · rw [List.getElem?_append_left (by simp [hxl]; omega), List.getElem?_append_left (by simp [hxl]; omega), List.getElem?_take, List.getElem?_take, if_pos hlt, if_pos (by omega)]
    · rw [List.getElem?_append_right (by simp [hxl]; omega), List.getElem?_append_right (by simp [hxl]; omega)]
      simp only [List.length_take, hxl, List.getElem?_drop]
      congr 1; omega

theorem ByL.cut {w : World} {p : Option Addr} {n c : Nat} {L : List Value} {ls : List (List (BitVec 8))} (h : ByL w p n L ls) (hc : n ≤ c) (j : Nat) : ByL w (cutp p c j 1) (n - j) (L.drop j) (ls.drop j) := by
  refine ⟨h.rd.cut (by rw [h.len]; exact hc), by rw [List.length_drop, h.len], ⟨by simp [h.els.1], fun i x y hx hy => ?_⟩, by have := h.big; omega⟩
  rw [List.getElem?_drop] at hx hy
  exact h.els.2 _ x y hx hy

end Go.Sx

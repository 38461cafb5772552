import Derived.Test.YtigcogjilfnpcaaYA
import Derived.Test.YtigcogjilfnpcaaXE
import Derived.Test.YtigcogjilfnpcaaGL
set_option linter.unusedVariables false
set_option linter.unusedSimpArgs false
/-
  The first of a list of slices; a pair's public key. The lists fit memory.
-/
namespace Go.Sx
open Go Go.Proofs

theorem npC_okT {k : List (BitVec 8)} (h : xmE k nine = 0) : npC k = prC k (xmV k nine) := if_pos h
theorem By.prT (t : Nat) {w0 w : World} {D : Blocks} {M : List (Nat × Ck)} {b : Nat} {E : TypeId} {fz : Nat × Nat} {a l : List (BitVec 8)} (hM : mget M t = some (.pt b (.cells (prC a l).toArray E fz))) (hm : Mem w0 D M w) (ha : a.length = 32) (hl : l.length = 32) : By w (some ⟨b, 32, none⟩) 32 l := by
  refine ⟨RdV.pt (hm.holds t _ hM) (fun i v hv => ?_), hl, by omega⟩
  rw [List.getElem?_toArray, prC, List.getElem?_append_right (by rw [bs_length, ha]; omega), bs_length, ha, show 32 + i - 32 = i by omega]
  exact hv
theorem oneCell_npT (k : List (BitVec 8)) : ∀ u ∈ npC k, u.oneCell' = true := by
  unfold npC
  split
  · exact oneCell_prC _ _
  · exact oneCell_prC _ _
theorem ByL.preT {w : World} {q : Option Addr} {m : Nat} {L : List Value} {ls : List (List (BitVec 8))} (h : ByL w q m L ls) {j : Nat} (hj : j ≤ m) : ByL w q j (L.take j) (ls.take j) := by
  refine ⟨RdV.fst h.rd, by rw [List.length_take, h.len, Nat.min_eq_left hj], ?_, by have := h.big; omega⟩
  refine ⟨by rw [List.length_take, List.length_take, h.els.1], fun i v l hv hl => ?_⟩
  have hi : i < j := by
    have := (List.getElem?_eq_some_iff.1 hv).1
    rw [List.length_take] at this; omega
  rw [List.getElem?_take_of_lt hi] at hv hl
  exact h.els.2 i v l hv hl
theorem ByL.one {w : World} {q : Option Addr} {m : Nat} {L : List Value} {ls : List (List (BitVec 8))} (h : ByL w q m L ls) : ∀ u ∈ L, u.oneCell' = true := fun u hu => by
  obtain ⟨i, hi⟩ := List.getElem?_of_mem hu
  have hlt : i < ls.length := by
    have := (List.getElem?_eq_some_iff.1 hi).1
    have h2 := h.els.1
    omega
  obtain ⟨q, m, c, e, _⟩ := h.els.2 i u _ hi (List.getElem?_eq_getElem hlt)
  rw [e]; rfl

theorem few_b (w : World) {q : Option Addr} {m : Nat} (d k : Nat) {L : List Value} {ls : List (List (BitVec 8))} (ha : ByL w q m L ls) (hk : k ≤ 4096) (hmd : m ≤ d) : Spec Try.prog 60 #[.slice q m d, .int .i64 (k : Int)] w (σ := Ow) (fun _ => True) (fun x => x.sl (Nat.min m k)) Nob (fun x => [x.ck 26 1 (L.take (Nat.min m k))]) := by
  refine enter Try.func60 rfl rfl (Mem.start w) ?_
  (repeat refine g_seq ?_)
  refine g_region ?_
  refine g_pu rfl rfl rfl (pu_assign rfl rfl) ?_
  refine g_nil ?_
  refine g_seq ?_
  refine g_join (σ := Nat × List Value) (fun x => [(0, .slice q x.1 d)]) (fun _ => []) (fun x => RdV w q x.2 ∧ x.2.length = x.1 ∧ x.2 = L.take (Nat.min m k) ∧ x.1 = Nat.min m k ∧ x.1 ≤ 4096 ∧ ∀ u ∈ x.2, u.oneCell' = true) ?_ (fun x hx => ?_)
  · have hl := ha.len
    by_cases h4 : m > k
    · have e : Nat.min m k = k := Nat.min_eq_right (by omega)
      have hp := ha.preT (j := k) (by omega)
      rw [e]
      (repeat refine g_seq ?_)
      refine g_region ?_
      refine g_pu rfl rfl rfl (pu_move rfl rfl) ?_
      first | refine g_pu rfl rfl rfl (pu_len rfl rfl) ?_ | refine g_pu rfl rfl rfl (pu_lenS rfl rfl) ?_
      refine g_pu rfl rfl rfl (pu_move rfl rfl) ?_
      refine g_pu rfl rfl rfl (pu_gtr_t rfl rfl rfl (by omega)) ?_
      refine g_nil ?_
      (repeat refine g_seq ?_)
      refine g_cond_t rfl ?_
      (repeat refine g_seq ?_)
      refine g_region ?_
      refine g_pu rfl rfl rfl (pu_move rfl rfl) ?_
      refine g_pu rfl rfl rfl (pu_move rfl rfl) ?_
      refine g_pu rfl rfl rfl (pu_slice_h k rfl rfl rfl rfl (by omega)) ?_
      refine g_pu rfl rfl rfl (pu_assign rfl rfl) ?_
      refine g_nil ?_
      exact g_meet (k, L.take k) ⟨hp.rd, hp.len, rfl, rfl, hk, hp.one⟩ ⟨rfl, trivial⟩ trivial
    · have e : Nat.min m k = m := Nat.min_eq_left (by omega)
      rw [e]
      (repeat refine g_seq ?_)
      refine g_region ?_
      refine g_pu rfl rfl rfl (pu_move rfl rfl) ?_
      first | refine g_pu rfl rfl rfl (pu_len rfl rfl) ?_ | refine g_pu rfl rfl rfl (pu_lenS rfl rfl) ?_
      refine g_pu rfl rfl rfl (pu_move rfl rfl) ?_
      refine g_pu rfl rfl rfl (pu_gtr_f rfl rfl rfl (by omega)) ?_
      refine g_nil ?_
      (repeat refine g_seq ?_)
      refine g_cond_f rfl (g_skip ?_)
      exact g_meet (m, L) ⟨ha.rd, hl, by rw [List.take_of_length_le (by omega)], rfl, by show m ≤ 4096; omega, ha.one⟩ ⟨rfl, trivial⟩ trivial
  obtain ⟨n1, l1⟩ := x
  obtain ⟨h1, h2, h3, h4, h5, h6⟩ := hx
  dsimp only at h1 h2 h3 h4 h5 h6 ⊢
  rw [← h4] at h3 ⊢
  rw [← h3]
  (repeat refine g_seq ?_)
  refine g_region ?_
  refine g_lo [12] rfl rfl rfl rfl (lo_buildSlice0 rfl) (fun b12 hb12 => ?_)
  refine g_own 12 (L := []) (J := []) (c := 0) (s := 1) rfl (by simp) (by omega) ?_
  refine g_pu rfl rfl rfl (pu_move rfl rfl) ?_
  refine g_append1 12 l1 rfl rfl rfl rfl rfl rfl rfl rfl rfl (fun w' hm => h1.mem0 hm) h2 h6 (by omega) (by omega) (fun p' c' => ?_)
  refine g_pu rfl rfl rfl (pu_assign rfl rfl) ?_
  refine g_nil ?_
  exact g_ret1 rfl rfl (fun w' hm => ⟨⟨p', c'⟩, trivial, by simp [Ow.sl], hm.grows [12] ⟨rfl, trivial⟩ rfl⟩)
end Go.Sx

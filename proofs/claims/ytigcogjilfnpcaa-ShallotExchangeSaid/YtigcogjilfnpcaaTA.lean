import Derived.Test.YtigcogjilfnpcaaYB
import Derived.Test.YtigcogjilfnpcaaXE
set_option linter.unusedVariables false
set_option linter.unusedSimpArgs false
/-
  Small things of the theorems through the layers: bytes against bytes, and the first of a list. The lists fit memory.
-/
namespace Go.Sx
open Go Go.Proofs

theorem apartT {w0 w : World} {D : Blocks} {M : List (Nat × Ck)} (hm : Mem w0 D M w) (t t' : Nat) {E : TypeId} {bb : Nat} {ob : Obj} {x : Ow} {s : Nat} {L : List Value} (h : mget M t = some (x.ck E s L)) (h' : mget M t' = some (.pt bb ob)) (hne : t ≠ t') : ∀ b o, x.p = some ⟨b, o, none⟩ → ¬ b = bb := fun b o e hb => by
  refine hm.apart t _ t' _ h h' hne b ?_ hb
  show At x.p b
  rw [e]; exact At.some.2 rfl
theorem leT {w0 w : World} {D : Blocks} {M : List (Nat × Ck)} (hm : Mem w0 D M w) (t : Nat) {E : TypeId} {x : Ow} {l : List (BitVec 8)} {n : Nat} (h : mget M t = some (x.ck E 1 (bs l))) (hn : l.length = n) : n ≤ x.c := by
  have := Own.le (hm.holds t _ h)
  rw [bs_length] at this
  omega

theorem is_takeT (ns : List Int) (k : Nat) : (is ns).take k = is (ns.take k) := by simp [is, List.map_take]
theorem oneCell_isT (ns : List Int) : ∀ u ∈ is ns, u.oneCell' = true := fun u hu => by
  obtain ⟨z, _, rfl⟩ := List.mem_map.1 hu
  rfl
theorem sameB_b (w : World) {p q : Option Addr} {n m : Nat} (c d : Nat) {a b : List (BitVec 8)} (ha : By w p n a) (hb : By w q m b) : Spec Try.prog 14 #[.slice p n c, .slice q m d] w (σ := Unit) (fun _ => True) (fun _ => .bool (decide (a = b))) Nob (fun _ => []) := by
  refine enter Try.func14 rfl rfl (Mem.start w) ?_
  (repeat refine g_seq ?_)
  refine g_region ?_
  refine g_pu rfl rfl rfl (pu_assign rfl rfl) ?_
  refine g_nil ?_
  by_cases h : a = b
  · rw [decide_eq_true h]
    (repeat refine g_seq ?_)
    refine g_region ?_
    refine g_pu rfl rfl rfl (pu_move rfl rfl) ?_
    refine g_pu rfl rfl rfl (pu_strOf (fun w' hm => ha.m hm) rfl rfl) ?_
    refine g_pu rfl rfl rfl (pu_move rfl rfl) ?_
    refine g_pu rfl rfl rfl (pu_strOf (fun w' hm => hb.m hm) rfl rfl) ?_
    refine g_pu rfl rfl rfl (pu_eqlS_t rfl rfl rfl (by rw [h])) ?_
    refine g_pu rfl rfl rfl (pu_assign rfl rfl) ?_
    refine g_nil ?_
    exact g_ret1 rfl rfl (fun w' hm => ⟨(), trivial, rfl, hm.grows [] trivial rfl⟩)
  · rw [decide_eq_false h]
    (repeat refine g_seq ?_)
    refine g_region ?_
    refine g_pu rfl rfl rfl (pu_move rfl rfl) ?_
    refine g_pu rfl rfl rfl (pu_strOf (fun w' hm => ha.m hm) rfl rfl) ?_
    refine g_pu rfl rfl rfl (pu_move rfl rfl) ?_
    refine g_pu rfl rfl rfl (pu_strOf (fun w' hm => hb.m hm) rfl rfl) ?_
    refine g_pu rfl rfl rfl (pu_eqlS rfl rfl rfl) ?_
    rw [decide_eq_false (show ¬ strOf a = strOf b from fun e => h (strOf_inj e))]
    refine g_pu rfl rfl rfl (pu_assign rfl rfl) ?_
    refine g_nil ?_
    exact g_ret1 rfl rfl (fun w' hm => ⟨(), trivial, rfl, hm.grows [] trivial rfl⟩)
theorem fewInts_b (w : World) {q : Option Addr} {m : Nat} (d k : Nat) {ns : List Int} (hq : RdV w q (is ns)) (hm' : ns.length = m) (hk : k ≤ 4096) (hmd : m ≤ d) : Spec Try.prog 17 #[.slice q m d, .int .i64 (k : Int)] w (σ := Ow) (fun _ => True) (fun x => x.sl (ns.take k).length) Nob (fun x => [x.ck 3 1 (is (ns.take k))]) := by
  refine enter Try.func17 rfl rfl (Mem.start w) ?_
  have hl := is_length ns
  (repeat refine g_seq ?_)
  refine g_region ?_
  refine g_pu rfl rfl rfl (pu_assign rfl rfl) ?_
  refine g_nil ?_
  refine g_seq ?_
  refine g_join (σ := Nat × List Int) (fun x => [(0, .slice q x.1 d)]) (fun _ => []) (fun x => RdV w q (is x.2) ∧ x.2.length = x.1 ∧ x.2 = ns.take k ∧ x.1 ≤ 4096) ?_ (fun x hx => ?_)
  · by_cases h4 : m > k
    · (repeat refine g_seq ?_)
      refine g_region ?_
      refine g_pu rfl rfl rfl (pu_move rfl rfl) ?_
      first | refine g_pu rfl rfl rfl (pu_len rfl rfl) ?_ | refine g_pu rfl rfl rfl (pu_lenS rfl rfl) ?_
      refine g_pu rfl rfl rfl (pu_move rfl rfl) ?_
      refine g_pu rfl rfl rfl (pu_gtr_t rfl rfl rfl (by omega)) ?_
      refine g_nil ?_
      (repeat refine g_seq ?_)
      refine g_cond_t rfl ?_
      (repeat refine g_seq ?_)
      refine g_region ?_
      refine g_pu rfl rfl rfl (pu_move rfl rfl) ?_
      refine g_pu rfl rfl rfl (pu_move rfl rfl) ?_
      refine g_pu rfl rfl rfl (pu_slice_h k rfl rfl rfl rfl (by omega)) ?_
      refine g_pu rfl rfl rfl (pu_assign rfl rfl) ?_
      refine g_nil ?_
      exact g_meet (k, ns.take k) ⟨by rw [← is_takeT]; exact hq.fst, by rw [List.length_take]; omega, rfl, hk⟩ ⟨rfl, trivial⟩ trivial
    · (repeat refine g_seq ?_)
      refine g_region ?_
      refine g_pu rfl rfl rfl (pu_move rfl rfl) ?_
      first | refine g_pu rfl rfl rfl (pu_len rfl rfl) ?_ | refine g_pu rfl rfl rfl (pu_lenS rfl rfl) ?_
      refine g_pu rfl rfl rfl (pu_move rfl rfl) ?_
      refine g_pu rfl rfl rfl (pu_gtr_f rfl rfl rfl (by omega)) ?_
      refine g_nil ?_
      (repeat refine g_seq ?_)
      refine g_cond_f rfl (g_skip ?_)
      exact g_meet (m, ns) ⟨hq, hm', by rw [List.take_of_length_le (by omega)], by omega⟩ ⟨rfl, trivial⟩ trivial
  obtain ⟨n1, l1⟩ := x
  obtain ⟨h1, h2, h3, h4⟩ := hx
  dsimp only at h1 h2 h3 h4 ⊢
  have hl1 := is_length l1
  rw [← h3, h2]
  (repeat refine g_seq ?_)
  refine g_region ?_
  refine g_lo [12] rfl rfl rfl rfl (lo_buildSlice0 rfl) (fun b12 hb12 => ?_)
  refine g_own 12 (L := []) (J := []) (c := 0) (s := 1) rfl (by simp) (by omega) ?_
  refine g_pu rfl rfl rfl (pu_move rfl rfl) ?_
  refine g_append1 12 (is l1) rfl rfl rfl rfl rfl rfl rfl rfl rfl (fun w' hm => h1.mem0 hm) (by rw [hl1, h2]) (oneCell_isT l1) (by omega) (by omega) (fun p' c' => ?_)
  refine g_pu rfl rfl rfl (pu_assign rfl rfl) ?_
  refine g_nil ?_
  exact g_ret1 rfl rfl (fun w' hm => ⟨⟨p', c'⟩, trivial, by simp [Ow.sl], hm.grows [12] ⟨rfl, trivial⟩ rfl⟩)
end Go.Sx

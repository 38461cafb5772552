import Derived.Test.YtigcogjilfnpcaaYB
import Derived.Test.YtigcogjilfnpcaaYA
set_option linter.unusedVariables false
set_option linter.unusedSimpArgs false
/-
  The cursor of the codec: it hands out the bytes in order. Its bytes lie apart from its own block.
-/
namespace Go.Sx
open Go Go.Proofs

def curC (p : Option Addr) (n c t : Nat) : List Value := [.slice p n c, .int .i64 (t : Int)]
def takeE (n t : Nat) (z : Int) : Int := if z < 0 then 1 else if z > ((n - t : Nat) : Int) then 2 else 0
def takeV (l : List (BitVec 8)) (t : Nat) (z : Int) : List (BitVec 8) := if takeE l.length t z = 0 then (l.drop t).take z.toNat else []
def takeN (n t : Nat) (z : Int) : Nat := if takeE n t z = 0 then t + z.toNat else t
theorem takeN_le {n t : Nat} {z : Int} (h : t ≤ n) : takeN n t z ≤ n := by
  unfold takeN takeE
  split <;> (repeat' split at *) <;> omega
def numN (o : Int) (n t : Nat) (z : Int) : Nat := if getE o n (t : Int) z = 0 then t + z.toNat else t

theorem NewCursor_b (w : World) {p : Option Addr} {n : Nat} (c : Nat) {l : List (BitVec 8)} (ha : By w p n l) :
    Spec Try.prog 15 #[.slice p n c] w (σ := Nat × Ow) (fun _ => True) (fun x => .pointer (some ⟨x.1, 0, none⟩)) Nob (fun x => [.pt x.1 (.cells (curC x.2.p n x.2.c 0).toArray 67 (0, 0)), x.2.ck 5 1 (bs l)]) := by
  refine enter Try.func15 rfl rfl (Mem.start w) ?_
  (repeat refine g_seq ?_)
  refine g_region ?_
  refine g_pu rfl rfl rfl (pu_assign rfl rfl) ?_
  refine g_nil ?_
  (repeat refine g_seq ?_)
  refine g_region ?_
  refine g_pu rfl rfl rfl (pu_move rfl rfl) ?_
  refine g_call [4] rfl rfl rfl rfl rfl rfl (fun w' hm => Clone_b w' c (ha.m hm)) (fun x4 _ => ?_)
  refine g_pu rfl rfl rfl (pu_buildS rfl rfl rfl) ?_
  refine g_lo [6] rfl rfl rfl rfl (lo_box rfl rfl) (fun b6 hb6 => ?_)
  refine g_pu rfl rfl rfl (pu_assign rfl rfl) ?_
  refine g_nil ?_
  exact g_ret1 rfl rfl (fun w' hm => ⟨(b6, x4), trivial, rfl, hm.grows [6, 4] ⟨rfl, rfl, trivial⟩ rfl⟩)

theorem Left_b (w : World) (bb : Nat) {p : Option Addr} {n c t : Nat} (h : w.heap[bb]? = some (.cells (curC p n c t).toArray 67 (0, 0))) (hn : n ≤ 140737488355328) (ht : t ≤ n) :
    Spec Try.prog 20 #[.pointer (some ⟨bb, 0, none⟩)] w (σ := Unit) (fun _ => True) (fun _ => .int .i64 ((n - t : Nat) : Int)) (fun j => j = bb) (fun _ => [.pt bb (.cells (curC p n c t).toArray 67 (0, 0))]) := by
  refine enter Try.func20 rfl rfl (Mem.start1 (.pt bb (.cells (curC p n c t).toArray 67 (0, 0))) h trivial (fun j hj => by rw [show j = bb from hj]; exact lt_of_some h)) ?_
  (repeat refine g_seq ?_)
  refine g_region ?_
  refine g_pu rfl rfl rfl (pu_assign rfl rfl) ?_
  refine g_nil ?_
  (repeat refine g_seq ?_)
  refine g_any (11, []) ?_
  refine a_pu 0 rfl rfl rfl rfl (pu_move rfl rfl) rfl rfl (by kernel_rfl) ?_
  refine a_pu 1 rfl rfl rfl rfl (pu_nil rfl rfl) rfl rfl (by kernel_rfl) ?_
  refine a_pu 2 rfl rfl rfl rfl (pu_fieldAddr (by decide) rfl rfl) rfl rfl (by kernel_rfl) ?_
  refine a_pu 3 rfl rfl rfl rfl (pu_load 0 (v := .slice p n c) rfl rfl rfl rfl) rfl rfl (by kernel_rfl) ?_
  first | refine a_pu 4 rfl rfl rfl rfl (pu_len rfl rfl) rfl rfl (by kernel_rfl) ?_ | refine a_pu 4 rfl rfl rfl rfl (pu_lenS rfl rfl) rfl rfl (by kernel_rfl) ?_
  refine a_pu 5 rfl rfl rfl rfl (pu_move rfl rfl) rfl rfl (by kernel_rfl) ?_
  refine a_pu 6 rfl rfl rfl rfl (pu_nil rfl rfl) rfl rfl (by kernel_rfl) ?_
  refine a_pu 7 rfl rfl rfl rfl (pu_fieldAddr (by decide) rfl rfl) rfl rfl (by kernel_rfl) ?_
  refine a_pu 8 rfl rfl rfl rfl (pu_load 0 (v := .int .i64 (t : Int)) rfl rfl rfl rfl) rfl rfl (by kernel_rfl) ?_
  refine a_pu 9 rfl rfl rfl rfl (pu_subI rfl rfl rfl (by omega)) rfl rfl (by kernel_rfl) ?_
  refine a_pu 10 rfl rfl rfl rfl (pu_assign rfl rfl) rfl rfl (by kernel_rfl) ?_
  refine a_done (by kernel_rfl) ?_
  exact g_ret1 rfl rfl (fun w' hm => ⟨(), trivial, congrArg (fun z => Ending.returned (Value.int .i64 z)) (by omega), hm.grows [0] ⟨rfl, trivial⟩ rfl⟩)

theorem Done_b (w : World) (bb : Nat) {p : Option Addr} {n c t : Nat} (h : w.heap[bb]? = some (.cells (curC p n c t).toArray 67 (0, 0))) :
    Spec Try.prog 21 #[.pointer (some ⟨bb, 0, none⟩)] w (σ := Unit) (fun _ => True) (fun _ => .int .i64 (t : Int)) (fun j => j = bb) (fun _ => [.pt bb (.cells (curC p n c t).toArray 67 (0, 0))]) := by
  refine enter Try.func21 rfl rfl (Mem.start1 (.pt bb (.cells (curC p n c t).toArray 67 (0, 0))) h trivial (fun j hj => by rw [show j = bb from hj]; exact lt_of_some h)) ?_
  (repeat refine g_seq ?_)
  refine g_region ?_
  refine g_pu rfl rfl rfl (pu_assign rfl rfl) ?_
  refine g_nil ?_
  (repeat refine g_seq ?_)
  refine g_region ?_
  refine g_pu rfl rfl rfl (pu_move rfl rfl) ?_
  refine g_pu rfl rfl rfl (pu_nil rfl rfl) ?_
  refine g_pu rfl rfl rfl (pu_fieldAddr (by decide) rfl rfl) ?_
  refine g_pu rfl rfl rfl (pu_load 0 (v := .int .i64 (t : Int)) rfl rfl rfl rfl) ?_
  refine g_pu rfl rfl rfl (pu_assign rfl rfl) ?_
  refine g_nil ?_
  exact g_ret1 rfl rfl (fun w' hm => ⟨(), trivial, rfl, hm.grows [0] ⟨rfl, trivial⟩ rfl⟩)

theorem Take_b (w : World) (bb : Nat) {p : Option Addr} {n c t : Nat} {l : List (BitVec 8)} (z : Int) (h : w.heap[bb]? = some (.cells (curC p n c t).toArray 67 (0, 0))) (hb : By w p n l) (hc : n ≤ c) (hD : ∀ b o, p = some ⟨b, o, none⟩ → ¬ b = bb) (ht : t ≤ n) :
    Spec Try.prog 18 #[.pointer (some ⟨bb, 0, none⟩), .int .i64 z] w (σ := Ow) (fun _ => True) (fun x => .tuple #[x.sl (takeV l t z).length, .int .i64 (takeE n t z)]) (fun j => j = bb) (fun x => [.pt bb (.cells (curC p n c (takeN n t z)).toArray 67 (0, 0)), x.ck 5 1 (bs (takeV l t z))]) := by
  refine enter Try.func18 rfl rfl (Mem.start1 (.pt bb (.cells (curC p n c t).toArray 67 (0, 0))) h trivial (fun j hj => by rw [show j = bb from hj]; exact lt_of_some h)) ?_
  have hn := hb.len
  have hbig := hb.big
  (repeat refine g_seq ?_)
  refine g_region ?_
  refine g_pu rfl rfl rfl (pu_assign rfl rfl) ?_
  refine g_pu rfl rfl rfl (pu_assign rfl rfl) ?_
  refine g_nil ?_
  by_cases hz : z < 0
  · have hE : takeE n t z = 1 := by simp [takeE, hz]
    have hV : takeV l t z = [] := by simp [takeV, hn, hE]
    have hN : takeN n t z = t := by simp [takeN, hE]
    rw [hE, hV, hN]
    (repeat refine g_seq ?_)
    refine g_region ?_
    refine g_pu rfl rfl rfl (pu_move rfl rfl) ?_
    refine g_pu rfl rfl rfl (pu_lss_t rfl rfl rfl hz) ?_
    refine g_nil ?_
    (repeat refine g_seq ?_)
    refine g_cond_t rfl ?_
    (repeat refine g_seq ?_)
    refine g_region ?_
    refine g_pu rfl rfl rfl (pu_assign rfl rfl) ?_
    refine g_pu rfl rfl rfl (pu_assign rfl rfl) ?_
    refine g_nil ?_
    exact g_nilOwn 90 5 1 rfl (g_ret2 rfl rfl rfl (fun w' hm => ⟨⟨none, 0⟩, trivial, rfl, hm.grows [0, 90] ⟨rfl, rfl, trivial⟩ rfl⟩))
  · (repeat refine g_seq ?_)
    refine g_region ?_
    refine g_pu rfl rfl rfl (pu_move rfl rfl) ?_
    refine g_pu rfl rfl rfl (pu_lss_f rfl rfl rfl hz) ?_
    refine g_nil ?_
    (repeat refine g_seq ?_)
    refine g_cond_f rfl (g_skip ?_)
    by_cases hz2 : z > ((n - t : Nat) : Int)
    · have hE : takeE n t z = 2 := by simp only [takeE, if_neg hz, if_pos hz2]
      have hV : takeV l t z = [] := by simp [takeV, hn, hE]
      have hN : takeN n t z = t := by simp [takeN, hE]
      rw [hE, hV, hN]
      (repeat refine g_seq ?_)
      refine g_region ?_
      refine g_pu rfl rfl rfl (pu_move rfl rfl) ?_
      refine g_pu rfl rfl rfl (pu_move rfl rfl) ?_
      refine g_callW [0] [0] rfl rfl rfl rfl rfl rfl (fun j hj => ⟨0, by simp, _, rfl, hj⟩) (fun w' hm => Left_b w' bb (hm.holds 0 _ rfl) hbig ht) (fun _ _ => ?_)
      refine g_pu rfl rfl rfl (pu_gtr_t rfl rfl rfl hz2) ?_
      refine g_nil ?_
      (repeat refine g_seq ?_)
      refine g_cond_t rfl ?_
      (repeat refine g_seq ?_)
      refine g_region ?_
      refine g_pu rfl rfl rfl (pu_assign rfl rfl) ?_
      refine g_pu rfl rfl rfl (pu_assign rfl rfl) ?_
      refine g_nil ?_
      exact g_nilOwn 90 5 1 rfl (g_ret2 rfl rfl rfl (fun w' hm => ⟨⟨none, 0⟩, trivial, rfl, hm.grows [0, 90] ⟨rfl, rfl, trivial⟩ rfl⟩))
    · obtain ⟨k, rfl⟩ : ∃ k : Nat, z = (k : Int) := ⟨z.toNat, by omega⟩
      have hE : takeE n t (k : Int) = 0 := by simp only [takeE, if_neg hz, if_neg hz2]
      have hV : takeV l t (k : Int) = (l.drop t).take k := by simp [takeV, hn, hE]
      have hN : takeN n t (k : Int) = t + k := by simp [takeN, hE]
      have hmid := (hb.cut hc t).fst k (by omega)
      have hks : t + k - t = k := by omega
      have hlen : ((l.drop t).take k).length = k := hmid.len
      rw [hE, hV, hN, hlen]
      (repeat refine g_seq ?_)
      refine g_region ?_
      refine g_pu rfl rfl rfl (pu_move rfl rfl) ?_
      refine g_pu rfl rfl rfl (pu_move rfl rfl) ?_
      refine g_callW [0] [0] rfl rfl rfl rfl rfl rfl (fun j hj => ⟨0, by simp, _, rfl, hj⟩) (fun w' hm => Left_b w' bb (hm.holds 0 _ rfl) hbig ht) (fun _ _ => ?_)
      refine g_pu rfl rfl rfl (pu_gtr_f rfl rfl rfl hz2) ?_
      refine g_nil ?_
      (repeat refine g_seq ?_)
      refine g_cond_f rfl (g_skip ?_)
      (repeat refine g_seq ?_)
      refine g_any (15, []) ?_
      refine a_pu 0 rfl rfl rfl rfl (pu_move rfl rfl) rfl rfl (by kernel_rfl) ?_
      refine a_pu 1 rfl rfl rfl rfl (pu_nil rfl rfl) rfl rfl (by kernel_rfl) ?_
      refine a_pu 2 rfl rfl rfl rfl (pu_fieldAddr (by decide) rfl rfl) rfl rfl (by kernel_rfl) ?_
      refine a_pu 3 rfl rfl rfl rfl (pu_load 0 (v := .slice p n c) rfl rfl rfl rfl) rfl rfl (by kernel_rfl) ?_
      refine a_pu 4 rfl rfl rfl rfl (pu_move rfl rfl) rfl rfl (by kernel_rfl) ?_
      refine a_pu 5 rfl rfl rfl rfl (pu_nil rfl rfl) rfl rfl (by kernel_rfl) ?_
      refine a_pu 6 rfl rfl rfl rfl (pu_fieldAddr (by decide) rfl rfl) rfl rfl (by kernel_rfl) ?_
      refine a_pu 7 rfl rfl rfl rfl (pu_load 0 (v := .int .i64 (t : Int)) rfl rfl rfl rfl) rfl rfl (by kernel_rfl) ?_
      refine a_pu 8 rfl rfl rfl rfl (pu_move rfl rfl) rfl rfl (by kernel_rfl) ?_
      refine a_pu 9 rfl rfl rfl rfl (pu_nil rfl rfl) rfl rfl (by kernel_rfl) ?_
      refine a_pu 10 rfl rfl rfl rfl (pu_fieldAddr (by decide) rfl rfl) rfl rfl (by kernel_rfl) ?_
      refine a_pu 11 rfl rfl rfl rfl (pu_load 0 (v := .int .i64 (t : Int)) rfl rfl rfl rfl) rfl rfl (by kernel_rfl) ?_
      refine a_pu 12 rfl rfl rfl rfl (pu_move rfl rfl) rfl rfl (by kernel_rfl) ?_
      refine a_pu 13 rfl rfl rfl rfl (pu_addI rfl rfl rfl (by omega)) rfl rfl (by kernel_rfl) ?_
      refine a_pu 14 rfl rfl rfl rfl (pu_slice_lh t (t + k) rfl rfl rfl rfl rfl (by omega) (by omega) (by omega)) rfl rfl (by kernel_rfl) ?_
      rw [hks]
      refine a_tail [15, 16] (by kernel_rfl) rfl rfl (by kernel_rfl) ?_
      refine g_call [28] rfl rfl rfl rfl rfl rfl (fun w' hm => Clone_b w' _ (((hb.mD hm hD).cut hc t).fst k (by omega))) (fun x28 _ => ?_)
      refine g_pu rfl rfl rfl (pu_assign rfl rfl) ?_
      refine g_nil ?_
      (repeat refine g_seq ?_)
      refine g_region ?_
      refine g_pu rfl rfl rfl (pu_move rfl rfl) ?_
      refine g_pu rfl rfl rfl (pu_nil rfl rfl) ?_
      refine g_pu rfl rfl rfl (pu_fieldAddr (by decide) rfl rfl) ?_
      refine g_pu rfl rfl rfl (pu_load 0 (v := .int .i64 (t : Int)) rfl rfl rfl rfl) ?_
      refine g_pu rfl rfl rfl (pu_move rfl rfl) ?_
      refine g_pu rfl rfl rfl (pu_addI rfl rfl rfl (by omega)) ?_
      refine g_pu rfl rfl rfl (pu_nil rfl rfl) ?_
      refine g_pu rfl rfl rfl (pu_fieldAddr (by decide) rfl rfl) ?_
      refine g_store 0 (v := .int .i64 ((t + k : Nat) : Int)) rfl rfl rfl rfl (congrArg (fun z => some (Value.int .i64 z)) (by omega)) rfl rfl (by simp [curC]) ?_
      refine g_nil ?_
      (repeat refine g_seq ?_)
      refine g_region ?_
      refine g_pu rfl rfl rfl (pu_move rfl rfl) ?_
      refine g_pu rfl rfl rfl (pu_assign rfl rfl) ?_
      refine g_pu rfl rfl rfl (pu_assign rfl rfl) ?_
      refine g_nil ?_
      exact g_ret2 rfl rfl rfl (fun w' hm => ⟨x28, trivial, rfl, hm.grows [0, 28] ⟨rfl, rfl, trivial⟩ rfl⟩)

theorem Number_b (w : World) (bb : Nat) {p : Option Addr} {n c t : Nat} {l : List (BitVec 8)} (o z : Int) (h : w.heap[bb]? = some (.cells (curC p n c t).toArray 67 (0, 0))) (hb : By w p n l) (hD : ∀ b o, p = some ⟨b, o, none⟩ → ¬ b = bb) (ht : t ≤ n) :
    Spec Try.prog 104 #[.pointer (some ⟨bb, 0, none⟩), .int .i64 o, .int .i64 z] w (σ := Unit) (fun _ => True) (fun _ => .tuple #[b64 (getV o l t z), .int .i64 (getE o n t z)]) (fun j => j = bb) (fun _ => [.pt bb (.cells (curC p n c (numN o n t z)).toArray 67 (0, 0))]) := by
  refine enter Try.func104 rfl rfl (Mem.start1 (.pt bb (.cells (curC p n c t).toArray 67 (0, 0))) h trivial (fun j hj => by rw [show j = bb from hj]; exact lt_of_some h)) ?_
  have hn := hb.len
  have hbig := hb.big
  (repeat refine g_seq ?_)
  refine g_region ?_
  refine g_pu rfl rfl rfl (pu_assign (v := b64 0#64) rfl rfl) ?_
  refine g_pu rfl rfl rfl (pu_assign rfl rfl) ?_
  refine g_nil ?_
  (repeat refine g_seq ?_)
  refine g_any (16, []) ?_
  refine a_pu 0 rfl rfl rfl rfl (pu_move rfl rfl) rfl rfl (by kernel_rfl) ?_
  refine a_pu 1 rfl rfl rfl rfl (pu_move rfl rfl) rfl rfl (by kernel_rfl) ?_
  refine a_pu 2 rfl rfl rfl rfl (pu_nil rfl rfl) rfl rfl (by kernel_rfl) ?_
  refine a_pu 3 rfl rfl rfl rfl (pu_fieldAddr (by decide) rfl rfl) rfl rfl (by kernel_rfl) ?_
  refine a_pu 4 rfl rfl rfl rfl (pu_load 0 (v := .slice p n c) rfl rfl rfl rfl) rfl rfl (by kernel_rfl) ?_
  refine a_pu 5 rfl rfl rfl rfl (pu_move rfl rfl) rfl rfl (by kernel_rfl) ?_
  refine a_pu 6 rfl rfl rfl rfl (pu_nil rfl rfl) rfl rfl (by kernel_rfl) ?_
  refine a_pu 7 rfl rfl rfl rfl (pu_fieldAddr (by decide) rfl rfl) rfl rfl (by kernel_rfl) ?_
  refine a_pu 8 rfl rfl rfl rfl (pu_load 0 (v := .int .i64 (t : Int)) rfl rfl rfl rfl) rfl rfl (by kernel_rfl) ?_
  refine a_pu 9 rfl rfl rfl rfl (pu_move rfl rfl) rfl rfl (by kernel_rfl) ?_
  refine a_do 10 21 [] (does_call rfl rfl rfl rfl rfl (fun w' hm => Get_b w' o c t z (hb.mD hm hD))) rfl rfl (by kernel_rfl) rfl rfl (by kernel_rfl) (by kernel_rfl) (by kernel_rfl) rfl (fun p hp => by cases hp) ?_; rintro v_ cs_ ⟨_, _, rfl, rfl⟩
  refine a_pu 11 rfl rfl rfl rfl (pu_move rfl rfl) rfl rfl (by kernel_rfl) ?_
  refine a_pu 12 rfl rfl rfl rfl (pu_extract rfl rfl rfl) rfl rfl (by kernel_rfl) ?_
  refine a_pu 13 rfl rfl rfl rfl (pu_extract rfl rfl rfl) rfl rfl (by kernel_rfl) ?_
  refine a_pu 14 rfl rfl rfl rfl (pu_assign rfl rfl) rfl rfl (by kernel_rfl) ?_
  refine a_pu 15 rfl rfl rfl rfl (pu_assign rfl rfl) rfl rfl (by kernel_rfl) ?_
  refine a_done (by kernel_rfl) ?_
  refine g_seq ?_
  refine g_join (σ := Unit) (fun _ => [(8, b64 (getV o l t z)), (9, .int .i64 (getE o n t z))]) (fun _ => [(0, .pt bb (.cells (curC p n c (numN o n t z)).toArray 67 (0, 0)))]) (fun _ => True) ?_ (fun _ _ => ?_)
  · by_cases hE : getE o n t z = 0
    · have hN : numN o n t z = t + z.toNat := by simp [numN, hE]
      have hz : 1 ≤ z ∧ z ≤ 8 := by
        unfold getE at hE
        split at hE
        · omega
        · rename_i h1
          have h2 : ShapeOk o z := by
            by_cases h3 : ShapeOk o z
            · exact h3
            · exact absurd (Or.inl h3) h1
          exact ⟨h2.2.1, h2.2.2⟩
      rw [hN]
      (repeat refine g_seq ?_)
      refine g_region ?_
      refine g_pu rfl rfl rfl (pu_move rfl rfl) ?_
      refine g_pu rfl rfl rfl (pu_eql_t rfl rfl rfl hE) ?_
      refine g_nil ?_
      (repeat refine g_seq ?_)
      refine g_cond_t rfl ?_
      (repeat refine g_seq ?_)
      refine g_region ?_
      refine g_pu rfl rfl rfl (pu_move rfl rfl) ?_
      refine g_pu rfl rfl rfl (pu_nil rfl rfl) ?_
      refine g_pu rfl rfl rfl (pu_fieldAddr (by decide) rfl rfl) ?_
      refine g_pu rfl rfl rfl (pu_load 0 (v := .int .i64 (t : Int)) rfl rfl rfl rfl) ?_
      refine g_pu rfl rfl rfl (pu_move rfl rfl) ?_
      refine g_pu rfl rfl rfl (pu_addI rfl rfl rfl (by omega)) ?_
      refine g_pu rfl rfl rfl (pu_nil rfl rfl) ?_
      refine g_pu rfl rfl rfl (pu_fieldAddr (by decide) rfl rfl) ?_
      refine g_store 0 (v := .int .i64 ((t + z.toNat : Nat) : Int)) rfl rfl rfl rfl (congrArg (fun z => some (Value.int .i64 z)) (by omega)) rfl rfl (by simp [curC]) ?_
      refine g_nil ?_
      exact g_meet () trivial ⟨rfl, rfl, trivial⟩ ⟨rfl, trivial⟩
    · have hN : numN o n t z = t := by simp [numN, hE]
      rw [hN]
      (repeat refine g_seq ?_)
      refine g_region ?_
      refine g_pu rfl rfl rfl (pu_move rfl rfl) ?_
      refine g_pu rfl rfl rfl (pu_eql_f rfl rfl rfl hE) ?_
      refine g_nil ?_
      (repeat refine g_seq ?_)
      refine g_cond_f rfl (g_skip ?_)
      exact g_meet () trivial ⟨rfl, rfl, trivial⟩ ⟨rfl, trivial⟩
  · (repeat refine g_seq ?_)
    refine g_region ?_
    refine g_pu rfl rfl rfl (pu_move rfl rfl) ?_
    refine g_pu rfl rfl rfl (pu_move rfl rfl) ?_
    refine g_pu rfl rfl rfl (pu_assign rfl rfl) ?_
    refine g_pu rfl rfl rfl (pu_assign rfl rfl) ?_
    refine g_nil ?_
    exact g_ret2 rfl rfl rfl (fun w' hm => ⟨(), trivial, rfl, hm.grows [0] ⟨rfl, trivial⟩ rfl⟩)
end Go.Sx

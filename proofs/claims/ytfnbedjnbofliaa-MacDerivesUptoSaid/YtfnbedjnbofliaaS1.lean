/-
  The padding of SHA-256: of the program and of its reference. The length is at most 2^56.
-/
import Derived.Test.YtfnbedjnbofliaaC9
import Derived.Test.YtfnbedjnbofliaaC10
set_option linter.unusedVariables false
set_option linter.unusedSimpArgs false
namespace Go.Sx
open Go Go.Proofs

def noughts (n : Nat) : Nat := (119 - n % 64) % 64
def sizeV (n : Nat) : BitVec 64 := BitVec.ofInt 64 (n : Int) * 8#64
def padB (n : Nat) : List (BitVec 8) := 128#8 :: (List.replicate (noughts n) 0#8 ++ putL 2 8 (sizeV n))
theorem putE8 (n : BitVec 64) : putE 2 8 n = 0 := by
  unfold putE
  rw [if_neg (fun h => h ⟨.inr rfl, by omega, by omega⟩), if_neg]
  intro h
  apply h
  apply BitVec.eq_of_getLsbD_eq
  intro i hi
  rw [BitVec.getLsbD_ushiftRight]
  simp [BitVec.getLsbD_of_ge n _ (show 64 ≤ 8 * (8 : Int).toNat + i by omega)]
theorem putL8_length (n : BitVec 64) : (putL 2 8 n).length = 8 := by
  unfold putL
  rw [if_pos (putE8 n), if_pos rfl, List.length_reverse, putW_length]
  rfl
theorem padB_length (n : Nat) : (padB n).length = noughts n + 9 := by simp [padB, putL8_length]
theorem noughts_lt (n : Nat) : noughts n < 64 := Nat.mod_lt _ (by omega)

theorem shapad_b (w : World) (n : Nat) (hn : n ≤ 72057594037927936) : Spec Try.prog 45 #[.int .i64 (n : Int)] w (σ := Ow) (fun _ => True) (fun x => x.sl (padB n).length) Nob (fun x => [x.ck 5 1 (bs (padB n))]) := by
  refine enter Try.func45 rfl rfl (Mem.start w) ?_
  have hlt := noughts_lt n
  have h8 := putL8_length (sizeV n)
  (repeat refine g_seq ?_)
  refine g_region ?_
  refine g_pu rfl rfl rfl (pu_assign rfl rfl) ?_
  refine g_nil ?_
  (repeat refine g_seq ?_)
  refine g_region ?_
  refine g_pu rfl rfl rfl (pu_move rfl rfl) ?_
  refine g_pu rfl rfl rfl (pu_remI rfl rfl rfl (by omega)) ?_
  refine g_pu rfl rfl rfl (pu_subI rfl rfl rfl (by omega)) ?_
  refine g_pu rfl rfl rfl (pu_remI rfl rfl rfl (by omega)) ?_
  refine g_pu rfl rfl rfl (pu_assign rfl rfl) ?_
  refine g_nil ?_
  (repeat refine g_seq ?_)
  refine g_region ?_
  refine g_pu rfl rfl rfl (pu_move rfl rfl) ?_
  refine g_pu rfl rfl rfl (pu_convI_64 rfl rfl) ?_
  refine g_pu rfl rfl rfl (pu_mul64 (b := 8#64) rfl rfl rfl) ?_
  refine g_call [14] rfl rfl rfl rfl rfl rfl (fun w' hm => Put_b w' 2 8 (sizeV n)) (fun x14 _ => ?_)
  refine g_pu rfl rfl rfl (pu_move rfl rfl) ?_
  refine g_pu rfl rfl rfl (pu_extract rfl rfl rfl) ?_
  refine g_pu rfl rfl rfl (pu_extract rfl rfl rfl) ?_
  refine g_pu rfl rfl rfl (pu_assign rfl rfl) ?_
  refine g_pu rfl rfl rfl (pu_assign rfl rfl) ?_
  refine g_nil ?_
  have hno : ((119 : Int) - (n : Int) % 64) % 64 = (noughts n : Int) := by unfold noughts; omega
  rw [hno]
  (repeat refine g_seq ?_)
  refine g_region ?_
  refine g_lo [17] rfl rfl rfl rfl (lo_buildSlice rfl rfl (by decide) (by decide) rfl rfl) (fun b17 hb17 => ?_)
  refine g_pu rfl rfl rfl (pu_move rfl rfl) ?_
  refine g_lo [19] rfl rfl rfl rfl (lo_make (n := noughts n) (c := noughts n) rfl rfl rfl (by omega) (by omega) (by omega) rfl) (fun b19 hb19 => ?_)
  refine g_pu rfl rfl rfl (pu_move rfl rfl) ?_
  refine g_lo [21] rfl rfl rfl rfl (lo_buildSlice rfl rfl (by decide) (by decide) rfl rfl) (fun b21 hb21 => ?_)
  refine g_call [22] rfl rfl rfl rfl rfl rfl (fun w' hm => Join_b w' _ (L := [.slice (some ⟨b17, 0, none⟩) 1 1, .slice (some ⟨b19, 0, none⟩) (noughts n) (noughts n), x14.sl (putL 2 8 (sizeV n)).length]) (ls := [[128#8], List.replicate (noughts n) 0#8, putL 2 8 (sizeV n)]) ⟨hm.rowA 21 rfl, rfl, All2.cons (IsB.full 17 rfl hm rfl (by omega)) (All2.cons ⟨_, _, _, rfl, ⟨hm.rowA 19 (by simp only [bs, List.map_replicate]; rfl), by simp, by omega⟩, fun _ _ => trivial⟩ (All2.cons (IsB.own 14 rfl hm rfl (by omega)) All2.nil)), by omega⟩ (by omega) (by simp [h8]; omega)) (fun x22 _ => ?_)
  refine g_pu rfl rfl rfl (pu_assign rfl rfl) ?_
  refine g_nil ?_
  have he : [[128#8], List.replicate (noughts n) 0#8, putL 2 8 (sizeV n)].flatten = padB n := by simp [padB]
  rw [he]
  exact g_ret1 rfl rfl (fun w' hm => ⟨x22, trivial, rfl, hm.grows [22] ⟨rfl, trivial⟩ rfl⟩)

theorem padding_b (w : World) (n : Nat) (hn : n ≤ 72057594037927936) : Spec Try.prog 50 #[.int .i64 (n : Int)] w (σ := Ow) (fun _ => True) (fun x => x.sl (padB n).length) Nob (fun x => [x.ck 5 1 (bs (padB n))]) := by
  refine enter Try.func50 rfl rfl (Mem.start w) ?_
  have hlt := noughts_lt n
  have h8 := putL8_length (sizeV n)
  (repeat refine g_seq ?_)
  refine g_region ?_
  refine g_pu rfl rfl rfl (pu_assign rfl rfl) ?_
  refine g_nil ?_
  (repeat refine g_seq ?_)
  refine g_region ?_
  refine g_lo [6] rfl rfl rfl rfl (lo_buildSlice rfl rfl (by decide) (by decide) rfl rfl) (fun b6 hb6 => ?_)
  refine g_own 6 (L := bs [128#8]) (J := []) (c := 1) (s := 1) rfl (by simp [bs]) (by omega) ?_
  refine g_pu rfl rfl rfl (pu_assign rfl rfl) ?_
  refine g_nil ?_
  (repeat refine g_seq ?_)
  refine g_block (g_loop2 (fun (k : Nat) (x : Ow) => [(0, .int .i64 (n : Int)), (3, x.sl (k + 1))]) (fun k x => [(6, x.ck 5 1 (bs (128#8 :: List.replicate k 0#8)))]) (fun k _ => k ≤ noughts n) (fun k _ => 64 - k) 0 ⟨some ⟨b6, 0, none⟩, 1⟩ ⟨rfl, rfl, trivial⟩ ⟨rfl, trivial⟩ (by omega) ?_)
  intro k x hk
  by_cases he : k = noughts n
  · have hz : ((n : Int) + ((k + 1 : Nat) : Int) + 8) % 64 = 0 := by unfold noughts at he; omega
    (repeat refine g_seq ?_)
    refine g_region ?_
    refine g_pu rfl rfl rfl (pu_move rfl rfl) ?_
    refine g_pu rfl rfl rfl (pu_move rfl rfl) ?_
    first | refine g_pu rfl rfl rfl (pu_len rfl rfl) ?_ | refine g_pu rfl rfl rfl (pu_lenS rfl rfl) ?_
    refine g_pu rfl rfl rfl (pu_addI rfl rfl rfl (by omega)) ?_
    refine g_pu rfl rfl rfl (pu_addI rfl rfl rfl (by omega)) ?_
    refine g_pu rfl rfl rfl (pu_remI rfl rfl rfl (by omega)) ?_
    first | refine g_pu rfl rfl rfl (pu_neq_t rfl rfl rfl (by omega)) ?_ | refine g_pu rfl rfl rfl (pu_neq_f rfl rfl rfl (by omega)) ?_ | refine g_pu rfl rfl rfl (pu_neq rfl rfl rfl) ?_
    refine g_nil ?_
    (repeat refine g_seq ?_)
    refine g_cond_f rfl (g_exit rfl ?_)
    subst he
    (repeat refine g_seq ?_)
    refine g_region ?_
    refine g_pu rfl rfl rfl (pu_move rfl rfl) ?_
    refine g_pu rfl rfl rfl (pu_convI_64 rfl rfl) ?_
    refine g_pu rfl rfl rfl (pu_mul64 (b := 8#64) rfl rfl rfl) ?_
    refine g_call [21] rfl rfl rfl rfl rfl rfl (fun w' hm => RPut_b w' 2 8 (sizeV n)) (fun x21 _ => ?_)
    refine g_pu rfl rfl rfl (pu_move rfl rfl) ?_
    refine g_pu rfl rfl rfl (pu_extract rfl rfl rfl) ?_
    refine g_pu rfl rfl rfl (pu_extract rfl rfl rfl) ?_
    refine g_pu rfl rfl rfl (pu_assign rfl rfl) ?_
    refine g_pu rfl rfl rfl (pu_assign rfl rfl) ?_
    refine g_nil ?_
    (repeat refine g_seq ?_)
    refine g_region ?_
    refine g_pu rfl rfl rfl (pu_move rfl rfl) ?_
    refine g_pu rfl rfl rfl (pu_move rfl rfl) ?_
    refine g_append1 6 (bs (putL 2 8 (sizeV n))) rfl rfl rfl rfl rfl rfl rfl rfl (by simp [bs]) (fun w' hm => Ow.rd (t := 21) rfl hm) (by rw [bs_length]) (oneCell_bs _) (by omega) (by omega) (fun p' c' => ?_)
    refine g_pu rfl rfl rfl (pu_assign rfl rfl) ?_
    refine g_nil ?_
    refine g_ret1 rfl rfl (fun w' hm => ⟨⟨p', c'⟩, trivial, ?_, ?_⟩)
    · rw [padB_length, h8]; rfl
    · rw [padB, show bs (128#8 :: (List.replicate (noughts n) 0#8 ++ putL 2 8 (sizeV n))) = bs (128#8 :: List.replicate (noughts n) 0#8) ++ bs (putL 2 8 (sizeV n)) by simp [bs]]
      exact hm.grows [6] ⟨rfl, trivial⟩ rfl
  · have hz : ¬ ((n : Int) + ((k + 1 : Nat) : Int) + 8) % 64 = 0 := by unfold noughts at he hk hlt; omega
    (repeat refine g_seq ?_)
    refine g_region ?_
    refine g_pu rfl rfl rfl (pu_move rfl rfl) ?_
    refine g_pu rfl rfl rfl (pu_move rfl rfl) ?_
    first | refine g_pu rfl rfl rfl (pu_len rfl rfl) ?_ | refine g_pu rfl rfl rfl (pu_lenS rfl rfl) ?_
    refine g_pu rfl rfl rfl (pu_addI rfl rfl rfl (by omega)) ?_
    refine g_pu rfl rfl rfl (pu_addI rfl rfl rfl (by omega)) ?_
    refine g_pu rfl rfl rfl (pu_remI rfl rfl rfl (by omega)) ?_
    first | refine g_pu rfl rfl rfl (pu_neq_t rfl rfl rfl (by omega)) ?_ | refine g_pu rfl rfl rfl (pu_neq_f rfl rfl rfl (by omega)) ?_ | refine g_pu rfl rfl rfl (pu_neq rfl rfl rfl) ?_
    refine g_nil ?_
    (repeat refine g_seq ?_)
    refine g_cond_t rfl (g_skip ?_)
    (repeat refine g_seq ?_); refine g_block ?_
    (repeat refine g_seq ?_)
    refine g_region ?_
    refine g_pu rfl rfl rfl (pu_move rfl rfl) ?_
    refine g_lo [15] rfl rfl rfl rfl (lo_buildSlice rfl rfl (by decide) (by decide) rfl rfl) (fun b15 hb15 => ?_)
    refine g_append1 6 [b8 0#8] rfl rfl rfl rfl rfl rfl rfl rfl (by simp [bs]) (fun w' hm => hm.row 15 (J := []) rfl) rfl (fun u hu => by obtain rfl := List.mem_singleton.1 hu; rfl) (by omega) (by omega) (fun p' c' => ?_)
    refine g_pu rfl rfl rfl (pu_assign rfl rfl) ?_
    refine g_nil ?_
    refine g_blk ?_
    refine g_round2 (k + 1) (⟨p', c'⟩ : Ow) (by omega) (by omega) ⟨rfl, rfl, trivial⟩ ⟨?_, trivial⟩
    rw [show bs (128#8 :: List.replicate (k + 1) 0#8) = bs (128#8 :: List.replicate k 0#8) ++ [b8 0#8] by rw [List.replicate_succ']; simp [bs]]
    rfl

def spE (z : Int) : Int := if z < 0 ∨ z > 16777216 then 1 else 0
def spL (z : Int) : List (BitVec 8) := if spE z = 0 then padB z.toNat else []
end Go.Sx

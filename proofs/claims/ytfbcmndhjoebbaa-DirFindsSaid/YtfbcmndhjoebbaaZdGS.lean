import Derived.Test.YtfbcmndhjoebbaaZdYB
import Derived.Test.YtfbcmndhjoebbaaZdXC
import Derived.Test.YtfbcmndhjoebbaaZdXE
import Derived.Test.YtfbcmndhjoebbaaZdYA
set_option linter.unusedVariables false
set_option linter.unusedSimpArgs false
/-
  The tables of SHA-256, as lists. No condition.
-/
namespace Go.Sx
open Go Go.Proofs

def kT : List (BitVec 32) := [0x428a2f98#32, 0x71374491#32, 0xb5c0fbcf#32, 0xe9b5dba5#32, 0x3956c25b#32, 0x59f111f1#32, 0x923f82a4#32, 0xab1c5ed5#32, 0xd807aa98#32, 0x12835b01#32, 0x243185be#32, 0x550c7dc3#32, 0x72be5d74#32, 0x80deb1fe#32, 0x9bdc06a7#32, 0xc19bf174#32, 0xe49b69c1#32, 0xefbe4786#32, 0x0fc19dc6#32, 0x240ca1cc#32, 0x2de92c6f#32, 0x4a7484aa#32, 0x5cb0a9dc#32, 0x76f988da#32, 0x983e5152#32, 0xa831c66d#32, 0xb00327c8#32, 0xbf597fc7#32, 0xc6e00bf3#32, 0xd5a79147#32, 0x06ca6351#32, 0x14292967#32, 0x27b70a85#32, 0x2e1b2138#32, 0x4d2c6dfc#32, 0x53380d13#32, 0x650a7354#32, 0x766a0abb#32, 0x81c2c92e#32, 0x92722c85#32, 0xa2bfe8a1#32, 0xa81a664b#32, 0xc24b8b70#32, 0xc76c51a3#32, 0xd192e819#32, 0xd6990624#32, 0xf40e3585#32, 0x106aa070#32, 0x19a4c116#32, 0x1e376c08#32, 0x2748774c#32, 0x34b0bcb5#32, 0x391c0cb3#32, 0x4ed8aa4a#32, 0x5b9cca4f#32, 0x682e6ff3#32, 0x748f82ee#32, 0x78a5636f#32, 0x84c87814#32, 0x8cc70208#32, 0x90befffa#32, 0xa4506ceb#32, 0xbef9a3f7#32, 0xc67178f2#32]
def s0T : List (BitVec 32) := [0x6a09e667#32, 0xbb67ae85#32, 0x3c6ef372#32, 0xa54ff53a#32, 0x510e527f#32, 0x9b05688c#32, 0x1f83d9ab#32, 0x5be0cd19#32]
theorem kT_length : kT.length = 64 := by kernel_rfl
theorem s0T_length : s0T.length = 8 := by kernel_rfl
theorem getD_some {α : Type} {l : List α} {i : Nat} {z : α} (h : i < l.length) : l[i]? = some (l.getD i z) := by
  rw [List.getElem?_eq_getElem h]; simp [List.getD, h]
end Go.Sx

/-
  The tables of SHA-256: of the program and of the reference. No condition.
-/
namespace Go.Sx
open Go Go.Proofs

theorem Start_b (w : World) : Spec Try.prog 113 #[] w (σ := Unit) (fun _ => True) (fun _ => .agg (ws s0T).toArray) Nob (fun _ => []) := by
  refine enter Try.func113 rfl rfl (Mem.start w) ?_
  (repeat refine g_seq ?_)
  refine g_region ?_
  refine g_lo [0] rfl rfl rfl rfl (lo_alloc rfl) (fun b0 hb0 => ?_)
  refine g_nil ?_
  (repeat refine g_seq ?_)
  refine g_region ?_
  refine g_pu rfl rfl rfl (pu_buildA' (cs := ws s0T) rfl rfl (by kernel_rfl)) ?_
  refine g_storeL 0 (C := ws s0T) rfl rfl rfl rfl rfl rfl (by rw [ws_length]; exact s0T_length) (by simp) (oneCell_ws _) ?_
  refine g_nil ?_
  exact g_retL 0 (L := ws s0T) rfl (by rw [ws_length]; exact s0T_length) rfl rfl (fun w' hm => ⟨(), trivial, rfl, hm.grows [] trivial rfl⟩)
theorem Constants_b (w : World) : Spec Try.prog 120 #[] w (σ := Unit) (fun _ => True) (fun _ => .agg (ws kT).toArray) Nob (fun _ => []) := by
  refine enter Try.func120 rfl rfl (Mem.start w) ?_
  (repeat refine g_seq ?_)
  refine g_region ?_
  refine g_lo [0] rfl rfl rfl rfl (lo_alloc rfl) (fun b0 hb0 => ?_)
  refine g_nil ?_
  (repeat refine g_seq ?_)
  refine g_region ?_
  refine g_pu rfl rfl rfl (pu_buildA' (cs := ws kT) rfl rfl (by kernel_rfl)) ?_
  refine g_storeL 0 (C := ws kT) rfl rfl rfl rfl rfl rfl (by rw [ws_length]; exact kT_length) (by simp) (oneCell_ws _) ?_
  refine g_nil ?_
  exact g_retL 0 (L := ws kT) rfl (by rw [ws_length]; exact kT_length) rfl rfl (fun w' hm => ⟨(), trivial, rfl, hm.grows [] trivial rfl⟩)
theorem Table_b (w : World) : Spec Try.prog 92 #[] w (σ := Unit) (fun _ => True) (fun _ => .agg (ws kT).toArray) Nob (fun _ => []) := by
  refine enter Try.func92 rfl rfl (Mem.start w) ?_
  (repeat refine g_seq ?_)
  refine g_region ?_
  refine g_lo [0] rfl rfl rfl rfl (lo_alloc rfl) (fun b0 hb0 => ?_)
  refine g_nil ?_
  (repeat refine g_seq ?_)
  refine g_region ?_
  refine g_pu rfl rfl rfl (pu_buildA' (cs := ws kT) rfl rfl (by kernel_rfl)) ?_
  refine g_storeL 0 (C := ws kT) rfl rfl rfl rfl rfl rfl (by rw [ws_length]; exact kT_length) (by simp) (oneCell_ws _) ?_
  refine g_nil ?_
  exact g_retL 0 (L := ws kT) rfl (by rw [ws_length]; exact kT_length) rfl rfl (fun w' hm => ⟨(), trivial, rfl, hm.grows [] trivial rfl⟩)
theorem First_b (w : World) : Spec Try.prog 73 #[] w (σ := Unit) (fun _ => True) (fun _ => .agg (ws s0T).toArray) Nob (fun _ => []) := by
  refine enter Try.func73 rfl rfl (Mem.start w) ?_
  (repeat refine g_seq ?_)
  refine g_region ?_
  refine g_lo [0] rfl rfl rfl rfl (lo_alloc rfl) (fun b0 hb0 => ?_)
  refine g_nil ?_
  (repeat refine g_seq ?_)
  refine g_region ?_
  refine g_pu rfl rfl rfl (pu_buildA' (cs := ws s0T) rfl rfl (by kernel_rfl)) ?_
  refine g_storeL 0 (C := ws s0T) rfl rfl rfl rfl rfl rfl (by rw [ws_length]; exact s0T_length) (by simp) (oneCell_ws _) ?_
  refine g_nil ?_
  exact g_retL 0 (L := ws s0T) rfl (by rw [ws_length]; exact s0T_length) rfl rfl (fun w' hm => ⟨(), trivial, rfl, hm.grows [] trivial rfl⟩)
end Go.Sx

/-
  The padding of SHA-256: of the program and of its reference. The length is at most 2^56.
-/
namespace Go.Sx
open Go Go.Proofs

def noughts (n : Nat) : Nat := (119 - n % 64) % 64
def sizeV (n : Nat) : BitVec 64 := BitVec.ofInt 64 (n : Int) * 8#64
def padB (n : Nat) : List (BitVec 8) := 128#8 :: (List.replicate (noughts n) 0#8 ++ putL 2 8 (sizeV n))
theorem putE8 (n : BitVec 64) : putE 2 8 n = 0 := by
  unfold putE
  rw [if_neg (fun h => h ⟨.inr rfl, by omega, by omega⟩), if_neg]
  intro h
  apply h
  apply BitVec.eq_of_getLsbD_eq
  intro i hi
  rw [BitVec.getLsbD_ushiftRight]
  simp [BitVec.getLsbD_of_ge n _ (show 64 ≤ 8 * (8 : Int).toNat + i by omega)]
theorem putL8_length (n : BitVec 64) : (putL 2 8 n).length = 8 := by
  unfold putL
  rw [if_pos (putE8 n), if_pos rfl, List.length_reverse, putW_length]
  rfl
theorem padB_length (n : Nat) : (padB n).length = noughts n + 9 := by simp [padB, putL8_length]
theorem noughts_lt (n : Nat) : noughts n < 64 := Nat.mod_lt _ (by omega)

theorem shapad_b (w : World) (n : Nat) (hn : n ≤ 72057594037927936) : Spec Try.prog 104 #[.int .i64 (n : Int)] w (σ := Ow) (fun _ => True) (fun x => x.sl (padB n).length) Nob (fun x => [x.ck 5 1 (bs (padB n))]) := by
  refine enter Try.func104 rfl rfl (Mem.start w) ?_
  have hlt := noughts_lt n
  have h8 := putL8_length (sizeV n)
  (repeat refine g_seq ?_)
  refine g_region ?_
  refine g_pu rfl rfl rfl (pu_assign rfl rfl) ?_
  refine g_nil ?_
  (repeat refine g_seq ?_)
  refine g_region ?_
  refine g_pu rfl rfl rfl (pu_move rfl rfl) ?_
  refine g_pu rfl rfl rfl (pu_remI rfl rfl rfl (by omega)) ?_
  refine g_pu rfl rfl rfl (pu_subI rfl rfl rfl (by omega)) ?_
  refine g_pu rfl rfl rfl (pu_remI rfl rfl rfl (by omega)) ?_
  refine g_pu rfl rfl rfl (pu_assign rfl rfl) ?_
  refine g_nil ?_
  (repeat refine g_seq ?_)
  refine g_region ?_
  refine g_pu rfl rfl rfl (pu_move rfl rfl) ?_
  refine g_pu rfl rfl rfl (pu_convI_64 rfl rfl) ?_
  refine g_pu rfl rfl rfl (pu_mul64 (b := 8#64) rfl rfl rfl) ?_
  refine g_call [14] rfl rfl rfl rfl rfl rfl (fun w' hm => Put_b w' 2 8 (sizeV n)) (fun x14 _ => ?_)
  refine g_pu rfl rfl rfl (pu_move rfl rfl) ?_
  refine g_pu rfl rfl rfl (pu_extract rfl rfl rfl) ?_
  refine g_pu rfl rfl rfl (pu_extract rfl rfl rfl) ?_
  refine g_pu rfl rfl rfl (pu_assign rfl rfl) ?_
  refine g_pu rfl rfl rfl (pu_assign rfl rfl) ?_
  refine g_nil ?_
  have hno : ((119 : Int) - (n : Int) % 64) % 64 = (noughts n : Int) := by unfold noughts; omega
  rw [hno]
  (repeat refine g_seq ?_)
  refine g_region ?_
  refine g_lo [17] rfl rfl rfl rfl (lo_buildSlice rfl rfl (by decide) (by decide) rfl rfl) (fun b17 hb17 => ?_)
  refine g_pu rfl rfl rfl (pu_move rfl rfl) ?_
  refine g_lo [19] rfl rfl rfl rfl (lo_make (n := noughts n) (c := noughts n) rfl rfl rfl (by omega) (by omega) (by omega) rfl) (fun b19 hb19 => ?_)
  refine g_pu rfl rfl rfl (pu_move rfl rfl) ?_
  refine g_lo [21] rfl rfl rfl rfl (lo_buildSlice rfl rfl (by decide) (by decide) rfl rfl) (fun b21 hb21 => ?_)
  refine g_call [22] rfl rfl rfl rfl rfl rfl (fun w' hm => Join_b w' _ (L := [.slice (some ⟨b17, 0, none⟩) 1 1, .slice (some ⟨b19, 0, none⟩) (noughts n) (noughts n), x14.sl (putL 2 8 (sizeV n)).length]) (ls := [[128#8], List.replicate (noughts n) 0#8, putL 2 8 (sizeV n)]) ⟨hm.rowA 21 rfl, rfl, All2.cons (IsB.full 17 rfl hm rfl (by omega)) (All2.cons ⟨_, _, _, rfl, ⟨hm.rowA 19 (by simp only [bs, List.map_replicate]; rfl), by simp, by omega⟩, fun _ _ => trivial⟩ (All2.cons (IsB.own 14 rfl hm rfl (by omega)) All2.nil)), by omega⟩ (by omega) (by simp [h8]; omega)) (fun x22 _ => ?_)
  refine g_pu rfl rfl rfl (pu_assign rfl rfl) ?_
  refine g_nil ?_
  have he : [[128#8], List.replicate (noughts n) 0#8, putL 2 8 (sizeV n)].flatten = padB n := by simp [padB]
  rw [he]
  exact g_ret1 rfl rfl (fun w' hm => ⟨x22, trivial, rfl, hm.grows [22] ⟨rfl, trivial⟩ rfl⟩)

theorem padding_b (w : World) (n : Nat) (hn : n ≤ 72057594037927936) : Spec Try.prog 72 #[.int .i64 (n : Int)] w (σ := Ow) (fun _ => True) (fun x => x.sl (padB n).length) Nob (fun x => [x.ck 5 1 (bs (padB n))]) := by
  refine enter Try.func72 rfl rfl (Mem.start w) ?_
  have hlt := noughts_lt n
  have h8 := putL8_length (sizeV n)
  (repeat refine g_seq ?_)
  refine g_region ?_
  refine g_pu rfl rfl rfl (pu_assign rfl rfl) ?_
  refine g_nil ?_
  (repeat refine g_seq ?_)
  refine g_region ?_
  refine g_lo [6] rfl rfl rfl rfl (lo_buildSlice rfl rfl (by decide) (by decide) rfl rfl) (fun b6 hb6 => ?_)
  refine g_own 6 (L := bs [128#8]) (J := []) (c := 1) (s := 1) rfl (by simp [bs]) (by omega) ?_
  refine g_pu rfl rfl rfl (pu_assign rfl rfl) ?_
  refine g_nil ?_
  (repeat refine g_seq ?_)
  refine g_block (g_loop2 (fun (k : Nat) (x : Ow) => [(0, .int .i64 (n : Int)), (3, x.sl (k + 1))]) (fun k x => [(6, x.ck 5 1 (bs (128#8 :: List.replicate k 0#8)))]) (fun k _ => k ≤ noughts n) (fun k _ => 64 - k) 0 ⟨some ⟨b6, 0, none⟩, 1⟩ ⟨rfl, rfl, trivial⟩ ⟨rfl, trivial⟩ (by omega) ?_)
  intro k x hk
  by_cases he : k = noughts n
  · have hz : ((n : Int) + ((k + 1 : Nat) : Int) + 8) % 64 = 0 := by unfold noughts at he; omega
    (repeat refine g_seq ?_)
    refine g_region ?_
    refine g_pu rfl rfl rfl (pu_move rfl rfl) ?_
    refine g_pu rfl rfl rfl (pu_move rfl rfl) ?_
    first | refine g_pu rfl rfl rfl (pu_len rfl rfl) ?_ | refine g_pu rfl rfl rfl (pu_lenS rfl rfl) ?_
    refine g_pu rfl rfl rfl (pu_addI rfl rfl rfl (by omega)) ?_
    refine g_pu rfl rfl rfl (pu_addI rfl rfl rfl (by omega)) ?_
    refine g_pu rfl rfl rfl (pu_remI rfl rfl rfl (by omega)) ?_
    first | refine g_pu rfl rfl rfl (pu_neq_t rfl rfl rfl (by omega)) ?_ | refine g_pu rfl rfl rfl (pu_neq_f rfl rfl rfl (by omega)) ?_ | refine g_pu rfl rfl rfl (pu_neq rfl rfl rfl) ?_
    refine g_nil ?_
    (repeat refine g_seq ?_)
    refine g_cond_f rfl (g_exit rfl ?_)
    subst he
    (repeat refine g_seq ?_)
    refine g_region ?_
    refine g_pu rfl rfl rfl (pu_move rfl rfl) ?_
    refine g_pu rfl rfl rfl (pu_convI_64 rfl rfl) ?_
    refine g_pu rfl rfl rfl (pu_mul64 (b := 8#64) rfl rfl rfl) ?_
    refine g_call [21] rfl rfl rfl rfl rfl rfl (fun w' hm => RPut_b w' 2 8 (sizeV n)) (fun x21 _ => ?_)
    refine g_pu rfl rfl rfl (pu_move rfl rfl) ?_
    refine g_pu rfl rfl rfl (pu_extract rfl rfl rfl) ?_
    refine g_pu rfl rfl rfl (pu_extract rfl rfl rfl) ?_
    refine g_pu rfl rfl rfl (pu_assign rfl rfl) ?_
    refine g_pu rfl rfl rfl (pu_assign rfl rfl) ?_
    refine g_nil ?_
    (repeat refine g_seq ?_)
    refine g_region ?_
    refine g_pu rfl rfl rfl (pu_move rfl rfl) ?_
    refine g_pu rfl rfl rfl (pu_move rfl rfl) ?_
    refine g_append1 6 (bs (putL 2 8 (sizeV n))) rfl rfl rfl rfl rfl rfl rfl rfl (by simp [bs]) (fun w' hm => Ow.rd (t := 21) rfl hm) (by rw [bs_length]) (oneCell_bs _) (by omega) (by omega) (fun p' c' => ?_)
    refine g_pu rfl rfl rfl (pu_assign rfl rfl) ?_
    refine g_nil ?_
    refine g_ret1 rfl rfl (fun w' hm => ⟨⟨p', c'⟩, trivial, ?_, ?_⟩)
    · rw [padB_length, h8]; rfl
    · rw [padB, show bs (128#8 :: (List.replicate (noughts n) 0#8 ++ putL 2 8 (sizeV n))) = bs (128#8 :: List.replicate (noughts n) 0#8) ++ bs (putL 2 8 (sizeV n)) by simp [bs]]
      exact hm.grows [6] ⟨rfl, trivial⟩ rfl
  · have hz : ¬ ((n : Int) + ((k + 1 : Nat) : Int) + 8) % 64 = 0 := by unfold noughts at he hk hlt; omega
    (repeat refine g_seq ?_)
    refine g_region ?_
    refine g_pu rfl rfl rfl (pu_move rfl rfl) ?_
    refine g_pu rfl rfl rfl (pu_move rfl rfl) ?_
    first | refine g_pu rfl rfl rfl (pu_len rfl rfl) ?_ | refine g_pu rfl rfl rfl (pu_lenS rfl rfl) ?_
    refine g_pu rfl rfl rfl (pu_addI rfl rfl rfl (by omega)) ?_
    refine g_pu rfl rfl rfl (pu_addI rfl rfl rfl (by omega)) ?_
    refine g_pu rfl rfl rfl (pu_remI rfl rfl rfl (by omega)) ?_
    first | refine g_pu rfl rfl rfl (pu_neq_t rfl rfl rfl (by omega)) ?_ | refine g_pu rfl rfl rfl (pu_neq_f rfl rfl rfl (by omega)) ?_ | refine g_pu rfl rfl rfl (pu_neq rfl rfl rfl) ?_
    refine g_nil ?_
    (repeat refine g_seq ?_)
    refine g_cond_t rfl (g_skip ?_)
    (repeat refine g_seq ?_); refine g_block ?_
    (repeat refine g_seq ?_)
    refine g_region ?_
    refine g_pu rfl rfl rfl (pu_move rfl rfl) ?_
    refine g_lo [15] rfl rfl rfl rfl (lo_buildSlice rfl rfl (by decide) (by decide) rfl rfl) (fun b15 hb15 => ?_)
    refine g_append1 6 [b8 0#8] rfl rfl rfl rfl rfl rfl rfl rfl (by simp [bs]) (fun w' hm => hm.row 15 (J := []) rfl) rfl (fun u hu => by obtain rfl := List.mem_singleton.1 hu; rfl) (by omega) (by omega) (fun p' c' => ?_)
    refine g_pu rfl rfl rfl (pu_assign rfl rfl) ?_
    refine g_nil ?_
    refine g_blk ?_
    refine g_round2 (k + 1) (⟨p', c'⟩ : Ow) (by omega) (by omega) ⟨rfl, rfl, trivial⟩ ⟨?_, trivial⟩
    rw [show bs (128#8 :: List.replicate (k + 1) 0#8) = bs (128#8 :: List.replicate k 0#8) ++ [b8 0#8] by rw [List.replicate_succ']; simp [bs]]
    rfl

end Go.Sx

/-
  The words of all rounds, and rotating to the right: of the program and of the reference. The block has 64 bytes.
-/
namespace Go.Sx
open Go Go.Proofs

theorem RotN_b (w : World) (x : BitVec 32) (k : Nat) (h0 : 0 < k) (h : k < 32) : Spec Try.prog 121 #[b32 x, .int .i64 (-(k : Int))] w (σ := Unit) (fun _ => True) (fun _ => b32 (rotL x (32 - k))) Nob (fun _ => []) := by
  refine enter Try.func121 rfl rfl (Mem.start w) ?_
  have and31n : (BitVec.ofInt 64 (-(k : Int)) &&& 31#64) = BitVec.ofNat 64 (32 - k) := by
    apply BitVec.eq_of_toNat_eq
    have e : (BitVec.ofInt 64 (-(k : Int))).toNat = 18446744073709551616 - k := by rw [BitVec.toNat_ofInt]; omega
    have h5 := Nat.and_two_pow_sub_one_eq_mod (18446744073709551616 - k) 5
    rw [BitVec.toNat_and, e, BitVec.toNat_ofNat]
    show (18446744073709551616 - k) &&& (2 ^ 5 - 1) = (32 - k) % 2 ^ 64
    rw [h5]; omega
  (repeat refine g_seq ?_)
  refine g_region ?_
  refine g_pu rfl rfl rfl (pu_assign (v := b32 0#32) rfl rfl) ?_
  refine g_nil ?_
  (repeat refine g_seq ?_)
  refine g_region ?_
  refine g_pu rfl rfl rfl (pu_move rfl rfl) ?_
  refine g_pu rfl rfl rfl (pu_convI_64 rfl rfl) ?_
  refine g_pu rfl rfl rfl (pu_and64 (b := 31#64) rfl rfl rfl) ?_
  rw [and31n]
  refine g_pu rfl rfl rfl (pu_assign rfl rfl) ?_
  refine g_nil ?_
  have e1 : (BitVec.ofNat 64 (32 - k)).toNat = 32 - k := by rw [BitVec.toNat_ofNat]; omega
  have e2 : (32#64 - BitVec.ofNat 64 (32 - k)).toNat = 32 - (32 - k) := by rw [BitVec.toNat_sub, BitVec.toNat_ofNat]; simp; omega
  (repeat refine g_seq ?_)
  refine g_region ?_
  refine g_pu rfl rfl rfl (pu_move rfl rfl) ?_
  refine g_pu rfl rfl rfl (pu_move rfl rfl) ?_
  refine g_pu rfl rfl rfl (pu_shl32 rfl rfl rfl (by omega)) ?_
  refine g_pu rfl rfl rfl (pu_move rfl rfl) ?_
  refine g_pu rfl rfl rfl (pu_move rfl rfl) ?_
  refine g_pu rfl rfl rfl (pu_sub64 (a := 32#64) rfl rfl rfl) ?_
  refine g_pu rfl rfl rfl (pu_shr32 rfl rfl rfl (by omega)) ?_
  refine g_pu rfl rfl rfl (pu_or32 rfl rfl rfl) ?_
  refine g_pu rfl rfl rfl (pu_assign rfl rfl) ?_
  refine g_nil ?_
  refine g_ret1 rfl rfl (fun w' hm => ⟨(), trivial, ?_, hm.grows [] trivial rfl⟩)
  unfold rotL
  simp only [Int.toNat_natCast, e1, e2]

theorem right_b (w : World) (x : BitVec 32) (k : Nat) (h0 : 0 < k) (h : k < 32) : Spec Try.prog 93 #[b32 x, .int .i64 (k : Int)] w (σ := Unit) (fun _ => True) (fun _ => b32 (rotL x (32 - k))) Nob (fun _ => []) := by
  refine enter Try.func93 rfl rfl (Mem.start w) ?_
  (repeat refine g_seq ?_)
  refine g_region ?_
  refine g_pu rfl rfl rfl (pu_assign (v := b32 0#32) rfl rfl) ?_
  refine g_nil ?_
  (repeat refine g_seq ?_)
  refine g_any (9, []) ?_
  refine a_pu 0 rfl rfl rfl rfl (pu_move rfl rfl) rfl rfl (by kernel_rfl) ?_
  refine a_pu 1 rfl rfl rfl rfl (pu_move rfl rfl) rfl rfl (by kernel_rfl) ?_
  refine a_pu 2 rfl rfl rfl rfl (pu_shr32 rfl rfl rfl (by omega)) rfl rfl (by kernel_rfl) ?_
  refine a_pu 3 rfl rfl rfl rfl (pu_move rfl rfl) rfl rfl (by kernel_rfl) ?_
  refine a_pu 4 rfl rfl rfl rfl (pu_move rfl rfl) rfl rfl (by kernel_rfl) ?_
  refine a_pu 5 rfl rfl rfl rfl (pu_subI rfl rfl rfl (by omega)) rfl rfl (by kernel_rfl) ?_
  refine a_pu 6 rfl rfl rfl rfl (pu_shl32 rfl rfl rfl (by omega)) rfl rfl (by kernel_rfl) ?_
  refine a_pu 7 rfl rfl rfl rfl (pu_or32 rfl rfl rfl) rfl rfl (by kernel_rfl) ?_
  refine a_pu 8 rfl rfl rfl rfl (pu_assign rfl rfl) rfl rfl (by kernel_rfl) ?_
  refine a_done (by kernel_rfl) ?_
  refine g_ret1 rfl rfl (fun w' hm => ⟨(), trivial, ?_, hm.grows [] trivial rfl⟩)
  unfold rotL
  rw [show ((k : Int)).toNat = k by omega, show ((32 : Int) - (k : Int)).toNat = 32 - k by omega, show 32 - (32 - k) = k by omega, BitVec.or_comm]

def sg0 (x : BitVec 32) : BitVec 32 := rotL x 25 ^^^ rotL x 14 ^^^ x >>> 3
def sg1 (y : BitVec 32) : BitVec 32 := rotL y 15 ^^^ rotL y 13 ^^^ y >>> 10
def byt (l : List (BitVec 8)) (i : Nat) : BitVec 32 := (l.getD i 0#8).setWidth 32
def be4 (l : List (BitVec 8)) (t : Nat) : BitVec 32 := byt l (4 * t) <<< 24 ||| byt l (4 * t + 1) <<< 16 ||| byt l (4 * t + 2) <<< 8 ||| byt l (4 * t + 3)
def wt (b : List (BitVec 8)) (l : List (BitVec 32)) (t : Nat) : BitVec 32 :=
  if t < 16 then be4 b t else sg1 (l.getD (t - 2) 0#32) + l.getD (t - 7) 0#32 + sg0 (l.getD (t - 15) 0#32) + l.getD (t - 16) 0#32
def schedL (b : List (BitVec 8)) : Nat → List (BitVec 32)
  | 0 => []
  | n + 1 => schedL b n ++ [wt b (schedL b n) n]
theorem schedL_length (b : List (BitVec 8)) : ∀ n, (schedL b n).length = n
  | 0 => rfl
  | n + 1 => by rw [schedL, List.length_append, schedL_length b n]; rfl
/-- Filled in up to word n. -/
def schA (b : List (BitVec 8)) (n : Nat) : List (BitVec 32) := schedL b n ++ List.replicate (64 - n) 0#32
theorem schA_length (b : List (BitVec 8)) {n : Nat} (h : n ≤ 64) : (schA b n).length = 64 := by rw [schA, List.length_append, schedL_length, List.length_replicate]; omega
theorem schA_get (b : List (BitVec 8)) {n j : Nat} (h : j < n) : (schA b n)[j]? = some ((schedL b n).getD j 0#32) := by
  rw [schA, List.getElem?_append_left (by rw [schedL_length]; exact h)]
  exact getD_some (by rw [schedL_length]; exact h)
theorem schA_set (b : List (BitVec 8)) {n : Nat} (h : n < 64) : (schA b n).set n (wt b (schedL b n) n) = schA b (n + 1) := by
  rw [schA, List.set_append_right _ _ (by rw [schedL_length]; exact Nat.le_refl _), schedL_length, Nat.sub_self, schA, schedL, List.append_assoc]
  congr 1
  rw [show 64 - n = (64 - (n + 1)) + 1 by omega, List.replicate_succ]
  rfl
theorem schA_end (b : List (BitVec 8)) : schA b 64 = schedL b 64 := by simp [schA]
theorem byt_get {l : List (BitVec 8)} {i : Nat} (h : i < l.length) : l[i]? = some (l.getD i 0#8) := getD_some h

theorem schedule_b (w : World) {p : Option Addr} (c : Nat) {l : List (BitVec 8)} (ha : By w p 64 l) : Spec Try.prog 119 #[.slice p 64 c] w (σ := Unit) (fun _ => True) (fun _ => .agg (ws (schedL l 64)).toArray) Nob (fun _ => []) := by
  refine enter Try.func119 rfl rfl (Mem.start w) ?_
  have hl := ha.len
  obtain ⟨pb, po, hp, _⟩ := ha.rd.place (by rw [bs_length]; omega)
  subst hp
  (repeat refine g_seq ?_)
  refine g_region ?_
  refine g_lo [2] rfl rfl rfl rfl (lo_alloc rfl) (fun b2 hb2 => ?_)
  refine g_nil ?_
  (repeat refine g_seq ?_)
  refine g_region ?_
  refine g_lo [3] rfl rfl rfl rfl (lo_alloc rfl) (fun b3 hb3 => ?_)
  refine g_nil ?_
  (repeat refine g_seq ?_)
  refine g_region ?_
  refine g_pu rfl rfl rfl (pu_move rfl rfl) ?_
  refine g_nil ?_
  (repeat refine g_seq ?_)
  refine g_block (g_loop (σ := Nat) (fun t => [(0, .slice (some ⟨pb, po, none⟩) 64 c), (2, .pointer (some ⟨b2, 0, none⟩)), (3, .pointer (some ⟨b3, 0, none⟩)), (10, .int .i64 (t : Int))]) (fun t => [(2, .pt b2 (.cells (ws (List.replicate 64 0#32)).toArray 153 (0, 0))), (3, .pt b3 (.cells (ws (schA l t)).toArray 153 (0, 0)))]) (fun t => t ≤ 16) (fun t => 16 - t) 0 ⟨rfl, rfl, rfl, rfl, trivial⟩ ⟨rfl, rfl, trivial⟩ (by omega) ?_)
  intro t ht
  by_cases hlt : t < 16
  · (repeat refine g_seq ?_)
    refine g_region ?_
    first | refine g_pu rfl rfl rfl (pu_lss_t rfl rfl rfl (by omega)) ?_ | refine g_pu rfl rfl rfl (pu_lss_f rfl rfl rfl (by omega)) ?_ | refine g_pu rfl rfl rfl (pu_lss rfl rfl rfl) ?_
    refine g_nil ?_
    (repeat refine g_seq ?_)
    refine g_cond_t rfl (g_skip ?_)
    have hwt : wt l (schedL l t) t = be4 l t := by simp [wt, hlt]
    (repeat refine g_seq ?_); refine g_block ?_
    (repeat refine g_seq ?_)
    refine g_region ?_
    refine g_pu rfl rfl rfl (pu_move rfl rfl) ?_
    refine g_pu rfl rfl rfl (pu_assign rfl rfl) ?_
    refine g_nil ?_
    (repeat refine g_seq ?_)
    refine g_any (35, []) ?_
    refine a_pu 0 rfl rfl rfl rfl (pu_move rfl rfl) rfl rfl (by kernel_rfl) ?_
    refine a_pu 1 rfl rfl rfl rfl (pu_move rfl rfl) rfl rfl (by kernel_rfl) ?_
    refine a_pu 2 rfl rfl rfl rfl (pu_move rfl rfl) rfl rfl (by kernel_rfl) ?_
    refine a_pu 3 rfl rfl rfl rfl (pu_mulI rfl rfl rfl (by omega)) rfl rfl (by kernel_rfl) ?_
    refine a_pu 4 rfl rfl rfl rfl (pu_at1 (4 * t) rfl rfl rfl (by omega) (by omega)) rfl rfl (by kernel_rfl) ?_
    refine a_pu 5 rfl rfl rfl rfl (pu_rdB (j := 4 * t) (fun w' hm => ha.m hm) rfl rfl (byt_get (by omega))) rfl rfl (by kernel_rfl) ?_
    refine a_pu 6 rfl rfl rfl rfl (pu_conv8_32 rfl rfl) rfl rfl (by kernel_rfl) ?_
    refine a_pu 7 rfl rfl rfl rfl (pu_shl32 rfl rfl rfl (by omega)) rfl rfl (by kernel_rfl) ?_
    refine a_pu 8 rfl rfl rfl rfl (pu_move rfl rfl) rfl rfl (by kernel_rfl) ?_
    refine a_pu 9 rfl rfl rfl rfl (pu_move rfl rfl) rfl rfl (by kernel_rfl) ?_
    refine a_pu 10 rfl rfl rfl rfl (pu_mulI rfl rfl rfl (by omega)) rfl rfl (by kernel_rfl) ?_
    refine a_pu 11 rfl rfl rfl rfl (pu_addI rfl rfl rfl (by omega)) rfl rfl (by kernel_rfl) ?_
    refine a_pu 12 rfl rfl rfl rfl (pu_at1 (4 * t + 1) rfl rfl rfl (by omega) (by omega)) rfl rfl (by kernel_rfl) ?_
    refine a_pu 13 rfl rfl rfl rfl (pu_rdB (j := 4 * t + 1) (fun w' hm => ha.m hm) rfl rfl (byt_get (by omega))) rfl rfl (by kernel_rfl) ?_
    refine a_pu 14 rfl rfl rfl rfl (pu_conv8_32 rfl rfl) rfl rfl (by kernel_rfl) ?_
    refine a_pu 15 rfl rfl rfl rfl (pu_shl32 rfl rfl rfl (by omega)) rfl rfl (by kernel_rfl) ?_
    refine a_pu 16 rfl rfl rfl rfl (pu_or32 rfl rfl rfl) rfl rfl (by kernel_rfl) ?_
    refine a_pu 17 rfl rfl rfl rfl (pu_move rfl rfl) rfl rfl (by kernel_rfl) ?_
    refine a_pu 18 rfl rfl rfl rfl (pu_move rfl rfl) rfl rfl (by kernel_rfl) ?_
    refine a_pu 19 rfl rfl rfl rfl (pu_mulI rfl rfl rfl (by omega)) rfl rfl (by kernel_rfl) ?_
    refine a_pu 20 rfl rfl rfl rfl (pu_addI rfl rfl rfl (by omega)) rfl rfl (by kernel_rfl) ?_
    refine a_pu 21 rfl rfl rfl rfl (pu_at1 (4 * t + 2) rfl rfl rfl (by omega) (by omega)) rfl rfl (by kernel_rfl) ?_
    refine a_pu 22 rfl rfl rfl rfl (pu_rdB (j := 4 * t + 2) (fun w' hm => ha.m hm) rfl rfl (byt_get (by omega))) rfl rfl (by kernel_rfl) ?_
    refine a_pu 23 rfl rfl rfl rfl (pu_conv8_32 rfl rfl) rfl rfl (by kernel_rfl) ?_
    refine a_pu 24 rfl rfl rfl rfl (pu_shl32 rfl rfl rfl (by omega)) rfl rfl (by kernel_rfl) ?_
    refine a_pu 25 rfl rfl rfl rfl (pu_or32 rfl rfl rfl) rfl rfl (by kernel_rfl) ?_
    refine a_pu 26 rfl rfl rfl rfl (pu_move rfl rfl) rfl rfl (by kernel_rfl) ?_
    refine a_pu 27 rfl rfl rfl rfl (pu_move rfl rfl) rfl rfl (by kernel_rfl) ?_
    refine a_pu 28 rfl rfl rfl rfl (pu_mulI rfl rfl rfl (by omega)) rfl rfl (by kernel_rfl) ?_
    refine a_pu 29 rfl rfl rfl rfl (pu_addI rfl rfl rfl (by omega)) rfl rfl (by kernel_rfl) ?_
    refine a_pu 30 rfl rfl rfl rfl (pu_at1 (4 * t + 3) rfl rfl rfl (by omega) (by omega)) rfl rfl (by kernel_rfl) ?_
    refine a_pu 31 rfl rfl rfl rfl (pu_rdB (j := 4 * t + 3) (fun w' hm => ha.m hm) rfl rfl (byt_get (by omega))) rfl rfl (by kernel_rfl) ?_
    refine a_pu 32 rfl rfl rfl rfl (pu_conv8_32 rfl rfl) rfl rfl (by kernel_rfl) ?_
    refine a_pu 33 rfl rfl rfl rfl (pu_or32 rfl rfl rfl) rfl rfl (by kernel_rfl) ?_
    refine a_pu 34 rfl rfl rfl rfl (pu_atA1 t rfl rfl rfl rfl (by omega)) rfl rfl (by kernel_rfl) ?_
    refine a_tail [35] (by kernel_rfl) rfl rfl (by kernel_rfl) ?_
    refine g_store 3 (v := b32 (wt l (schedL l t) t)) rfl rfl rfl rfl (by rw [hwt]; rfl) rfl rfl (by rw [ws_length, schA_length _ (by omega)]; omega) ?_
    rw [ws_set, schA_set _ (by omega)]
    refine g_nil ?_
    refine g_blk ?_
    (repeat refine g_seq ?_)
    refine g_region ?_
    refine g_pu rfl rfl rfl (pu_addI rfl rfl rfl (by omega)) ?_
    refine g_pu rfl rfl rfl (pu_move rfl rfl) ?_
    refine g_nil ?_
    exact g_round (t + 1) (by omega) (by omega) ⟨rfl, rfl, rfl, rfl, trivial⟩ ⟨rfl, rfl, trivial⟩
  · (repeat refine g_seq ?_)
    refine g_region ?_
    first | refine g_pu rfl rfl rfl (pu_lss_t rfl rfl rfl (by omega)) ?_ | refine g_pu rfl rfl rfl (pu_lss_f rfl rfl rfl (by omega)) ?_ | refine g_pu rfl rfl rfl (pu_lss rfl rfl rfl) ?_
    refine g_nil ?_
    (repeat refine g_seq ?_)
    refine g_cond_f rfl (g_exit rfl ?_)
    have e : t = 16 := by omega
    subst e
    (repeat refine g_seq ?_)
    refine g_region ?_
    refine g_pu rfl rfl rfl (pu_assign rfl rfl) ?_
    refine g_nil ?_
    (repeat refine g_seq ?_)
    refine g_block (g_loop (σ := Nat) (fun t => [(2, .pointer (some ⟨b2, 0, none⟩)), (3, .pointer (some ⟨b3, 0, none⟩)), (5, .int .i64 (t : Int))]) (fun t => [(2, .pt b2 (.cells (ws (List.replicate 64 0#32)).toArray 153 (0, 0))), (3, .pt b3 (.cells (ws (schA l t)).toArray 153 (0, 0)))]) (fun t => 16 ≤ t ∧ t ≤ 64) (fun t => 64 - t) 16 ⟨rfl, rfl, rfl, trivial⟩ ⟨rfl, rfl, trivial⟩ (by omega) ?_)
    intro t ⟨ht1, ht2⟩
    by_cases hlt : t < 64
    · (repeat refine g_seq ?_)
      refine g_region ?_
      refine g_pu rfl rfl rfl (pu_move rfl rfl) ?_
      first | refine g_pu rfl rfl rfl (pu_lss_t rfl rfl rfl (by omega)) ?_ | refine g_pu rfl rfl rfl (pu_lss_f rfl rfl rfl (by omega)) ?_ | refine g_pu rfl rfl rfl (pu_lss rfl rfl rfl) ?_
      refine g_nil ?_
      (repeat refine g_seq ?_)
      refine g_cond_t rfl (g_skip ?_)
      have hwt : wt l (schedL l t) t = sg1 ((schedL l t).getD (t - 2) 0#32) + (schedL l t).getD (t - 7) 0#32 + sg0 ((schedL l t).getD (t - 15) 0#32) + (schedL l t).getD (t - 16) 0#32 := by unfold wt; rw [if_neg (by omega)]
      (repeat refine g_seq ?_); refine g_block ?_
      (repeat refine g_seq ?_)
      refine g_any (10, []) ?_
      refine a_pu 0 rfl rfl rfl rfl (pu_move rfl rfl) rfl rfl (by kernel_rfl) ?_
      refine a_pu 1 rfl rfl rfl rfl (pu_subI rfl rfl rfl (by omega)) rfl rfl (by kernel_rfl) ?_
      refine a_pu 2 rfl rfl rfl rfl (pu_atA1 (t - 15) rfl rfl rfl (by omega) (by omega)) rfl rfl (by kernel_rfl) ?_
      refine a_pu 3 rfl rfl rfl rfl (pu_load 3 rfl rfl rfl (ws_load (schA_get l (j := t - 15) (by omega)))) rfl rfl (by kernel_rfl) ?_
      refine a_pu 4 rfl rfl rfl rfl (pu_move rfl rfl) rfl rfl (by kernel_rfl) ?_
      refine a_pu 5 rfl rfl rfl rfl (pu_subI rfl rfl rfl (by omega)) rfl rfl (by kernel_rfl) ?_
      refine a_pu 6 rfl rfl rfl rfl (pu_atA1 (t - 2) rfl rfl rfl (by omega) (by omega)) rfl rfl (by kernel_rfl) ?_
      refine a_pu 7 rfl rfl rfl rfl (pu_load 3 rfl rfl rfl (ws_load (schA_get l (j := t - 2) (by omega)))) rfl rfl (by kernel_rfl) ?_
      refine a_pu 8 rfl rfl rfl rfl (pu_assign rfl rfl) rfl rfl (by kernel_rfl) ?_
      refine a_pu 9 rfl rfl rfl rfl (pu_assign rfl rfl) rfl rfl (by kernel_rfl) ?_
      refine a_done (by kernel_rfl) ?_
      (repeat refine g_seq ?_)
      refine g_region ?_
      refine g_pu rfl rfl rfl (pu_move rfl rfl) ?_
      refine g_call [] rfl rfl rfl rfl rfl rfl (fun w' hm => RotN_b w' _ 7 (by omega) (by omega)) (fun _ _ => ?_)
      refine g_pu rfl rfl rfl (pu_move rfl rfl) ?_
      refine g_call [] rfl rfl rfl rfl rfl rfl (fun w' hm => RotN_b w' _ 18 (by omega) (by omega)) (fun _ _ => ?_)
      refine g_pu rfl rfl rfl (pu_xor32 rfl rfl rfl) ?_
      refine g_pu rfl rfl rfl (pu_move rfl rfl) ?_
      refine g_pu rfl rfl rfl (pu_shr32 rfl rfl rfl (by omega)) ?_
      refine g_pu rfl rfl rfl (pu_xor32 rfl rfl rfl) ?_
      refine g_pu rfl rfl rfl (pu_assign rfl rfl) ?_
      refine g_nil ?_
      (repeat refine g_seq ?_)
      refine g_region ?_
      refine g_pu rfl rfl rfl (pu_move rfl rfl) ?_
      refine g_call [] rfl rfl rfl rfl rfl rfl (fun w' hm => RotN_b w' _ 17 (by omega) (by omega)) (fun _ _ => ?_)
      refine g_pu rfl rfl rfl (pu_move rfl rfl) ?_
      refine g_call [] rfl rfl rfl rfl rfl rfl (fun w' hm => RotN_b w' _ 19 (by omega) (by omega)) (fun _ _ => ?_)
      refine g_pu rfl rfl rfl (pu_xor32 rfl rfl rfl) ?_
      refine g_pu rfl rfl rfl (pu_move rfl rfl) ?_
      refine g_pu rfl rfl rfl (pu_shr32 rfl rfl rfl (by omega)) ?_
      refine g_pu rfl rfl rfl (pu_xor32 rfl rfl rfl) ?_
      refine g_pu rfl rfl rfl (pu_assign rfl rfl) ?_
      refine g_nil ?_
      (repeat refine g_seq ?_)
      refine g_any (15, []) ?_
      refine a_pu 0 rfl rfl rfl rfl (pu_move rfl rfl) rfl rfl (by kernel_rfl) ?_
      refine a_pu 1 rfl rfl rfl rfl (pu_move rfl rfl) rfl rfl (by kernel_rfl) ?_
      refine a_pu 2 rfl rfl rfl rfl (pu_move rfl rfl) rfl rfl (by kernel_rfl) ?_
      refine a_pu 3 rfl rfl rfl rfl (pu_subI rfl rfl rfl (by omega)) rfl rfl (by kernel_rfl) ?_
      refine a_pu 4 rfl rfl rfl rfl (pu_atA1 (t - 7) rfl rfl rfl (by omega) (by omega)) rfl rfl (by kernel_rfl) ?_
      refine a_pu 5 rfl rfl rfl rfl (pu_load 3 rfl rfl rfl (ws_load (schA_get l (j := t - 7) (by omega)))) rfl rfl (by kernel_rfl) ?_
      refine a_pu 6 rfl rfl rfl rfl (pu_add32 rfl rfl rfl) rfl rfl (by kernel_rfl) ?_
      refine a_pu 7 rfl rfl rfl rfl (pu_move rfl rfl) rfl rfl (by kernel_rfl) ?_
      refine a_pu 8 rfl rfl rfl rfl (pu_add32 rfl rfl rfl) rfl rfl (by kernel_rfl) ?_
      refine a_pu 9 rfl rfl rfl rfl (pu_move rfl rfl) rfl rfl (by kernel_rfl) ?_
      refine a_pu 10 rfl rfl rfl rfl (pu_subI rfl rfl rfl (by omega)) rfl rfl (by kernel_rfl) ?_
      refine a_pu 11 rfl rfl rfl rfl (pu_atA1 (t - 16) rfl rfl rfl (by omega) (by omega)) rfl rfl (by kernel_rfl) ?_
      refine a_pu 12 rfl rfl rfl rfl (pu_load 3 rfl rfl rfl (ws_load (schA_get l (j := t - 16) (by omega)))) rfl rfl (by kernel_rfl) ?_
      refine a_pu 13 rfl rfl rfl rfl (pu_add32 rfl rfl rfl) rfl rfl (by kernel_rfl) ?_
      refine a_pu 14 rfl rfl rfl rfl (pu_atA1 t rfl rfl rfl rfl (by omega)) rfl rfl (by kernel_rfl) ?_
      refine a_tail [15] (by kernel_rfl) rfl rfl (by kernel_rfl) ?_
      refine g_store 3 (v := b32 (wt l (schedL l t) t)) rfl rfl rfl rfl (by rw [hwt]; rfl) rfl rfl (by rw [ws_length, schA_length _ (by omega)]; omega) ?_
      rw [ws_set, schA_set _ (by omega)]
      refine g_nil ?_
      refine g_blk ?_
      (repeat refine g_seq ?_)
      refine g_region ?_
      refine g_pu rfl rfl rfl (pu_move rfl rfl) ?_
      refine g_pu rfl rfl rfl (pu_addI rfl rfl rfl (by omega)) ?_
      refine g_pu rfl rfl rfl (pu_assign rfl rfl) ?_
      refine g_nil ?_
      exact g_round (t + 1) (by omega) (by omega) ⟨rfl, rfl, rfl, trivial⟩ ⟨rfl, rfl, trivial⟩
    · (repeat refine g_seq ?_)
      refine g_region ?_
      refine g_pu rfl rfl rfl (pu_move rfl rfl) ?_
      first | refine g_pu rfl rfl rfl (pu_lss_t rfl rfl rfl (by omega)) ?_ | refine g_pu rfl rfl rfl (pu_lss_f rfl rfl rfl (by omega)) ?_ | refine g_pu rfl rfl rfl (pu_lss rfl rfl rfl) ?_
      refine g_nil ?_
      (repeat refine g_seq ?_)
      refine g_cond_f rfl (g_exit rfl ?_)
      have e : t = 64 := by omega
      subst e
      rw [schA_end]
      (repeat refine g_seq ?_)
      refine g_region ?_
      refine g_pu rfl rfl rfl (pu_loadW 3 (L := ws (schedL l 64)) rfl rfl rfl (by rw [ws_length, schedL_length])) ?_
      refine g_storeL 2 (C := ws (schedL l 64)) rfl rfl rfl rfl rfl rfl (by rw [ws_length, schedL_length]) (by simp [ws]) (oneCell_ws _) ?_
      refine g_nil ?_
      exact g_retL 2 (L := ws (schedL l 64)) rfl (by rw [ws_length, schedL_length]) rfl rfl (fun w' hm => ⟨(), trivial, rfl, hm.grows [] trivial rfl⟩)
end Go.Sx

/-
  Compressing a block: of the program and of the reference. The state has 8 words, the block 64 bytes.
-/
namespace Go.Sx
open Go Go.Proofs

structure V8 where
  a : BitVec 32
  b : BitVec 32
  c : BitVec 32
  d : BitVec 32
  e : BitVec 32
  f : BitVec 32
  g : BitVec 32
  h : BitVec 32
def V8.l (v : V8) : List (BitVec 32) := [v.a, v.b, v.c, v.d, v.e, v.f, v.g, v.h]
def V8.of (s : List (BitVec 32)) : V8 := ⟨s.getD 0 0#32, s.getD 1 0#32, s.getD 2 0#32, s.getD 3 0#32, s.getD 4 0#32, s.getD 5 0#32, s.getD 6 0#32, s.getD 7 0#32⟩
theorem V8.of_l {s : List (BitVec 32)} (h : s.length = 8) : (V8.of s).l = s := by
  match s, h with
  | [a, b, c, d, e, f, g, h], _ => rfl
def bsg1 (e : BitVec 32) : BitVec 32 := rotL e 26 ^^^ rotL e 21 ^^^ rotL e 7
def bsg0 (a : BitVec 32) : BitVec 32 := rotL a 30 ^^^ rotL a 19 ^^^ rotL a 10
def rt1 (k w : BitVec 32) (v : V8) : BitVec 32 := v.h + bsg1 v.e + ((v.e &&& v.f) ^^^ (~~~ v.e &&& v.g)) + k + w
def rt2 (v : V8) : BitVec 32 := bsg0 v.a + ((v.a &&& v.b) ^^^ (v.a &&& v.c) ^^^ (v.b &&& v.c))
def rnd (k w : BitVec 32) (v : V8) : V8 := ⟨rt1 k w v + rt2 v, v.a, v.b, v.c, v.d + rt1 k w v, v.e, v.f, v.g⟩
def rndN (W : List (BitVec 32)) (v : V8) : Nat → V8
  | 0 => v
  | t + 1 => rnd (kT.getD t 0#32) (W.getD t 0#32) (rndN W v t)
def endV (s : List (BitVec 32)) (l : List (BitVec 8)) : V8 := rndN (schedL l 64) (V8.of s) 64
def cmp (s : List (BitVec 32)) (l : List (BitVec 8)) : List (BitVec 32) := List.zipWith (· + ·) s (endV s l).l
theorem cmp_length {s : List (BitVec 32)} (l : List (BitVec 8)) (h : s.length = 8) : (cmp s l).length = 8 := by simp [cmp, h, V8.l]
def mixL (full s : List (BitVec 32)) (i : Nat) : List (BitVec 32) := full.take i ++ s.drop i
theorem mixL_length {full s : List (BitVec 32)} {i : Nat} (h : full.length = s.length) : (mixL full s i).length = s.length := by simp [mixL]; omega
theorem mixL_get {full s : List (BitVec 32)} {i : Nat} (h : full.length = s.length) (hi : i < s.length) : (mixL full s i)[i]? = some (s.getD i 0#32) := by
  rw [mixL, List.getElem?_append_right (by simp; omega), List.length_take, List.getElem?_drop, show i + (i - min i full.length) = i by omega]
  exact getD_some hi
theorem mixL_set {full s : List (BitVec 32)} {i : Nat} {x : BitVec 32} (h : full.length = s.length) (hx : full[i]? = some x) : (mixL full s i).set i x = mixL full s (i + 1) := by
  have hi := (List.getElem?_eq_some_iff.1 hx).1
  unfold mixL
  rw [List.set_append_right _ _ (by simp; omega), List.length_take, show i - min i full.length = 0 by omega, List.drop_eq_getElem_cons (show i < s.length by omega), List.set_cons_zero, List.take_add_one, hx]
  simp
theorem cmp_get {s : List (BitVec 32)} {l : List (BitVec 8)} {i : Nat} (h : s.length = 8) (hi : i < 8) : (cmp s l)[i]? = some (s.getD i 0#32 + (endV s l).l.getD i 0#32) := by
  unfold cmp
  rw [List.getElem?_zipWith, getD_some (z := 0#32) (show i < s.length by omega), getD_some (z := 0#32) (show i < (endV s l).l.length by simp only [V8.l, List.length_cons, List.length_nil]; omega)]

theorem Compress_b (w : World) {p : Option Addr} (c : Nat) {s : List (BitVec 32)} {l : List (BitVec 8)} (ha : By w p 64 l) (hs : s.length = 8) : Spec Try.prog 114 #[.agg (ws s).toArray, .slice p 64 c] w (σ := Unit) (fun _ => True) (fun _ => .tuple #[.agg (ws (cmp s l)).toArray, .int .i64 0]) Nob (fun _ => []) := by
  refine enter Try.func114 rfl rfl (Mem.start w) ?_
  have hcl := cmp_length l hs
  have hcg := fun i (h : i < 8) => cmp_get (s := s) (l := l) (i := i) hs h
  have g : ∀ j, j < 8 → s[j]? = some (s.getD j 0#32) := fun j hj => getD_some (by omega)
  (repeat refine g_seq ?_)
  refine g_region ?_
  refine g_lo [2] rfl rfl rfl rfl (lo_box rfl rfl) (fun b2 hb2 => ?_)
  refine g_lo [4] rfl rfl rfl rfl (lo_alloc rfl) (fun b4 hb4 => ?_)
  refine g_pu rfl rfl rfl (pu_assign rfl rfl) ?_
  refine g_nil ?_
  (repeat refine g_seq ?_)
  refine g_region ?_
  refine g_pu rfl rfl rfl (pu_move rfl rfl) ?_
  first | refine g_pu rfl rfl rfl (pu_len rfl rfl) ?_ | refine g_pu rfl rfl rfl (pu_lenS rfl rfl) ?_
  first | refine g_pu rfl rfl rfl (pu_neq_t rfl rfl rfl (by omega)) ?_ | refine g_pu rfl rfl rfl (pu_neq_f rfl rfl rfl (by omega)) ?_ | refine g_pu rfl rfl rfl (pu_neq rfl rfl rfl) ?_
  refine g_nil ?_
  (repeat refine g_seq ?_)
  refine g_cond_f rfl (g_skip ?_)
  (repeat refine g_seq ?_)
  refine g_region ?_
  refine g_pu rfl rfl rfl (pu_move rfl rfl) ?_
  refine g_call [] rfl rfl rfl rfl rfl rfl (fun w' hm => schedule_b w' c (ha.m hm)) (fun _ _ => ?_)
  refine g_call [] rfl rfl rfl rfl rfl rfl (fun w' hm => Constants_b w') (fun _ _ => ?_)
  refine g_lo [6] rfl rfl rfl rfl (lo_alloc rfl) (fun b6 hb6 => ?_)
  refine g_lo [7] rfl rfl rfl rfl (lo_alloc rfl) (fun b7 hb7 => ?_)
  refine g_storeL 6 (C := ws (schedL l 64)) rfl rfl rfl rfl rfl rfl (by rw [ws_length, schedL_length]) (by simp) (oneCell_ws _) ?_
  refine g_storeL 7 (C := ws kT) rfl rfl rfl rfl rfl rfl (by rw [ws_length, kT_length]) (by simp) (oneCell_ws _) ?_
  refine g_nil ?_
  (repeat refine g_seq ?_)
  refine g_any (24, []) ?_
  refine a_pu 0 rfl rfl rfl rfl (pu_atA1 0 rfl rfl rfl rfl (by omega)) rfl rfl (by kernel_rfl) ?_
  refine a_pu 1 rfl rfl rfl rfl (pu_load 2 rfl rfl rfl (ws_load (g 0 (by omega)))) rfl rfl (by kernel_rfl) ?_
  refine a_pu 2 rfl rfl rfl rfl (pu_atA1 1 rfl rfl rfl rfl (by omega)) rfl rfl (by kernel_rfl) ?_
  refine a_pu 3 rfl rfl rfl rfl (pu_load 2 rfl rfl rfl (ws_load (g 1 (by omega)))) rfl rfl (by kernel_rfl) ?_
  refine a_pu 4 rfl rfl rfl rfl (pu_atA1 2 rfl rfl rfl rfl (by omega)) rfl rfl (by kernel_rfl) ?_
  refine a_pu 5 rfl rfl rfl rfl (pu_load 2 rfl rfl rfl (ws_load (g 2 (by omega)))) rfl rfl (by kernel_rfl) ?_
  refine a_pu 6 rfl rfl rfl rfl (pu_atA1 3 rfl rfl rfl rfl (by omega)) rfl rfl (by kernel_rfl) ?_
  refine a_pu 7 rfl rfl rfl rfl (pu_load 2 rfl rfl rfl (ws_load (g 3 (by omega)))) rfl rfl (by kernel_rfl) ?_
  refine a_pu 8 rfl rfl rfl rfl (pu_atA1 4 rfl rfl rfl rfl (by omega)) rfl rfl (by kernel_rfl) ?_
  refine a_pu 9 rfl rfl rfl rfl (pu_load 2 rfl rfl rfl (ws_load (g 4 (by omega)))) rfl rfl (by kernel_rfl) ?_
  refine a_pu 10 rfl rfl rfl rfl (pu_atA1 5 rfl rfl rfl rfl (by omega)) rfl rfl (by kernel_rfl) ?_
  refine a_pu 11 rfl rfl rfl rfl (pu_load 2 rfl rfl rfl (ws_load (g 5 (by omega)))) rfl rfl (by kernel_rfl) ?_
  refine a_pu 12 rfl rfl rfl rfl (pu_atA1 6 rfl rfl rfl rfl (by omega)) rfl rfl (by kernel_rfl) ?_
  refine a_pu 13 rfl rfl rfl rfl (pu_load 2 rfl rfl rfl (ws_load (g 6 (by omega)))) rfl rfl (by kernel_rfl) ?_
  refine a_pu 14 rfl rfl rfl rfl (pu_atA1 7 rfl rfl rfl rfl (by omega)) rfl rfl (by kernel_rfl) ?_
  refine a_pu 15 rfl rfl rfl rfl (pu_load 2 rfl rfl rfl (ws_load (g 7 (by omega)))) rfl rfl (by kernel_rfl) ?_
  refine a_pu 16 rfl rfl rfl rfl (pu_assign rfl rfl) rfl rfl (by kernel_rfl) ?_
  refine a_pu 17 rfl rfl rfl rfl (pu_assign rfl rfl) rfl rfl (by kernel_rfl) ?_
  refine a_pu 18 rfl rfl rfl rfl (pu_assign rfl rfl) rfl rfl (by kernel_rfl) ?_
  refine a_pu 19 rfl rfl rfl rfl (pu_assign rfl rfl) rfl rfl (by kernel_rfl) ?_
  refine a_pu 20 rfl rfl rfl rfl (pu_assign rfl rfl) rfl rfl (by kernel_rfl) ?_
  refine a_pu 21 rfl rfl rfl rfl (pu_assign rfl rfl) rfl rfl (by kernel_rfl) ?_
  refine a_pu 22 rfl rfl rfl rfl (pu_assign rfl rfl) rfl rfl (by kernel_rfl) ?_
  refine a_pu 23 rfl rfl rfl rfl (pu_assign rfl rfl) rfl rfl (by kernel_rfl) ?_
  refine a_done (by kernel_rfl) ?_
  (repeat refine g_seq ?_)
  refine g_region ?_
  refine g_pu rfl rfl rfl (pu_move rfl rfl) ?_
  refine g_nil ?_
  unfold endV at hcg
  generalize hW : schedL l 64 = W at hcg
  have hWl : W.length = 64 := by rw [← hW, schedL_length]
  generalize cmp s l = full at hcl hcg
  (repeat refine g_seq ?_)
  refine g_block (g_loop2 (fun (t : Nat) (v : V8) => [(2, .pointer (some ⟨b2, 0, none⟩)), (4, .pointer (some ⟨b4, 0, none⟩)), (6, .pointer (some ⟨b6, 0, none⟩)), (7, .pointer (some ⟨b7, 0, none⟩)), (8, b32 v.a), (9, b32 v.b), (10, b32 v.c), (11, b32 v.d), (12, b32 v.e), (13, b32 v.f), (14, b32 v.g), (15, b32 v.h), (46, .int .i64 (t : Int))]) (fun _ _ => [(2, .pt b2 (.cells (ws s).toArray 103 (0, 0))), (4, .pt b4 (.cells (ws (List.replicate 8 0#32)).toArray 103 (0, 0))), (6, .pt b6 (.cells (ws W).toArray 153 (0, 0))), (7, .pt b7 (.cells (ws kT).toArray 153 (0, 0)))]) (fun t v => t ≤ 64 ∧ v = rndN W (V8.of s) t) (fun t _ => 64 - t) 0 (V8.of s) ⟨rfl, rfl, rfl, rfl, rfl, rfl, rfl, rfl, rfl, rfl, rfl, rfl, rfl, trivial⟩ ⟨rfl, rfl, rfl, rfl, trivial⟩ ⟨by omega, rfl⟩ ?_)
  intro t v ⟨ht, hv⟩
  by_cases hlt : t < 64
  · (repeat refine g_seq ?_)
    refine g_region ?_
    first | refine g_pu rfl rfl rfl (pu_lss_t rfl rfl rfl (by omega)) ?_ | refine g_pu rfl rfl rfl (pu_lss_f rfl rfl rfl (by omega)) ?_ | refine g_pu rfl rfl rfl (pu_lss rfl rfl rfl) ?_
    refine g_nil ?_
    (repeat refine g_seq ?_)
    refine g_cond_t rfl (g_skip ?_)
    have hk : kT[t]? = some (kT.getD t 0#32) := getD_some (by rw [kT_length]; omega)
    have hw : W[t]? = some (W.getD t 0#32) := getD_some (by omega)
    have hst : rnd (kT.getD t 0#32) (W.getD t 0#32) v = rndN W (V8.of s) (t + 1) := by rw [hv]; rfl
    generalize kT.getD t 0#32 = kt at hk hst
    generalize W.getD t 0#32 = wt at hw hst
    (repeat refine g_seq ?_); refine g_block ?_
    (repeat refine g_seq ?_)
    refine g_region ?_
    refine g_pu rfl rfl rfl (pu_move rfl rfl) ?_
    refine g_pu rfl rfl rfl (pu_assign rfl rfl) ?_
    refine g_nil ?_
    (repeat refine g_seq ?_)
    refine g_region ?_
    refine g_pu rfl rfl rfl (pu_move rfl rfl) ?_
    refine g_call [] rfl rfl rfl rfl rfl rfl (fun w' hm => RotN_b w' _ 6 (by omega) (by omega)) (fun _ _ => ?_)
    refine g_pu rfl rfl rfl (pu_move rfl rfl) ?_
    refine g_call [] rfl rfl rfl rfl rfl rfl (fun w' hm => RotN_b w' _ 11 (by omega) (by omega)) (fun _ _ => ?_)
    refine g_pu rfl rfl rfl (pu_xor32 rfl rfl rfl) ?_
    refine g_pu rfl rfl rfl (pu_move rfl rfl) ?_
    refine g_call [] rfl rfl rfl rfl rfl rfl (fun w' hm => RotN_b w' _ 25 (by omega) (by omega)) (fun _ _ => ?_)
    refine g_pu rfl rfl rfl (pu_xor32 rfl rfl rfl) ?_
    refine g_pu rfl rfl rfl (pu_assign rfl rfl) ?_
    refine g_nil ?_
    (repeat refine g_seq ?_)
    refine g_any (21, []) ?_
    refine a_pu 0 rfl rfl rfl rfl (pu_move rfl rfl) rfl rfl (by kernel_rfl) ?_
    refine a_pu 1 rfl rfl rfl rfl (pu_move rfl rfl) rfl rfl (by kernel_rfl) ?_
    refine a_pu 2 rfl rfl rfl rfl (pu_add32 rfl rfl rfl) rfl rfl (by kernel_rfl) ?_
    refine a_pu 3 rfl rfl rfl rfl (pu_move rfl rfl) rfl rfl (by kernel_rfl) ?_
    refine a_pu 4 rfl rfl rfl rfl (pu_move rfl rfl) rfl rfl (by kernel_rfl) ?_
    refine a_pu 5 rfl rfl rfl rfl (pu_and32 rfl rfl rfl) rfl rfl (by kernel_rfl) ?_
    refine a_pu 6 rfl rfl rfl rfl (pu_move rfl rfl) rfl rfl (by kernel_rfl) ?_
    refine a_pu 7 rfl rfl rfl rfl (pu_com32 rfl rfl) rfl rfl (by kernel_rfl) ?_
    refine a_pu 8 rfl rfl rfl rfl (pu_move rfl rfl) rfl rfl (by kernel_rfl) ?_
    refine a_pu 9 rfl rfl rfl rfl (pu_and32 rfl rfl rfl) rfl rfl (by kernel_rfl) ?_
    refine a_pu 10 rfl rfl rfl rfl (pu_xor32 rfl rfl rfl) rfl rfl (by kernel_rfl) ?_
    refine a_pu 11 rfl rfl rfl rfl (pu_add32 rfl rfl rfl) rfl rfl (by kernel_rfl) ?_
    refine a_pu 12 rfl rfl rfl rfl (pu_move rfl rfl) rfl rfl (by kernel_rfl) ?_
    refine a_pu 13 rfl rfl rfl rfl (pu_atA1 t rfl rfl rfl rfl (by omega)) rfl rfl (by kernel_rfl) ?_
    refine a_pu 14 rfl rfl rfl rfl (pu_load 7 rfl rfl rfl (ws_load hk)) rfl rfl (by kernel_rfl) ?_
    refine a_pu 15 rfl rfl rfl rfl (pu_add32 rfl rfl rfl) rfl rfl (by kernel_rfl) ?_
    refine a_pu 16 rfl rfl rfl rfl (pu_move rfl rfl) rfl rfl (by kernel_rfl) ?_
    refine a_pu 17 rfl rfl rfl rfl (pu_atA1 t rfl rfl rfl rfl (by omega)) rfl rfl (by kernel_rfl) ?_
    refine a_pu 18 rfl rfl rfl rfl (pu_load 6 rfl rfl rfl (ws_load hw)) rfl rfl (by kernel_rfl) ?_
    refine a_pu 19 rfl rfl rfl rfl (pu_add32 rfl rfl rfl) rfl rfl (by kernel_rfl) ?_
    refine a_pu 20 rfl rfl rfl rfl (pu_assign rfl rfl) rfl rfl (by kernel_rfl) ?_
    refine a_done (by kernel_rfl) ?_
    (repeat refine g_seq ?_)
    refine g_region ?_
    refine g_pu rfl rfl rfl (pu_move rfl rfl) ?_
    refine g_call [] rfl rfl rfl rfl rfl rfl (fun w' hm => RotN_b w' _ 2 (by omega) (by omega)) (fun _ _ => ?_)
    refine g_pu rfl rfl rfl (pu_move rfl rfl) ?_
    refine g_call [] rfl rfl rfl rfl rfl rfl (fun w' hm => RotN_b w' _ 13 (by omega) (by omega)) (fun _ _ => ?_)
    refine g_pu rfl rfl rfl (pu_xor32 rfl rfl rfl) ?_
    refine g_pu rfl rfl rfl (pu_move rfl rfl) ?_
    refine g_call [] rfl rfl rfl rfl rfl rfl (fun w' hm => RotN_b w' _ 22 (by omega) (by omega)) (fun _ _ => ?_)
    refine g_pu rfl rfl rfl (pu_xor32 rfl rfl rfl) ?_
    refine g_pu rfl rfl rfl (pu_assign rfl rfl) ?_
    refine g_nil ?_
    (repeat refine g_seq ?_)
    refine g_region ?_
    refine g_pu rfl rfl rfl (pu_move rfl rfl) ?_
    refine g_pu rfl rfl rfl (pu_move rfl rfl) ?_
    refine g_pu rfl rfl rfl (pu_move rfl rfl) ?_
    refine g_pu rfl rfl rfl (pu_and32 rfl rfl rfl) ?_
    refine g_pu rfl rfl rfl (pu_move rfl rfl) ?_
    refine g_pu rfl rfl rfl (pu_move rfl rfl) ?_
    refine g_pu rfl rfl rfl (pu_and32 rfl rfl rfl) ?_
    refine g_pu rfl rfl rfl (pu_xor32 rfl rfl rfl) ?_
    refine g_pu rfl rfl rfl (pu_move rfl rfl) ?_
    refine g_pu rfl rfl rfl (pu_move rfl rfl) ?_
    refine g_pu rfl rfl rfl (pu_and32 rfl rfl rfl) ?_
    refine g_pu rfl rfl rfl (pu_xor32 rfl rfl rfl) ?_
    refine g_pu rfl rfl rfl (pu_add32 rfl rfl rfl) ?_
    refine g_pu rfl rfl rfl (pu_assign rfl rfl) ?_
    refine g_nil ?_
    (repeat refine g_seq ?_)
    refine g_region ?_
    refine g_pu rfl rfl rfl (pu_move rfl rfl) ?_
    refine g_pu rfl rfl rfl (pu_move rfl rfl) ?_
    refine g_pu rfl rfl rfl (pu_move rfl rfl) ?_
    refine g_pu rfl rfl rfl (pu_move rfl rfl) ?_
    refine g_pu rfl rfl rfl (pu_move rfl rfl) ?_
    refine g_pu rfl rfl rfl (pu_add32 rfl rfl rfl) ?_
    refine g_pu rfl rfl rfl (pu_move rfl rfl) ?_
    refine g_pu rfl rfl rfl (pu_move rfl rfl) ?_
    refine g_pu rfl rfl rfl (pu_move rfl rfl) ?_
    refine g_pu rfl rfl rfl (pu_move rfl rfl) ?_
    refine g_pu rfl rfl rfl (pu_move rfl rfl) ?_
    refine g_pu rfl rfl rfl (pu_add32 rfl rfl rfl) ?_
    refine g_pu rfl rfl rfl (pu_assign rfl rfl) ?_
    refine g_pu rfl rfl rfl (pu_assign rfl rfl) ?_
    refine g_pu rfl rfl rfl (pu_assign rfl rfl) ?_
    refine g_pu rfl rfl rfl (pu_assign rfl rfl) ?_
    refine g_pu rfl rfl rfl (pu_assign rfl rfl) ?_
    refine g_pu rfl rfl rfl (pu_assign rfl rfl) ?_
    refine g_pu rfl rfl rfl (pu_assign rfl rfl) ?_
    refine g_pu rfl rfl rfl (pu_assign rfl rfl) ?_
    refine g_nil ?_
    refine g_blk ?_
    (repeat refine g_seq ?_)
    refine g_region ?_
    refine g_pu rfl rfl rfl (pu_addI rfl rfl rfl (by omega)) ?_
    refine g_pu rfl rfl rfl (pu_move rfl rfl) ?_
    refine g_nil ?_
    exact g_round2 (t + 1) (rnd kt wt v) ⟨by omega, hst⟩ (by omega) ⟨rfl, rfl, rfl, rfl, rfl, rfl, rfl, rfl, rfl, rfl, rfl, rfl, rfl, trivial⟩ ⟨rfl, rfl, rfl, rfl, trivial⟩
  · (repeat refine g_seq ?_)
    refine g_region ?_
    first | refine g_pu rfl rfl rfl (pu_lss_t rfl rfl rfl (by omega)) ?_ | refine g_pu rfl rfl rfl (pu_lss_f rfl rfl rfl (by omega)) ?_ | refine g_pu rfl rfl rfl (pu_lss rfl rfl rfl) ?_
    refine g_nil ?_
    (repeat refine g_seq ?_)
    refine g_cond_f rfl (g_exit rfl ?_)
    have e : t = 64 := by omega
    subst e
    rw [← hv] at hcg
    (repeat refine g_seq ?_)
    refine g_region ?_
    refine g_pu rfl rfl rfl (pu_move rfl rfl) ?_
    refine g_pu rfl rfl rfl (pu_move rfl rfl) ?_
    refine g_pu rfl rfl rfl (pu_move rfl rfl) ?_
    refine g_pu rfl rfl rfl (pu_move rfl rfl) ?_
    refine g_pu rfl rfl rfl (pu_move rfl rfl) ?_
    refine g_pu rfl rfl rfl (pu_move rfl rfl) ?_
    refine g_pu rfl rfl rfl (pu_move rfl rfl) ?_
    refine g_pu rfl rfl rfl (pu_move rfl rfl) ?_
    first | refine g_pu rfl rfl rfl (pu_buildA rfl rfl rfl rfl rfl) ?_ | refine g_pu rfl rfl rfl (pu_buildA' rfl rfl rfl) ?_
    refine g_pu rfl rfl rfl (pu_move rfl rfl) ?_
    refine g_nil ?_
    (repeat refine g_seq ?_)
    refine g_block (g_loop (σ := Nat) (fun i => [(2, .pointer (some ⟨b2, 0, none⟩)), (4, .pointer (some ⟨b4, 0, none⟩)), (119, .agg (ws v.l).toArray), (120, .int .i64 (i : Int))]) (fun i => [(2, .pt b2 (.cells (ws (mixL full s i)).toArray 103 (0, 0))), (4, .pt b4 (.cells (ws (List.replicate 8 0#32)).toArray 103 (0, 0)))]) (fun i => i ≤ 8) (fun i => 8 - i) 0 ⟨rfl, rfl, rfl, rfl, trivial⟩ ⟨rfl, rfl, trivial⟩ (by omega) ?_)
    intro i hi
    by_cases hlt : i < 8
    · (repeat refine g_seq ?_)
      refine g_region ?_
      first | refine g_pu rfl rfl rfl (pu_lss_t rfl rfl rfl (by omega)) ?_ | refine g_pu rfl rfl rfl (pu_lss_f rfl rfl rfl (by omega)) ?_ | refine g_pu rfl rfl rfl (pu_lss rfl rfl rfl) ?_
      refine g_nil ?_
      (repeat refine g_seq ?_)
      refine g_cond_t rfl (g_skip ?_)
      have hm1 := mixL_get (full := full) (s := s) (i := i) (by omega) (by omega)
      have hm2 := mixL_set (full := full) (s := s) (i := i) (by omega) (hcg i hlt)
      have hvl : v.l[i]? = some (v.l.getD i 0#32) := getD_some (by simp only [V8.l, List.length_cons, List.length_nil]; omega)
      (repeat refine g_seq ?_); refine g_block ?_
      (repeat refine g_seq ?_)
      refine g_region ?_
      refine g_pu rfl rfl rfl (pu_move rfl rfl) ?_
      refine g_pu rfl rfl rfl (pu_indexA i rfl rfl rfl rfl hlt (by rw [List.getElem?_toArray]; exact ws_get hvl)) ?_
      refine g_pu rfl rfl rfl (pu_assign rfl rfl) ?_
      refine g_pu rfl rfl rfl (pu_assign rfl rfl) ?_
      refine g_nil ?_
      (repeat refine g_seq ?_)
      refine g_region ?_
      refine g_pu rfl rfl rfl (pu_move rfl rfl) ?_
      refine g_pu rfl rfl rfl (pu_atA1 i rfl rfl rfl rfl hlt) ?_
      refine g_pu rfl rfl rfl (pu_load 2 rfl rfl rfl (ws_load hm1)) ?_
      refine g_pu rfl rfl rfl (pu_move rfl rfl) ?_
      refine g_pu rfl rfl rfl (pu_add32 rfl rfl rfl) ?_
      refine g_pu rfl rfl rfl (pu_atA1 i rfl rfl rfl rfl hlt) ?_
      refine g_store 2 (v := b32 (s.getD i 0#32 + v.l.getD i 0#32)) rfl rfl rfl rfl rfl rfl rfl (by rw [ws_length, mixL_length (by omega)]; omega) ?_
      rw [ws_set, hm2]
      refine g_nil ?_
      refine g_blk ?_
      (repeat refine g_seq ?_)
      refine g_region ?_
      refine g_pu rfl rfl rfl (pu_addI rfl rfl rfl (by omega)) ?_
      refine g_pu rfl rfl rfl (pu_move rfl rfl) ?_
      refine g_nil ?_
      exact g_round (i + 1) (by omega) (by omega) ⟨rfl, rfl, rfl, rfl, trivial⟩ ⟨rfl, rfl, trivial⟩
    · (repeat refine g_seq ?_)
      refine g_region ?_
      first | refine g_pu rfl rfl rfl (pu_lss_t rfl rfl rfl (by omega)) ?_ | refine g_pu rfl rfl rfl (pu_lss_f rfl rfl rfl (by omega)) ?_ | refine g_pu rfl rfl rfl (pu_lss rfl rfl rfl) ?_
      refine g_nil ?_
      (repeat refine g_seq ?_)
      refine g_cond_f rfl (g_exit rfl ?_)
      have e : i = 8 := by omega
      subst e
      have hf : mixL full s 8 = full := by
        unfold mixL
        rw [List.take_of_length_le (by omega), List.drop_eq_nil_of_le (by omega), List.append_nil]
      rw [hf]
      (repeat refine g_seq ?_)
      refine g_region ?_
      refine g_pu rfl rfl rfl (pu_loadW 2 (L := ws full) rfl rfl rfl (by rw [ws_length, hcl])) ?_
      refine g_storeL 4 (C := ws full) rfl rfl rfl rfl rfl rfl (by rw [ws_length, hcl]) (by simp [ws]) (oneCell_ws _) ?_
      refine g_pu rfl rfl rfl (pu_assign rfl rfl) ?_
      refine g_nil ?_
      exact g_retLT 4 (L := ws full) rfl (by rw [ws_length, hcl]) rfl rfl rfl (fun w' hm => ⟨(), trivial, rfl, hm.grows [] trivial rfl⟩)
end Go.Sx

/-
  Compressing a block, of the reference. The state has 8 words, the block 64 bytes.
-/
namespace Go.Sx
open Go Go.Proofs

theorem schedL_pre (b : List (BitVec 8)) {j n : Nat} (h : j < n) : ∀ m, (schedL b (n + m)).getD j 0#32 = (schedL b n).getD j 0#32
  | 0 => rfl
  | m + 1 => by
    rw [← schedL_pre b h m]
    show (schedL b ((n + m) + 1)).getD j 0#32 = _
    rw [schedL]
    simp only [List.getD]
    rw [List.getElem?_append_left (by rw [schedL_length]; omega)]
def accH (l : List (BitVec 8)) (t : Nat) : Nat → BitVec 32
  | 0 => 0#32
  | i + 1 => accH l t i * 256#32 + byt l (4 * t + i)
theorem mul256_add (x : BitVec 32) (y : BitVec 8) : x * 256#32 + y.setWidth 32 = x <<< 8 ||| y.setWidth 32 := by
  have h1 : x * 256#32 = x <<< 8 := by
    apply BitVec.eq_of_toNat_eq
    rw [BitVec.toNat_mul, BitVec.toNat_shiftLeft, Nat.shiftLeft_eq]
    rfl
  rw [h1]
  apply BitVec.add_eq_or_of_and_eq_zero
  apply BitVec.eq_of_getLsbD_eq
  intro i hi
  simp only [BitVec.getLsbD_and, BitVec.getLsbD_shiftLeft, BitVec.getLsbD_setWidth, BitVec.getLsbD_zero]
  by_cases h : i < 8
  · simp [h]
  · simp [BitVec.getLsbD_of_ge y i (by omega)]
theorem accH_end (l : List (BitVec 8)) (t : Nat) : accH l t 4 = be4 l t := by
  have hz : (0#32 : BitVec 32) <<< 8 = 0#32 := BitVec.zero_shiftLeft 8
  show (((0#32 * 256#32 + byt l (4 * t + 0)) * 256#32 + byt l (4 * t + 1)) * 256#32 + byt l (4 * t + 2)) * 256#32 + byt l (4 * t + 3) = _
  unfold be4 byt
  rw [mul256_add, mul256_add, mul256_add, mul256_add, hz, BitVec.zero_or, word4_horner, Nat.add_zero]
  generalize BitVec.setWidth 32 (l.getD (4 * t) 0#8) <<< 24 = a
  generalize BitVec.setWidth 32 (l.getD (4 * t + 1) 0#8) <<< 16 = b
  generalize BitVec.setWidth 32 (l.getD (4 * t + 2) 0#8) <<< 8 = c
  generalize BitVec.setWidth 32 (l.getD (4 * t + 3) 0#8) = d
  ac_rfl
theorem schA_set0 (b : List (BitVec 8)) {n : Nat} (h : n < 64) : (schA b n).set n 0#32 = schA b n := by
  rw [schA, List.set_append_right _ _ (by rw [schedL_length]; exact Nat.le_refl _), schedL_length, Nat.sub_self]
  congr 1
  rw [show 64 - n = (64 - (n + 1)) + 1 by omega, List.replicate_succ]
  rfl

/-- All places above i have their lower neighbour's word. -/
def shV (l : List (BitVec 32)) (i : Nat) : List (BitVec 32) := l.take (i + 1) ++ (l.drop i).take (7 - i)
theorem shV_set {a b c d e f g h : BitVec 32} {i : Nat} (hi : i < 7) : ∃ x, (shV [a, b, c, d, e, f, g, h] (i + 1))[i]? = some x ∧ (shV [a, b, c, d, e, f, g, h] (i + 1)).set (i + 1) x = shV [a, b, c, d, e, f, g, h] i ∧ (shV [a, b, c, d, e, f, g, h] (i + 1)).length = 8 := by
  match i, hi with
  | 0, _ => exact ⟨_, rfl, rfl, rfl⟩
  | 1, _ => exact ⟨_, rfl, rfl, rfl⟩
  | 2, _ => exact ⟨_, rfl, rfl, rfl⟩
  | 3, _ => exact ⟨_, rfl, rfl, rfl⟩
  | 4, _ => exact ⟨_, rfl, rfl, rfl⟩
  | 5, _ => exact ⟨_, rfl, rfl, rfl⟩
  | 6, _ => exact ⟨_, rfl, rfl, rfl⟩

theorem RCompress_b (w : World) {p : Option Addr} (c : Nat) {s : List (BitVec 32)} {l : List (BitVec 8)} (ha : By w p 64 l) (hs : s.length = 8) : Spec Try.prog 74 #[.agg (ws s).toArray, .slice p 64 c] w (σ := Unit) (fun _ => True) (fun _ => .agg (ws (cmp s l)).toArray) Nob (fun _ => []) := by
  refine enter Try.func74 rfl rfl (Mem.start w) ?_
  have hl := ha.len
  obtain ⟨pb, po, hp, _⟩ := ha.rd.place (by rw [bs_length]; omega)
  subst hp
  have hcl := cmp_length l hs
  have hcg := fun i (h : i < 8) => cmp_get (s := s) (l := l) (i := i) hs h
  have hof := V8.of_l hs
  (repeat refine g_seq ?_)
  refine g_region ?_
  refine g_lo [2] rfl rfl rfl rfl (lo_box rfl rfl) (fun b2 hb2 => ?_)
  refine g_lo [4] rfl rfl rfl rfl (lo_alloc rfl) (fun b4 hb4 => ?_)
  refine g_nil ?_
  (repeat refine g_seq ?_)
  refine g_region ?_
  refine g_lo [5] rfl rfl rfl rfl (lo_alloc rfl) (fun b5 hb5 => ?_)
  refine g_nil ?_
  (repeat refine g_seq ?_)
  refine g_region ?_
  refine g_call [] rfl rfl rfl rfl rfl rfl (fun w' hm => Table_b w') (fun _ _ => ?_)
  refine g_lo [6] rfl rfl rfl rfl (lo_alloc rfl) (fun b6 hb6 => ?_)
  refine g_storeL 6 (C := ws kT) rfl rfl rfl rfl rfl rfl (by rw [ws_length, kT_length]) (by simp) (oneCell_ws _) ?_
  refine g_nil ?_
  (repeat refine g_seq ?_)
  refine g_region ?_
  refine g_pu rfl rfl rfl (pu_loadW 2 (L := ws s) rfl rfl rfl (by rw [ws_length, hs])) ?_
  refine g_lo [7] rfl rfl rfl rfl (lo_alloc rfl) (fun b7 hb7 => ?_)
  refine g_storeL 7 (C := ws s) rfl rfl rfl rfl rfl rfl (by rw [ws_length, hs]) (by simp) (oneCell_ws _) ?_
  refine g_nil ?_
  (repeat refine g_seq ?_)
  refine g_region ?_
  refine g_pu rfl rfl rfl (pu_assign rfl rfl) ?_
  refine g_nil ?_
  unfold endV at hcg
  generalize cmp s l = full at hcl hcg
  (repeat refine g_seq ?_)
  refine g_block (g_loop2 (fun (t : Nat) (v : V8) => [(1, .slice (some ⟨pb, po, none⟩) 64 c), (2, .pointer (some ⟨b2, 0, none⟩)), (4, .pointer (some ⟨b4, 0, none⟩)), (5, .pointer (some ⟨b5, 0, none⟩)), (6, .pointer (some ⟨b6, 0, none⟩)), (7, .pointer (some ⟨b7, 0, none⟩)), (8, .int .i64 (t : Int))]) (fun t v => [(2, .pt b2 (.cells (ws s).toArray 103 (0, 0))), (4, .pt b4 (.cells (ws (List.replicate 8 0#32)).toArray 103 (0, 0))), (5, .pt b5 (.cells (ws (schA l t)).toArray 153 (0, 0))), (6, .pt b6 (.cells (ws kT).toArray 153 (0, 0))), (7, .pt b7 (.cells (ws v.l).toArray 103 (0, 0)))]) (fun t v => t ≤ 64 ∧ v = rndN (schedL l 64) (V8.of s) t) (fun t _ => 64 - t) 0 (V8.of s) ⟨rfl, rfl, rfl, rfl, rfl, rfl, rfl, trivial⟩ ⟨rfl, rfl, rfl, rfl, by rw [hof]; rfl, trivial⟩ ⟨by omega, rfl⟩ ?_)
  intro t v ⟨ht, hv⟩
  by_cases hlt : t < 64
  · (repeat refine g_seq ?_)
    refine g_region ?_
    refine g_pu rfl rfl rfl (pu_move rfl rfl) ?_
    first | refine g_pu rfl rfl rfl (pu_lss_t rfl rfl rfl (by omega)) ?_ | refine g_pu rfl rfl rfl (pu_lss_f rfl rfl rfl (by omega)) ?_ | refine g_pu rfl rfl rfl (pu_lss rfl rfl rfl) ?_
    refine g_nil ?_
    (repeat refine g_seq ?_)
    refine g_cond_t rfl (g_skip ?_)
    have hk : kT[t]? = some (kT.getD t 0#32) := getD_some (by rw [kT_length]; omega)
    have hw := schA_get l (n := t + 1) (j := t) (by omega)
    have hpre := schedL_pre l (j := t) (n := t + 1) (by omega) (64 - (t + 1))
    rw [show t + 1 + (64 - (t + 1)) = 64 by omega] at hpre
    have hst : rnd (kT.getD t 0#32) ((schedL l 64).getD t 0#32) v = rndN (schedL l 64) (V8.of s) (t + 1) := by rw [hv]; rfl
    rw [hpre] at hst
    generalize kT.getD t 0#32 = kt at hk hst
    generalize (schedL l (t + 1)).getD t 0#32 = wd at hw hst
    clear hpre hv
    obtain ⟨a, b, cc, d, e, f, g, h⟩ := v
    (repeat refine g_seq ?_); refine g_block ?_
    (repeat refine g_seq ?_)
    refine g_region ?_
    refine g_pu rfl rfl rfl (pu_move rfl rfl) ?_
    refine g_pu rfl rfl rfl (pu_lss rfl rfl rfl) ?_
    refine g_nil ?_
    refine g_join (σ := Unit) (fun _ => [(1, .slice (some ⟨pb, po, none⟩) 64 c), (2, .pointer (some ⟨b2, 0, none⟩)), (4, .pointer (some ⟨b4, 0, none⟩)), (5, .pointer (some ⟨b5, 0, none⟩)), (6, .pointer (some ⟨b6, 0, none⟩)), (7, .pointer (some ⟨b7, 0, none⟩)), (8, .int .i64 (t : Int))]) (fun _ => [(2, .pt b2 (.cells (ws s).toArray 103 (0, 0))), (4, .pt b4 (.cells (ws (List.replicate 8 0#32)).toArray 103 (0, 0))), (5, .pt b5 (.cells (ws (schA l (t + 1))).toArray 153 (0, 0))), (6, .pt b6 (.cells (ws kT).toArray 153 (0, 0))), (7, .pt b7 (.cells (ws (V8.l ⟨a, b, cc, d, e, f, g, h⟩)).toArray 103 (0, 0)))]) (fun _ => True) ?_ (fun _ _ => ?_)
    · refine g_if rfl (fun h16 => ?_) (fun h16 => ?_)
      · have h16 : t < 16 := by omega
        have hwt : wt l (schedL l t) t = be4 l t := by simp [wt, h16]
        (repeat refine g_seq ?_)
        refine g_region ?_
        refine g_pu rfl rfl rfl (pu_assign rfl rfl) ?_
        refine g_nil ?_
        (repeat refine g_seq ?_)
        refine g_block (g_loop (σ := Nat) (fun i => [(1, .slice (some ⟨pb, po, none⟩) 64 c), (2, .pointer (some ⟨b2, 0, none⟩)), (4, .pointer (some ⟨b4, 0, none⟩)), (5, .pointer (some ⟨b5, 0, none⟩)), (6, .pointer (some ⟨b6, 0, none⟩)), (7, .pointer (some ⟨b7, 0, none⟩)), (8, .int .i64 (t : Int)), (9, .int .i64 (i : Int))]) (fun i => [(2, .pt b2 (.cells (ws s).toArray 103 (0, 0))), (4, .pt b4 (.cells (ws (List.replicate 8 0#32)).toArray 103 (0, 0))), (5, .pt b5 (.cells (ws ((schA l t).set t (accH l t i))).toArray 153 (0, 0))), (6, .pt b6 (.cells (ws kT).toArray 153 (0, 0))), (7, .pt b7 (.cells (ws (V8.l ⟨a, b, cc, d, e, f, g, h⟩)).toArray 103 (0, 0)))]) (fun i => i ≤ 4) (fun i => 4 - i) 0 ⟨rfl, rfl, rfl, rfl, rfl, rfl, rfl, rfl, trivial⟩ ⟨rfl, rfl, by rw [show accH l t 0 = 0#32 from rfl, schA_set0 l (by omega)]; rfl, rfl, rfl, trivial⟩ (by omega) ?_)
        intro i hi
        by_cases hi4 : i < 4
        · have hg : ((schA l t).set t (accH l t i))[t]? = some (accH l t i) := by
            rw [List.getElem?_set_self (by rw [schA_length _ (by omega)]; omega)]
          (repeat refine g_seq ?_)
          refine g_region ?_
          refine g_pu rfl rfl rfl (pu_move rfl rfl) ?_
          first | refine g_pu rfl rfl rfl (pu_lss_t rfl rfl rfl (by omega)) ?_ | refine g_pu rfl rfl rfl (pu_lss_f rfl rfl rfl (by omega)) ?_ | refine g_pu rfl rfl rfl (pu_lss rfl rfl rfl) ?_
          refine g_nil ?_
          (repeat refine g_seq ?_)
          refine g_cond_t rfl (g_skip ?_)
          (repeat refine g_seq ?_); refine g_block ?_
          (repeat refine g_seq ?_)
          refine g_any (15, []) ?_
          refine a_pu 0 rfl rfl rfl rfl (pu_move rfl rfl) rfl rfl (by kernel_rfl) ?_
          refine a_pu 1 rfl rfl rfl rfl (pu_move rfl rfl) rfl rfl (by kernel_rfl) ?_
          refine a_pu 2 rfl rfl rfl rfl (pu_atA1 t rfl rfl rfl rfl (by omega)) rfl rfl (by kernel_rfl) ?_
          refine a_pu 3 rfl rfl rfl rfl (pu_load 5 rfl rfl rfl (ws_load hg)) rfl rfl (by kernel_rfl) ?_
          refine a_pu 4 rfl rfl rfl rfl (pu_mul32 (b := 256#32) rfl rfl rfl) rfl rfl (by kernel_rfl) ?_
          refine a_pu 5 rfl rfl rfl rfl (pu_move rfl rfl) rfl rfl (by kernel_rfl) ?_
          refine a_pu 6 rfl rfl rfl rfl (pu_move rfl rfl) rfl rfl (by kernel_rfl) ?_
          refine a_pu 7 rfl rfl rfl rfl (pu_mulI rfl rfl rfl (by omega)) rfl rfl (by kernel_rfl) ?_
          refine a_pu 8 rfl rfl rfl rfl (pu_move rfl rfl) rfl rfl (by kernel_rfl) ?_
          refine a_pu 9 rfl rfl rfl rfl (pu_addI rfl rfl rfl (by omega)) rfl rfl (by kernel_rfl) ?_
          refine a_pu 10 rfl rfl rfl rfl (pu_at1 (4 * t + i) rfl rfl rfl (by omega) (by omega)) rfl rfl (by kernel_rfl) ?_
          refine a_pu 11 rfl rfl rfl rfl (pu_rdB (j := 4 * t + i) (fun w' hm => ha.m hm) rfl rfl (byt_get (by omega))) rfl rfl (by kernel_rfl) ?_
          refine a_pu 12 rfl rfl rfl rfl (pu_conv8_32 rfl rfl) rfl rfl (by kernel_rfl) ?_
          refine a_pu 13 rfl rfl rfl rfl (pu_add32 rfl rfl rfl) rfl rfl (by kernel_rfl) ?_
          refine a_pu 14 rfl rfl rfl rfl (pu_atA1 t rfl rfl rfl rfl (by omega)) rfl rfl (by kernel_rfl) ?_
          refine a_tail [15] (by kernel_rfl) rfl rfl (by kernel_rfl) ?_
          refine g_store 5 (v := b32 (accH l t (i + 1))) rfl rfl rfl rfl rfl rfl rfl (by rw [ws_length, List.length_set, schA_length _ (by omega)]; omega) ?_
          rw [ws_set, List.set_set]
          refine g_nil ?_
          refine g_blk ?_
          (repeat refine g_seq ?_)
          refine g_region ?_
          refine g_pu rfl rfl rfl (pu_move rfl rfl) ?_
          refine g_pu rfl rfl rfl (pu_addI rfl rfl rfl (by omega)) ?_
          refine g_pu rfl rfl rfl (pu_assign rfl rfl) ?_
          refine g_nil ?_
          exact g_round (i + 1) (by omega) (by omega) ⟨rfl, rfl, rfl, rfl, rfl, rfl, rfl, rfl, trivial⟩ ⟨rfl, rfl, rfl, rfl, rfl, trivial⟩
        · (repeat refine g_seq ?_)
          refine g_region ?_
          refine g_pu rfl rfl rfl (pu_move rfl rfl) ?_
          first | refine g_pu rfl rfl rfl (pu_lss_t rfl rfl rfl (by omega)) ?_ | refine g_pu rfl rfl rfl (pu_lss_f rfl rfl rfl (by omega)) ?_ | refine g_pu rfl rfl rfl (pu_lss rfl rfl rfl) ?_
          refine g_nil ?_
          (repeat refine g_seq ?_)
          refine g_cond_f rfl (g_exit rfl ?_)
          have e4 : i = 4 := by omega
          subst e4
          refine g_meet () trivial ⟨rfl, rfl, rfl, rfl, rfl, rfl, rfl, trivial⟩ ⟨rfl, rfl, ?_, rfl, rfl, trivial⟩
          rw [accH_end, ← hwt, schA_set l (by omega)]
          rfl
      · have h16 : ¬ t < 16 := by omega
        have hwt : wt l (schedL l t) t = sg1 ((schedL l t).getD (t - 2) 0#32) + (schedL l t).getD (t - 7) 0#32 + sg0 ((schedL l t).getD (t - 15) 0#32) + (schedL l t).getD (t - 16) 0#32 := by unfold wt; rw [if_neg (by omega)]
        (repeat refine g_seq ?_)
        refine g_any (10, []) ?_
        refine a_pu 0 rfl rfl rfl rfl (pu_move rfl rfl) rfl rfl (by kernel_rfl) ?_
        refine a_pu 1 rfl rfl rfl rfl (pu_subI rfl rfl rfl (by omega)) rfl rfl (by kernel_rfl) ?_
        refine a_pu 2 rfl rfl rfl rfl (pu_atA1 (t - 15) rfl rfl rfl (by omega) (by omega)) rfl rfl (by kernel_rfl) ?_
        refine a_pu 3 rfl rfl rfl rfl (pu_load 5 rfl rfl rfl (ws_load (schA_get l (j := t - 15) (by omega)))) rfl rfl (by kernel_rfl) ?_
        refine a_pu 4 rfl rfl rfl rfl (pu_move rfl rfl) rfl rfl (by kernel_rfl) ?_
        refine a_pu 5 rfl rfl rfl rfl (pu_subI rfl rfl rfl (by omega)) rfl rfl (by kernel_rfl) ?_
        refine a_pu 6 rfl rfl rfl rfl (pu_atA1 (t - 2) rfl rfl rfl (by omega) (by omega)) rfl rfl (by kernel_rfl) ?_
        refine a_pu 7 rfl rfl rfl rfl (pu_load 5 rfl rfl rfl (ws_load (schA_get l (j := t - 2) (by omega)))) rfl rfl (by kernel_rfl) ?_
        refine a_pu 8 rfl rfl rfl rfl (pu_assign rfl rfl) rfl rfl (by kernel_rfl) ?_
        refine a_pu 9 rfl rfl rfl rfl (pu_assign rfl rfl) rfl rfl (by kernel_rfl) ?_
        refine a_done (by kernel_rfl) ?_
        (repeat refine g_seq ?_)
        refine g_any (29, []) ?_
        refine a_pu 0 rfl rfl rfl rfl (pu_move rfl rfl) rfl rfl (by kernel_rfl) ?_
        refine a_pu 1 rfl rfl rfl rfl (pu_move rfl rfl) rfl rfl (by kernel_rfl) ?_
        refine a_pu 3 rfl rfl rfl rfl (pu_move rfl rfl) rfl rfl (by kernel_rfl) ?_
        refine a_pu 6 rfl rfl rfl rfl (pu_move rfl rfl) rfl rfl (by kernel_rfl) ?_
        refine a_pu 7 rfl rfl rfl rfl (pu_shr32 rfl rfl rfl (by omega)) rfl rfl (by kernel_rfl) ?_
        refine a_pu 9 rfl rfl rfl rfl (pu_move rfl rfl) rfl rfl (by kernel_rfl) ?_
        refine a_pu 10 rfl rfl rfl rfl (pu_subI rfl rfl rfl (by omega)) rfl rfl (by kernel_rfl) ?_
        refine a_pu 11 rfl rfl rfl rfl (pu_atA1 (t - 7) rfl rfl rfl (by omega) (by omega)) rfl rfl (by kernel_rfl) ?_
        refine a_pu 12 rfl rfl rfl rfl (pu_load 5 rfl rfl rfl (ws_load (schA_get l (j := t - 7) (by omega)))) rfl rfl (by kernel_rfl) ?_
        refine a_pu 14 rfl rfl rfl rfl (pu_move rfl rfl) rfl rfl (by kernel_rfl) ?_
        refine a_pu 16 rfl rfl rfl rfl (pu_move rfl rfl) rfl rfl (by kernel_rfl) ?_
        refine a_pu 19 rfl rfl rfl rfl (pu_move rfl rfl) rfl rfl (by kernel_rfl) ?_
        refine a_pu 20 rfl rfl rfl rfl (pu_shr32 rfl rfl rfl (by omega)) rfl rfl (by kernel_rfl) ?_
        refine a_pu 23 rfl rfl rfl rfl (pu_move rfl rfl) rfl rfl (by kernel_rfl) ?_
        refine a_pu 24 rfl rfl rfl rfl (pu_subI rfl rfl rfl (by omega)) rfl rfl (by kernel_rfl) ?_
        refine a_pu 25 rfl rfl rfl rfl (pu_atA1 (t - 16) rfl rfl rfl (by omega) (by omega)) rfl rfl (by kernel_rfl) ?_
        refine a_pu 26 rfl rfl rfl rfl (pu_load 5 rfl rfl rfl (ws_load (schA_get l (j := t - 16) (by omega)))) rfl rfl (by kernel_rfl) ?_
        refine a_do 2 55 [] (does_call rfl rfl rfl rfl rfl (fun w' hm => right_b w' _ 17 (by omega) (by omega))) rfl rfl (by kernel_rfl) rfl rfl (by kernel_rfl) (by kernel_rfl) (by kernel_rfl) rfl (fun p hp => by cases hp) ?_; rintro v_ cs_ ⟨_, _, rfl, rfl⟩
        refine a_do 4 57 [] (does_call rfl rfl rfl rfl rfl (fun w' hm => right_b w' _ 19 (by omega) (by omega))) rfl rfl (by kernel_rfl) rfl rfl (by kernel_rfl) (by kernel_rfl) (by kernel_rfl) rfl (fun p hp => by cases hp) ?_; rintro v_ cs_ ⟨_, _, rfl, rfl⟩
        refine a_pu 5 rfl rfl rfl rfl (pu_xor32 rfl rfl rfl) rfl rfl (by kernel_rfl) ?_
        refine a_pu 8 rfl rfl rfl rfl (pu_xor32 rfl rfl rfl) rfl rfl (by kernel_rfl) ?_
        refine a_pu 13 rfl rfl rfl rfl (pu_add32 rfl rfl rfl) rfl rfl (by kernel_rfl) ?_
        refine a_do 15 68 [] (does_call rfl rfl rfl rfl rfl (fun w' hm => right_b w' _ 7 (by omega) (by omega))) rfl rfl (by kernel_rfl) rfl rfl (by kernel_rfl) (by kernel_rfl) (by kernel_rfl) rfl (fun p hp => by cases hp) ?_; rintro v_ cs_ ⟨_, _, rfl, rfl⟩
        refine a_do 17 70 [] (does_call rfl rfl rfl rfl rfl (fun w' hm => right_b w' _ 18 (by omega) (by omega))) rfl rfl (by kernel_rfl) rfl rfl (by kernel_rfl) (by kernel_rfl) (by kernel_rfl) rfl (fun p hp => by cases hp) ?_; rintro v_ cs_ ⟨_, _, rfl, rfl⟩
        refine a_pu 18 rfl rfl rfl rfl (pu_xor32 rfl rfl rfl) rfl rfl (by kernel_rfl) ?_
        refine a_pu 21 rfl rfl rfl rfl (pu_xor32 rfl rfl rfl) rfl rfl (by kernel_rfl) ?_
        refine a_pu 22 rfl rfl rfl rfl (pu_add32 rfl rfl rfl) rfl rfl (by kernel_rfl) ?_
        refine a_pu 27 rfl rfl rfl rfl (pu_add32 rfl rfl rfl) rfl rfl (by kernel_rfl) ?_
        refine a_pu 28 rfl rfl rfl rfl (pu_atA1 t rfl rfl rfl rfl (by omega)) rfl rfl (by kernel_rfl) ?_
        refine a_tail [29] (by kernel_rfl) rfl rfl (by kernel_rfl) ?_
        refine g_store 5 (v := b32 (wt l (schedL l t) t)) rfl rfl rfl rfl (by rw [hwt]; rfl) rfl rfl (by rw [ws_length, schA_length _ (by omega)]; omega) ?_
        rw [ws_set, schA_set _ (by omega)]
        refine g_nil ?_
        exact g_meet () trivial ⟨rfl, rfl, rfl, rfl, rfl, rfl, rfl, trivial⟩ ⟨rfl, rfl, rfl, rfl, rfl, trivial⟩
    · (repeat refine g_seq ?_)
      refine g_region ?_
      refine g_pu rfl rfl rfl (pu_atA1 4 rfl rfl rfl rfl (by omega)) ?_
      refine g_pu rfl rfl rfl (pu_load 7 rfl rfl rfl rfl) ?_
      refine g_pu rfl rfl rfl (pu_atA1 5 rfl rfl rfl rfl (by omega)) ?_
      refine g_pu rfl rfl rfl (pu_load 7 rfl rfl rfl rfl) ?_
      refine g_pu rfl rfl rfl (pu_and32 rfl rfl rfl) ?_
      refine g_pu rfl rfl rfl (pu_atA1 4 rfl rfl rfl rfl (by omega)) ?_
      refine g_pu rfl rfl rfl (pu_load 7 rfl rfl rfl rfl) ?_
      refine g_pu rfl rfl rfl (pu_com32 rfl rfl) ?_
      refine g_pu rfl rfl rfl (pu_atA1 6 rfl rfl rfl rfl (by omega)) ?_
      refine g_pu rfl rfl rfl (pu_load 7 rfl rfl rfl rfl) ?_
      refine g_pu rfl rfl rfl (pu_and32 rfl rfl rfl) ?_
      refine g_pu rfl rfl rfl (pu_xor32 rfl rfl rfl) ?_
      refine g_pu rfl rfl rfl (pu_assign rfl rfl) ?_
      refine g_nil ?_
      (repeat refine g_seq ?_)
      refine g_region ?_
      refine g_pu rfl rfl rfl (pu_atA1 0 rfl rfl rfl rfl (by omega)) ?_
      refine g_pu rfl rfl rfl (pu_load 7 rfl rfl rfl rfl) ?_
      refine g_pu rfl rfl rfl (pu_atA1 1 rfl rfl rfl rfl (by omega)) ?_
      refine g_pu rfl rfl rfl (pu_load 7 rfl rfl rfl rfl) ?_
      refine g_pu rfl rfl rfl (pu_and32 rfl rfl rfl) ?_
      refine g_pu rfl rfl rfl (pu_atA1 0 rfl rfl rfl rfl (by omega)) ?_
      refine g_pu rfl rfl rfl (pu_load 7 rfl rfl rfl rfl) ?_
      refine g_pu rfl rfl rfl (pu_atA1 2 rfl rfl rfl rfl (by omega)) ?_
      refine g_pu rfl rfl rfl (pu_load 7 rfl rfl rfl rfl) ?_
      refine g_pu rfl rfl rfl (pu_and32 rfl rfl rfl) ?_
      refine g_pu rfl rfl rfl (pu_xor32 rfl rfl rfl) ?_
      refine g_pu rfl rfl rfl (pu_atA1 1 rfl rfl rfl rfl (by omega)) ?_
      refine g_pu rfl rfl rfl (pu_load 7 rfl rfl rfl rfl) ?_
      refine g_pu rfl rfl rfl (pu_atA1 2 rfl rfl rfl rfl (by omega)) ?_
      refine g_pu rfl rfl rfl (pu_load 7 rfl rfl rfl rfl) ?_
      refine g_pu rfl rfl rfl (pu_and32 rfl rfl rfl) ?_
      refine g_pu rfl rfl rfl (pu_xor32 rfl rfl rfl) ?_
      refine g_pu rfl rfl rfl (pu_assign rfl rfl) ?_
      refine g_nil ?_
      (repeat refine g_seq ?_)
      refine g_any (25, []) ?_
      refine a_pu 0 rfl rfl rfl rfl (pu_atA1 7 rfl rfl rfl rfl (by omega)) rfl rfl (by kernel_rfl) ?_
      refine a_pu 1 rfl rfl rfl rfl (pu_load 7 rfl rfl rfl rfl) rfl rfl (by kernel_rfl) ?_
      refine a_pu 2 rfl rfl rfl rfl (pu_atA1 4 rfl rfl rfl rfl (by omega)) rfl rfl (by kernel_rfl) ?_
      refine a_pu 3 rfl rfl rfl rfl (pu_load 7 rfl rfl rfl rfl) rfl rfl (by kernel_rfl) ?_
      refine a_pu 5 rfl rfl rfl rfl (pu_atA1 4 rfl rfl rfl rfl (by omega)) rfl rfl (by kernel_rfl) ?_
      refine a_pu 6 rfl rfl rfl rfl (pu_load 7 rfl rfl rfl rfl) rfl rfl (by kernel_rfl) ?_
      refine a_pu 9 rfl rfl rfl rfl (pu_atA1 4 rfl rfl rfl rfl (by omega)) rfl rfl (by kernel_rfl) ?_
      refine a_pu 10 rfl rfl rfl rfl (pu_load 7 rfl rfl rfl rfl) rfl rfl (by kernel_rfl) ?_
      refine a_pu 14 rfl rfl rfl rfl (pu_move rfl rfl) rfl rfl (by kernel_rfl) ?_
      refine a_pu 16 rfl rfl rfl rfl (pu_move rfl rfl) rfl rfl (by kernel_rfl) ?_
      refine a_pu 17 rfl rfl rfl rfl (pu_atA1 t rfl rfl rfl rfl (by omega)) rfl rfl (by kernel_rfl) ?_
      refine a_pu 18 rfl rfl rfl rfl (pu_load 6 rfl rfl rfl (ws_load hk)) rfl rfl (by kernel_rfl) ?_
      refine a_pu 20 rfl rfl rfl rfl (pu_move rfl rfl) rfl rfl (by kernel_rfl) ?_
      refine a_pu 21 rfl rfl rfl rfl (pu_atA1 t rfl rfl rfl rfl (by omega)) rfl rfl (by kernel_rfl) ?_
      refine a_pu 22 rfl rfl rfl rfl (pu_load 5 rfl rfl rfl (ws_load hw)) rfl rfl (by kernel_rfl) ?_
      refine a_do 4 115 [] (does_call rfl rfl rfl rfl rfl (fun w' hm => right_b w' _ 6 (by omega) (by omega))) rfl rfl (by kernel_rfl) rfl rfl (by kernel_rfl) (by kernel_rfl) (by kernel_rfl) rfl (fun p hp => by cases hp) ?_; rintro v_ cs_ ⟨_, _, rfl, rfl⟩
      refine a_do 7 118 [] (does_call rfl rfl rfl rfl rfl (fun w' hm => right_b w' _ 11 (by omega) (by omega))) rfl rfl (by kernel_rfl) rfl rfl (by kernel_rfl) (by kernel_rfl) (by kernel_rfl) rfl (fun p hp => by cases hp) ?_; rintro v_ cs_ ⟨_, _, rfl, rfl⟩
      refine a_pu 8 rfl rfl rfl rfl (pu_xor32 rfl rfl rfl) rfl rfl (by kernel_rfl) ?_
      refine a_do 11 122 [] (does_call rfl rfl rfl rfl rfl (fun w' hm => right_b w' _ 25 (by omega) (by omega))) rfl rfl (by kernel_rfl) rfl rfl (by kernel_rfl) (by kernel_rfl) (by kernel_rfl) rfl (fun p hp => by cases hp) ?_; rintro v_ cs_ ⟨_, _, rfl, rfl⟩
      refine a_pu 12 rfl rfl rfl rfl (pu_xor32 rfl rfl rfl) rfl rfl (by kernel_rfl) ?_
      refine a_pu 13 rfl rfl rfl rfl (pu_add32 rfl rfl rfl) rfl rfl (by kernel_rfl) ?_
      refine a_pu 15 rfl rfl rfl rfl (pu_add32 rfl rfl rfl) rfl rfl (by kernel_rfl) ?_
      refine a_pu 19 rfl rfl rfl rfl (pu_add32 rfl rfl rfl) rfl rfl (by kernel_rfl) ?_
      refine a_pu 23 rfl rfl rfl rfl (pu_add32 rfl rfl rfl) rfl rfl (by kernel_rfl) ?_
      refine a_pu 24 rfl rfl rfl rfl (pu_assign rfl rfl) rfl rfl (by kernel_rfl) ?_
      refine a_done (by kernel_rfl) ?_
      (repeat refine g_seq ?_)
      refine g_any (9, [6, 11]) ?_
      refine a_pu 0 rfl rfl rfl rfl (pu_atA1 0 rfl rfl rfl rfl (by omega)) rfl rfl (by kernel_rfl) ?_
      refine a_pu 1 rfl rfl rfl rfl (pu_load 7 rfl rfl rfl rfl) rfl rfl (by kernel_rfl) ?_
      refine a_pu 3 rfl rfl rfl rfl (pu_atA1 0 rfl rfl rfl rfl (by omega)) rfl rfl (by kernel_rfl) ?_
      refine a_pu 4 rfl rfl rfl rfl (pu_load 7 rfl rfl rfl rfl) rfl rfl (by kernel_rfl) ?_
      refine a_pu 7 rfl rfl rfl rfl (pu_atA1 0 rfl rfl rfl rfl (by omega)) rfl rfl (by kernel_rfl) ?_
      refine a_pu 8 rfl rfl rfl rfl (pu_load 7 rfl rfl rfl rfl) rfl rfl (by kernel_rfl) ?_
      first | refine a_mv 11 rfl rfl rfl rfl (fun _ => (pu_move rfl rfl)) rfl rfl rfl (by kernel_rfl) (by kernel_rfl) (by kernel_rfl) rfl ?_
      refine a_do 2 137 [] (does_call rfl rfl rfl rfl rfl (fun w' hm => right_b w' _ 2 (by omega) (by omega))) rfl rfl (by kernel_rfl) rfl rfl (by kernel_rfl) (by kernel_rfl) (by kernel_rfl) rfl (fun p hp => by cases hp) ?_; rintro v_ cs_ ⟨_, _, rfl, rfl⟩
      refine a_do 5 140 [] (does_call rfl rfl rfl rfl rfl (fun w' hm => right_b w' _ 13 (by omega) (by omega))) rfl rfl (by kernel_rfl) rfl rfl (by kernel_rfl) (by kernel_rfl) (by kernel_rfl) rfl (fun p hp => by cases hp) ?_; rintro v_ cs_ ⟨_, _, rfl, rfl⟩
      first | refine a_mv 6 rfl rfl rfl rfl (fun _ => (pu_xor32 rfl rfl rfl)) rfl rfl rfl (by kernel_rfl) (by kernel_rfl) (by kernel_rfl) rfl ?_
      refine a_tail [9, 10, 12, 13] (by kernel_rfl) rfl rfl (by kernel_rfl) ?_
      refine g_call [] rfl rfl rfl rfl rfl rfl (fun w' hm => right_b w' _ 22 (by omega) (by omega)) (fun _ _ => ?_)
      refine g_pu rfl rfl rfl (pu_xor32 rfl rfl rfl) ?_
      refine g_pu rfl rfl rfl (pu_add32 rfl rfl rfl) ?_
      refine g_pu rfl rfl rfl (pu_assign rfl rfl) ?_
      refine g_nil ?_
      (repeat refine g_seq ?_)
      refine g_region ?_
      refine g_pu rfl rfl rfl (pu_assign rfl rfl) ?_
      refine g_nil ?_
      (repeat refine g_seq ?_)
      refine g_block (g_loop (σ := Nat) (fun i => [(1, .slice (some ⟨pb, po, none⟩) 64 c), (2, .pointer (some ⟨b2, 0, none⟩)), (4, .pointer (some ⟨b4, 0, none⟩)), (5, .pointer (some ⟨b5, 0, none⟩)), (6, .pointer (some ⟨b6, 0, none⟩)), (7, .pointer (some ⟨b7, 0, none⟩)), (8, .int .i64 (t : Int)), (14, b32 (rt1 kt wd ⟨a, b, cc, d, e, f, g, h⟩)), (15, b32 (rt2 ⟨a, b, cc, d, e, f, g, h⟩)), (16, .int .i64 (i : Int))]) (fun i => [(2, .pt b2 (.cells (ws s).toArray 103 (0, 0))), (4, .pt b4 (.cells (ws (List.replicate 8 0#32)).toArray 103 (0, 0))), (5, .pt b5 (.cells (ws (schA l (t + 1))).toArray 153 (0, 0))), (6, .pt b6 (.cells (ws kT).toArray 153 (0, 0))), (7, .pt b7 (.cells (ws (shV [a, b, cc, d, e, f, g, h] i)).toArray 103 (0, 0)))]) (fun i => i ≤ 7) (fun i => i) 7 ⟨rfl, rfl, rfl, rfl, rfl, rfl, rfl, rfl, rfl, rfl, trivial⟩ ⟨rfl, rfl, rfl, rfl, rfl, trivial⟩ (by omega) ?_)
      intro i hi
      match i, hi with
      | i + 1, hi =>
        obtain ⟨x, hx1, hx2, hx3⟩ := shV_set (a := a) (b := b) (c := cc) (d := d) (e := e) (f := f) (g := g) (h := h) (i := i) (by omega)
        (repeat refine g_seq ?_)
        refine g_region ?_
        refine g_pu rfl rfl rfl (pu_move rfl rfl) ?_
        first | refine g_pu rfl rfl rfl (pu_gtr_t rfl rfl rfl (by omega)) ?_ | refine g_pu rfl rfl rfl (pu_gtr_f rfl rfl rfl (by omega)) ?_ | refine g_pu rfl rfl rfl (pu_gtr rfl rfl rfl) ?_
        refine g_nil ?_
        (repeat refine g_seq ?_)
        refine g_cond_t rfl (g_skip ?_)
        (repeat refine g_seq ?_); refine g_block ?_
        (repeat refine g_seq ?_)
        refine g_region ?_
        refine g_pu rfl rfl rfl (pu_move rfl rfl) ?_
        refine g_pu rfl rfl rfl (pu_move rfl rfl) ?_
        refine g_pu rfl rfl rfl (pu_subI rfl rfl rfl (by omega)) ?_
        refine g_pu rfl rfl rfl (pu_atA1 i rfl rfl rfl (by omega) (by omega)) ?_
        refine g_pu rfl rfl rfl (pu_load 7 rfl rfl rfl (ws_load hx1)) ?_
        refine g_pu rfl rfl rfl (pu_atA1 (i + 1) rfl rfl rfl rfl (by omega)) ?_
        refine g_store 7 (v := b32 x) rfl rfl rfl rfl rfl rfl rfl (by rw [ws_length, hx3]; omega) ?_
        rw [ws_set, hx2]
        refine g_nil ?_
        refine g_blk ?_
        (repeat refine g_seq ?_)
        refine g_region ?_
        refine g_pu rfl rfl rfl (pu_move rfl rfl) ?_
        refine g_pu rfl rfl rfl (pu_subI rfl rfl rfl (by omega)) ?_
        refine g_pu rfl rfl rfl (pu_assign rfl rfl) ?_
        refine g_nil ?_
        exact g_round i (by omega) (by omega) ⟨rfl, rfl, rfl, rfl, rfl, rfl, rfl, rfl, rfl, congrArg (fun z => some (Value.int .i64 z)) (by omega), trivial⟩ ⟨rfl, rfl, rfl, rfl, rfl, trivial⟩
      | 0, _ =>
        (repeat refine g_seq ?_)
        refine g_region ?_
        refine g_pu rfl rfl rfl (pu_move rfl rfl) ?_
        first | refine g_pu rfl rfl rfl (pu_gtr_t rfl rfl rfl (by omega)) ?_ | refine g_pu rfl rfl rfl (pu_gtr_f rfl rfl rfl (by omega)) ?_ | refine g_pu rfl rfl rfl (pu_gtr rfl rfl rfl) ?_
        refine g_nil ?_
        (repeat refine g_seq ?_)
        refine g_cond_f rfl (g_exit rfl ?_)
        (repeat refine g_seq ?_)
        refine g_region ?_
        refine g_pu rfl rfl rfl (pu_atA1 4 rfl rfl rfl rfl (by omega)) ?_
        refine g_pu rfl rfl rfl (pu_load 7 rfl rfl rfl rfl) ?_
        refine g_pu rfl rfl rfl (pu_move rfl rfl) ?_
        refine g_pu rfl rfl rfl (pu_add32 rfl rfl rfl) ?_
        refine g_pu rfl rfl rfl (pu_atA1 4 rfl rfl rfl rfl (by omega)) ?_
        refine g_store 7 rfl rfl rfl rfl rfl rfl rfl (by simp [shV, ws]) ?_
        refine g_nil ?_
        (repeat refine g_seq ?_)
        refine g_region ?_
        refine g_pu rfl rfl rfl (pu_move rfl rfl) ?_
        refine g_pu rfl rfl rfl (pu_move rfl rfl) ?_
        refine g_pu rfl rfl rfl (pu_add32 rfl rfl rfl) ?_
        refine g_pu rfl rfl rfl (pu_atA1 0 rfl rfl rfl rfl (by omega)) ?_
        refine g_store 7 rfl rfl rfl rfl rfl rfl rfl (by simp [shV, ws]) ?_
        refine g_nil ?_
        refine g_blk ?_
        (repeat refine g_seq ?_)
        refine g_region ?_
        refine g_pu rfl rfl rfl (pu_move rfl rfl) ?_
        refine g_pu rfl rfl rfl (pu_addI rfl rfl rfl (by omega)) ?_
        refine g_pu rfl rfl rfl (pu_assign rfl rfl) ?_
        refine g_nil ?_
        exact g_round2 (t + 1) (rnd kt wd ⟨a, b, cc, d, e, f, g, h⟩) ⟨by omega, hst⟩ (by omega) ⟨rfl, rfl, rfl, rfl, rfl, rfl, rfl, trivial⟩ ⟨rfl, rfl, rfl, rfl, rfl, trivial⟩
  · (repeat refine g_seq ?_)
    refine g_region ?_
    refine g_pu rfl rfl rfl (pu_move rfl rfl) ?_
    first | refine g_pu rfl rfl rfl (pu_lss_t rfl rfl rfl (by omega)) ?_ | refine g_pu rfl rfl rfl (pu_lss_f rfl rfl rfl (by omega)) ?_ | refine g_pu rfl rfl rfl (pu_lss rfl rfl rfl) ?_
    refine g_nil ?_
    (repeat refine g_seq ?_)
    refine g_cond_f rfl (g_exit rfl ?_)
    have e : t = 64 := by omega
    subst e
    rw [← hv] at hcg
    (repeat refine g_seq ?_)
    refine g_region ?_
    refine g_pu rfl rfl rfl (pu_assign rfl rfl) ?_
    refine g_nil ?_
    (repeat refine g_seq ?_)
    refine g_block (g_loop (σ := Nat) (fun i => [(2, .pointer (some ⟨b2, 0, none⟩)), (4, .pointer (some ⟨b4, 0, none⟩)), (7, .pointer (some ⟨b7, 0, none⟩)), (17, .int .i64 (i : Int))]) (fun i => [(2, .pt b2 (.cells (ws (mixL full s i)).toArray 103 (0, 0))), (4, .pt b4 (.cells (ws (List.replicate 8 0#32)).toArray 103 (0, 0))), (7, .pt b7 (.cells (ws v.l).toArray 103 (0, 0)))]) (fun i => i ≤ 8) (fun i => 8 - i) 0 ⟨rfl, rfl, rfl, rfl, trivial⟩ ⟨rfl, rfl, rfl, trivial⟩ (by omega) ?_)
    intro i hi
    by_cases hlt : i < 8
    · (repeat refine g_seq ?_)
      refine g_region ?_
      refine g_pu rfl rfl rfl (pu_move rfl rfl) ?_
      first | refine g_pu rfl rfl rfl (pu_lss_t rfl rfl rfl (by omega)) ?_ | refine g_pu rfl rfl rfl (pu_lss_f rfl rfl rfl (by omega)) ?_ | refine g_pu rfl rfl rfl (pu_lss rfl rfl rfl) ?_
      refine g_nil ?_
      (repeat refine g_seq ?_)
      refine g_cond_t rfl (g_skip ?_)
      have hm1 := mixL_get (full := full) (s := s) (i := i) (by omega) (by omega)
      have hm2 := mixL_set (full := full) (s := s) (i := i) (by omega) (hcg i hlt)
      have hvl : v.l[i]? = some (v.l.getD i 0#32) := getD_some (by simp only [V8.l, List.length_cons, List.length_nil]; omega)
      (repeat refine g_seq ?_); refine g_block ?_
      (repeat refine g_seq ?_)
      refine g_any (9, []) ?_
      refine a_pu 0 rfl rfl rfl rfl (pu_move rfl rfl) rfl rfl (by kernel_rfl) ?_
      refine a_pu 1 rfl rfl rfl rfl (pu_move rfl rfl) rfl rfl (by kernel_rfl) ?_
      refine a_pu 2 rfl rfl rfl rfl (pu_atA1 i rfl rfl rfl rfl hlt) rfl rfl (by kernel_rfl) ?_
      refine a_pu 3 rfl rfl rfl rfl (pu_load 2 rfl rfl rfl (ws_load hm1)) rfl rfl (by kernel_rfl) ?_
      refine a_pu 4 rfl rfl rfl rfl (pu_move rfl rfl) rfl rfl (by kernel_rfl) ?_
      refine a_pu 5 rfl rfl rfl rfl (pu_atA1 i rfl rfl rfl rfl hlt) rfl rfl (by kernel_rfl) ?_
      refine a_pu 6 rfl rfl rfl rfl (pu_load 7 rfl rfl rfl (ws_load hvl)) rfl rfl (by kernel_rfl) ?_
      refine a_pu 7 rfl rfl rfl rfl (pu_add32 rfl rfl rfl) rfl rfl (by kernel_rfl) ?_
      refine a_pu 8 rfl rfl rfl rfl (pu_atA1 i rfl rfl rfl rfl hlt) rfl rfl (by kernel_rfl) ?_
      refine a_tail [9] (by kernel_rfl) rfl rfl (by kernel_rfl) ?_
      refine g_store 2 (v := b32 (s.getD i 0#32 + v.l.getD i 0#32)) rfl rfl rfl rfl rfl rfl rfl (by rw [ws_length, mixL_length (by omega)]; omega) ?_
      rw [ws_set, hm2]
      refine g_nil ?_
      refine g_blk ?_
      (repeat refine g_seq ?_)
      refine g_region ?_
      refine g_pu rfl rfl rfl (pu_move rfl rfl) ?_
      refine g_pu rfl rfl rfl (pu_addI rfl rfl rfl (by omega)) ?_
      refine g_pu rfl rfl rfl (pu_assign rfl rfl) ?_
      refine g_nil ?_
      exact g_round (i + 1) (by omega) (by omega) ⟨rfl, rfl, rfl, rfl, trivial⟩ ⟨rfl, rfl, rfl, trivial⟩
    · (repeat refine g_seq ?_)
      refine g_region ?_
      refine g_pu rfl rfl rfl (pu_move rfl rfl) ?_
      first | refine g_pu rfl rfl rfl (pu_lss_t rfl rfl rfl (by omega)) ?_ | refine g_pu rfl rfl rfl (pu_lss_f rfl rfl rfl (by omega)) ?_ | refine g_pu rfl rfl rfl (pu_lss rfl rfl rfl) ?_
      refine g_nil ?_
      (repeat refine g_seq ?_)
      refine g_cond_f rfl (g_exit rfl ?_)
      have e : i = 8 := by omega
      subst e
      have hf : mixL full s 8 = full := by
        unfold mixL
        rw [List.take_of_length_le (by omega), List.drop_eq_nil_of_le (by omega), List.append_nil]
      rw [hf]
      (repeat refine g_seq ?_)
      refine g_region ?_
      refine g_pu rfl rfl rfl (pu_loadW 2 (L := ws full) rfl rfl rfl (by rw [ws_length, hcl])) ?_
      refine g_storeL 4 (C := ws full) rfl rfl rfl rfl rfl rfl (by rw [ws_length, hcl]) (by simp [ws]) (oneCell_ws _) ?_
      refine g_nil ?_
      exact g_retL 4 (L := ws full) rfl (by rw [ws_length, hcl]) rfl rfl (fun w' hm => ⟨(), trivial, rfl, hm.grows [] trivial rfl⟩)
end Go.Sx

/-
  The flow of a hash: its cells, and what taking, writing and making one do to them. Conditions: what is written lies apart from the hash; all bytes together are at most 2^40.
-/
namespace Go.Sx
open Go Go.Proofs

/-- The state behind k blocks. -/
def absN (s : List (BitVec 32)) (l : List (BitVec 8)) : Nat → List (BitVec 32)
  | 0 => s
  | k + 1 => cmp (absN s l k) ((l.drop (64 * k)).take 64)
theorem absN_length {s : List (BitVec 32)} (h : s.length = 8) (l : List (BitVec 8)) : ∀ k, (absN s l k).length = 8
  | 0 => h
  | k + 1 => cmp_length _ (absN_length h l k)
theorem absN_append {s : List (BitVec 32)} {l m : List (BitVec 8)} : ∀ {k : Nat}, 64 * k ≤ l.length → absN s (l ++ m) k = absN s l k
  | 0, _ => rfl
  | k + 1, h => by
    rw [absN, absN, absN_append (k := k) (by omega)]
    congr 1
    rw [List.drop_append_of_le_length (by omega), List.take_append_of_le_length (by simp; omega)]
theorem mem_flat {l : List (BitVec 8)} : ∀ {ls : List (List (BitVec 8))}, l ∈ ls → l.length ≤ ls.flatten.length
  | [], h => by simp at h
  | m :: r, h => by
    rw [List.flatten_cons, List.length_append]
    rcases List.mem_cons.1 h with rfl | h1
    · omega
    · have := mem_flat h1; omega
def flowS (L : List (BitVec 8)) : List (BitVec 32) := if L.length = 0 then List.replicate 8 0#32 else absN s0T L (L.length / 64)
theorem flowS_length (L : List (BitVec 8)) : (flowS L).length = 8 := by
  unfold flowS
  split
  · rfl
  · exact absN_length s0T_length _ _
def restL (L : List (BitVec 8)) : List (BitVec 8) := L.drop (64 * (L.length / 64))
theorem restL_length (L : List (BitVec 8)) : (restL L).length = L.length % 64 := by simp [restL]; omega

def flowC (st : List (BitVec 32)) (p : Option Addr) (n c z : Nat) : List Value := ws st ++ [.slice p n c, .int .i64 (z : Int)]
def hashC (L : List (BitVec 8)) (x : Ow) : List Value := flowC (flowS L) x.p (L.length % 64) x.c L.length
theorem flow_ex {st : List (BitVec 32)} (h : st.length = 8) : ∃ a b c d e f g i, st = [a, b, c, d, e, f, g, i] := by
  match st, h with
  | [a, b, c, d, e, f, g, i], _ => exact ⟨a, b, c, d, e, f, g, i, rfl⟩
theorem flowC_length {st : List (BitVec 32)} {p : Option Addr} {n c z : Nat} (h : st.length = 8) : (flowC st p n c z).length = 10 := by
  obtain ⟨a, b, c, d, e, f, g, i, rfl⟩ := flow_ex h; rfl
theorem flowC_8 {st : List (BitVec 32)} {p : Option Addr} {n c z : Nat} {J : List Value} (h : st.length = 8) : (flowC st p n c z ++ J).toArray[0 + 8]? = some (.slice p n c) := by
  obtain ⟨a, b, c, d, e, f, g, i, rfl⟩ := flow_ex h; rfl
theorem flowC_9 {st : List (BitVec 32)} {p : Option Addr} {n c z : Nat} {J : List Value} (h : st.length = 8) : (flowC st p n c z ++ J).toArray[0 + 9]? = some (.int .i64 (z : Int)) := by
  obtain ⟨a, b, c, d, e, f, g, i, rfl⟩ := flow_ex h; rfl
theorem flowC_set8 {st : List (BitVec 32)} {p p' : Option Addr} {n c n' c' z : Nat} {J : List Value} (h : st.length = 8) : (flowC st p n c z ++ J).set (0 + 8) (.slice p' n' c') = flowC st p' n' c' z ++ J := by
  obtain ⟨a, b, c, d, e, f, g, i, rfl⟩ := flow_ex h; rfl
theorem flowC_set9 {st : List (BitVec 32)} {p : Option Addr} {n c z z' : Nat} {J : List Value} (h : st.length = 8) : (flowC st p n c z ++ J).set (0 + 9) (.int .i64 (z' : Int)) = flowC st p n c z' ++ J := by
  obtain ⟨a, b, c, d, e, f, g, i, rfl⟩ := flow_ex h; rfl
theorem flowC_put {st st' : List (BitVec 32)} {p : Option Addr} {n c z : Nat} {J : List Value} (h : st.length = 8) : (flowC st p n c z ++ J).take (0 + 0) ++ ws st' ++ (flowC st p n c z ++ J).drop (0 + 0 + 8) = flowC st' p n c z ++ J := by
  obtain ⟨a, b, c, d, e, f, g, i, rfl⟩ := flow_ex h; simp [flowC, ws]
theorem flowC_st {st : List (BitVec 32)} {p : Option Addr} {n c z : Nat} {J : List Value} (h : st.length = 8) : (flowC st p n c z ++ J).toArray.extract (0 + 0) (0 + 0 + 8) = (ws st).toArray := by
  obtain ⟨a, b, c, d, e, f, g, i, rfl⟩ := flow_ex h; simp [flowC, ws]
theorem flowC_len {st : List (BitVec 32)} {p : Option Addr} {n c z : Nat} {J : List Value} (h : st.length = 8) : 10 ≤ (flowC st p n c z ++ J).length := by rw [List.length_append, flowC_length h]; omega

section
variable {P : Program} {N : Nat} {w0 : World} {D : Blocks} {e : List (Nat × Value)} {M : List (Nat × Ck)} {o : Oper}
theorem pu_loadES (tag : Nat) {t : TypeId} {x : Operand} {b off s : Nat} {c C : Array Value} {E : TypeId} {fz : Nat × Nat} [hu : Agg P t true] [hz : Siz P t s] (ho : o.op = .load t x) (hx : ev e x = some (.pointer (some ⟨b, off, none⟩)))
    (hM : mget M tag = some (.pt b (.cells c E fz))) (hl : off + s ≤ c.size) (hC : c.extract off (off + s) = C) : Pu P N w0 D e M o (.agg C) := by
  rw [← hC]; exact pu_loadA tag ho hx hM hl
end

theorem take_b (w : World) (bb : Nat) {E : TypeId} {J : List Value} {L S : List (BitVec 8)} (x : Ow) {q : Option Addr} {m : Nat} (d : Nat) (h : w.heap[bb]? = some (.cells (hashC L x ++ J).toArray E (0, 0))) (ho : OwnO 5 x.p x.c (bs (restL L)) w) (hne : ∀ j, At x.p j → ¬ j = bb) (hp : ∀ j, At x.p j → j < w.heap.size)
    (hS : By w q m S) (hq : ∀ b o, q = some ⟨b, o, none⟩ → ¬ (b = bb ∨ At x.p b)) (hm0 : 0 < m) (hm2 : m ≤ 140737488355200) (hbig : L.length + m ≤ 1152921504606846976) :
    Spec Try.prog 102 #[.pointer (some ⟨bb, 0, none⟩), .slice q m d] w (σ := Ow) (fun _ => True) (fun _ => .tuple #[]) (fun j => j = bb ∨ At x.p j) (fun y => [.pt bb (.cells (hashC (L ++ S) y ++ J).toArray E (0, 0)), y.ckO 5 (bs (restL (L ++ S)))]) := by
  obtain ⟨p, c⟩ := x
  refine enter Try.func102 rfl rfl (Mem.start2 (.pt bb (.cells (hashC L ⟨p, c⟩ ++ J).toArray E (0, 0))) (Ow.ckO 5 (bs (restL L)) ⟨p, c⟩) h trivial (fun j hj => by rw [show j = bb from hj]; exact lt_of_some h) ho OwnO.loc hp (fun j h1 h2 => hne j h2 h1)) ?_
  have hSl := hS.len
  have hst := flowS_length L
  have hTl : (L ++ S).length = L.length + m := by rw [List.length_append, hSl]
  have hal : ∀ T k, (absN s0T T k).length = 8 := fun T k => absN_length s0T_length T k
  have hrl := restL_length L
  (repeat refine g_seq ?_)
  refine g_region ?_
  refine g_pu rfl rfl rfl (pu_move rfl rfl) ?_
  refine g_pu rfl rfl rfl (pu_nil rfl rfl) ?_
  refine g_pu rfl rfl rfl (pu_fieldAddr (by decide) rfl rfl) ?_
  refine g_pu rfl rfl rfl (pu_load 0 rfl rfl rfl (flowC_9 hst)) ?_
  first | refine g_pu rfl rfl rfl (pu_eql_t rfl rfl rfl (by omega)) ?_ | refine g_pu rfl rfl rfl (pu_eql_f rfl rfl rfl (by omega)) ?_ | refine g_pu rfl rfl rfl (pu_eql rfl rfl rfl) ?_
  refine g_nil ?_
  refine g_join (σ := Unit) (fun _ => [(0, .pointer (some ⟨bb, 0, none⟩)), (1, .slice q m d)]) (fun _ => [(0, .pt bb (.cells (flowC (absN s0T (L ++ S) (L.length / 64)) p (L.length % 64) c L.length ++ J).toArray E (0, 0))), (1, Ow.ckO 5 (bs (restL L)) ⟨p, c⟩)]) (fun _ => True) ?_ (fun _ _ => ?_)
  · by_cases hL : L.length = 0
    · have e1 : L.length / 64 = 0 := by omega
      rw [e1]
      refine g_cond_t ?_ ?_
      · exact congrArg (fun b => some (Value.bool b)) (decide_eq_true (by omega))
      (repeat refine g_seq ?_)
      refine g_region ?_
      refine g_pu rfl rfl rfl (pu_move rfl rfl) ?_
      refine g_call [] rfl rfl rfl rfl rfl rfl (fun w' hm => Start_b w') (fun _ _ => ?_)
      refine g_pu rfl rfl rfl (pu_nil rfl rfl) ?_
      refine g_pu rfl rfl rfl (pu_fieldAddr (by decide) rfl rfl) ?_
      refine g_storeA 0 (s := 8) (C := ws s0T) rfl rfl rfl rfl rfl rfl (by rw [ws_length]; exact s0T_length) (oneCell_ws _) (by have := flowC_len (p := p) (n := L.length % 64) (c := c) (z := L.length) (J := J) hst; exact Nat.le_trans (by omega) this) ?_
      rw [show (hashC L ⟨p, c⟩ ++ J).take (0 + 0) ++ ws s0T ++ (hashC L ⟨p, c⟩ ++ J).drop (0 + 0 + 8) = flowC s0T p (L.length % 64) c L.length ++ J from flowC_put hst]
      refine g_nil ?_
      exact g_meet () trivial ⟨rfl, rfl, trivial⟩ ⟨rfl, rfl, trivial⟩
    · have e1 : flowS L = absN s0T (L ++ S) (L.length / 64) := by
        unfold flowS
        rw [if_neg hL, absN_append (by omega)]
      refine g_cond_f ?_ (g_skip ?_)
      · exact congrArg (fun b => some (Value.bool b)) (decide_eq_false (by omega))
      refine g_meet () trivial ⟨rfl, rfl, trivial⟩ ⟨?_, rfl, trivial⟩
      rw [← e1]
      rfl
  have hr0 : bs (restL L) ++ bs S = bs ((L ++ S).drop (64 * (L.length / 64))) := by
    rw [← bs_append, List.drop_append_of_le_length (by omega)]
    rfl
  (repeat refine g_seq ?_)
  refine g_region ?_
  refine g_pu rfl rfl rfl (pu_move rfl rfl) ?_
  refine g_pu rfl rfl rfl (pu_nil rfl rfl) ?_
  refine g_pu rfl rfl rfl (pu_fieldAddr (by decide) rfl rfl) ?_
  refine g_pu rfl rfl rfl (pu_load 0 rfl rfl rfl (flowC_9 (hal _ _))) ?_
  refine g_pu rfl rfl rfl (pu_move rfl rfl) ?_
  first | refine g_pu rfl rfl rfl (pu_len rfl rfl) ?_ | refine g_pu rfl rfl rfl (pu_lenS rfl rfl) ?_
  refine g_pu rfl rfl rfl (pu_addI rfl rfl rfl (by omega)) ?_
  refine g_pu rfl rfl rfl (pu_nil rfl rfl) ?_
  refine g_pu rfl rfl rfl (pu_fieldAddr (by decide) rfl rfl) ?_
  refine g_store 0 (v := .int .i64 (((L ++ S).length : Nat) : Int)) rfl rfl rfl rfl (congrArg (fun z => some (Value.int .i64 z)) (by omega)) rfl rfl (by have := flowC_len (p := p) (n := L.length % 64) (c := c) (z := L.length) (J := J) (hal (L ++ S) (L.length / 64)); omega) ?_
  rw [flowC_set9 (hal _ _)]
  refine g_nil ?_
  (repeat refine g_seq ?_)
  refine g_region ?_
  refine g_pu rfl rfl rfl (pu_move rfl rfl) ?_
  refine g_pu rfl rfl rfl (pu_move rfl rfl) ?_
  refine g_pu rfl rfl rfl (pu_nil rfl rfl) ?_
  refine g_pu rfl rfl rfl (pu_fieldAddr (by decide) rfl rfl) ?_
  refine g_pu rfl rfl rfl (pu_load 0 rfl rfl rfl (flowC_8 (hal _ _))) ?_
  refine g_pu rfl rfl rfl (pu_move rfl rfl) ?_
  refine g_appendO 1 (bs S) rfl rfl rfl rfl rfl rfl rfl rfl (by rw [bs_length, hrl]) (fun w' hm => (hS.mD hm hq).rd) (by rw [bs_length, hSl]) (oneCell_bs S) (by omega) (by omega) (fun p' c' => ?_)
  refine g_pu rfl rfl rfl (pu_nil rfl rfl) ?_
  refine g_pu rfl rfl rfl (pu_fieldAddr (by decide) rfl rfl) ?_
  refine g_store 0 (v := .slice p' (L.length % 64 + m) c') rfl rfl rfl rfl rfl rfl rfl (by have := flowC_len (p := p) (n := L.length % 64) (c := c) (z := (L ++ S).length) (J := J) (hal (L ++ S) (L.length / 64)); omega) ?_
  rw [flowC_set8 (hal _ _), hr0]
  refine g_nil ?_
  generalize L ++ S = T at hTl
  refine g_block (g_loop2 (fun (k : Nat) (y : Ow) => [(0, .pointer (some ⟨bb, 0, none⟩))]) (fun k y => [(0, .pt bb (.cells (flowC (absN s0T T k) y.p (T.length - 64 * k) y.c T.length ++ J).toArray E (0, 0))), (1, y.ckO 5 (bs (T.drop (64 * k))))]) (fun k _ => 64 * k ≤ T.length) (fun k _ => T.length - 64 * k) (L.length / 64) ⟨p', c'⟩ ⟨rfl, trivial⟩ ⟨by rw [show T.length - 64 * (L.length / 64) = L.length % 64 + m by omega]; rfl, rfl, trivial⟩ (by omega) ?_)
  intro k y hk
  have hdl : (T.drop (64 * k)).length = T.length - 64 * k := by rw [List.length_drop]
  by_cases hge : 64 ≤ T.length - 64 * k
  · refine g_know (φ := T.length - 64 * k ≤ y.c) (fun w' hm => by have := OwnO.le (hm.holds 1 _ rfl); rwa [bs_length, hdl] at this) (fun hyc => ?_)
    (repeat refine g_seq ?_)
    refine g_region ?_
    refine g_pu rfl rfl rfl (pu_move rfl rfl) ?_
    refine g_pu rfl rfl rfl (pu_nil rfl rfl) ?_
    refine g_pu rfl rfl rfl (pu_fieldAddr (by decide) rfl rfl) ?_
    refine g_pu rfl rfl rfl (pu_load 0 rfl rfl rfl (flowC_8 (hal _ _))) ?_
    first | refine g_pu rfl rfl rfl (pu_len rfl rfl) ?_ | refine g_pu rfl rfl rfl (pu_lenS rfl rfl) ?_
    first | refine g_pu rfl rfl rfl (pu_geq_t rfl rfl rfl (by omega)) ?_ | refine g_pu rfl rfl rfl (pu_geq_f rfl rfl rfl (by omega)) ?_ | refine g_pu rfl rfl rfl (pu_geq rfl rfl rfl) ?_
    refine g_nil ?_
    (repeat refine g_seq ?_)
    refine g_cond_t rfl (g_skip ?_)
    (repeat refine g_seq ?_); refine g_block ?_
    (repeat refine g_seq ?_)
    refine g_any (16, [13]) ?_
    refine a_pu 0 rfl rfl rfl rfl (pu_move rfl rfl) rfl rfl (by kernel_rfl) ?_
    refine a_pu 1 rfl rfl rfl rfl (pu_move rfl rfl) rfl rfl (by kernel_rfl) ?_
    refine a_pu 2 rfl rfl rfl rfl (pu_nil rfl rfl) rfl rfl (by kernel_rfl) ?_
    refine a_pu 3 rfl rfl rfl rfl (pu_fieldAddr (by decide) rfl rfl) rfl rfl (by kernel_rfl) ?_
    refine a_pu 4 rfl rfl rfl rfl (pu_loadES 0 rfl rfl rfl (by have := flowC_len (p := y.p) (n := T.length - 64 * k) (c := y.c) (z := T.length) (J := J) (hal T k); simp only [List.size_toArray]; omega) (flowC_st (hal T k))) rfl rfl (by kernel_rfl) ?_
    refine a_pu 5 rfl rfl rfl rfl (pu_move rfl rfl) rfl rfl (by kernel_rfl) ?_
    refine a_pu 6 rfl rfl rfl rfl (pu_nil rfl rfl) rfl rfl (by kernel_rfl) ?_
    refine a_pu 7 rfl rfl rfl rfl (pu_fieldAddr (by decide) rfl rfl) rfl rfl (by kernel_rfl) ?_
    refine a_pu 8 rfl rfl rfl rfl (pu_load 0 rfl rfl rfl (flowC_8 (hal _ _))) rfl rfl (by kernel_rfl) ?_
    refine a_pu 9 rfl rfl rfl rfl (pu_slice_h 64 rfl rfl rfl rfl (by omega)) rfl rfl (by kernel_rfl) ?_
    refine a_do 10 48 [] (does_call rfl rfl rfl rfl rfl (fun w' hm => Compress_b w' y.c (s := absN s0T T k) (l := (T.drop (64 * k)).take 64) ⟨by have h1 : RdV w' y.p (bs (T.drop (64 * k))) := OwnO.rd (hm.holds 1 _ rfl); rw [← bs_take]; exact h1.fst, by rw [List.length_take, hdl]; omega, by omega⟩ (hal T k))) rfl rfl (by kernel_rfl) rfl rfl (by kernel_rfl) (by kernel_rfl) (by kernel_rfl) rfl (fun p hp => by cases hp) ?_; rintro v_ cs_ ⟨_, _, rfl, rfl⟩
    refine a_pu 11 rfl rfl rfl rfl (pu_move rfl rfl) rfl rfl (by kernel_rfl) ?_
    refine a_pu 12 rfl rfl rfl rfl (pu_extract rfl rfl rfl) rfl rfl (by kernel_rfl) ?_
    first | refine a_mv 13 rfl rfl rfl rfl (fun _ => (pu_extract rfl rfl rfl)) rfl rfl rfl (by kernel_rfl) (by kernel_rfl) (by kernel_rfl) rfl ?_
    refine a_pu 14 rfl rfl rfl rfl (pu_nil rfl rfl) rfl rfl (by kernel_rfl) ?_
    refine a_pu 15 rfl rfl rfl rfl (pu_fieldAddr (by decide) rfl rfl) rfl rfl (by kernel_rfl) ?_
    refine a_tail [16] (by kernel_rfl) rfl rfl (by kernel_rfl) ?_
    refine g_storeA 0 (s := 8) (C := ws (absN s0T T (k + 1))) rfl rfl rfl rfl rfl rfl (by rw [ws_length, hal]) (oneCell_ws _) (by have := flowC_len (p := y.p) (n := T.length - 64 * k) (c := y.c) (z := T.length) (J := J) (hal T k); omega) ?_
    rw [flowC_put (hal T k)]
    refine g_nil ?_
    (repeat refine g_seq ?_)
    refine g_region ?_
    refine g_pu rfl rfl rfl (pu_move rfl rfl) ?_
    refine g_pu rfl rfl rfl (pu_move rfl rfl) ?_
    refine g_pu rfl rfl rfl (pu_nil rfl rfl) ?_
    refine g_pu rfl rfl rfl (pu_fieldAddr (by decide) rfl rfl) ?_
    refine g_pu rfl rfl rfl (pu_load 0 rfl rfl rfl (flowC_8 (hal _ _))) ?_
    refine g_pu rfl rfl rfl (pu_slice_l 64 rfl rfl rfl rfl (by omega)) ?_
    refine g_pu rfl rfl rfl (pu_nil rfl rfl) ?_
    refine g_pu rfl rfl rfl (pu_fieldAddr (by decide) rfl rfl) ?_
    refine g_store 0 (v := .slice (cutp y.p y.c 64 1) (T.length - 64 * k - 64) (y.c - 64)) rfl rfl rfl rfl rfl rfl rfl (by have := flowC_len (p := y.p) (n := T.length - 64 * k) (c := y.c) (z := T.length) (J := J) (hal T (k + 1)); omega) ?_
    rw [flowC_set8 (hal _ _)]
    refine g_nil ?_
    refine g_cutO 1 64 rfl (by rw [bs_length, hdl]; exact hge) ?_
    refine g_blk ?_
    refine g_round2 (k + 1) (⟨cutp y.p y.c 64 1, y.c - 64⟩ : Ow) (by omega) (by omega) ⟨rfl, trivial⟩ ⟨?_, ?_, trivial⟩
    · rw [show T.length - 64 * (k + 1) = T.length - 64 * k - 64 by omega]; rfl
    · rw [show bs (T.drop (64 * (k + 1))) = (bs (T.drop (64 * k))).drop 64 by rw [bs_drop, List.drop_drop]; congr 2]; rfl
  · (repeat refine g_seq ?_)
    refine g_region ?_
    refine g_pu rfl rfl rfl (pu_move rfl rfl) ?_
    refine g_pu rfl rfl rfl (pu_nil rfl rfl) ?_
    refine g_pu rfl rfl rfl (pu_fieldAddr (by decide) rfl rfl) ?_
    refine g_pu rfl rfl rfl (pu_load 0 rfl rfl rfl (flowC_8 (hal _ _))) ?_
    first | refine g_pu rfl rfl rfl (pu_len rfl rfl) ?_ | refine g_pu rfl rfl rfl (pu_lenS rfl rfl) ?_
    first | refine g_pu rfl rfl rfl (pu_geq_t rfl rfl rfl (by omega)) ?_ | refine g_pu rfl rfl rfl (pu_geq_f rfl rfl rfl (by omega)) ?_ | refine g_pu rfl rfl rfl (pu_geq rfl rfl rfl) ?_
    refine g_nil ?_
    (repeat refine g_seq ?_)
    refine g_cond_f rfl (g_exit rfl ?_)
    have e1 : k = T.length / 64 := by omega
    have e2 : T.length - 64 * k = T.length % 64 := by omega
    have e3 : flowS T = absN s0T T k := by unfold flowS; rw [if_neg (by omega), e1]
    refine g_end0 rfl (fun w' hm => ⟨y, trivial, rfl, ?_⟩)
    show Grows w _ [.pt bb (.cells (hashC T y ++ J).toArray E (0, 0)), y.ckO 5 (bs (restL T))] w'
    unfold hashC restL
    rw [e3, ← e2, ← e1]
    exact hm.grows [0, 1] ⟨rfl, rfl, trivial⟩ rfl

theorem Write_g (w : World) (bb : Nat) {E : TypeId} {J : List Value} {L : List (BitVec 8)} (x : Ow) {q : Option Addr} {m : Nat} (d : Nat) {LL : List Value} {ls : List (List (BitVec 8))} (h : w.heap[bb]? = some (.cells (hashC L x ++ J).toArray E (0, 0))) (ho : OwnO 5 x.p x.c (bs (restL L)) w) (hne : ∀ j, At x.p j → ¬ j = bb) (hp : ∀ j, At x.p j → j < w.heap.size)
    (hr : RdV w q LL) (hLL : LL.length = m) (hel : All2 (IsB Any w) LL ls) (hqd0 : 0 < m → ∀ b o, q = some ⟨b, o, none⟩ → ¬ (b = bb ∨ At x.p b)) (hSd : ∀ q m c, Value.slice q m c ∈ LL → 0 < m → ∀ j, At q j → ¬ (j = bb ∨ At x.p j)) (hm0 : m ≤ 9223372036854775807) (hsm : ∀ l ∈ ls, l.length ≤ 140737488355200) (hbig : L.length + ls.flatten.length ≤ 1152921504606846976) :
    Spec Try.prog 87 #[.pointer (some ⟨bb, 0, none⟩), .slice q m d] w (σ := Ow) (fun _ => True) (fun _ => .pointer (some ⟨bb, 0, none⟩)) (fun j => j = bb ∨ At x.p j) (fun y => [.pt bb (.cells (hashC (L ++ ls.flatten) y ++ J).toArray E (0, 0)), y.ckO 5 (bs (restL (L ++ ls.flatten)))]) := by
  refine enter Try.func87 rfl rfl (Mem.start2 (.pt bb (.cells (hashC L x ++ J).toArray E (0, 0))) (x.ckO 5 (bs (restL L))) h trivial (fun j hj => by rw [show j = bb from hj]; exact lt_of_some h) ho OwnO.loc hp (fun j h1 h2 => hne j h2 h1)) ?_
  have hlsl : ls.length = m := by rw [← hel.1, hLL]
  (repeat refine g_seq ?_)
  refine g_region ?_
  refine g_pu rfl rfl rfl (pu_assign rfl rfl) ?_
  refine g_nil ?_
  (repeat refine g_seq ?_)
  refine g_region ?_
  refine g_pu rfl rfl rfl (pu_move rfl rfl) ?_
  first | refine g_pu rfl rfl rfl (pu_len rfl rfl) ?_ | refine g_pu rfl rfl rfl (pu_lenS rfl rfl) ?_
  refine g_pu rfl rfl rfl (pu_move rfl rfl) ?_
  refine g_nil ?_
  refine g_block (g_loop2 (fun (i : Nat) (y : Ow) => [(0, .pointer (some ⟨bb, 0, none⟩)), (7, .slice q m d), (8, .int .i64 (m : Int)), (9, .int .i64 (i : Int))]) (fun i y => [(0, .pt bb (.cells (hashC (L ++ (ls.take i).flatten) y ++ J).toArray E (0, 0))), (1, y.ckO 5 (bs (restL (L ++ (ls.take i).flatten))))]) (fun i _ => i ≤ m) (fun i _ => m - i) 0 x ⟨rfl, rfl, rfl, rfl, trivial⟩ ⟨by simp; rfl, by simp; rfl, trivial⟩ (by omega) ?_)
  intro i y hi
  by_cases hlt : i < m
  · (repeat refine g_seq ?_)
    refine g_region ?_
    first | refine g_pu rfl rfl rfl (pu_lss_t rfl rfl rfl (by omega)) ?_ | refine g_pu rfl rfl rfl (pu_lss_f rfl rfl rfl (by omega)) ?_ | refine g_pu rfl rfl rfl (pu_lss rfl rfl rfl) ?_
    refine g_nil ?_
    (repeat refine g_seq ?_)
    refine g_cond_t rfl (g_skip ?_)
    obtain ⟨l, hl⟩ : ∃ l, ls[i]? = some l := ⟨_, List.getElem?_eq_getElem (by omega)⟩
    obtain ⟨v, hv⟩ : ∃ v, LL[i]? = some v := ⟨_, List.getElem?_eq_getElem (by omega)⟩
    obtain ⟨qi, mi, ci, rfl, hby, _⟩ := hel.2 i v l hv hl
    have hqd := hqd0 (by omega)
    have hft := flat_take hl
    have hfl := flat_le ls (i + 1)
    rw [hft, List.length_append, hby.len] at hfl
    (repeat refine g_seq ?_); refine g_block ?_
    (repeat refine g_seq ?_)
    refine g_region ?_
    refine g_pu rfl rfl rfl (pu_atM1 i (fun w' hm => hr.mem hm hqd) rfl rfl rfl rfl hlt (by omega)) ?_
    refine g_pu rfl rfl rfl (pu_rdM (fun w' hm => hr.mem hm hqd) rfl rfl hv) ?_
    refine g_pu rfl rfl rfl (pu_assign rfl rfl) ?_
    refine g_nil ?_
    by_cases hpos : 0 < mi
    · have hni := hSd qi mi ci (List.mem_of_getElem? hv) hpos
      have hbn : bs l ≠ [] := fun h3 => by
        have h4 : (bs l).length = 0 := by rw [h3]; rfl
        rw [bs_length, hby.len] at h4
        omega
      (repeat refine g_seq ?_)
      refine g_region ?_
      refine g_pu rfl rfl rfl (pu_move rfl rfl) ?_
      first | refine g_pu rfl rfl rfl (pu_len rfl rfl) ?_ | refine g_pu rfl rfl rfl (pu_lenS rfl rfl) ?_
      first | refine g_pu rfl rfl rfl (pu_gtr_t rfl rfl rfl (by omega)) ?_ | refine g_pu rfl rfl rfl (pu_gtr_f rfl rfl rfl (by omega)) ?_ | refine g_pu rfl rfl rfl (pu_gtr rfl rfl rfl) ?_
      refine g_nil ?_
      (repeat refine g_seq ?_)
      refine g_cond_t rfl ?_
      (repeat refine g_seq ?_)
      refine g_region ?_
      refine g_pu rfl rfl rfl (pu_move rfl rfl) ?_
      refine g_pu rfl rfl rfl (pu_nil rfl rfl) ?_
      refine g_pu rfl rfl rfl (pu_fieldAddr (by decide) rfl rfl) ?_
      refine g_pu rfl rfl rfl (pu_move rfl rfl) ?_
      refine g_callW [0, 1] [0, 1] rfl rfl rfl rfl rfl rfl (fun j hj => hj.elim (fun h => ⟨0, by simp, _, rfl, h⟩) (fun h => ⟨1, by simp, _, rfl, h⟩)) (fun w' hm => take_b w' bb y ci (hm.holds 0 _ rfl) (hm.holds 1 _ rfl) (fun j hj he => hm.apart 1 _ 0 _ rfl rfl (by decide) j hj he) (fun j hj => hm.below 1 _ rfl j hj) (hby.mD hm (fun b o e => hni b (by rw [e]; exact At.some.2 rfl))) (fun b o e hb => hb.elim (fun h1 => hni b (by rw [e]; exact At.some.2 rfl) (.inl h1)) (fun h1 => (hm.above 1 _ rfl b h1).elim (fun h2 => by have hb1 := hby.rd; rw [e] at hb1; exact absurd (hb1.lt hbn) (by omega)) (fun h2 => hni b (by rw [e]; exact At.some.2 rfl) h2))) hpos (by have := hsm l (List.mem_of_getElem? hl); have := hby.len; omega) (by rw [List.length_append]; omega)) (fun z _ => ?_)
      rw [List.append_assoc, ← hft]
      refine g_nil ?_
      refine g_blk ?_
      (repeat refine g_seq ?_)
      refine g_region ?_
      refine g_pu rfl rfl rfl (pu_addI rfl rfl rfl (by omega)) ?_
      refine g_pu rfl rfl rfl (pu_move rfl rfl) ?_
      refine g_nil ?_
      exact g_round2 (i + 1) z (by omega) (by omega) ⟨rfl, rfl, rfl, rfl, trivial⟩ ⟨rfl, rfl, trivial⟩
    · (repeat refine g_seq ?_)
      refine g_region ?_
      refine g_pu rfl rfl rfl (pu_move rfl rfl) ?_
      first | refine g_pu rfl rfl rfl (pu_len rfl rfl) ?_ | refine g_pu rfl rfl rfl (pu_lenS rfl rfl) ?_
      first | refine g_pu rfl rfl rfl (pu_gtr_t rfl rfl rfl (by omega)) ?_ | refine g_pu rfl rfl rfl (pu_gtr_f rfl rfl rfl (by omega)) ?_ | refine g_pu rfl rfl rfl (pu_gtr rfl rfl rfl) ?_
      refine g_nil ?_
      (repeat refine g_seq ?_)
      refine g_cond_f rfl (g_skip ?_)
      have hl0 : l = [] := List.eq_nil_of_length_eq_zero (by have := hby.len; omega)
      rw [hl0, List.append_nil] at hft
      rw [← hft]
      refine g_blk ?_
      (repeat refine g_seq ?_)
      refine g_region ?_
      refine g_pu rfl rfl rfl (pu_addI rfl rfl rfl (by omega)) ?_
      refine g_pu rfl rfl rfl (pu_move rfl rfl) ?_
      refine g_nil ?_
      exact g_round2 (i + 1) y (by omega) (by omega) ⟨rfl, rfl, rfl, rfl, trivial⟩ ⟨rfl, rfl, trivial⟩
  · (repeat refine g_seq ?_)
    refine g_region ?_
    first | refine g_pu rfl rfl rfl (pu_lss_t rfl rfl rfl (by omega)) ?_ | refine g_pu rfl rfl rfl (pu_lss_f rfl rfl rfl (by omega)) ?_ | refine g_pu rfl rfl rfl (pu_lss rfl rfl rfl) ?_
    refine g_nil ?_
    (repeat refine g_seq ?_)
    refine g_cond_f rfl (g_exit rfl ?_)
    (repeat refine g_seq ?_)
    refine g_region ?_
    refine g_pu rfl rfl rfl (pu_move rfl rfl) ?_
    refine g_pu rfl rfl rfl (pu_assign rfl rfl) ?_
    refine g_nil ?_
    have e1 : i = m := by omega
    subst e1
    rw [List.take_of_length_le (by omega)]
    exact g_ret1 rfl rfl (fun w' hm => ⟨y, trivial, rfl, hm.grows [0, 1] ⟨rfl, rfl, trivial⟩ rfl⟩)
theorem ShaNew_g (w : World) {q : Option Addr} {m : Nat} (d : Nat) {LL : List Value} {ls : List (List (BitVec 8))} (ha : ByL w q m LL ls) (hsm : ∀ l ∈ ls, l.length ≤ 140737488355200) (hbig : ls.flatten.length ≤ 1152921504606846976) :
    Spec Try.prog 106 #[.slice q m d] w (σ := Nat × Ow) (fun _ => True) (fun y => .pointer (some ⟨y.1, 0, none⟩)) Nob (fun y => [.pt y.1 (.cells (hashC ls.flatten y.2 ++ []).toArray 148 (0, 0)), y.2.ckO 5 (bs (restL ls.flatten))]) := by
  refine enter Try.func106 rfl rfl (Mem.start w) ?_
  have hlt1 : 0 < m → ∀ b o, q = some ⟨b, o, none⟩ → b < w.heap.size := fun h0 b o e => by
    have h1 := ha.rd
    rw [e] at h1
    exact h1.lt (fun h => by have h2 := ha.len; rw [h] at h2; simp at h2; omega)
  have hlt2 : ∀ q m c, Value.slice q m c ∈ LL → 0 < m → ∀ j, At q j → j < w.heap.size := fun q m c hv h0 j hj => by
    obtain ⟨i, hi⟩ := List.mem_iff_getElem?.1 hv
    obtain ⟨l, hl⟩ : ∃ l, ls[i]? = some l := ⟨_, List.getElem?_eq_getElem (by have := (List.getElem?_eq_some_iff.1 hi).1; have := ha.els.1; omega)⟩
    obtain ⟨q', m', c', he, hby, _⟩ := ha.els.2 i _ l hi hl
    cases he
    obtain ⟨b, o, e, _⟩ := hby.rd.place (by rw [bs_length, hby.len]; exact h0)
    rw [e] at hj
    obtain rfl := At.some.1 hj
    have h1 := hby.rd
    rw [e] at h1
    exact h1.lt (fun h => by have h4 : (bs l).length = 0 := by rw [h]; rfl
                             rw [bs_length, hby.len] at h4; omega)
  (repeat refine g_seq ?_)
  refine g_region ?_
  refine g_pu rfl rfl rfl (pu_assign rfl rfl) ?_
  refine g_nil ?_
  (repeat refine g_seq ?_)
  refine g_region ?_
  refine g_lo [3] rfl rfl rfl rfl (lo_alloc rfl) (fun b3 hb3 => ?_)
  refine g_pu rfl rfl rfl (pu_move rfl rfl) ?_
  refine g_nilO 103 5 rfl ?_
  refine g_callW [3, 103] [3, 103] rfl rfl rfl rfl rfl rfl (fun j hj => hj.elim (fun h => ⟨3, by simp, _, rfl, h⟩) (fun h => absurd h At.none)) (fun w' hm => Write_g w' b3 (L := []) (J := []) (ls := ls) ⟨none, 0⟩ d (hm.holds 3 _ rfl) (hm.holds 103 _ rfl) (fun j hj => absurd hj At.none) (fun j hj => absurd hj At.none) (ha.rd.mem0 hm) ha.len (ha.m hm).els (fun h0 b o e hb => hb.elim (fun h1 => by have := hlt1 h0 b o e; omega) (fun h1 => At.none h1)) (fun q m c hv h0 j hj hb => hb.elim (fun h1 => by have := hlt2 q m c hv h0 j hj; omega) (fun h1 => At.none h1)) (by have := ha.big; omega) hsm (by rw [List.length_nil]; omega)) (fun y _ => ?_)
  rw [List.nil_append]
  refine g_pu rfl rfl rfl (pu_assign rfl rfl) ?_
  refine g_nil ?_
  exact g_ret1 rfl rfl (fun w' hm => ⟨(b3, y), trivial, rfl, hm.grows [3, 103] ⟨rfl, rfl, trivial⟩ rfl⟩)
end Go.Sx

/-
  Sums: of a hash, of parts, and of the reference; a hash's twin. Conditions: all bytes together are at most 2^40.
-/
namespace Go.Sx
open Go Go.Proofs

/-- The bytes of the words, the highest first. -/
def sumB (st : List (BitVec 32)) : List (BitVec 8) := (List.range 32).map fun k => ((st.getD (k / 4) 0#32) >>> (24 - 8 * (k % 4))).setWidth 8
theorem sumB_length (st : List (BitVec 32)) : (sumB st).length = 32 := by simp [sumB]
theorem sumB_get {st : List (BitVec 32)} {k : Nat} (h : k < 32) : (sumB st)[k]? = some (((st.getD (k / 4) 0#32) >>> (24 - 8 * (k % 4))).setWidth 8) := by simp [sumB, h]
def shaW (L : List (BitVec 8)) : List (BitVec 8) := L ++ padB L.length
theorem shaW_length (L : List (BitVec 8)) : (shaW L).length = L.length + noughts L.length + 9 := by simp [shaW, padB_length]; omega
theorem shaW_mod (L : List (BitVec 8)) : (shaW L).length % 64 = 0 := by rw [shaW_length]; unfold noughts; omega
def shaL (L : List (BitVec 8)) : List (BitVec 8) := sumB (absN s0T (shaW L) ((shaW L).length / 64))
theorem shaL_length (L : List (BitVec 8)) : (shaL L).length = 32 := sumB_length _

theorem put4_bytes (x : BitVec 32) : putE 2 4 (x.setWidth 64) = 0 ∧ putL 2 4 (x.setWidth 64) = [(x >>> 24).setWidth 8, (x >>> 16).setWidth 8, (x >>> 8).setWidth 8, x.setWidth 8] := by
  have hz : (x.setWidth 64) >>> (8 * (4 : Int).toNat) = 0#64 := by
    apply BitVec.eq_of_getLsbD_eq
    intro i hi
    rw [BitVec.getLsbD_ushiftRight, BitVec.getLsbD_setWidth]
    simp [BitVec.getLsbD_of_ge x (8 * (4 : Int).toNat + i) (show 32 ≤ 8 * (4 : Int).toNat + i by show 32 ≤ 8 * 4 + i; omega)]
  have hE : putE 2 4 (x.setWidth 64) = 0 := by
    unfold putE
    rw [if_neg (fun h => h ⟨.inr rfl, by omega, by omega⟩), if_neg (fun h => h hz)]
  refine ⟨hE, ?_⟩
  have hs : ∀ k, k ≤ 24 → ((x.setWidth 64) >>> k).setWidth 8 = (x >>> k).setWidth 8 := by
    intro k hk
    apply BitVec.eq_of_getLsbD_eq
    intro i hi
    simp only [BitVec.getLsbD_setWidth, BitVec.getLsbD_ushiftRight]
    simp [hi, show k + i < 64 by omega]
  unfold putL
  rw [if_pos hE, if_pos rfl]
  show [((x.setWidth 64) >>> (8 * 3)).setWidth 8, ((x.setWidth 64) >>> (8 * 2)).setWidth 8, ((x.setWidth 64) >>> (8 * 1)).setWidth 8, ((x.setWidth 64) >>> (8 * 0)).setWidth 8] = _
  rw [hs _ (by omega), hs _ (by omega), hs _ (by omega), hs _ (by omega)]
  simp

/-- Some bytes more are filled in. -/
theorem fillW_put {α : Type} {z : α} {full S : List α} {a n : Nat} (hS : S = (full.drop a).take n) (h : a + n ≤ full.length) : (fillW z full a).take a ++ S ++ (fillW z full a).drop (a + n) = fillW z full (a + n) := by
  subst hS
  unfold fillW
  have e : (full.take a).drop (a + n) = [] := List.drop_eq_nil_of_le (by simp; omega)
  rw [List.take_append_of_le_length (by simp; omega), List.take_take, Nat.min_self, List.drop_append, e, List.length_take, List.nil_append, List.drop_replicate, List.take_add]
  congr 2
  omega
theorem sumB_seg (st : List (BitVec 32)) {i : Nat} (h : i < 8) : putL 2 4 ((st.getD i 0#32).setWidth 64) = ((sumB st).drop (4 * i)).take 4 := by
  rw [(put4_bytes _).2]
  apply List.ext_getElem?
  intro j
  rw [List.getElem?_take]
  by_cases hj : j < 4
  · rw [if_pos hj, List.getElem?_drop, sumB_get (by omega), show (4 * i + j) / 4 = i by omega, show (4 * i + j) % 4 = j by omega]
    match j, hj with
    | 0, _ => rfl
    | 1, _ => rfl
    | 2, _ => rfl
    | 3, _ => simp
  · rw [if_neg hj, List.getElem?_eq_none (by simp; omega)]

theorem Twin_b (w : World) (bb : Nat) {E : TypeId} {J : List Value} {L : List (BitVec 8)} (x : Ow) (h : w.heap[bb]? = some (.cells (hashC L x ++ J).toArray E (0, 0))) (ho : RdV w x.p (bs (restL L))) (hbig : L.length ≤ 1152921504606846976) :
    Spec Try.prog 103 #[.pointer (some ⟨bb, 0, none⟩)] w (σ := Nat × Ow) (fun _ => True) (fun y => .pointer (some ⟨y.1, 0, none⟩)) Nob (fun y => [.pt y.1 (.cells (hashC L y.2 ++ []).toArray 148 (0, 0)), y.2.ckO 5 (bs (restL L))]) := by
  refine enter Try.func103 rfl rfl (Mem.start w) ?_
  have hst := flowS_length L
  have hrl := restL_length L
  have hr : RdV w (some ⟨bb, 0, none⟩) (hashC L x ++ J) := RdV.row (J := []) (by rw [List.append_nil]; exact h)
  have hlen := flowC_len (p := x.p) (n := L.length % 64) (c := x.c) (z := L.length) (J := J) hst
  have h8 : (hashC L x ++ J)[8]? = some (.slice x.p (L.length % 64) x.c) := by
    have := flowC_8 (p := x.p) (n := L.length % 64) (c := x.c) (z := L.length) (J := J) hst
    rwa [List.getElem?_toArray] at this
  have h10 : ((hashC L x ++ J).drop 0).take 10 = hashC L x ++ [] := by
    rw [List.drop_zero, List.take_append_of_le_length (by show 10 ≤ (flowC _ _ _ _ _).length; rw [flowC_length hst]; omega), List.take_of_length_le (by show (flowC _ _ _ _ _).length ≤ 10; rw [flowC_length hst]; omega), List.append_nil]
  (repeat refine g_seq ?_)
  refine g_region ?_
  refine g_pu rfl rfl rfl (pu_assign rfl rfl) ?_
  refine g_nil ?_
  (repeat refine g_seq ?_)
  refine g_region ?_
  refine g_pu rfl rfl rfl (pu_move rfl rfl) ?_
  refine g_pu rfl rfl rfl (pu_nil rfl rfl) ?_
  refine g_pu rfl rfl rfl (pu_fieldAddr (by decide) rfl rfl) ?_
  refine g_pu rfl rfl rfl (pu_rdMA (j := 0) (s := 10) (fun w' hm => hr.mem0 hm) rfl rfl (by omega) (by show 0 + 10 ≤ (flowC _ _ _ _ _ ++ J).length; omega)) ?_
  rw [h10]
  refine g_pu rfl rfl rfl (pu_buildS (cs := hashC L x ++ []) rfl rfl ((fill_one (C := hashC L x ++ []) (s := 10) rfl (by rw [List.append_nil]; exact flowC_length hst) (by decide)).trans (by simp; exact Nat.le_refl 10))) ?_
  refine g_lo [9] rfl rfl rfl rfl (lo_box rfl rfl) (fun b9 hb9 => ?_)
  refine g_pu rfl rfl rfl (pu_assign rfl rfl) ?_
  refine g_nil ?_
  (repeat refine g_seq ?_)
  refine g_region ?_
  refine g_pu rfl rfl rfl (pu_move rfl rfl) ?_
  refine g_lo [11] rfl rfl rfl rfl (lo_buildSlice0 rfl) (fun b11 hb11 => ?_)
  refine g_own 11 (L := []) (J := []) (c := 0) (s := 1) rfl (by simp) (by omega) ?_
  refine g_pu rfl rfl rfl (pu_move rfl rfl) ?_
  refine g_pu rfl rfl rfl (pu_nil rfl rfl) ?_
  refine g_pu rfl rfl rfl (pu_fieldAddr (by decide) rfl rfl) ?_
  refine g_pu rfl rfl rfl (pu_fieldAddr (by decide) rfl rfl) ?_
  refine g_pu rfl rfl rfl (pu_rdM (j := 8) (fun w' hm => hr.mem0 hm) rfl rfl h8) ?_
  refine g_append1 11 (bs (restL L)) rfl rfl rfl rfl rfl rfl rfl rfl rfl (fun w' hm => ho.mem0 hm) (by rw [bs_length, hrl]) (oneCell_bs _) (by omega) (by omega) (fun p' c' => ?_)
  rw [Nat.zero_add, List.nil_append]
  refine g_pu rfl rfl rfl (pu_nil rfl rfl) ?_
  refine g_pu rfl rfl rfl (pu_fieldAddr (by decide) rfl rfl) ?_
  refine g_pu rfl rfl rfl (pu_fieldAddr (by decide) rfl rfl) ?_
  refine g_store 9 (v := .slice p' (L.length % 64) c') rfl rfl rfl rfl rfl rfl rfl (by show 0 + 8 < (flowC _ _ _ _ _ ++ []).length; rw [List.append_nil, flowC_length hst]; omega) ?_
  have hset : List.set (hashC L x ++ []) (0 + 8) (Value.slice p' (L.length % 64) c') = hashC L (⟨p', c'⟩ : Ow) ++ [] := flowC_set8 hst
  rw [hset]
  refine g_nil ?_
  (repeat refine g_seq ?_)
  refine g_region ?_
  refine g_pu rfl rfl rfl (pu_move rfl rfl) ?_
  refine g_pu rfl rfl rfl (pu_assign rfl rfl) ?_
  refine g_nil ?_
  refine g_toO 11 rfl ?_
  exact g_ret1 rfl rfl (fun w' hm => ⟨(b9, ⟨p', c'⟩), trivial, rfl, hm.grows [9, 11] ⟨rfl, rfl, trivial⟩ rfl⟩)

theorem HashSum_b (w : World) (bb : Nat) {E : TypeId} {J : List Value} {L : List (BitVec 8)} (x : Ow) (h : w.heap[bb]? = some (.cells (hashC L x ++ J).toArray E (0, 0))) (ho : RdV w x.p (bs (restL L))) (hbig : L.length ≤ 36028797018963968) :
    Spec Try.prog 88 #[.pointer (some ⟨bb, 0, none⟩)] w (σ := Unit) (fun _ => True) (fun _ => .agg (bs (shaL L)).toArray) Nob (fun _ => []) := by
  refine enter Try.func88 rfl rfl (Mem.start w) ?_
  have hr : RdV w (some ⟨bb, 0, none⟩) (hashC L x ++ J) := RdV.row (J := []) (by rw [List.append_nil]; exact h)
  have h9 : (hashC L x ++ J)[9]? = some (.int .i64 (L.length : Int)) := by
    have := flowC_9 (p := x.p) (n := L.length % 64) (c := x.c) (z := L.length) (J := J) (flowS_length L)
    rwa [List.getElem?_toArray] at this
  have hpl := padB_length L.length
  have hno := noughts_lt L.length
  have hsl := shaL_length L
  (repeat refine g_seq ?_)
  refine g_region ?_
  refine g_lo [2] rfl rfl rfl rfl (lo_alloc rfl) (fun b2 hb2 => ?_)
  refine g_nil ?_
  (repeat refine g_seq ?_)
  refine g_region ?_
  refine g_pu rfl rfl rfl (pu_move rfl rfl) ?_
  refine g_call [10, 110] rfl rfl rfl rfl rfl rfl (fun w' hm => Twin_b w' bb x (hm.oldC h (fun h => h)) (ho.mem0 hm) (by omega)) (fun x10 _ => ?_)
  refine g_pu rfl rfl rfl (pu_assign rfl rfl) ?_
  refine g_nil ?_
  (repeat refine g_seq ?_)
  refine g_any (8, [0, 1, 2]) ?_
  first | refine a_mv 0 rfl rfl rfl rfl (fun _ => (pu_move rfl rfl)) rfl rfl rfl (by kernel_rfl) (by kernel_rfl) (by kernel_rfl) rfl ?_
  first | refine a_mv 1 rfl rfl rfl rfl (fun _ => (pu_nil rfl rfl)) rfl rfl rfl (by kernel_rfl) (by kernel_rfl) (by kernel_rfl) rfl ?_
  first | refine a_mv 2 rfl rfl rfl rfl (fun _ => (pu_fieldAddr (by decide) rfl rfl)) rfl rfl rfl (by kernel_rfl) (by kernel_rfl) (by kernel_rfl) rfl ?_
  refine a_pu 3 rfl rfl rfl rfl (pu_move rfl rfl) rfl rfl (by kernel_rfl) ?_
  refine a_pu 4 rfl rfl rfl rfl (pu_nil rfl rfl) rfl rfl (by kernel_rfl) ?_
  refine a_pu 5 rfl rfl rfl rfl (pu_fieldAddr (by decide) rfl rfl) rfl rfl (by kernel_rfl) ?_
  refine a_pu 6 rfl rfl rfl rfl (pu_fieldAddr (by decide) rfl rfl) rfl rfl (by kernel_rfl) ?_
  refine a_pu 7 rfl rfl rfl rfl (pu_rdM (j := 9) (fun w' hm => hr.mem0 hm) rfl rfl h9) rfl rfl (by kernel_rfl) ?_
  refine a_tail [8, 9] (by kernel_rfl) rfl rfl (by kernel_rfl) ?_
  refine g_call [19] rfl rfl rfl rfl rfl rfl (fun w' hm => shapad_b w' L.length (by omega)) (fun x19 _ => ?_)
  refine g_callW [10, 110] [10, 110] rfl rfl rfl rfl rfl rfl (fun j hj => hj.elim (fun h => ⟨10, by simp, _, rfl, h⟩) (fun h => ⟨110, by simp, _, rfl, h⟩)) (fun w' hm => take_b w' x10.1 x10.2 _ (hm.holds 10 _ rfl) (hm.holds 110 _ rfl) (fun j hj he => hm.apart 110 _ 10 _ rfl rfl (by decide) j hj he) (fun j hj => hm.below 110 _ rfl j hj) (By.ow 19 rfl hm rfl (by omega)) (fun b o e hb => by have hx : At x19.p b := (by rw [e]; exact At.some.2 rfl); exact hb.elim (fun h1 => hm.apart 19 _ 10 _ rfl rfl (by decide) b hx h1) (fun h1 => hm.apart 19 _ 110 _ rfl rfl (by decide) b hx h1)) (by omega) (by omega) (by omega)) (fun y _ => ?_)
  refine g_nil ?_
  (repeat refine g_seq ?_)
  refine g_region ?_
  refine g_lo [4] rfl rfl rfl rfl (lo_alloc rfl) (fun b4 hb4 => ?_)
  refine g_nil ?_
  have hst := flowS_length (L ++ padB L.length)
  have hfs : flowS (L ++ padB L.length) = absN s0T (shaW L) ((shaW L).length / 64) := by
    unfold flowS
    rw [if_neg (by rw [List.length_append, hpl]; omega)]
    rfl
  (repeat refine g_seq ?_)
  refine g_region ?_
  refine g_pu rfl rfl rfl (pu_move rfl rfl) ?_
  refine g_pu rfl rfl rfl (pu_nil rfl rfl) ?_
  refine g_pu rfl rfl rfl (pu_fieldAddr (by decide) rfl rfl) ?_
  refine g_pu rfl rfl rfl (pu_fieldAddr (by decide) rfl rfl) ?_
  refine g_pu rfl rfl rfl (pu_loadES 10 rfl rfl rfl (by have := flowC_len (p := y.p) (n := (L ++ padB L.length).length % 64) (c := y.c) (z := (L ++ padB L.length).length) (J := []) hst; exact Nat.le_trans (by omega) this) (flowC_st hst)) ?_
  refine g_pu rfl rfl rfl (pu_move rfl rfl) ?_
  refine g_nil ?_
  rw [hfs] at hst ⊢
  unfold shaL at hsl ⊢
  generalize absN s0T (shaW L) ((shaW L).length / 64) = st at hst hsl
  refine g_block (g_loop (σ := Nat) (fun i => [(2, .pointer (some ⟨b2, 0, none⟩)), (4, .pointer (some ⟨b4, 0, none⟩)), (25, .agg (ws st).toArray), (26, .int .i64 (i : Int))]) (fun i => [(2, .pt b2 (.cells (bs (List.replicate 32 0#8)).toArray 43 (0, 0))), (4, .pt b4 (.cells (bs (fillW 0#8 (sumB st) (4 * i))).toArray 43 (0, 0)))]) (fun i => i ≤ 8) (fun i => 8 - i) 0 ⟨rfl, rfl, rfl, rfl, trivial⟩ ⟨rfl, by rw [show fillW 0#8 (sumB st) (4 * 0) = List.replicate 32 0#8 by simp [fillW, hsl]]; rfl, trivial⟩ (by omega) ?_)
  intro i hi
  by_cases hlt : i < 8
  · (repeat refine g_seq ?_)
    refine g_region ?_
    first | refine g_pu rfl rfl rfl (pu_lss_t rfl rfl rfl (by omega)) ?_ | refine g_pu rfl rfl rfl (pu_lss_f rfl rfl rfl (by omega)) ?_ | refine g_pu rfl rfl rfl (pu_lss rfl rfl rfl) ?_
    refine g_nil ?_
    (repeat refine g_seq ?_)
    refine g_cond_t rfl (g_skip ?_)
    have hg : st[i]? = some (st.getD i 0#32) := getD_some (by omega)
    have hp4 := put4_bytes (st.getD i 0#32)
    have hseg := sumB_seg st hlt
    have hl4 : (putL 2 4 ((st.getD i 0#32).setWidth 64)).length = 4 := by rw [hp4.2]; rfl
    (repeat refine g_seq ?_); refine g_block ?_
    (repeat refine g_seq ?_)
    refine g_region ?_
    refine g_pu rfl rfl rfl (pu_move rfl rfl) ?_
    refine g_pu rfl rfl rfl (pu_indexA i rfl rfl rfl rfl hlt (by rw [List.getElem?_toArray]; exact ws_get hg)) ?_
    refine g_pu rfl rfl rfl (pu_assign rfl rfl) ?_
    refine g_pu rfl rfl rfl (pu_assign rfl rfl) ?_
    refine g_nil ?_
    (repeat refine g_seq ?_)
    refine g_region ?_
    refine g_pu rfl rfl rfl (pu_move rfl rfl) ?_
    refine g_pu rfl rfl rfl (pu_conv32_64 rfl rfl) ?_
    refine g_call [33] rfl rfl rfl rfl rfl rfl (fun w' hm => Put_b w' 2 4 ((st.getD i 0#32).setWidth 64)) (fun x33 _ => ?_)
    rw [hl4, hp4.1]
    refine g_pu rfl rfl rfl (pu_move rfl rfl) ?_
    refine g_pu rfl rfl rfl (pu_extract rfl rfl rfl) ?_
    refine g_pu rfl rfl rfl (pu_extract rfl rfl rfl) ?_
    refine g_pu rfl rfl rfl (pu_assign rfl rfl) ?_
    refine g_pu rfl rfl rfl (pu_assign rfl rfl) ?_
    refine g_nil ?_
    (repeat refine g_seq ?_)
    refine g_region ?_
    refine g_pu rfl rfl rfl (pu_move rfl rfl) ?_
    refine g_pu rfl rfl rfl (pu_mulI rfl rfl rfl (by omega)) ?_
    refine g_pu rfl rfl rfl (pu_sliceA_l (4 * i) rfl rfl rfl (by omega) (by omega)) ?_
    rw [cutp_some b4 0 32 (4 * i) (by omega)]
    refine g_pu rfl rfl rfl (pu_move rfl rfl) ?_
    refine g_copyF 4 (bs (putL 2 4 ((st.getD i 0#32).setWidth 64))) rfl rfl rfl rfl rfl rfl rfl (fun w' hm => Ow.rd (t := 33) rfl hm) (by rw [bs_length, hl4]) (by rw [bs_length, fillW_length, hsl]; omega) (oneCell_bs _) ?_
    refine g_nil ?_
    have hrow : (bs (fillW 0#8 (sumB st) (4 * i))).take (0 + 4 * i) ++ (bs (putL 2 4 ((st.getD i 0#32).setWidth 64))).take (Nat.min 4 (32 - 4 * i)) ++ (bs (fillW 0#8 (sumB st) (4 * i))).drop (0 + 4 * i + Nat.min 4 (32 - 4 * i)) = bs (fillW 0#8 (sumB st) (4 * (i + 1))) := by
      rw [show Nat.min 4 (32 - 4 * i) = 4 from Nat.min_eq_left (by omega), Nat.zero_add, bs_take, bs_take, bs_drop, ← bs_append, ← bs_append, List.take_of_length_le (l := putL 2 4 _) (by omega), fillW_put hseg (by omega)]
      rfl
    rw [hrow]
    refine g_blk ?_
    (repeat refine g_seq ?_)
    refine g_region ?_
    refine g_pu rfl rfl rfl (pu_addI rfl rfl rfl (by omega)) ?_
    refine g_pu rfl rfl rfl (pu_move rfl rfl) ?_
    refine g_nil ?_
    exact g_round (i + 1) (by omega) (by omega) ⟨rfl, rfl, rfl, rfl, trivial⟩ ⟨rfl, rfl, trivial⟩
  · (repeat refine g_seq ?_)
    refine g_region ?_
    first | refine g_pu rfl rfl rfl (pu_lss_t rfl rfl rfl (by omega)) ?_ | refine g_pu rfl rfl rfl (pu_lss_f rfl rfl rfl (by omega)) ?_ | refine g_pu rfl rfl rfl (pu_lss rfl rfl rfl) ?_
    refine g_nil ?_
    (repeat refine g_seq ?_)
    refine g_cond_f rfl (g_exit rfl ?_)
    have e : i = 8 := by omega
    subst e
    have hf : fillW 0#8 (sumB st) (4 * 8) = sumB st := by have := fillW_end 0#8 (sumB st); rwa [hsl] at this
    rw [hf]
    (repeat refine g_seq ?_)
    refine g_region ?_
    refine g_pu rfl rfl rfl (pu_loadW 4 (L := bs (sumB st)) rfl rfl rfl (by rw [bs_length, hsl])) ?_
    refine g_storeL 2 (C := bs (sumB st)) rfl rfl rfl rfl rfl rfl (by rw [bs_length, hsl]) (by simp [bs]) (oneCell_bs _) ?_
    refine g_nil ?_
    exact g_retL 2 (L := bs (sumB st)) rfl (by rw [bs_length, hsl]) rfl rfl (fun w' hm => ⟨(), trivial, rfl, hm.grows [] trivial rfl⟩)

theorem ShaSum_g (w : World) {q : Option Addr} {m : Nat} (d : Nat) {LL : List Value} {ls : List (List (BitVec 8))} (ha : ByL w q m LL ls) (hsm : ∀ l ∈ ls, l.length ≤ 140737488355200) (hbig : ls.flatten.length ≤ 36028797018963968) :
    Spec Try.prog 89 #[.slice q m d] w (σ := Unit) (fun _ => True) (fun _ => .agg (bs (shaL ls.flatten)).toArray) Nob (fun _ => []) := by
  refine enter Try.func89 rfl rfl (Mem.start w) ?_
  have hsl := shaL_length ls.flatten
  (repeat refine g_seq ?_)
  refine g_region ?_
  refine g_lo [2] rfl rfl rfl rfl (lo_alloc rfl) (fun b2 hb2 => ?_)
  refine g_nil ?_
  (repeat refine g_seq ?_)
  refine g_region ?_
  refine g_pu rfl rfl rfl (pu_move rfl rfl) ?_
  refine g_call [4, 104] rfl rfl rfl rfl rfl rfl (fun w' hm => ShaNew_g w' d (ha.m hm) hsm (by omega)) (fun x4 _ => ?_)
  refine g_call [] rfl rfl rfl rfl rfl rfl (fun w' hm => HashSum_b w' x4.1 x4.2 (hm.holds 4 _ rfl) (OwnO.rd (hm.holds 104 _ rfl)) hbig) (fun _ _ => ?_)
  refine g_storeL 2 (C := bs (shaL ls.flatten)) rfl rfl rfl rfl rfl rfl (by rw [bs_length, hsl]) (by simp) (oneCell_bs _) ?_
  refine g_nil ?_
  exact g_retL 2 (L := bs (shaL ls.flatten)) rfl (by rw [bs_length, hsl]) rfl rfl (fun w' hm => ⟨(), trivial, rfl, hm.grows [] trivial rfl⟩)
theorem ShaSum_b (w : World) {q : Option Addr} {m : Nat} (d : Nat) {LL : List Value} {ls : List (List (BitVec 8))} (ha : ByL w q m LL ls) (hbig : ls.flatten.length ≤ 549755813888) :
    Spec Try.prog 89 #[.slice q m d] w (σ := Unit) (fun _ => True) (fun _ => .agg (bs (shaL ls.flatten)).toArray) Nob (fun _ => []) :=
  ShaSum_g w d ha (fun l hl => by have := mem_flat hl; omega) (by omega)

theorem RSum_b (w : World) {q : Option Addr} {m : Nat} (d : Nat) {L : List (BitVec 8)} (ha : By w q m L) (hbig : m ≤ 140737488355200) :
    Spec Try.prog 53 #[.slice q m d] w (σ := Unit) (fun _ => True) (fun _ => .agg (bs (shaL L)).toArray) Nob (fun _ => []) := by
  refine enter Try.func53 rfl rfl (Mem.start w) ?_
  have hn := ha.len
  have hpl := padB_length m
  have hno := noughts_lt m
  have hsl := shaL_length L
  have hmod := shaW_mod L
  have hwl := shaW_length L
  have hal : ∀ T k, (absN s0T T k).length = 8 := fun T k => absN_length s0T_length T k
  (repeat refine g_seq ?_)
  refine g_region ?_
  refine g_lo [2] rfl rfl rfl rfl (lo_alloc rfl) (fun b2 hb2 => ?_)
  refine g_nil ?_
  (repeat refine g_seq ?_)
  refine g_region ?_
  refine g_pu rfl rfl rfl (pu_move rfl rfl) ?_
  refine g_call [9] rfl rfl rfl rfl rfl rfl (fun w' hm => Copy_b w' d (ha.m hm)) (fun x9 _ => ?_)
  refine g_pu rfl rfl rfl (pu_move rfl rfl) ?_
  first | refine g_pu rfl rfl rfl (pu_len rfl rfl) ?_ | refine g_pu rfl rfl rfl (pu_lenS rfl rfl) ?_
  refine g_call [12] rfl rfl rfl rfl rfl rfl (fun w' hm => padding_b w' m (by omega)) (fun x12 _ => ?_)
  refine g_append1 9 (bs (padB m)) rfl rfl rfl rfl rfl rfl rfl rfl (by rw [bs_length, hn]) (fun w' hm => Ow.rd (t := 12) rfl hm) (by rw [bs_length]) (oneCell_bs _) (by omega) (by omega) (fun p' c' => ?_)
  refine g_pu rfl rfl rfl (pu_assign rfl rfl) ?_
  refine g_nil ?_
  have hT : bs L ++ bs (padB m) = bs (shaW L) := by rw [← bs_append, ← hn]; rfl
  rw [hT, hpl]
  have hTl : m + (noughts m + 9) = (shaW L).length := by rw [hwl, hn]; omega
  rw [hTl]
  rw [hn] at hwl
  refine g_know (φ := (shaW L).length ≤ c') (fun w' hm => by have := Own.le (hm.holds 9 _ rfl); rwa [bs_length] at this) (fun hxc => ?_)
  (repeat refine g_seq ?_)
  refine g_region ?_
  refine g_call [] rfl rfl rfl rfl rfl rfl (fun w' hm => First_b w') (fun _ _ => ?_)
  refine g_lo [4] rfl rfl rfl rfl (lo_alloc rfl) (fun b4 hb4 => ?_)
  refine g_storeL 4 (C := ws s0T) rfl rfl rfl rfl rfl rfl rfl rfl (oneCell_ws _) ?_
  refine g_nil ?_
  (repeat refine g_seq ?_)
  refine g_region ?_
  refine g_pu rfl rfl rfl (pu_assign rfl rfl) ?_
  refine g_nil ?_
  unfold shaL at hsl ⊢
  generalize hTT : shaW L = T at hmod hwl hxc hsl
  (repeat refine g_seq ?_)
  refine g_block (g_loop (σ := Nat) (fun k => [(2, .pointer (some ⟨b2, 0, none⟩)), (3, .slice p' T.length c'), (4, .pointer (some ⟨b4, 0, none⟩)), (5, .int .i64 ((64 * k : Nat) : Int))]) (fun k => [(2, .pt b2 (.cells (bs (List.replicate 32 0#8)).toArray 43 (0, 0))), (4, .pt b4 (.cells (ws (absN s0T T k)).toArray 103 (0, 0))), (9, .fact (At p') (Own 5 1 p' c' (bs T)))]) (fun k => 64 * k ≤ T.length) (fun k => T.length - 64 * k) 0 ⟨rfl, rfl, rfl, rfl, trivial⟩ ⟨rfl, rfl, rfl, trivial⟩ (by omega) ?_)
  intro k hk
  have hdl : (T.drop (64 * k)).length = T.length - 64 * k := by rw [List.length_drop]
  by_cases hlt : 64 * k < T.length
  · (repeat refine g_seq ?_)
    refine g_region ?_
    refine g_pu rfl rfl rfl (pu_move rfl rfl) ?_
    refine g_pu rfl rfl rfl (pu_move rfl rfl) ?_
    first | refine g_pu rfl rfl rfl (pu_len rfl rfl) ?_ | refine g_pu rfl rfl rfl (pu_lenS rfl rfl) ?_
    first | refine g_pu rfl rfl rfl (pu_lss_t rfl rfl rfl (by omega)) ?_ | refine g_pu rfl rfl rfl (pu_lss_f rfl rfl rfl (by omega)) ?_ | refine g_pu rfl rfl rfl (pu_lss rfl rfl rfl) ?_
    refine g_nil ?_
    (repeat refine g_seq ?_)
    refine g_cond_t rfl (g_skip ?_)
    (repeat refine g_seq ?_); refine g_block ?_
    (repeat refine g_seq ?_)
    refine g_any (6, []) ?_
    refine a_pu 0 rfl rfl rfl rfl (pu_loadW 4 (L := ws (absN s0T T k)) rfl rfl rfl (by rw [ws_length, hal])) rfl rfl (by kernel_rfl) ?_
    refine a_pu 1 rfl rfl rfl rfl (pu_move rfl rfl) rfl rfl (by kernel_rfl) ?_
    refine a_pu 2 rfl rfl rfl rfl (pu_move rfl rfl) rfl rfl (by kernel_rfl) ?_
    refine a_pu 3 rfl rfl rfl rfl (pu_move rfl rfl) rfl rfl (by kernel_rfl) ?_
    refine a_pu 4 rfl rfl rfl rfl (pu_addI rfl rfl rfl (by omega)) rfl rfl (by kernel_rfl) ?_
    refine a_pu 5 rfl rfl rfl rfl (pu_slice_lh (64 * k) (64 * k + 64) rfl rfl rfl rfl rfl (by omega) (by omega) (by omega)) rfl rfl (by kernel_rfl) ?_
    rw [show 64 * k + 64 - 64 * k = 64 by omega]
    refine a_tail [6, 7] (by kernel_rfl) rfl rfl (by kernel_rfl) ?_
    refine g_call [] rfl rfl rfl rfl rfl rfl (fun w' hm => RCompress_b w' _ (s := absN s0T T k) (l := (T.drop (64 * k)).take 64) ⟨by have h1 : RdV w' p' (bs T) := Own.rd (hm.holds 9 _ rfl); have h2 := (h1.cut (l := 64 * k) (c := c') (by rw [bs_length]; exact hxc)).fst (n := 64); rwa [bs_drop, bs_take] at h2, by rw [List.length_take, hdl]; omega, by omega⟩ (hal T k)) (fun _ _ => ?_)
    refine g_storeL 4 (C := ws (absN s0T T (k + 1))) rfl rfl rfl rfl rfl rfl (by rw [ws_length, hal]) (by rw [ws_length, hal]) (oneCell_ws _) ?_
    refine g_nil ?_
    refine g_blk ?_
    (repeat refine g_seq ?_)
    refine g_region ?_
    refine g_pu rfl rfl rfl (pu_move rfl rfl) ?_
    refine g_pu rfl rfl rfl (pu_addI rfl rfl rfl (by omega)) ?_
    refine g_pu rfl rfl rfl (pu_assign rfl rfl) ?_
    refine g_nil ?_
    exact g_round (k + 1) (by omega) (by omega) ⟨rfl, rfl, rfl, congrArg (fun z => some (Value.int .i64 z)) (by omega), trivial⟩ ⟨rfl, rfl, rfl, trivial⟩
  · (repeat refine g_seq ?_)
    refine g_region ?_
    refine g_pu rfl rfl rfl (pu_move rfl rfl) ?_
    refine g_pu rfl rfl rfl (pu_move rfl rfl) ?_
    first | refine g_pu rfl rfl rfl (pu_len rfl rfl) ?_ | refine g_pu rfl rfl rfl (pu_lenS rfl rfl) ?_
    first | refine g_pu rfl rfl rfl (pu_lss_t rfl rfl rfl (by omega)) ?_ | refine g_pu rfl rfl rfl (pu_lss_f rfl rfl rfl (by omega)) ?_ | refine g_pu rfl rfl rfl (pu_lss rfl rfl rfl) ?_
    refine g_nil ?_
    (repeat refine g_seq ?_)
    refine g_cond_f rfl (g_exit rfl ?_)
    have hst := hal T (T.length / 64)
    have e1 : k = T.length / 64 := by omega
    rw [← e1] at hst hsl ⊢
    generalize absN s0T T k = st at hst hsl
    (repeat refine g_seq ?_)
    refine g_region ?_
    refine g_lo [6] rfl rfl rfl rfl (lo_alloc rfl) (fun b6 hb6 => ?_)
    refine g_nil ?_
    (repeat refine g_seq ?_)
    refine g_region ?_
    refine g_pu rfl rfl rfl (pu_assign rfl rfl) ?_
    refine g_nil ?_
    (repeat refine g_seq ?_)
    refine g_block (g_loop (σ := Nat) (fun i => [(2, .pointer (some ⟨b2, 0, none⟩)), (4, .pointer (some ⟨b4, 0, none⟩)), (6, .pointer (some ⟨b6, 0, none⟩)), (7, .int .i64 (i : Int))]) (fun i => [(2, .pt b2 (.cells (bs (List.replicate 32 0#8)).toArray 43 (0, 0))), (4, .pt b4 (.cells (ws st).toArray 103 (0, 0))), (6, .pt b6 (.cells (bs (fillW 0#8 (sumB st) i)).toArray 43 (0, 0)))]) (fun i => i ≤ 32) (fun i => 32 - i) 0 ⟨rfl, rfl, rfl, rfl, trivial⟩ ⟨rfl, rfl, by rw [show fillW 0#8 (sumB st) 0 = List.replicate 32 0#8 by simp [fillW, hsl]]; rfl, trivial⟩ (by omega) ?_)
    intro i hi
    by_cases hlt : i < 32
    · (repeat refine g_seq ?_)
      refine g_region ?_
      refine g_pu rfl rfl rfl (pu_move rfl rfl) ?_
      first | refine g_pu rfl rfl rfl (pu_lss_t rfl rfl rfl (by omega)) ?_ | refine g_pu rfl rfl rfl (pu_lss_f rfl rfl rfl (by omega)) ?_ | refine g_pu rfl rfl rfl (pu_lss rfl rfl rfl) ?_
      refine g_nil ?_
      (repeat refine g_seq ?_)
      refine g_cond_t rfl (g_skip ?_)
      have hg : st[i / 4]? = some (st.getD (i / 4) 0#32) := getD_some (by omega)
      have hsg := sumB_get (st := st) hlt
      (repeat refine g_seq ?_); refine g_block ?_
      (repeat refine g_seq ?_)
      refine g_region ?_
      refine g_pu rfl rfl rfl (pu_move rfl rfl) ?_
      refine g_pu rfl rfl rfl (pu_move rfl rfl) ?_
      refine g_pu rfl rfl rfl (pu_quoI rfl rfl rfl (by omega)) ?_
      refine g_pu rfl rfl rfl (pu_atA1 (i / 4) rfl rfl rfl (by omega) (by omega)) ?_
      refine g_pu rfl rfl rfl (pu_load 4 rfl rfl rfl (ws_load hg)) ?_
      refine g_pu rfl rfl rfl (pu_move rfl rfl) ?_
      refine g_pu rfl rfl rfl (pu_remI rfl rfl rfl (by omega)) ?_
      refine g_pu rfl rfl rfl (pu_mulI rfl rfl rfl (by omega)) ?_
      refine g_pu rfl rfl rfl (pu_subI rfl rfl rfl (by omega)) ?_
      refine g_pu rfl rfl rfl (pu_shr32 rfl rfl rfl (by omega)) ?_
      refine g_pu rfl rfl rfl (pu_conv32_8 rfl rfl) ?_
      refine g_pu rfl rfl rfl (pu_atA1 i rfl rfl rfl rfl (by omega)) ?_
      refine g_store 6 (v := b8 (((st.getD (i / 4) 0#32) >>> (24 - 8 * (i % 4))).setWidth 8)) rfl rfl rfl rfl (by rw [show ((24 : Int) - 8 * ((i : Int) % 4)).toNat = 24 - 8 * (i % 4) by omega]; rfl) rfl rfl (by rw [bs_length, fillW_length, hsl]; omega) ?_
      rw [bs_setW, fillW_set hsg]
      refine g_nil ?_
      refine g_blk ?_
      (repeat refine g_seq ?_)
      refine g_region ?_
      refine g_pu rfl rfl rfl (pu_move rfl rfl) ?_
      refine g_pu rfl rfl rfl (pu_addI rfl rfl rfl (by omega)) ?_
      refine g_pu rfl rfl rfl (pu_assign rfl rfl) ?_
      refine g_nil ?_
      exact g_round (i + 1) (by omega) (by omega) ⟨rfl, rfl, rfl, rfl, trivial⟩ ⟨rfl, rfl, rfl, trivial⟩
    · (repeat refine g_seq ?_)
      refine g_region ?_
      refine g_pu rfl rfl rfl (pu_move rfl rfl) ?_
      first | refine g_pu rfl rfl rfl (pu_lss_t rfl rfl rfl (by omega)) ?_ | refine g_pu rfl rfl rfl (pu_lss_f rfl rfl rfl (by omega)) ?_ | refine g_pu rfl rfl rfl (pu_lss rfl rfl rfl) ?_
      refine g_nil ?_
      (repeat refine g_seq ?_)
      refine g_cond_f rfl (g_exit rfl ?_)
      have e : i = 32 := by omega
      subst e
      have hf : fillW 0#8 (sumB st) 32 = sumB st := by have := fillW_end 0#8 (sumB st); rwa [hsl] at this
      rw [hf]
      (repeat refine g_seq ?_)
      refine g_region ?_
      refine g_pu rfl rfl rfl (pu_loadW 6 (L := bs (sumB st)) rfl rfl rfl (by rw [bs_length, hsl])) ?_
      refine g_storeL 2 (C := bs (sumB st)) rfl rfl rfl rfl rfl rfl (by rw [bs_length, hsl]) (by simp [bs]) (oneCell_bs _) ?_
      refine g_nil ?_
      exact g_retL 2 (L := bs (sumB st)) rfl (by rw [bs_length, hsl]) rfl rfl (fun w' hm => ⟨(), trivial, rfl, hm.grows [] trivial rfl⟩)
end Go.Sx

/-
  The bytes of a command, of the program; the fixed fact of the layer. The mark has 16 bytes.
-/
import Derived.Test.YtbnfocnhmpegjaaCM1
import Derived.Test.YtbnfocnhmpegjaaC8
import Derived.Test.YtbnfocnhmpegjaaC10
set_option linter.unusedVariables false
set_option linter.unusedSimpArgs false
namespace Go.Sx
open Go Go.Proofs

theorem putL_len {z : Nat} {n : BitVec 64} (h : putE 2 (z : Int) n = 0) : (putL 2 (z : Int) n).length = z := by
  unfold putL
  rw [if_pos h, if_pos rfl, List.length_reverse, putW_length]
  rfl
theorem putE_4 (d : BitVec 32) : putE 2 4 (d.setWidth 64) = 0 := by
  have h : (d.setWidth 64) >>> (8 * (4 : Int).toNat) = 0#64 := by
    apply BitVec.eq_of_toNat_eq
    have := d.isLt
    simp [BitVec.toNat_ushiftRight, Nat.shiftRight_eq_div_pow]
    omega
  unfold putE
  rw [if_neg (by decide), if_neg (by rw [h]; simp)]
theorem putE_8 (n : BitVec 64) : putE 2 8 n = 0 := by
  have h : n >>> (8 * (8 : Int).toNat) = 0#64 := by
    apply BitVec.eq_of_toNat_eq
    have := n.isLt
    simp [BitVec.toNat_ushiftRight, Nat.shiftRight_eq_div_pow]
    omega
  unfold putE
  rw [if_neg (by decide), if_neg (by rw [h]; simp)]
theorem put4_len (d : BitVec 32) : (putL 2 4 (d.setWidth 64)).length = 4 := putL_len (z := 4) (putE_4 d)
theorem put8_len (n : BitVec 64) : (putL 2 8 n).length = 8 := putL_len (z := 8) (putE_8 n)
def encP (x : Cmd) : List (List (BitVec 8)) := [[x.k, x.f], putL 2 4 (x.d.setWidth 64), putL 2 8 x.n, x.m, [0#8, 0#8]]
def encL (x : Cmd) : List (BitVec 8) := (encP x).flatten
theorem encL_length {x : Cmd} (h : x.m.length = 16) : (encL x).length = 32 := by
  simp [encL, encP, put4_len, put8_len, h]
theorem By.mark {w : World} {b : Nat} {E : TypeId} {fz : Nat × Nat} {x : Cmd} (h : w.heap[b]? = some (.cells (cmdC x).toArray E fz)) (h16 : x.m.length = 16) : By w (some ⟨b, 0 + 4, none⟩) 16 x.m := by
  have h0 : RdV w (some ⟨b, 0, none⟩) (cmdC x) := RdV.row (J := []) (by rw [List.append_nil]; exact h)
  have h1 := h0.cut (c := 20) (l := 4) (by rw [cmdC_length h16]; omega)
  exact ⟨h1, h16, by omega⟩

theorem Encode_e (w : World) (x : Cmd) (h16 : x.m.length = 16) (he : chkE x ≠ 0) : Spec Try.prog 16 #[.agg (cmdC x).toArray] w (σ := Unit) (fun _ => True) (fun _ => .tuple #[.slice none 0 0, .int .i64 (chkE x)]) Nob (fun _ => []) := by
  refine enter Try.func16 rfl rfl (Mem.start w) ?_
  have hcl := cmdC_length h16
  (repeat refine g_seq ?_)
  refine g_region ?_
  refine g_lo [1] rfl rfl rfl rfl (lo_box rfl rfl) (fun b1 hb1 => ?_)
  refine g_pu rfl rfl rfl (pu_assign rfl rfl) ?_
  refine g_pu rfl rfl rfl (pu_assign rfl rfl) ?_
  refine g_nil ?_
  (repeat refine g_seq ?_)
  refine g_region ?_
  refine g_pu rfl rfl rfl (pu_loadW 1 (L := cmdC x) rfl rfl rfl hcl) ?_
  refine g_call [] rfl rfl rfl rfl rfl rfl (fun w' hm => Check_b w' x h16) (fun _ _ => ?_)
  refine g_pu rfl rfl rfl (pu_assign rfl rfl) ?_
  refine g_nil ?_
  (repeat refine g_seq ?_)
  refine g_region ?_
  refine g_pu rfl rfl rfl (pu_move rfl rfl) ?_
  refine g_pu rfl rfl rfl (pu_neq_t rfl rfl rfl (by omega)) ?_
  refine g_nil ?_
  (repeat refine g_seq ?_)
  refine g_cond_t rfl ?_
  (repeat refine g_seq ?_)
  refine g_region ?_
  refine g_pu rfl rfl rfl (pu_move rfl rfl) ?_
  refine g_pu rfl rfl rfl (pu_assign rfl rfl) ?_
  refine g_pu rfl rfl rfl (pu_assign rfl rfl) ?_
  refine g_nil ?_
  exact g_ret2 rfl rfl rfl (fun w' hm => ⟨(), trivial, rfl, hm.grows [] trivial rfl⟩)

theorem Encode_b (w : World) (x : Cmd) (h16 : x.m.length = 16) (he : chkE x = 0) : Spec Try.prog 16 #[.agg (cmdC x).toArray] w (σ := Ow) (fun _ => True) (fun y => .tuple #[y.sl 32, .int .i64 0]) Nob (fun y => [y.ck 5 1 (bs (encL x))]) := by
  refine enter Try.func16 rfl rfl (Mem.start w) ?_
  have hcl := cmdC_length h16
  have hel := encL_length h16
  have h4 := put4_len x.d
  have h8 := put8_len x.n
  (repeat refine g_seq ?_)
  refine g_region ?_
  refine g_lo [1] rfl rfl rfl rfl (lo_box rfl rfl) (fun b1 hb1 => ?_)
  refine g_pu rfl rfl rfl (pu_assign rfl rfl) ?_
  refine g_pu rfl rfl rfl (pu_assign rfl rfl) ?_
  refine g_nil ?_
  (repeat refine g_seq ?_)
  refine g_region ?_
  refine g_pu rfl rfl rfl (pu_loadW 1 (L := cmdC x) rfl rfl rfl hcl) ?_
  refine g_call [] rfl rfl rfl rfl rfl rfl (fun w' hm => Check_b w' x h16) (fun _ _ => ?_)
  rw [he]
  refine g_pu rfl rfl rfl (pu_assign rfl rfl) ?_
  refine g_nil ?_
  (repeat refine g_seq ?_)
  refine g_region ?_
  refine g_pu rfl rfl rfl (pu_move rfl rfl) ?_
  refine g_pu rfl rfl rfl (pu_neq_f rfl rfl rfl (by omega)) ?_
  refine g_nil ?_
  (repeat refine g_seq ?_)
  refine g_cond_f rfl (g_skip ?_)
  (repeat refine g_seq ?_)
  refine g_region ?_
  refine g_pu rfl rfl rfl (pu_fieldAddr (by decide) rfl rfl) ?_
  refine g_pu rfl rfl rfl (pu_load 1 rfl rfl rfl rfl) ?_
  refine g_pu rfl rfl rfl (pu_conv32_64 rfl rfl) ?_
  refine g_call [18] rfl rfl rfl rfl rfl rfl (fun w' hm => Put_b w' 2 4 (x.d.setWidth 64)) (fun x18 _ => ?_)
  rw [h4]
  refine g_pu rfl rfl rfl (pu_move rfl rfl) ?_
  refine g_pu rfl rfl rfl (pu_extract rfl rfl rfl) ?_
  refine g_pu rfl rfl rfl (pu_extract rfl rfl rfl) ?_
  refine g_pu rfl rfl rfl (pu_assign rfl rfl) ?_
  refine g_pu rfl rfl rfl (pu_assign rfl rfl) ?_
  refine g_nil ?_
  (repeat refine g_seq ?_)
  refine g_region ?_
  refine g_pu rfl rfl rfl (pu_fieldAddr (by decide) rfl rfl) ?_
  refine g_pu rfl rfl rfl (pu_load 1 rfl rfl rfl rfl) ?_
  refine g_call [24] rfl rfl rfl rfl rfl rfl (fun w' hm => Put_b w' 2 8 x.n) (fun x24 _ => ?_)
  rw [h8]
  refine g_pu rfl rfl rfl (pu_move rfl rfl) ?_
  refine g_pu rfl rfl rfl (pu_extract rfl rfl rfl) ?_
  refine g_pu rfl rfl rfl (pu_extract rfl rfl rfl) ?_
  refine g_pu rfl rfl rfl (pu_assign rfl rfl) ?_
  refine g_pu rfl rfl rfl (pu_assign rfl rfl) ?_
  refine g_nil ?_
  (repeat refine g_seq ?_)
  refine g_any (10, []) ?_
  refine a_pu 0 rfl rfl rfl rfl (pu_fieldAddr (by decide) rfl rfl) rfl rfl (by kernel_rfl) ?_
  refine a_pu 1 rfl rfl rfl rfl (pu_load 1 rfl rfl rfl rfl) rfl rfl (by kernel_rfl) ?_
  refine a_pu 2 rfl rfl rfl rfl (pu_fieldAddr (by decide) rfl rfl) rfl rfl (by kernel_rfl) ?_
  refine a_pu 3 rfl rfl rfl rfl (pu_load 1 rfl rfl rfl rfl) rfl rfl (by kernel_rfl) ?_
  refine a_pu 5 rfl rfl rfl rfl (pu_move rfl rfl) rfl rfl (by kernel_rfl) ?_
  refine a_pu 6 rfl rfl rfl rfl (pu_move rfl rfl) rfl rfl (by kernel_rfl) ?_
  refine a_pu 7 rfl rfl rfl rfl (pu_fieldAddr (by decide) rfl rfl) rfl rfl (by kernel_rfl) ?_
  refine a_pu 8 rfl rfl rfl rfl (pu_sliceA rfl rfl) rfl rfl (by kernel_rfl) ?_
  refine a_pendB 9 36 36 2 5 [Value.int .u8 0, Value.int .u8 0] ?_
  refine a_do 4 31 [31] (does_lo rfl rfl rfl (lo_buildSlice rfl rfl (by decide) (by decide) rfl rfl)) rfl rfl (by kernel_rfl) rfl rfl (by kernel_rfl) (by kernel_rfl) (by kernel_rfl) rfl (fun p hp => by simp only [List.mem_cons, List.not_mem_nil, or_false] at hp; subst hp; first | exact does_PA rfl rfl rfl rfl | exact does_PB rfl rfl rfl rfl rfl (by decide) (by decide) rfl rfl) ?_; rintro v_ cs_ ⟨b31, hb31, rfl, rfl⟩
  refine a_force _ (by kernel_rfl) rfl rfl rfl (by kernel_rfl) (by kernel_rfl) (by kernel_rfl) rfl (fun p hp => by simp only [List.mem_cons, List.not_mem_nil, or_false] at hp; subst hp; first | exact does_PA rfl rfl rfl rfl | exact does_PB rfl rfl rfl rfl rfl (by decide) (by decide) rfl rfl) ?_; rintro v_ cs_ ⟨b36, hb36, rfl, rfl⟩
  refine a_tail [10, 11, 12, 13] (by kernel_rfl) rfl rfl (by kernel_rfl) ?_
  refine g_lo [37] rfl rfl rfl rfl (lo_buildSlice rfl rfl (by decide) (by decide) rfl rfl) (fun b37 hb37 => ?_)
  refine g_call [38] rfl rfl rfl rfl rfl rfl (fun w' hm => Join_b w' 5 (L := [.slice (some ⟨b31, 0, none⟩) 2 2, x18.sl 4, x24.sl 8, .slice (some ⟨b1, 0 + 4, none⟩) 16 16, .slice (some ⟨b36, 0, none⟩) 2 2]) (ls := encP x) ⟨hm.rowA 37 rfl, rfl, All2.cons (IsB.full 31 rfl hm rfl (by omega)) (All2.cons (IsB.own 18 rfl hm h4 (by omega)) (All2.cons (IsB.own 24 rfl hm h8 (by omega)) (All2.cons ⟨_, _, _, rfl, By.mark (hm.holds 1 _ rfl) h16, fun _ _ => trivial⟩ (All2.cons (IsB.full 36 rfl hm rfl (by omega)) All2.nil)))), by omega⟩ (by omega) (by rw [show (encP x).flatten = encL x from rfl, hel]; omega)) (fun x38 _ => ?_)
  rw [show (encP x).flatten = encL x from rfl, hel]
  refine g_pu rfl rfl rfl (pu_assign rfl rfl) ?_
  refine g_pu rfl rfl rfl (pu_assign rfl rfl) ?_
  refine g_nil ?_
  exact g_ret2 rfl rfl rfl (fun w' hm => ⟨x38, trivial, rfl, hm.grows [38] ⟨rfl, trivial⟩ rfl⟩)

theorem awake10_b (w : World) : Spec Try.prog 8 #[] w (σ := Unit) (fun _ => True) (fun _ => .bool true) Nob (fun _ => []) := by
  refine enter Try.func8 rfl rfl (Mem.start w) ?_
  have hel := encL_length (x := ⟨1#8, 7#8, 258#32, 5#64, zero16⟩) rfl
  (repeat refine g_seq ?_)
  refine g_region ?_
  refine g_pu rfl rfl rfl (pu_assign rfl rfl) ?_
  refine g_nil ?_
  (repeat refine g_seq ?_)
  refine g_region ?_
  refine g_pu rfl rfl rfl (pu_buildS rfl rfl rfl) ?_
  refine g_call [5] rfl rfl rfl rfl rfl rfl (fun w' hm => Encode_b w' ⟨1#8, 7#8, 258#32, 5#64, zero16⟩ rfl (by decide)) (fun x5 _ => ?_)
  refine g_pu rfl rfl rfl (pu_move rfl rfl) ?_
  refine g_pu rfl rfl rfl (pu_extract rfl rfl rfl) ?_
  refine g_pu rfl rfl rfl (pu_extract rfl rfl rfl) ?_
  refine g_pu rfl rfl rfl (pu_assign rfl rfl) ?_
  refine g_pu rfl rfl rfl (pu_assign rfl rfl) ?_
  refine g_nil ?_
  refine g_know (φ := 32 ≤ x5.c) (fun w' hm => by have := Own.le (hm.holds 5 _ rfl); rwa [bs_length, hel] at this) (fun hxc => ?_)
  (repeat refine g_seq ?_)
  refine g_region ?_
  refine g_pu rfl rfl rfl (pu_move rfl rfl) ?_
  first | refine g_pu rfl rfl rfl (pu_eql_t rfl rfl rfl (by omega)) ?_ | refine g_pu rfl rfl rfl (pu_eql_f rfl rfl rfl (by omega)) ?_ | refine g_pu rfl rfl rfl (pu_eql rfl rfl rfl) ?_
  refine g_pu rfl rfl rfl (pu_move rfl rfl) ?_
  first | refine g_pass rfl rfl rfl ?_ | refine g_pu rfl rfl rfl (pu_move rfl rfl) ?_
  first | refine g_pass rfl rfl rfl ?_ | refine g_pu rfl rfl rfl (pu_len rfl rfl) ?_ | refine g_pu rfl rfl rfl (pu_lenS rfl rfl) ?_
  first | refine g_pass rfl rfl rfl ?_ | refine g_pu rfl rfl rfl (pu_eql_t rfl rfl rfl (by omega)) ?_ | refine g_pu rfl rfl rfl (pu_eql_f rfl rfl rfl (by omega)) ?_ | refine g_pu rfl rfl rfl (pu_eql rfl rfl rfl) ?_
  first | refine g_pu rfl rfl rfl (pu_pick_t rfl rfl rfl) ?_ | refine g_pu rfl rfl rfl (pu_pick_f rfl rfl rfl) ?_
  refine g_pu rfl rfl rfl (pu_move rfl rfl) ?_
  first | refine g_pass rfl rfl rfl ?_ | refine g_pu rfl rfl rfl (pu_move rfl rfl) ?_
  refine g_pu rfl rfl rfl (pu_slice_h 14 rfl rfl rfl rfl (by omega)) ?_
  first | (refine g_pass rfl rfl rfl ?_) | (refine g_lo [18] rfl rfl rfl rfl (lo_buildSlice rfl rfl (by decide) (by decide) rfl rfl) (fun b18 hb18 => ?_))
  refine g_call [] rfl rfl rfl rfl rfl rfl (fun w' hm => Equal_b w' _ _ (a := (encL ⟨1#8, 7#8, 258#32, 5#64, zero16⟩).take 14) (b := [1#8, 7#8, 0#8, 0#8, 1#8, 2#8, 0#8, 0#8, 0#8, 0#8, 0#8, 0#8, 0#8, 5#8]) ⟨by rw [← bs_take]; exact (Ow.rd (t := 5) rfl hm : RdV w' _ (bs (encL ⟨1#8, 7#8, 258#32, 5#64, zero16⟩))).fst, by rw [List.length_take, hel]; rfl, by omega⟩ (By.full 18 rfl hm rfl (by omega))) (fun _ _ => ?_)
  rw [decide_eq_true (show (encL ⟨1#8, 7#8, 258#32, 5#64, zero16⟩).take 14 = [1#8, 7#8, 0#8, 0#8, 1#8, 2#8, 0#8, 0#8, 0#8, 0#8, 0#8, 0#8, 0#8, 5#8] by decide +kernel)]
  first | refine g_pu rfl rfl rfl (pu_pick_t rfl rfl rfl) ?_ | refine g_pu rfl rfl rfl (pu_pick_f rfl rfl rfl) ?_
  refine g_pu rfl rfl rfl (pu_assign rfl rfl) ?_
  refine g_nil ?_
  exact g_ret1 rfl rfl (fun w' hm => ⟨(), trivial, rfl, hm.grows [] trivial rfl⟩)
end Go.Sx

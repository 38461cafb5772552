/-
  The document's reading of a command.
-/
import Derived.Test.YtbnfocnhmpegjaaCommandEncodes
import Derived.Test.YtbnfocnhmpegjaaWords
set_option linter.unusedVariables false
set_option linter.unusedSimpArgs false
namespace Go.Sx
open Go Go.Proofs

def be32 (r : List (BitVec 8)) : BitVec 32 := r.foldl (fun (n : BitVec 32) (b : BitVec 8) => n * 256#32 + b.setWidth 32) 0#32
def be64 (r : List (BitVec 8)) : BitVec 64 := r.foldl (fun (n : BitVec 64) (b : BitVec 8) => n * 256#64 + b.setWidth 64) 0#64
theorem be32_snoc (r : List (BitVec 8)) (b : BitVec 8) : be32 (r ++ [b]) = be32 r * 256#32 + b.setWidth 32 := by simp [be32]
theorem be64_snoc (r : List (BitVec 8)) (b : BitVec 8) : be64 (r ++ [b]) = be64 r * 256#64 + b.setWidth 64 := by simp [be64]
theorem be_step32 (n : BitVec 64) (b : BitVec 8) : ((n <<< 8) ||| b.setWidth 64).setWidth 32 = n.setWidth 32 * 256#32 + b.setWidth 32 := by
  rw [or_add]
  apply BitVec.eq_of_toNat_eq
  have := b.isLt
  have := n.isLt
  simp only [BitVec.toNat_setWidth, BitVec.toNat_add, BitVec.toNat_mul, BitVec.toNat_ofNat]
  omega
theorem be32_eq (r : List (BitVec 8)) : be32 r = (beV r).setWidth 32 := by
  have h : ∀ (r : List (BitVec 8)) (n : BitVec 64), r.foldl (fun (n : BitVec 32) (b : BitVec 8) => n * 256#32 + b.setWidth 32) (n.setWidth 32) = (r.foldl (fun (n : BitVec 64) (b : BitVec 8) => (n <<< 8) ||| b.setWidth 64) n).setWidth 32 := by
    intro r
    induction r with
    | nil => intro n; rfl
    | cons b r ih => intro n; rw [List.foldl_cons, List.foldl_cons, ← be_step32, ih]
  exact h r 0#64
theorem be64_eq (r : List (BitVec 8)) : be64 r = beV r := by
  have h : ∀ (r : List (BitVec 8)) (n : BitVec 64), r.foldl (fun (n : BitVec 64) (b : BitVec 8) => n * 256#64 + b.setWidth 64) n = r.foldl (fun (n : BitVec 64) (b : BitVec 8) => (n <<< 8) ||| b.setWidth 64) n := by
    intro r
    induction r with
    | nil => intro n; rfl
    | cons b r ih =>
      intro n
      rw [List.foldl_cons, List.foldl_cons, or_add, ih]
      congr 1
      rw [BitVec.add_comm, BitVec.mul_comm]
  exact h r 0#64
theorem getV_be {A : List (BitVec 8)} {z : Nat} (h : A.length = z) (h1 : 1 ≤ z) (h8 : z ≤ 8) : getV 2 A 0 (z : Int) = beV A := by
  have hE : getE 2 A.length 0 (z : Int) = 0 := by
    unfold getE
    rw [if_neg (by intro hh; rcases hh with hh | hh; exact hh ⟨.inr rfl, by omega, by omega⟩; omega), if_neg (by omega)]
  unfold getV
  rw [if_pos hE]
  unfold rdS win
  rw [if_pos rfl, show (0 : Int).toNat = 0 from rfl, List.drop_zero, List.take_of_length_le (by rw [h]; exact Nat.le_refl _)]

theorem RDecode_b (w : World) {p : Option Addr} {n : Nat} (c : Nat) {l : List (BitVec 8)} (ha : By w p n l) (hc : n ≤ c) :
    Spec Try.prog 23 #[.slice p n c] w (σ := Unit) (fun _ => True) (fun _ => .tuple #[.agg (cmdC (decC l)).toArray, .int .i64 (decE l)]) Nob (fun _ => []) := by
  refine enter Try.func23 rfl rfl (Mem.start w) ?_
  have hl := ha.len
  have hz20 : (cmdC zeroCmd).length = 20 := cmdC_length rfl
  by_cases h32 : l.length = 32
  · have g0 : l[0]? = some (l.getD 0 0#8) := getDs (by omega)
    have g1 : l[1]? = some (l.getD 1 0#8) := getDs (by omega)
    have g30 : l[30]? = some (l.getD 30 0#8) := getDs (by omega)
    have g31 : l[31]? = some (l.getD 31 0#8) := getDs (by omega)
    have w1 := win_length (l := l) (t := 2) (z := 4) (by omega)
    have w2 := win_length (l := l) (t := 6) (z := 8) (by omega)
    have w3 := win_length (l := l) (t := 14) (z := 16) (by omega)
    have hw4 : win l 30 2 = [l.getD 30 0#8, l.getD 31 0#8] := by
      apply List.ext_getElem?
      intro i
      by_cases hi : i < 2
      · rw [win_get hi]
        rcases i with _ | _ | i
        · exact g30
        · exact g31
        · omega
      · rw [List.getElem?_eq_none (by rw [win_length (by omega)]; omega), List.getElem?_eq_none (by simp; omega)]
    have hx16 : (decX l).m.length = 16 := w3
    have hxl := cmdC_length hx16
    have hD : be32 (win l 2 4) = (decX l).d := by rw [be32_eq, ← getV_be w1 (by omega) (by omega)]; rfl
    have hN : be64 (win l 6 8) = (decX l).n := by rw [be64_eq, ← getV_be w2 (by omega) (by omega)]; rfl
    (repeat refine g_seq ?_)
    refine g_region ?_
    refine g_lo [2] rfl rfl rfl rfl (lo_alloc rfl) (fun b2 hb2 => ?_)
    refine g_pu rfl rfl rfl (pu_assign rfl rfl) ?_
    refine g_nil ?_
    (repeat refine g_seq ?_)
    refine g_region ?_
    refine g_pu rfl rfl rfl (pu_move rfl rfl) ?_
    first | refine g_pu rfl rfl rfl (pu_len rfl rfl) ?_ | refine g_pu rfl rfl rfl (pu_lenS rfl rfl) ?_
    refine g_pu rfl rfl rfl (pu_neq_f rfl rfl rfl (by omega)) ?_
    refine g_nil ?_
    (repeat refine g_seq ?_)
    refine g_cond_f rfl (g_skip ?_)
    (repeat refine g_seq ?_)
    refine g_any (8, []) ?_
    refine a_pu 0 rfl rfl rfl rfl (pu_move rfl rfl) rfl rfl (by kernel_rfl) ?_
    refine a_pu 1 rfl rfl rfl rfl (pu_atM1 0 (L := bs l) (fun w' hm => (ha.m hm).rd) rfl rfl rfl rfl (by omega) (by rw [bs_length]; omega)) rfl rfl (by kernel_rfl) ?_
    refine a_pu 2 rfl rfl rfl rfl (pu_rdM (L := bs l) (j := 0) (v := b8 (l.getD 0 0#8)) (fun w' hm => (ha.m hm).rd) rfl rfl (bs_get g0)) rfl rfl (by kernel_rfl) ?_
    refine a_pu 3 rfl rfl rfl rfl (pu_move rfl rfl) rfl rfl (by kernel_rfl) ?_
    refine a_pu 4 rfl rfl rfl rfl (pu_atM1 1 (L := bs l) (fun w' hm => (ha.m hm).rd) rfl rfl rfl rfl (by omega) (by rw [bs_length]; omega)) rfl rfl (by kernel_rfl) ?_
    refine a_pu 5 rfl rfl rfl rfl (pu_rdM (L := bs l) (j := 1) (v := b8 (l.getD 1 0#8)) (fun w' hm => (ha.m hm).rd) rfl rfl (bs_get g1)) rfl rfl (by kernel_rfl) ?_
    refine a_pu 6 rfl rfl rfl rfl (pu_buildS (cs := cmdC ⟨l.getD 0 0#8, l.getD 1 0#8, 0#32, 0#64, zero16⟩) rfl rfl rfl) rfl rfl (by kernel_rfl) ?_
    refine a_pendA 7 4 4 28 ?_
    refine a_force _ (by kernel_rfl) rfl rfl rfl (by kernel_rfl) (by kernel_rfl) (by kernel_rfl) rfl (fun p hp => by simp only [List.mem_cons, List.not_mem_nil, or_false] at hp; subst hp; first | exact does_PA rfl rfl rfl rfl | exact does_PB rfl rfl rfl rfl rfl (by decide) (by decide) rfl rfl) ?_; rintro v_ cs_ ⟨b4, hb4, rfl, rfl⟩
    refine a_tail [8] (by kernel_rfl) rfl rfl (by kernel_rfl) ?_
    refine g_storeL 4 (s := 20) (C := cmdC ⟨l.getD 0 0#8, l.getD 1 0#8, 0#32, 0#64, zero16⟩) rfl rfl rfl rfl rfl rfl (cmdC_length rfl) rfl (oneCell_cmd _) ?_
    refine g_nil ?_
    (repeat refine g_seq ?_)
    refine g_region ?_
    refine g_pu rfl rfl rfl (pu_assign rfl rfl) ?_
    refine g_nil ?_
    refine g_block (g_loop (σ := Nat) (fun j => [(0, .slice p n c), (2, .pointer (some ⟨b2, 0, none⟩)), (4, .pointer (some ⟨b4, 0, none⟩)), (5, .int .i64 ((2 + j : Nat) : Int))]) (fun j => [(2, .pt b2 (.cells (cmdC zeroCmd).toArray 28 (0, 0))), (4, .pt b4 (.cells (cmdC ⟨l.getD 0 0#8, l.getD 1 0#8, be32 ((win l 2 4).take j), 0#64, zero16⟩).toArray 28 (0, 0)))]) (fun j => j ≤ 4) (fun j => 4 - j) 0 ⟨rfl, rfl, rfl, rfl, trivial⟩ ⟨rfl, rfl, trivial⟩ (by omega) ?_)
    intro j hj
    by_cases hlt : j < 4
    · (repeat refine g_seq ?_)
      refine g_region ?_
      refine g_pu rfl rfl rfl (pu_move rfl rfl) ?_
      refine g_pu rfl rfl rfl (pu_lss_t rfl rfl rfl (by omega)) ?_
      refine g_nil ?_
      (repeat refine g_seq ?_)
      refine g_cond_t rfl (g_skip ?_)
      have hg : l[2 + j]? = some (l.getD (2 + j) 0#8) := getDs (by omega)
      have hgw : (win l 2 4)[j]? = some (l.getD (2 + j) 0#8) := by rw [win_get hlt]; exact hg
      generalize l.getD (2 + j) 0#8 = y at hg hgw
      have hS : be32 ((win l 2 4).take (j + 1)) = be32 ((win l 2 4).take j) * 256#32 + y.setWidth 32 := by rw [List.take_add_one, hgw, ← be32_snoc]; rfl
      (repeat refine g_seq ?_); refine g_block ?_
      (repeat refine g_seq ?_)
      refine g_any (10, []) ?_
      refine a_pu 0 rfl rfl rfl rfl (pu_fieldAddr (by decide) rfl rfl) rfl rfl (by kernel_rfl) ?_
      refine a_pu 1 rfl rfl rfl rfl (pu_load 4 (v := b32 (be32 ((win l 2 4).take j))) rfl rfl rfl rfl) rfl rfl (by kernel_rfl) ?_
      refine a_pu 2 rfl rfl rfl rfl (pu_mul32 (b := 256#32) rfl rfl rfl) rfl rfl (by kernel_rfl) ?_
      refine a_pu 3 rfl rfl rfl rfl (pu_move rfl rfl) rfl rfl (by kernel_rfl) ?_
      refine a_pu 4 rfl rfl rfl rfl (pu_move rfl rfl) rfl rfl (by kernel_rfl) ?_
      refine a_pu 5 rfl rfl rfl rfl (pu_atM1 (2 + j) (L := bs l) (fun w' hm => (ha.m hm).rd) rfl rfl rfl rfl (by omega) (by rw [bs_length]; omega)) rfl rfl (by kernel_rfl) ?_
      refine a_pu 6 rfl rfl rfl rfl (pu_rdM (L := bs l) (j := 2 + j) (v := b8 y) (fun w' hm => (ha.m hm).rd) rfl rfl (bs_get hg)) rfl rfl (by kernel_rfl) ?_
      refine a_pu 7 rfl rfl rfl rfl (pu_conv8_32 rfl rfl) rfl rfl (by kernel_rfl) ?_
      refine a_pu 8 rfl rfl rfl rfl (pu_add32 rfl rfl rfl) rfl rfl (by kernel_rfl) ?_
      refine a_pu 9 rfl rfl rfl rfl (pu_fieldAddr (by decide) rfl rfl) rfl rfl (by kernel_rfl) ?_
      refine a_tail [10] (by kernel_rfl) rfl rfl (by kernel_rfl) ?_
      refine g_store 4 (v := b32 (be32 ((win l 2 4).take j) * 256#32 + y.setWidth 32)) rfl rfl rfl rfl rfl rfl rfl (by simp [cmdC]) ?_
      rw [← hS]
      refine g_nil ?_
      refine g_blk ?_
      (repeat refine g_seq ?_)
      refine g_region ?_
      refine g_pu rfl rfl rfl (pu_move rfl rfl) ?_
      refine g_pu rfl rfl rfl (pu_addI rfl rfl rfl (by omega)) ?_
      refine g_pu rfl rfl rfl (pu_assign rfl rfl) ?_
      refine g_nil ?_
      exact g_round (j + 1) (by omega) (by omega) ⟨rfl, rfl, rfl, congrArg (fun z => some (Value.int .i64 z)) (by omega), trivial⟩ ⟨rfl, rfl, trivial⟩
    · (repeat refine g_seq ?_)
      refine g_region ?_
      refine g_pu rfl rfl rfl (pu_move rfl rfl) ?_
      refine g_pu rfl rfl rfl (pu_lss_f rfl rfl rfl (by omega)) ?_
      refine g_nil ?_
      (repeat refine g_seq ?_)
      refine g_cond_f rfl (g_exit rfl ?_)
      have e : j = 4 := by omega
      subst e
      rw [List.take_of_length_le (by omega), hD]
      (repeat refine g_seq ?_)
      refine g_region ?_
      refine g_pu rfl rfl rfl (pu_assign rfl rfl) ?_
      refine g_nil ?_
      refine g_block (g_loop (σ := Nat) (fun j => [(0, .slice p n c), (2, .pointer (some ⟨b2, 0, none⟩)), (4, .pointer (some ⟨b4, 0, none⟩)), (6, .int .i64 ((6 + j : Nat) : Int))]) (fun j => [(2, .pt b2 (.cells (cmdC zeroCmd).toArray 28 (0, 0))), (4, .pt b4 (.cells (cmdC ⟨l.getD 0 0#8, l.getD 1 0#8, (decX l).d, be64 ((win l 6 8).take j), zero16⟩).toArray 28 (0, 0)))]) (fun j => j ≤ 8) (fun j => 8 - j) 0 ⟨rfl, rfl, rfl, rfl, trivial⟩ ⟨rfl, rfl, trivial⟩ (by omega) ?_)
      intro j hj
      by_cases hlt : j < 8
      · (repeat refine g_seq ?_)
        refine g_region ?_
        refine g_pu rfl rfl rfl (pu_move rfl rfl) ?_
        refine g_pu rfl rfl rfl (pu_lss_t rfl rfl rfl (by omega)) ?_
        refine g_nil ?_
        (repeat refine g_seq ?_)
        refine g_cond_t rfl (g_skip ?_)
        have hg : l[6 + j]? = some (l.getD (6 + j) 0#8) := getDs (by omega)
        have hgw : (win l 6 8)[j]? = some (l.getD (6 + j) 0#8) := by rw [win_get hlt]; exact hg
        generalize l.getD (6 + j) 0#8 = y at hg hgw
        have hS : be64 ((win l 6 8).take (j + 1)) = be64 ((win l 6 8).take j) * 256#64 + y.setWidth 64 := by rw [List.take_add_one, hgw, ← be64_snoc]; rfl
        (repeat refine g_seq ?_); refine g_block ?_
        (repeat refine g_seq ?_)
        refine g_any (10, []) ?_
        refine a_pu 0 rfl rfl rfl rfl (pu_fieldAddr (by decide) rfl rfl) rfl rfl (by kernel_rfl) ?_
        refine a_pu 1 rfl rfl rfl rfl (pu_load 4 (v := b64 (be64 ((win l 6 8).take j))) rfl rfl rfl rfl) rfl rfl (by kernel_rfl) ?_
        refine a_pu 2 rfl rfl rfl rfl (pu_mul64 (b := 256#64) rfl rfl rfl) rfl rfl (by kernel_rfl) ?_
        refine a_pu 3 rfl rfl rfl rfl (pu_move rfl rfl) rfl rfl (by kernel_rfl) ?_
        refine a_pu 4 rfl rfl rfl rfl (pu_move rfl rfl) rfl rfl (by kernel_rfl) ?_
        refine a_pu 5 rfl rfl rfl rfl (pu_atM1 (6 + j) (L := bs l) (fun w' hm => (ha.m hm).rd) rfl rfl rfl rfl (by omega) (by rw [bs_length]; omega)) rfl rfl (by kernel_rfl) ?_
        refine a_pu 6 rfl rfl rfl rfl (pu_rdM (L := bs l) (j := 6 + j) (v := b8 y) (fun w' hm => (ha.m hm).rd) rfl rfl (bs_get hg)) rfl rfl (by kernel_rfl) ?_
        refine a_pu 7 rfl rfl rfl rfl (pu_conv8_64 rfl rfl) rfl rfl (by kernel_rfl) ?_
        refine a_pu 8 rfl rfl rfl rfl (pu_add64 rfl rfl rfl) rfl rfl (by kernel_rfl) ?_
        refine a_pu 9 rfl rfl rfl rfl (pu_fieldAddr (by decide) rfl rfl) rfl rfl (by kernel_rfl) ?_
        refine a_tail [10] (by kernel_rfl) rfl rfl (by kernel_rfl) ?_
        refine g_store 4 (v := b64 (be64 ((win l 6 8).take j) * 256#64 + y.setWidth 64)) rfl rfl rfl rfl rfl rfl rfl (by simp [cmdC]) ?_
        rw [← hS]
        refine g_nil ?_
        refine g_blk ?_
        (repeat refine g_seq ?_)
        refine g_region ?_
        refine g_pu rfl rfl rfl (pu_move rfl rfl) ?_
        refine g_pu rfl rfl rfl (pu_addI rfl rfl rfl (by omega)) ?_
        refine g_pu rfl rfl rfl (pu_assign rfl rfl) ?_
        refine g_nil ?_
        exact g_round (j + 1) (by omega) (by omega) ⟨rfl, rfl, rfl, congrArg (fun z => some (Value.int .i64 z)) (by omega), trivial⟩ ⟨rfl, rfl, trivial⟩
      · (repeat refine g_seq ?_)
        refine g_region ?_
        refine g_pu rfl rfl rfl (pu_move rfl rfl) ?_
        refine g_pu rfl rfl rfl (pu_lss_f rfl rfl rfl (by omega)) ?_
        refine g_nil ?_
        (repeat refine g_seq ?_)
        refine g_cond_f rfl (g_exit rfl ?_)
        have e : j = 8 := by omega
        subst e
        rw [List.take_of_length_le (by omega), hN]
        have hcp : (cmdC ⟨l.getD 0 0#8, l.getD 1 0#8, (decX l).d, (decX l).n, zero16⟩).take (0 + 4) ++ (bs (win l 14 16)).take (Nat.min 16 16) ++ (cmdC ⟨l.getD 0 0#8, l.getD 1 0#8, (decX l).d, (decX l).n, zero16⟩).drop (0 + 4 + Nat.min 16 16) = cmdC (decX l) := by
          rw [List.take_of_length_le (show (bs (win l 14 16)).length ≤ Nat.min 16 16 by rw [bs_length, w3]; exact Nat.le_refl _), List.drop_of_length_le (by rw [cmdC_length rfl]; exact Nat.le_refl _), List.append_nil]
          rfl
        (repeat refine g_seq ?_)
        refine g_any (4, []) ?_
        refine a_pu 0 rfl rfl rfl rfl (pu_fieldAddr (by decide) rfl rfl) rfl rfl (by kernel_rfl) ?_
        refine a_pu 1 rfl rfl rfl rfl (pu_sliceA rfl rfl) rfl rfl (by kernel_rfl) ?_
        refine a_pu 2 rfl rfl rfl rfl (pu_move rfl rfl) rfl rfl (by kernel_rfl) ?_
        refine a_pu 3 rfl rfl rfl rfl (pu_slice_lh 14 30 rfl rfl rfl rfl rfl (by omega) (by omega) (by omega)) rfl rfl (by kernel_rfl) ?_
        refine a_tail [4] (by kernel_rfl) rfl rfl (by kernel_rfl) ?_
        refine g_copyF 4 (L := cmdC ⟨l.getD 0 0#8, l.getD 1 0#8, (decX l).d, (decX l).n, zero16⟩) (off := 0 + 4) (n := 16) (m := 16) (bs (win l 14 16)) rfl rfl rfl rfl rfl rfl rfl (fun w' hm => (((ha.m hm).cut hc 14).fst 16 (by omega)).rd) (by rw [bs_length, w3]) (by rw [cmdC_length rfl]; omega) (oneCell_bs _) ?_
        rw [hcp]
        refine g_nil ?_
        (repeat refine g_seq ?_)
        refine g_region ?_
        refine g_pu rfl rfl rfl (pu_loadW 4 (L := cmdC (decX l)) rfl rfl rfl hxl) ?_
        refine g_call [] rfl rfl rfl rfl rfl rfl (fun w' hm => RCheck_b w' (decX l) hx16) (fun _ _ => ?_)
        refine g_pu rfl rfl rfl (pu_assign rfl rfl) ?_
        refine g_nil ?_
        by_cases hz : win l 30 2 = [0#8, 0#8]
        · have hE : decE l = chkE (decX l) := by unfold decE; rw [if_neg (by omega), if_neg (fun h => h.1 hz)]
          have z30 : (l.getD 30 0#8).toNat = 0 := by rw [hw4] at hz; rw [(List.cons.inj hz).1]; rfl
          have z31 : (l.getD 31 0#8).toNat = 0 := by rw [hw4] at hz; rw [(List.cons.inj (List.cons.inj hz).2).1]; rfl
          by_cases h0 : chkE (decX l) = 1 <;> by_cases h00 : chkE (decX l) = 0 <;> first | (exfalso; omega) | (
            (repeat refine g_seq ?_)
            refine g_region ?_
            refine g_pu rfl rfl rfl (pu_move rfl rfl) ?_
            first | refine g_pu rfl rfl rfl (pu_neq_t rfl rfl rfl (by omega)) ?_ | refine g_pu rfl rfl rfl (pu_neq_f rfl rfl rfl (by omega)) ?_
            refine g_pu rfl rfl rfl (pu_move rfl rfl) ?_
            first | refine g_pass rfl rfl rfl ?_ | refine g_pu rfl rfl rfl (pu_move rfl rfl) ?_
            first | refine g_pass rfl rfl rfl ?_ | refine g_pu rfl rfl rfl (pu_atM1 30 (L := bs l) (fun w' hm => (ha.m hm).rd) rfl rfl rfl rfl (by omega) (by rw [bs_length]; omega)) ?_
            first | refine g_pass rfl rfl rfl ?_ | refine g_pu rfl rfl rfl (pu_rdM (L := bs l) (j := 30) (v := b8 (l.getD 30 0#8)) (fun w' hm => (ha.m hm).rd) rfl rfl (bs_get g30)) ?_
            first | refine g_pass rfl rfl rfl ?_ | refine g_pu rfl rfl rfl (pu_neq_f rfl rfl rfl (by omega)) ?_
            first | refine g_pass rfl rfl rfl ?_ | refine g_pu rfl rfl rfl (pu_move rfl rfl) ?_
            first | refine g_pass rfl rfl rfl ?_ | refine g_pu rfl rfl rfl (pu_move rfl rfl) ?_
            first | refine g_pass rfl rfl rfl ?_ | refine g_pu rfl rfl rfl (pu_atM1 31 (L := bs l) (fun w' hm => (ha.m hm).rd) rfl rfl rfl rfl (by omega) (by rw [bs_length]; omega)) ?_
            first | refine g_pass rfl rfl rfl ?_ | refine g_pu rfl rfl rfl (pu_rdM (L := bs l) (j := 31) (v := b8 (l.getD 31 0#8)) (fun w' hm => (ha.m hm).rd) rfl rfl (bs_get g31)) ?_
            first | refine g_pass rfl rfl rfl ?_ | refine g_pu rfl rfl rfl (pu_neq_f rfl rfl rfl (by omega)) ?_
            first | refine g_pass rfl rfl rfl ?_ | refine g_pu rfl rfl rfl (pu_pick_t rfl rfl rfl) ?_ | refine g_pu rfl rfl rfl (pu_pick_f rfl rfl rfl) ?_
            first | refine g_pu rfl rfl rfl (pu_pick_t rfl rfl rfl) ?_ | refine g_pu rfl rfl rfl (pu_pick_f rfl rfl rfl) ?_
            refine g_nil ?_
            (repeat refine g_seq ?_)
            refine g_cond_f rfl (g_skip ?_)
            first | (
              (repeat refine g_seq ?_)
              refine g_region ?_
              refine g_pu rfl rfl rfl (pu_move rfl rfl) ?_
              refine g_pu rfl rfl rfl (pu_neq_f rfl rfl rfl (by omega)) ?_
              refine g_nil ?_
              (repeat refine g_seq ?_)
              refine g_cond_f rfl (g_skip ?_)
              (repeat refine g_seq ?_)
              refine g_region ?_
              refine g_pu rfl rfl rfl (pu_loadW 4 (L := cmdC (decX l)) rfl rfl rfl hxl) ?_
              refine g_storeL 2 (s := 20) (C := cmdC (decX l)) rfl rfl rfl rfl rfl rfl hxl rfl (oneCell_cmd _) ?_
              refine g_pu rfl rfl rfl (pu_assign rfl rfl) ?_
              refine g_nil ?_
              exact g_retLT 2 (L := cmdC (decX l)) rfl hxl rfl rfl rfl (fun w' hm => ⟨(), trivial, by rw [show decC l = decX l by unfold decC; rw [if_pos (by omega)], hE, h00], hm.grows [] trivial rfl⟩)) | (
              (repeat refine g_seq ?_)
              refine g_region ?_
              refine g_pu rfl rfl rfl (pu_move rfl rfl) ?_
              refine g_pu rfl rfl rfl (pu_neq_t rfl rfl rfl (by omega)) ?_
              refine g_nil ?_
              (repeat refine g_seq ?_)
              refine g_cond_t rfl ?_
              (repeat refine g_seq ?_)
              refine g_region ?_
              refine g_pu rfl rfl rfl (pu_buildS (cs := cmdC zeroCmd) rfl rfl rfl) ?_
              refine g_pu rfl rfl rfl (pu_move rfl rfl) ?_
              refine g_storeL 2 (s := 20) (C := cmdC zeroCmd) rfl rfl rfl rfl rfl rfl hz20 rfl (oneCell_cmd _) ?_
              refine g_pu rfl rfl rfl (pu_assign rfl rfl) ?_
              refine g_nil ?_
              exact g_retLT 2 (L := cmdC zeroCmd) rfl hz20 rfl rfl rfl (fun w' hm => ⟨(), trivial, by rw [show decC l = zeroCmd by unfold decC; rw [if_neg (by omega)], hE], hm.grows [] trivial rfl⟩)))
        · by_cases h1 : chkE (decX l) = 1
          · have hE : decE l = 1 := by unfold decE; rw [if_neg (by omega), if_neg (fun h => h.2 h1), h1]
            have hC : decC l = zeroCmd := by unfold decC; rw [if_neg (by omega)]
            (repeat refine g_seq ?_)
            refine g_region ?_
            refine g_pu rfl rfl rfl (pu_move rfl rfl) ?_
            refine g_pu rfl rfl rfl (pu_neq_f rfl rfl rfl (by omega)) ?_
            refine g_pu rfl rfl rfl (pu_move rfl rfl) ?_
            first | refine g_pass rfl rfl rfl ?_ | refine g_pu rfl rfl rfl (pu_move rfl rfl) ?_
            refine g_pass rfl rfl rfl ?_
            refine g_pass rfl rfl rfl ?_
            refine g_pass rfl rfl rfl ?_
            first | refine g_pass rfl rfl rfl ?_ | refine g_pu rfl rfl rfl (pu_move rfl rfl) ?_
            first | refine g_pass rfl rfl rfl ?_ | refine g_pu rfl rfl rfl (pu_move rfl rfl) ?_
            refine g_pass rfl rfl rfl ?_
            refine g_pass rfl rfl rfl ?_
            refine g_pass rfl rfl rfl ?_
            first | refine g_pass rfl rfl rfl ?_ | refine g_pu rfl rfl rfl (pu_pick_t rfl rfl rfl) ?_ | refine g_pu rfl rfl rfl (pu_pick_f rfl rfl rfl) ?_
            first | refine g_pu rfl rfl rfl (pu_pick_t rfl rfl rfl) ?_ | refine g_pu rfl rfl rfl (pu_pick_f rfl rfl rfl) ?_
            refine g_nil ?_
            (repeat refine g_seq ?_)
            refine g_cond_f rfl (g_skip ?_)
            (repeat refine g_seq ?_)
            refine g_region ?_
            refine g_pu rfl rfl rfl (pu_move rfl rfl) ?_
            refine g_pu rfl rfl rfl (pu_neq_t rfl rfl rfl (by omega)) ?_
            refine g_nil ?_
            (repeat refine g_seq ?_)
            refine g_cond_t rfl ?_
            (repeat refine g_seq ?_)
            refine g_region ?_
            refine g_pu rfl rfl rfl (pu_buildS (cs := cmdC zeroCmd) rfl rfl rfl) ?_
            refine g_pu rfl rfl rfl (pu_move rfl rfl) ?_
            refine g_storeL 2 (s := 20) (C := cmdC zeroCmd) rfl rfl rfl rfl rfl rfl hz20 rfl (oneCell_cmd _) ?_
            refine g_pu rfl rfl rfl (pu_assign rfl rfl) ?_
            refine g_nil ?_
            exact g_retLT 2 (L := cmdC zeroCmd) rfl hz20 rfl rfl rfl (fun w' hm => ⟨(), trivial, by rw [hC, hE, h1], hm.grows [] trivial rfl⟩)
          · have hE : decE l = 3 := by unfold decE; rw [if_neg (by omega), if_pos ⟨hz, h1⟩]
            have hC : decC l = zeroCmd := by unfold decC; rw [if_neg (by omega)]
            by_cases z30 : (l.getD 30 0#8).toNat = 0 <;> by_cases z31 : (l.getD 31 0#8).toNat = 0 <;> first | (exfalso; exact hz (by rw [hw4, BitVec.eq_of_toNat_eq (x := l.getD 30 0#8) (y := 0#8) z30, BitVec.eq_of_toNat_eq (x := l.getD 31 0#8) (y := 0#8) z31])) | (
              (repeat refine g_seq ?_)
              refine g_region ?_
              refine g_pu rfl rfl rfl (pu_move rfl rfl) ?_
              refine g_pu rfl rfl rfl (pu_neq_t rfl rfl rfl (by omega)) ?_
              refine g_pu rfl rfl rfl (pu_move rfl rfl) ?_
              first | refine g_pass rfl rfl rfl ?_ | refine g_pu rfl rfl rfl (pu_move rfl rfl) ?_
              refine g_pu rfl rfl rfl (pu_atM1 30 (L := bs l) (fun w' hm => (ha.m hm).rd) rfl rfl rfl rfl (by omega) (by rw [bs_length]; omega)) ?_
              refine g_pu rfl rfl rfl (pu_rdM (L := bs l) (j := 30) (v := b8 (l.getD 30 0#8)) (fun w' hm => (ha.m hm).rd) rfl rfl (bs_get g30)) ?_
              first | refine g_pu rfl rfl rfl (pu_neq_f rfl rfl rfl (by omega)) ?_ | refine g_pu rfl rfl rfl (pu_neq_t rfl rfl rfl (by omega)) ?_
              first | refine g_pass rfl rfl rfl ?_ | refine g_pu rfl rfl rfl (pu_move rfl rfl) ?_
              first | refine g_pass rfl rfl rfl ?_ | refine g_pu rfl rfl rfl (pu_move rfl rfl) ?_
              first | refine g_pass rfl rfl rfl ?_ | refine g_pu rfl rfl rfl (pu_atM1 31 (L := bs l) (fun w' hm => (ha.m hm).rd) rfl rfl rfl rfl (by omega) (by rw [bs_length]; omega)) ?_
              first | refine g_pass rfl rfl rfl ?_ | refine g_pu rfl rfl rfl (pu_rdM (L := bs l) (j := 31) (v := b8 (l.getD 31 0#8)) (fun w' hm => (ha.m hm).rd) rfl rfl (bs_get g31)) ?_
              first | refine g_pass rfl rfl rfl ?_ | refine g_pu rfl rfl rfl (pu_neq_t rfl rfl rfl (by omega)) ?_
              first | refine g_pass rfl rfl rfl ?_ | refine g_pu rfl rfl rfl (pu_pick_t rfl rfl rfl) ?_ | refine g_pu rfl rfl rfl (pu_pick_f rfl rfl rfl) ?_
              first | refine g_pu rfl rfl rfl (pu_pick_t rfl rfl rfl) ?_ | refine g_pu rfl rfl rfl (pu_pick_f rfl rfl rfl) ?_
              refine g_nil ?_
              (repeat refine g_seq ?_)
              refine g_cond_t rfl ?_
              (repeat refine g_seq ?_)
              refine g_region ?_
              refine g_pu rfl rfl rfl (pu_assign rfl rfl) ?_
              refine g_nil ?_
              (repeat refine g_seq ?_)
              refine g_region ?_
              refine g_pu rfl rfl rfl (pu_move rfl rfl) ?_
              refine g_pu rfl rfl rfl (pu_neq_t rfl rfl rfl (by omega)) ?_
              refine g_nil ?_
              (repeat refine g_seq ?_)
              refine g_cond_t rfl ?_
              (repeat refine g_seq ?_)
              refine g_region ?_
              refine g_pu rfl rfl rfl (pu_buildS (cs := cmdC zeroCmd) rfl rfl rfl) ?_
              refine g_pu rfl rfl rfl (pu_move rfl rfl) ?_
              refine g_storeL 2 (s := 20) (C := cmdC zeroCmd) rfl rfl rfl rfl rfl rfl hz20 rfl (oneCell_cmd _) ?_
              refine g_pu rfl rfl rfl (pu_assign rfl rfl) ?_
              refine g_nil ?_
              exact g_retLT 2 (L := cmdC zeroCmd) rfl hz20 rfl rfl rfl (fun w' hm => ⟨(), trivial, by rw [hC, hE], hm.grows [] trivial rfl⟩))
  · have hE : decE l = 2 := by unfold decE; rw [if_pos h32]
    have hC : decC l = zeroCmd := by unfold decC; rw [if_neg (by omega)]
    (repeat refine g_seq ?_)
    refine g_region ?_
    refine g_lo [2] rfl rfl rfl rfl (lo_alloc rfl) (fun b2 hb2 => ?_)
    refine g_pu rfl rfl rfl (pu_assign rfl rfl) ?_
    refine g_nil ?_
    (repeat refine g_seq ?_)
    refine g_region ?_
    refine g_pu rfl rfl rfl (pu_move rfl rfl) ?_
    first | refine g_pu rfl rfl rfl (pu_len rfl rfl) ?_ | refine g_pu rfl rfl rfl (pu_lenS rfl rfl) ?_
    refine g_pu rfl rfl rfl (pu_neq_t rfl rfl rfl (by omega)) ?_
    refine g_nil ?_
    (repeat refine g_seq ?_)
    refine g_cond_t rfl ?_
    (repeat refine g_seq ?_)
    refine g_region ?_
    refine g_pu rfl rfl rfl (pu_buildS (cs := cmdC zeroCmd) rfl rfl rfl) ?_
    refine g_storeL 2 (s := 20) (C := cmdC zeroCmd) rfl rfl rfl rfl rfl rfl hz20 rfl (oneCell_cmd _) ?_
    refine g_pu rfl rfl rfl (pu_assign rfl rfl) ?_
    refine g_nil ?_
    exact g_retLT 2 (L := cmdC zeroCmd) rfl hz20 rfl rfl rfl (fun w' hm => ⟨(), trivial, by rw [hC, hE], hm.grows [] trivial rfl⟩)
end Go.Sx

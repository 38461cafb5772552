/-
  Reading a command, of the program. The mark has 16 bytes.
-/
import Derived.Test.YtbnfocnhmpegjaaCM3
import Derived.Test.YtbnfocnhmpegjaaCCut
import Derived.Test.YtbnfocnhmpegjaaC3
set_option linter.unusedVariables false
set_option linter.unusedSimpArgs false
namespace Go.Sx
open Go Go.Proofs

theorem getDs {l : List (BitVec 8)} {i : Nat} (h : i < l.length) : l[i]? = some (l.getD i 0#8) := by
  rw [List.getD_eq_getElem?_getD, List.getElem?_eq_getElem h]; rfl
def zeroCmd : Cmd := ⟨0#8, 0#8, 0#32, 0#64, zero16⟩
def decX (l : List (BitVec 8)) : Cmd := ⟨l.getD 0 0#8, l.getD 1 0#8, (getV 2 (win l 2 4) 0 4).setWidth 32, getV 2 (win l 6 8) 0 8, win l 14 16⟩
def decE (l : List (BitVec 8)) : Int := if l.length ≠ 32 then 2 else if win l 30 2 ≠ [0#8, 0#8] ∧ chkE (decX l) ≠ 1 then 3 else chkE (decX l)
def decC (l : List (BitVec 8)) : Cmd := if decE l = 0 then decX l else zeroCmd
theorem cut_cmd (l : List (BitVec 8)) : cutP l [2, 4, 8, 16, 2] = [win l 0 2, win l 2 4, win l 6 8, win l 14 16, win l 30 2] := by
  simp [cutP, win, List.drop_drop]
theorem conts5 {xs : List Otm} {a b c d e : List (BitVec 8)} (h : conts xs = [a, b, c, d, e]) : ∃ o0 o1 o2 o3 o4 : Ow, xs = [(o0, a), (o1, b), (o2, c), (o3, d), (o4, e)] := by
  match xs, h with
  | [(o0, _), (o1, _), (o2, _), (o3, _), (o4, _)], h =>
    simp only [conts, List.map_cons, List.map_nil, List.cons.injEq, and_true] at h
    obtain ⟨rfl, rfl, rfl, rfl, rfl⟩ := h
    exact ⟨o0, o1, o2, o3, o4, rfl⟩
theorem BagC.by (E : TypeId) {xs : List Otm} {w : World} {x : Otm} (h : BagC E xs w) (hx : x ∈ xs) (hb : x.2.length ≤ 140737488355328) : By w x.1.p x.2.length x.2 := by
  obtain ⟨F, hF⟩ := h.1 x hx
  exact ⟨hF.rd, rfl, hb⟩
theorem fill5' (k f : BitVec 8) (d : BitVec 32) (n : BitVec 64) (a0 a1 a2 a3 a4 a5 a6 a7 a8 a9 a10 a11 a12 a13 a14 a15 : BitVec 8) : Instr.fill (fun i => [(0, 1), (1, 1), (2, 1), (3, 1), (4, 16)][i]?) (cmdC zeroCmd).toArray [(0, b8 k), (1, b8 f), (2, b32 d), (3, b64 n), (4, .agg (bs [a0, a1, a2, a3, a4, a5, a6, a7, a8, a9, a10, a11, a12, a13, a14, a15]).toArray)] = some (cmdC ⟨k, f, d, n, [a0, a1, a2, a3, a4, a5, a6, a7, a8, a9, a10, a11, a12, a13, a14, a15]⟩).toArray := by
  kernel_rfl
theorem fill5 {x : Cmd} (h16 : x.m.length = 16) : Instr.fill (fun i => [(0, 1), (1, 1), (2, 1), (3, 1), (4, 16)][i]?) (cmdC zeroCmd).toArray [(0, b8 x.k), (1, b8 x.f), (2, b32 x.d), (3, b64 x.n), (4, .agg (bs x.m).toArray)] = some (cmdC x).toArray := by
  obtain ⟨k, f, d, n, m⟩ := x
  match m, h16 with
  | [a0, a1, a2, a3, a4, a5, a6, a7, a8, a9, a10, a11, a12, a13, a14, a15], _ => exact fill5' k f d n a0 a1 a2 a3 a4 a5 a6 a7 a8 a9 a10 a11 a12 a13 a14 a15

theorem Decode_b (w : World) {p : Option Addr} {n : Nat} (c : Nat) {l : List (BitVec 8)} (ha : By w p n l) (hc : n ≤ c) :
    Spec Try.prog 21 #[.slice p n c] w (σ := Unit) (fun _ => True) (fun _ => .tuple #[.agg (cmdC (decC l)).toArray, .int .i64 (decE l)]) Nob (fun _ => []) := by
  refine enter Try.func21 rfl rfl (Mem.start w) ?_
  have hl := ha.len
  have hz20 : (cmdC zeroCmd).length = 20 := cmdC_length rfl
  by_cases h32 : l.length = 32
  · have hcut := cut_ok (l := l) (ns := [2, 4, 8, 16, 2]) (by decide) (by rw [h32]; rfl)
    have w0 := win_length (l := l) (t := 0) (z := 2) (by omega)
    have w1 := win_length (l := l) (t := 2) (z := 4) (by omega)
    have w2 := win_length (l := l) (t := 6) (z := 8) (by omega)
    have w3 := win_length (l := l) (t := 14) (z := 16) (by omega)
    have w4 := win_length (l := l) (t := 30) (z := 2) (by omega)
    have g0 : (win l 0 2)[0]? = some (l.getD 0 0#8) := by rw [win_get (by omega)]; exact getDs (by omega)
    have g1 : (win l 0 2)[1]? = some (l.getD 1 0#8) := by rw [win_get (by omega)]; exact getDs (by omega)
    have hx16 : (decX l).m.length = 16 := w3
    have hxl := cmdC_length hx16
    (repeat refine g_seq ?_)
    refine g_region ?_
    refine g_lo [2] rfl rfl rfl rfl (lo_alloc rfl) (fun b2 hb2 => ?_)
    refine g_pu rfl rfl rfl (pu_assign rfl rfl) ?_
    refine g_nil ?_
    (repeat refine g_seq ?_)
    refine g_region ?_
    refine g_pu rfl rfl rfl (pu_move rfl rfl) ?_
    refine g_lo [13] rfl rfl rfl rfl (lo_buildSlice rfl rfl (by decide) (by decide) rfl rfl) (fun b13 hb13 => ?_)
    refine g_call [14, 114] rfl rfl rfl rfl rfl rfl (fun w' hm => CutC_b w' c _ [2, 4, 8, 16, 2] (ha.m hm) hc (hm.rowA 13 rfl) rfl (by decide)) (fun x14 h14 => ?_)
    rw [hcut.1]
    refine g_pu rfl rfl rfl (pu_move rfl rfl) ?_
    refine g_pu rfl rfl rfl (pu_extract rfl rfl rfl) ?_
    refine g_pu rfl rfl rfl (pu_extract rfl rfl rfl) ?_
    refine g_pu rfl rfl rfl (pu_assign rfl rfl) ?_
    refine g_pu rfl rfl rfl (pu_assign rfl rfl) ?_
    refine g_nil ?_
    rw [hcut.2, cut_cmd] at h14
    obtain ⟨xr, xs⟩ := x14
    dsimp only at h14
    obtain ⟨o0, o1, o2, o3, o4, rfl⟩ := conts5 h14
    (repeat refine g_seq ?_)
    refine g_region ?_
    refine g_pu rfl rfl rfl (pu_move rfl rfl) ?_
    refine g_pu rfl rfl rfl (pu_neq_f rfl rfl rfl (by omega)) ?_
    refine g_nil ?_
    (repeat refine g_seq ?_)
    refine g_cond_f rfl (g_skip ?_)
    (repeat refine g_seq ?_)
    refine g_region ?_
    refine g_pu rfl rfl rfl (pu_move rfl rfl) ?_
    refine g_pu rfl rfl rfl (pu_atM1 1 (L := vals [(o0, win l 0 2), (o1, win l 2 4), (o2, win l 6 8), (o3, win l 14 16), (o4, win l 30 2)]) (fun w' hm => Ow.rd (t := 14) rfl hm) rfl rfl rfl rfl (by simp) (by simp [vals])) ?_
    refine g_pu rfl rfl rfl (pu_rdM (L := vals [(o0, win l 0 2), (o1, win l 2 4), (o2, win l 6 8), (o3, win l 14 16), (o4, win l 30 2)]) (j := 1) (v := o1.sl (win l 2 4).length) (fun w' hm => Ow.rd (t := 14) rfl hm) rfl rfl rfl) ?_
    refine g_call [] rfl rfl rfl rfl rfl rfl (fun w' hm => Get_b w' 2 _ (l := win l 2 4) 0 4 (BagC.by 5 (x := (o1, win l 2 4)) (hm.holds 114 _ rfl) (by simp) (by dsimp only; omega))) (fun _ _ => ?_)
    refine g_pu rfl rfl rfl (pu_move rfl rfl) ?_
    refine g_pu rfl rfl rfl (pu_extract rfl rfl rfl) ?_
    refine g_pu rfl rfl rfl (pu_extract rfl rfl rfl) ?_
    refine g_pu rfl rfl rfl (pu_assign rfl rfl) ?_
    refine g_pu rfl rfl rfl (pu_assign rfl rfl) ?_
    refine g_nil ?_
    (repeat refine g_seq ?_)
    refine g_region ?_
    refine g_pu rfl rfl rfl (pu_move rfl rfl) ?_
    refine g_pu rfl rfl rfl (pu_atM1 2 (L := vals [(o0, win l 0 2), (o1, win l 2 4), (o2, win l 6 8), (o3, win l 14 16), (o4, win l 30 2)]) (fun w' hm => Ow.rd (t := 14) rfl hm) rfl rfl rfl rfl (by simp) (by simp [vals])) ?_
    refine g_pu rfl rfl rfl (pu_rdM (L := vals [(o0, win l 0 2), (o1, win l 2 4), (o2, win l 6 8), (o3, win l 14 16), (o4, win l 30 2)]) (j := 2) (v := o2.sl (win l 6 8).length) (fun w' hm => Ow.rd (t := 14) rfl hm) rfl rfl rfl) ?_
    refine g_call [] rfl rfl rfl rfl rfl rfl (fun w' hm => Get_b w' 2 _ (l := win l 6 8) 0 8 (BagC.by 5 (x := (o2, win l 6 8)) (hm.holds 114 _ rfl) (by simp) (by dsimp only; omega))) (fun _ _ => ?_)
    refine g_pu rfl rfl rfl (pu_move rfl rfl) ?_
    refine g_pu rfl rfl rfl (pu_extract rfl rfl rfl) ?_
    refine g_pu rfl rfl rfl (pu_extract rfl rfl rfl) ?_
    refine g_pu rfl rfl rfl (pu_assign rfl rfl) ?_
    refine g_pu rfl rfl rfl (pu_assign rfl rfl) ?_
    refine g_nil ?_
    (repeat refine g_seq ?_)
    refine g_any (20, []) ?_
    refine a_pu 0 rfl rfl rfl rfl (pu_move rfl rfl) rfl rfl (by kernel_rfl) ?_
    refine a_pu 1 rfl rfl rfl rfl (pu_atM1 0 (L := vals [(o0, win l 0 2), (o1, win l 2 4), (o2, win l 6 8), (o3, win l 14 16), (o4, win l 30 2)]) (fun w' hm => Ow.rd (t := 14) rfl hm) rfl rfl rfl rfl (by simp) (by simp [vals])) rfl rfl (by kernel_rfl) ?_
    refine a_pu 2 rfl rfl rfl rfl (pu_rdM (L := vals [(o0, win l 0 2), (o1, win l 2 4), (o2, win l 6 8), (o3, win l 14 16), (o4, win l 30 2)]) (j := 0) (v := o0.sl (win l 0 2).length) (fun w' hm => Ow.rd (t := 14) rfl hm) rfl rfl rfl) rfl rfl (by kernel_rfl) ?_
    refine a_pu 3 rfl rfl rfl rfl (pu_atM1 0 (L := bs (win l 0 2)) (fun w' hm => (BagC.by 5 (x := (o0, win l 0 2)) (hm.holds 114 _ rfl) (by simp) (by dsimp only; omega)).rd) rfl rfl rfl rfl (by omega) (by rw [bs_length]; omega)) rfl rfl (by kernel_rfl) ?_
    refine a_pu 4 rfl rfl rfl rfl (pu_rdM (L := bs (win l 0 2)) (j := 0) (v := b8 (l.getD 0 0#8)) (fun w' hm => (BagC.by 5 (x := (o0, win l 0 2)) (hm.holds 114 _ rfl) (by simp) (by dsimp only; omega)).rd) rfl rfl (bs_get g0)) rfl rfl (by kernel_rfl) ?_
    refine a_pu 5 rfl rfl rfl rfl (pu_move rfl rfl) rfl rfl (by kernel_rfl) ?_
    refine a_pu 6 rfl rfl rfl rfl (pu_atM1 0 (L := vals [(o0, win l 0 2), (o1, win l 2 4), (o2, win l 6 8), (o3, win l 14 16), (o4, win l 30 2)]) (fun w' hm => Ow.rd (t := 14) rfl hm) rfl rfl rfl rfl (by simp) (by simp [vals])) rfl rfl (by kernel_rfl) ?_
    refine a_pu 7 rfl rfl rfl rfl (pu_rdM (L := vals [(o0, win l 0 2), (o1, win l 2 4), (o2, win l 6 8), (o3, win l 14 16), (o4, win l 30 2)]) (j := 0) (v := o0.sl (win l 0 2).length) (fun w' hm => Ow.rd (t := 14) rfl hm) rfl rfl rfl) rfl rfl (by kernel_rfl) ?_
    refine a_pu 8 rfl rfl rfl rfl (pu_atM1 1 (L := bs (win l 0 2)) (fun w' hm => (BagC.by 5 (x := (o0, win l 0 2)) (hm.holds 114 _ rfl) (by simp) (by dsimp only; omega)).rd) rfl rfl rfl rfl (by omega) (by rw [bs_length]; omega)) rfl rfl (by kernel_rfl) ?_
    refine a_pu 9 rfl rfl rfl rfl (pu_rdM (L := bs (win l 0 2)) (j := 1) (v := b8 (l.getD 1 0#8)) (fun w' hm => (BagC.by 5 (x := (o0, win l 0 2)) (hm.holds 114 _ rfl) (by simp) (by dsimp only; omega)).rd) rfl rfl (bs_get g1)) rfl rfl (by kernel_rfl) ?_
    refine a_pu 10 rfl rfl rfl rfl (pu_move rfl rfl) rfl rfl (by kernel_rfl) ?_
    refine a_pu 11 rfl rfl rfl rfl (pu_conv64_32 rfl rfl) rfl rfl (by kernel_rfl) ?_
    refine a_pu 12 rfl rfl rfl rfl (pu_move rfl rfl) rfl rfl (by kernel_rfl) ?_
    refine a_pu 13 rfl rfl rfl rfl (pu_move rfl rfl) rfl rfl (by kernel_rfl) ?_
    refine a_pu 14 rfl rfl rfl rfl (pu_atM1 3 (L := vals [(o0, win l 0 2), (o1, win l 2 4), (o2, win l 6 8), (o3, win l 14 16), (o4, win l 30 2)]) (fun w' hm => Ow.rd (t := 14) rfl hm) rfl rfl rfl rfl (by simp) (by simp [vals])) rfl rfl (by kernel_rfl) ?_
    refine a_pu 15 rfl rfl rfl rfl (pu_rdM (L := vals [(o0, win l 0 2), (o1, win l 2 4), (o2, win l 6 8), (o3, win l 14 16), (o4, win l 30 2)]) (j := 3) (v := o3.sl (win l 14 16).length) (fun w' hm => Ow.rd (t := 14) rfl hm) rfl rfl rfl) rfl rfl (by kernel_rfl) ?_
    refine a_pu 16 rfl rfl rfl rfl (pu_s2a (fun w' hm => BagC.by 5 (x := (o3, win l 14 16)) (hm.holds 114 _ rfl) (by simp) (by dsimp only; omega)) rfl rfl (by omega) (by dsimp only; omega)) rfl rfl (by kernel_rfl) ?_
    refine a_pu 17 rfl rfl rfl rfl (pu_rdMA (L := bs (win l 14 16)) (j := 0) (s := 16) (fun w' hm => (BagC.by 5 (x := (o3, win l 14 16)) (hm.holds 114 _ rfl) (by simp) (by dsimp only; omega)).rd) rfl rfl (by omega) (by rw [bs_length]; omega)) rfl rfl (by kernel_rfl) ?_
    rw [List.drop_zero, List.take_of_length_le (show (bs (win l 14 16)).length ≤ 16 by rw [bs_length]; omega)]
    refine a_pu 18 rfl rfl rfl rfl (pu_buildS (cs := cmdC (decX l)) rfl rfl (fill5 hx16)) rfl rfl (by kernel_rfl) ?_
    refine a_pendA 19 10 10 28 ?_
    refine a_force _ (by kernel_rfl) rfl rfl rfl (by kernel_rfl) (by kernel_rfl) (by kernel_rfl) rfl (fun p hp => by simp only [List.mem_cons, List.not_mem_nil, or_false] at hp; subst hp; first | exact does_PA rfl rfl rfl rfl | exact does_PB rfl rfl rfl rfl rfl (by decide) (by decide) rfl rfl) ?_; rintro v_ cs_ ⟨b10, hb10, rfl, rfl⟩
    refine a_tail [20] (by kernel_rfl) rfl rfl (by kernel_rfl) ?_
    refine g_storeL 10 (s := 20) (C := cmdC (decX l)) rfl rfl rfl rfl rfl rfl hxl rfl (oneCell_cmd _) ?_
    refine g_nil ?_
    (repeat refine g_seq ?_)
    refine g_region ?_
    refine g_pu rfl rfl rfl (pu_loadW 10 (L := cmdC (decX l)) rfl rfl rfl hxl) ?_
    refine g_call [] rfl rfl rfl rfl rfl rfl (fun w' hm => Check_b w' (decX l) hx16) (fun _ _ => ?_)
    refine g_pu rfl rfl rfl (pu_assign rfl rfl) ?_
    refine g_nil ?_
    by_cases hz : win l 30 2 = [0#8, 0#8]
    · have hE : decE l = chkE (decX l) := by unfold decE; rw [if_neg (by omega), if_neg (fun h => h.1 hz)]
      (repeat refine g_seq ?_)
      refine g_region ?_
      refine g_pu rfl rfl rfl (pu_move rfl rfl) ?_
      refine g_pu rfl rfl rfl (pu_atM1 4 (L := vals [(o0, win l 0 2), (o1, win l 2 4), (o2, win l 6 8), (o3, win l 14 16), (o4, win l 30 2)]) (fun w' hm => Ow.rd (t := 14) rfl hm) rfl rfl rfl rfl (by simp) (by simp [vals])) ?_
      refine g_pu rfl rfl rfl (pu_rdM (L := vals [(o0, win l 0 2), (o1, win l 2 4), (o2, win l 6 8), (o3, win l 14 16), (o4, win l 30 2)]) (j := 4) (v := o4.sl (win l 30 2).length) (fun w' hm => Ow.rd (t := 14) rfl hm) rfl rfl rfl) ?_
      refine g_lo [59] rfl rfl rfl rfl (lo_buildSlice rfl rfl (by decide) (by decide) rfl rfl) (fun b59 hb59 => ?_)
      refine g_call [] rfl rfl rfl rfl rfl rfl (fun w' hm => Same_b w' _ _ (a := win l 30 2) (b := [0#8, 0#8]) (BagC.by 5 (x := (o4, win l 30 2)) (hm.holds 114 _ rfl) (by simp) (by dsimp only; omega)) (By.full 59 rfl hm rfl (by omega))) (fun _ _ => ?_)
      rw [decide_eq_true hz]
      refine g_pu rfl rfl rfl (pu_not rfl rfl) ?_
      refine g_pu rfl rfl rfl (pu_move rfl rfl) ?_
      first | refine g_pass rfl rfl rfl ?_ | refine g_pu rfl rfl rfl (pu_move rfl rfl) ?_
      first | refine g_pass rfl rfl rfl ?_ | refine g_pu rfl rfl rfl (pu_neq_t rfl rfl rfl (by omega)) ?_ | refine g_pu rfl rfl rfl (pu_neq_f rfl rfl rfl (by omega)) ?_ | refine g_pu rfl rfl rfl (pu_neq rfl rfl rfl) ?_
      first | refine g_pu rfl rfl rfl (pu_pick_t rfl rfl rfl) ?_ | refine g_pu rfl rfl rfl (pu_pick_f rfl rfl rfl) ?_
      refine g_nil ?_
      (repeat refine g_seq ?_)
      refine g_cond_f rfl (g_skip ?_)
      by_cases h0 : chkE (decX l) = 0
      · have hC : decC l = decX l := by unfold decC; rw [if_pos (by omega)]
        (repeat refine g_seq ?_)
        refine g_region ?_
        refine g_pu rfl rfl rfl (pu_move rfl rfl) ?_
        refine g_pu rfl rfl rfl (pu_neq_f rfl rfl rfl (by omega)) ?_
        refine g_nil ?_
        (repeat refine g_seq ?_)
        refine g_cond_f rfl (g_skip ?_)
        (repeat refine g_seq ?_)
        refine g_region ?_
        refine g_pu rfl rfl rfl (pu_loadW 10 (L := cmdC (decX l)) rfl rfl rfl hxl) ?_
        refine g_storeL 2 (s := 20) (C := cmdC (decX l)) rfl rfl rfl rfl rfl rfl hxl rfl (oneCell_cmd _) ?_
        refine g_pu rfl rfl rfl (pu_assign rfl rfl) ?_
        refine g_nil ?_
        exact g_retLT 2 (L := cmdC (decX l)) rfl hxl rfl rfl rfl (fun w' hm => ⟨(), trivial, by rw [hC, hE, h0], hm.grows [] trivial rfl⟩)
      · have hC : decC l = zeroCmd := by unfold decC; rw [if_neg (by omega)]
        (repeat refine g_seq ?_)
        refine g_region ?_
        refine g_pu rfl rfl rfl (pu_move rfl rfl) ?_
        refine g_pu rfl rfl rfl (pu_neq_t rfl rfl rfl (by omega)) ?_
        refine g_nil ?_
        (repeat refine g_seq ?_)
        refine g_cond_t rfl ?_
        (repeat refine g_seq ?_)
        refine g_region ?_
        refine g_pu rfl rfl rfl (pu_buildS (cs := cmdC zeroCmd) rfl rfl rfl) ?_
        refine g_pu rfl rfl rfl (pu_move rfl rfl) ?_
        refine g_storeL 2 (s := 20) (C := cmdC zeroCmd) rfl rfl rfl rfl rfl rfl hz20 rfl (oneCell_cmd _) ?_
        refine g_pu rfl rfl rfl (pu_assign rfl rfl) ?_
        refine g_nil ?_
        exact g_retLT 2 (L := cmdC zeroCmd) rfl hz20 rfl rfl rfl (fun w' hm => ⟨(), trivial, by rw [hC, hE], hm.grows [] trivial rfl⟩)
    · by_cases h1 : chkE (decX l) = 1
      · have hE : decE l = 1 := by unfold decE; rw [if_neg (by omega), if_neg (fun h => h.2 h1), h1]
        have hC : decC l = zeroCmd := by unfold decC; rw [if_neg (by omega)]
        (repeat refine g_seq ?_)
        refine g_region ?_
        refine g_pu rfl rfl rfl (pu_move rfl rfl) ?_
        refine g_pu rfl rfl rfl (pu_atM1 4 (L := vals [(o0, win l 0 2), (o1, win l 2 4), (o2, win l 6 8), (o3, win l 14 16), (o4, win l 30 2)]) (fun w' hm => Ow.rd (t := 14) rfl hm) rfl rfl rfl rfl (by simp) (by simp [vals])) ?_
        refine g_pu rfl rfl rfl (pu_rdM (L := vals [(o0, win l 0 2), (o1, win l 2 4), (o2, win l 6 8), (o3, win l 14 16), (o4, win l 30 2)]) (j := 4) (v := o4.sl (win l 30 2).length) (fun w' hm => Ow.rd (t := 14) rfl hm) rfl rfl rfl) ?_
        refine g_lo [59] rfl rfl rfl rfl (lo_buildSlice rfl rfl (by decide) (by decide) rfl rfl) (fun b59 hb59 => ?_)
        refine g_call [] rfl rfl rfl rfl rfl rfl (fun w' hm => Same_b w' _ _ (a := win l 30 2) (b := [0#8, 0#8]) (BagC.by 5 (x := (o4, win l 30 2)) (hm.holds 114 _ rfl) (by simp) (by dsimp only; omega)) (By.full 59 rfl hm rfl (by omega))) (fun _ _ => ?_)
        rw [decide_eq_false hz]
        refine g_pu rfl rfl rfl (pu_not rfl rfl) ?_
        refine g_pu rfl rfl rfl (pu_move rfl rfl) ?_
        first | refine g_pass rfl rfl rfl ?_ | refine g_pu rfl rfl rfl (pu_move rfl rfl) ?_
        refine g_pu rfl rfl rfl (pu_neq_f rfl rfl rfl (by omega)) ?_
        first | refine g_pu rfl rfl rfl (pu_pick_t rfl rfl rfl) ?_ | refine g_pu rfl rfl rfl (pu_pick_f rfl rfl rfl) ?_
        refine g_nil ?_
        (repeat refine g_seq ?_)
        refine g_cond_f rfl (g_skip ?_)
        (repeat refine g_seq ?_)
        refine g_region ?_
        refine g_pu rfl rfl rfl (pu_move rfl rfl) ?_
        refine g_pu rfl rfl rfl (pu_neq_t rfl rfl rfl (by omega)) ?_
        refine g_nil ?_
        (repeat refine g_seq ?_)
        refine g_cond_t rfl ?_
        (repeat refine g_seq ?_)
        refine g_region ?_
        refine g_pu rfl rfl rfl (pu_buildS (cs := cmdC zeroCmd) rfl rfl rfl) ?_
        refine g_pu rfl rfl rfl (pu_move rfl rfl) ?_
        refine g_storeL 2 (s := 20) (C := cmdC zeroCmd) rfl rfl rfl rfl rfl rfl hz20 rfl (oneCell_cmd _) ?_
        refine g_pu rfl rfl rfl (pu_assign rfl rfl) ?_
        refine g_nil ?_
        exact g_retLT 2 (L := cmdC zeroCmd) rfl hz20 rfl rfl rfl (fun w' hm => ⟨(), trivial, by rw [hC, hE, h1], hm.grows [] trivial rfl⟩)
      · have hE : decE l = 3 := by unfold decE; rw [if_neg (by omega), if_pos ⟨hz, h1⟩]
        have hC : decC l = zeroCmd := by unfold decC; rw [if_neg (by omega)]
        (repeat refine g_seq ?_)
        refine g_region ?_
        refine g_pu rfl rfl rfl (pu_move rfl rfl) ?_
        refine g_pu rfl rfl rfl (pu_atM1 4 (L := vals [(o0, win l 0 2), (o1, win l 2 4), (o2, win l 6 8), (o3, win l 14 16), (o4, win l 30 2)]) (fun w' hm => Ow.rd (t := 14) rfl hm) rfl rfl rfl rfl (by simp) (by simp [vals])) ?_
        refine g_pu rfl rfl rfl (pu_rdM (L := vals [(o0, win l 0 2), (o1, win l 2 4), (o2, win l 6 8), (o3, win l 14 16), (o4, win l 30 2)]) (j := 4) (v := o4.sl (win l 30 2).length) (fun w' hm => Ow.rd (t := 14) rfl hm) rfl rfl rfl) ?_
        refine g_lo [59] rfl rfl rfl rfl (lo_buildSlice rfl rfl (by decide) (by decide) rfl rfl) (fun b59 hb59 => ?_)
        refine g_call [] rfl rfl rfl rfl rfl rfl (fun w' hm => Same_b w' _ _ (a := win l 30 2) (b := [0#8, 0#8]) (BagC.by 5 (x := (o4, win l 30 2)) (hm.holds 114 _ rfl) (by simp) (by dsimp only; omega)) (By.full 59 rfl hm rfl (by omega))) (fun _ _ => ?_)
        rw [decide_eq_false hz]
        refine g_pu rfl rfl rfl (pu_not rfl rfl) ?_
        refine g_pu rfl rfl rfl (pu_move rfl rfl) ?_
        first | refine g_pass rfl rfl rfl ?_ | refine g_pu rfl rfl rfl (pu_move rfl rfl) ?_
        refine g_pu rfl rfl rfl (pu_neq_t rfl rfl rfl (by omega)) ?_
        first | refine g_pu rfl rfl rfl (pu_pick_t rfl rfl rfl) ?_ | refine g_pu rfl rfl rfl (pu_pick_f rfl rfl rfl) ?_
        refine g_nil ?_
        (repeat refine g_seq ?_)
        refine g_cond_t rfl ?_
        (repeat refine g_seq ?_)
        refine g_region ?_
        refine g_pu rfl rfl rfl (pu_assign rfl rfl) ?_
        refine g_nil ?_
        (repeat refine g_seq ?_)
        refine g_region ?_
        refine g_pu rfl rfl rfl (pu_move rfl rfl) ?_
        refine g_pu rfl rfl rfl (pu_neq_t rfl rfl rfl (by omega)) ?_
        refine g_nil ?_
        (repeat refine g_seq ?_)
        refine g_cond_t rfl ?_
        (repeat refine g_seq ?_)
        refine g_region ?_
        refine g_pu rfl rfl rfl (pu_buildS (cs := cmdC zeroCmd) rfl rfl rfl) ?_
        refine g_pu rfl rfl rfl (pu_move rfl rfl) ?_
        refine g_storeL 2 (s := 20) (C := cmdC zeroCmd) rfl rfl rfl rfl rfl rfl hz20 rfl (oneCell_cmd _) ?_
        refine g_pu rfl rfl rfl (pu_assign rfl rfl) ?_
        refine g_nil ?_
        exact g_retLT 2 (L := cmdC zeroCmd) rfl hz20 rfl rfl rfl (fun w' hm => ⟨(), trivial, by rw [hC, hE], hm.grows [] trivial rfl⟩)
  · have hcut := cut_off (l := l) (ns := [2, 4, 8, 16, 2]) (by decide) (fun h => h32 (by rw [← h]; rfl))
    have hE : decE l = 2 := by unfold decE; rw [if_pos h32]
    have hC : decC l = zeroCmd := by unfold decC; rw [if_neg (by omega)]
    (repeat refine g_seq ?_)
    refine g_region ?_
    refine g_lo [2] rfl rfl rfl rfl (lo_alloc rfl) (fun b2 hb2 => ?_)
    refine g_pu rfl rfl rfl (pu_assign rfl rfl) ?_
    refine g_nil ?_
    (repeat refine g_seq ?_)
    refine g_region ?_
    refine g_pu rfl rfl rfl (pu_move rfl rfl) ?_
    refine g_lo [13] rfl rfl rfl rfl (lo_buildSlice rfl rfl (by decide) (by decide) rfl rfl) (fun b13 hb13 => ?_)
    refine g_call [14, 114] rfl rfl rfl rfl rfl rfl (fun w' hm => CutC_b w' c _ [2, 4, 8, 16, 2] (ha.m hm) hc (hm.rowA 13 rfl) rfl (by decide)) (fun x14 h14 => ?_)
    rw [hcut.1]
    refine g_pu rfl rfl rfl (pu_move rfl rfl) ?_
    refine g_pu rfl rfl rfl (pu_extract rfl rfl rfl) ?_
    refine g_pu rfl rfl rfl (pu_extract rfl rfl rfl) ?_
    refine g_pu rfl rfl rfl (pu_assign rfl rfl) ?_
    refine g_pu rfl rfl rfl (pu_assign rfl rfl) ?_
    refine g_nil ?_
    (repeat refine g_seq ?_)
    refine g_region ?_
    refine g_pu rfl rfl rfl (pu_move rfl rfl) ?_
    refine g_pu rfl rfl rfl (pu_neq_t rfl rfl rfl (by omega)) ?_
    refine g_nil ?_
    (repeat refine g_seq ?_)
    refine g_cond_t rfl ?_
    (repeat refine g_seq ?_)
    refine g_region ?_
    refine g_pu rfl rfl rfl (pu_buildS (cs := cmdC zeroCmd) rfl rfl rfl) ?_
    refine g_pu rfl rfl rfl (pu_move rfl rfl) ?_
    refine g_storeL 2 (s := 20) (C := cmdC zeroCmd) rfl rfl rfl rfl rfl rfl hz20 rfl (oneCell_cmd _) ?_
    refine g_pu rfl rfl rfl (pu_assign rfl rfl) ?_
    refine g_nil ?_
    exact g_retLT 2 (L := cmdC zeroCmd) rfl hz20 rfl rfl rfl (fun w' hm => ⟨(), trivial, by rw [hC, hE]; rfl, hm.grows [] trivial rfl⟩)
end Go.Sx

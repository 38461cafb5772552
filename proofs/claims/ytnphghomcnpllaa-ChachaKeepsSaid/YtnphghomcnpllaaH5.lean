/-
  The reference's words, and its block. The key has 32 bytes, the nonce 12.
-/
import Derived.Test.YtnphghomcnpllaaH4
import Derived.Test.YtnphghomcnpllaaC9
set_option linter.unusedVariables false
set_option linter.unusedSimpArgs false
namespace Go.Sx
open Go Go.Proofs

theorem words_b (w : World) {p : Option Addr} {n : Nat} (c : Nat) {l : List (BitVec 8)} (ha : By w p n l) :
    Spec Try.prog 33 #[.slice p n c] w (σ := Ow) (fun _ => True) (fun x => x.sl (n / 4)) Nob (fun x => [x.ck 22 1 (ws (wordsL l))]) := by
  refine enter Try.func33 rfl rfl (Mem.start w) ?_
  have hn := ha.len
  have hbig := ha.big
  have hwl : (wordsL l).length = n / 4 := by rw [wordsL_length, hn]
  (repeat refine g_seq ?_)
  refine g_region ?_
  refine g_pu rfl rfl rfl (pu_assign rfl rfl) ?_
  refine g_nil ?_
  (repeat refine g_seq ?_)
  refine g_region ?_
  refine g_pu rfl rfl rfl (pu_assign rfl rfl) ?_
  refine g_nil ?_
  (repeat refine g_seq ?_)
  refine g_region ?_
  refine g_pu rfl rfl rfl (pu_assign rfl rfl) ?_
  refine g_nil ?_
  refine g_nilOwn 24 22 1 rfl ?_
  (repeat refine g_seq ?_)
  refine g_block (g_loop2 (fun (k : Nat) (x : Ow) => [(0, .slice p n c), (3, x.sl k), (4, .int .i64 ((4 * k : Nat) : Int))]) (fun k x => [(24, x.ck 22 1 (ws ((wordsL l).take k)))]) (fun k _ => k ≤ n / 4) (fun k _ => n - k) 0 ⟨none, 0⟩ ⟨rfl, rfl, rfl, trivial⟩ ⟨rfl, trivial⟩ (by omega) ?_)
  intro k x hk
  by_cases hlt : k < n / 4
  · (repeat refine g_seq ?_)
    refine g_region ?_
    refine g_pu rfl rfl rfl (pu_move rfl rfl) ?_
    refine g_pu rfl rfl rfl (pu_addI rfl rfl rfl (by omega)) ?_
    refine g_pu rfl rfl rfl (pu_move rfl rfl) ?_
    first | refine g_pu rfl rfl rfl (pu_len rfl rfl) ?_ | refine g_pu rfl rfl rfl (pu_lenS rfl rfl) ?_
    first | refine g_pu rfl rfl rfl (pu_lss_t rfl rfl rfl (by omega)) ?_ | refine g_pu rfl rfl rfl (pu_lss_f rfl rfl rfl (by omega)) ?_ | refine g_pu rfl rfl rfl (pu_lss rfl rfl rfl) ?_
    refine g_nil ?_
    (repeat refine g_seq ?_)
    refine g_cond_t rfl (g_skip ?_)
    have hg := wordsL_get (l := l) (i := k) (by rw [hn]; exact hlt)
    have hv := getV_word (l := l) (i := 4 * k) (by omega)
    have ht : (wordsL l).take (k + 1) = (wordsL l).take k ++ [word4 (l.drop (4 * k))] := by rw [List.take_add_one, hg]; rfl
    (repeat refine g_seq ?_); refine g_block ?_
    (repeat refine g_seq ?_)
    refine g_region ?_
    refine g_pu rfl rfl rfl (pu_move rfl rfl) ?_
    refine g_pu rfl rfl rfl (pu_move rfl rfl) ?_
    refine g_call [] rfl rfl rfl rfl rfl rfl (fun w' hm => RGet_b w' 1 c ((4 * k : Nat) : Int) 4 (ha.m hm)) (fun _ _ => ?_)
    refine g_pu rfl rfl rfl (pu_move rfl rfl) ?_
    refine g_pu rfl rfl rfl (pu_extract rfl rfl rfl) ?_
    refine g_pu rfl rfl rfl (pu_extract rfl rfl rfl) ?_
    refine g_pu rfl rfl rfl (pu_assign rfl rfl) ?_
    refine g_pu rfl rfl rfl (pu_assign rfl rfl) ?_
    refine g_nil ?_
    (repeat refine g_seq ?_)
    refine g_region ?_
    refine g_pu rfl rfl rfl (pu_move rfl rfl) ?_
    refine g_pu rfl rfl rfl (pu_move rfl rfl) ?_
    refine g_pu rfl rfl rfl (pu_conv64_32 rfl rfl) ?_
    rw [hv]
    refine g_lo [23] rfl rfl rfl rfl (lo_buildSlice rfl rfl (by decide) (by decide) rfl rfl) (fun b23 hb23 => ?_)
    refine g_append1 24 [b32 (word4 (l.drop (4 * k)))] rfl rfl rfl rfl rfl rfl rfl rfl (by rw [ws_length, List.length_take, hwl]; omega) (fun w' hm => hm.row 23 (J := []) rfl) rfl (fun u hu => by obtain rfl := List.mem_singleton.1 hu; rfl) (by omega) (by omega) (fun p' c' => ?_)
    refine g_pu rfl rfl rfl (pu_assign rfl rfl) ?_
    refine g_nil ?_
    refine g_blk ?_
    (repeat refine g_seq ?_)
    refine g_region ?_
    refine g_pu rfl rfl rfl (pu_move rfl rfl) ?_
    refine g_pu rfl rfl rfl (pu_addI rfl rfl rfl (by omega)) ?_
    refine g_pu rfl rfl rfl (pu_assign rfl rfl) ?_
    refine g_nil ?_
    refine g_round2 (k + 1) (⟨p', c'⟩ : Ow) (by omega) (by omega) ⟨rfl, rfl, congrArg (fun z => some (Value.int .i64 z)) (by omega), trivial⟩ ⟨by rw [ht, ws_append]; rfl, trivial⟩
  · (repeat refine g_seq ?_)
    refine g_region ?_
    refine g_pu rfl rfl rfl (pu_move rfl rfl) ?_
    refine g_pu rfl rfl rfl (pu_addI rfl rfl rfl (by omega)) ?_
    refine g_pu rfl rfl rfl (pu_move rfl rfl) ?_
    first | refine g_pu rfl rfl rfl (pu_len rfl rfl) ?_ | refine g_pu rfl rfl rfl (pu_lenS rfl rfl) ?_
    first | refine g_pu rfl rfl rfl (pu_lss_t rfl rfl rfl (by omega)) ?_ | refine g_pu rfl rfl rfl (pu_lss_f rfl rfl rfl (by omega)) ?_ | refine g_pu rfl rfl rfl (pu_lss rfl rfl rfl) ?_
    refine g_nil ?_
    (repeat refine g_seq ?_)
    refine g_cond_f rfl (g_exit rfl ?_)
    (repeat refine g_seq ?_)
    refine g_region ?_
    refine g_pu rfl rfl rfl (pu_move rfl rfl) ?_
    refine g_pu rfl rfl rfl (pu_assign rfl rfl) ?_
    refine g_nil ?_
    have e1 : k = n / 4 := by omega
    subst e1
    rw [List.take_of_length_le (by omega)]
    exact g_ret1 rfl rfl (fun w' hm => ⟨x, trivial, rfl, hm.grows [24] ⟨rfl, trivial⟩ rfl⟩)

def plCells (i : Nat) : List Value := [.int .i64 ((pl i).1 : Int), .int .i64 ((pl i).2.1 : Int), .int .i64 ((pl i).2.2.1 : Int), .int .i64 ((pl i).2.2.2 : Int)]
def plAll : List Value := plCells 0 ++ plCells 1 ++ plCells 2 ++ plCells 3 ++ plCells 4 ++ plCells 5 ++ plCells 6 ++ plCells 7
theorem plAll_get (j : Nat) (h : j < 8) : plAll.toArray.extract (0 + j * 4) (0 + j * 4 + 4) = (plCells j).toArray := by
  match j, h with
  | 0, _ => rfl
  | 1, _ => rfl
  | 2, _ => rfl
  | 3, _ => rfl
  | 4, _ => rfl
  | 5, _ => rfl
  | 6, _ => rfl
  | 7, _ => rfl
theorem pl_lt (j : Nat) (h : j < 8) : (pl j).1 < 16 ∧ (pl j).2.1 < 16 ∧ (pl j).2.2.1 < 16 ∧ (pl j).2.2.2 < 16 := by
  match j, h with
  | 0, _ => decide
  | 1, _ => decide
  | 2, _ => decide
  | 3, _ => decide
  | 4, _ => decide
  | 5, _ => decide
  | 6, _ => decide
  | 7, _ => decide

theorem ws_loadJ {m : List (BitVec 32)} {J : List Value} {i : Nat} {x : BitVec 32} (h : m[i]? = some x) : (ws m ++ J).toArray[0 + i]? = some (b32 x) := by
  have hi := (List.getElem?_eq_some_iff.1 h).1
  rw [Nat.zero_add, List.getElem?_toArray, List.getElem?_append_left (by rw [ws_length]; exact hi)]
  exact ws_get h
theorem ws_setJ (m : List (BitVec 32)) (J : List Value) (i : Nat) (x : BitVec 32) (hi : i < m.length) : (ws m ++ J).set (0 + i) (b32 x) = ws (m.set i x) ++ J := by
  rw [Nat.zero_add, List.set_append_left _ _ (by rw [ws_length]; exact hi)]
  simp [ws, List.map_set]
/-- Some of the four places are set. -/
def stK (s : List (BitVec 32)) (a b c d : Nat) (q : W4) : Nat → List (BitVec 32)
  | 0 => s
  | 1 => s.set a q.1
  | 2 => (s.set a q.1).set b q.2.1
  | 3 => ((s.set a q.1).set b q.2.1).set c q.2.2.1
  | _ => (((s.set a q.1).set b q.2.1).set c q.2.2.1).set d q.2.2.2
theorem wide_shr {w : BitVec 32} {r : Nat} (hr : r < 4) : ((w.setWidth 64) >>> (8 * r)).setWidth 8 = (w >>> (8 * r)).setWidth 8 := by
  apply BitVec.eq_of_getLsbD_eq
  intro i hi
  simp only [BitVec.getLsbD_setWidth, BitVec.getLsbD_ushiftRight]
  simp [hi]
  omega
theorem putL_word {f : Nat → BitVec 32} {i : Nat} (hi : i < 16) : (bytesOfW f 16).take (4 * (i + 1)) = (bytesOfW f 16).take (4 * i) ++ putL 1 4 ((f i).setWidth 64) ∧ (putL 1 4 ((f i).setWidth 64)).length = 4 := by
  have hE : putE 1 4 ((f i).setWidth 64) = 0 := by
    unfold putE
    rw [if_neg (fun h => h ⟨.inl rfl, by omega, by omega⟩), if_neg]
    intro h
    apply h
    apply BitVec.eq_of_getLsbD_eq
    intro j hj
    rw [BitVec.getLsbD_ushiftRight, BitVec.getLsbD_setWidth]
    simp [BitVec.getLsbD_of_ge (f i) _ (show 32 ≤ 8 * (4 : Int).toNat + j by omega)]
  have hL : putL 1 4 ((f i).setWidth 64) = putW ((f i).setWidth 64) 4 := by unfold putL; rw [if_pos hE, if_neg (by omega)]; rfl
  refine ⟨?_, by rw [hL, putW_length]⟩
  rw [hL]
  have hbl := bytesOfW_length f 16
  apply List.ext_getElem?
  intro j
  by_cases h1 : j < 4 * i
  · rw [List.getElem?_append_left (by simp [hbl]; omega), List.getElem?_take, List.getElem?_take, if_pos (by omega), if_pos h1]
  · rw [List.getElem?_append_right (by simp [hbl]; omega), List.length_take, hbl, Nat.min_eq_left (by omega)]
    by_cases h2 : j < 4 * (i + 1)
    · obtain ⟨r, rfl⟩ : ∃ r, j = 4 * i + r := ⟨j - 4 * i, by omega⟩
      rw [List.getElem?_take, if_pos h2, bytesOfW_get hi (by omega), show 4 * i + r - 4 * i = r by omega, putW_get (by omega), wide_shr (by omega)]
    · rw [List.getElem?_take, if_neg h2, List.getElem?_eq_none (by rw [putW_length]; omega)]

theorem RBlock_b (w : World) {p q : Option Addr} (c d : Nat) {key nonce : List (BitVec 8)} (ctr : BitVec 32) (ha : By w p 32 key) (hb : By w q 12 nonce) :
    Spec Try.prog 16 #[.slice p 32 c, .slice q 12 d, b32 ctr] w (σ := Ow) (fun _ => True) (fun x => x.sl 64) Nob (fun x => [x.ck 5 1 (bs (blockB key nonce ctr))]) := by
  refine enter Try.func16 rfl rfl (Mem.start w) ?_
  have hk := ha.len
  have hn := hb.len
  have hl := stateL_length (ctr := ctr) hk hn
  have hbl := blockB_length key nonce ctr
  have hk8 : (wordsL key).length = 8 := by rw [wordsL_length, hk]
  have hn3 : (wordsL nonce).length = 3 := by rw [wordsL_length, hn]
  unfold blockB at hbl ⊢
  generalize hfull : stateL key nonce ctr = full at hl hbl
  (repeat refine g_seq ?_)
  refine g_region ?_
  refine g_pu rfl rfl rfl (pu_assign rfl rfl) ?_
  refine g_nil ?_
  (repeat refine g_seq ?_)
  refine g_region ?_
  refine g_lo [18] rfl rfl rfl rfl (lo_buildSlice rfl rfl (by decide) (by decide) rfl rfl) (fun b18 hb18 => ?_)
  refine g_mark 18 rfl rfl rfl rfl rfl rfl ?_
  refine g_call [20] rfl rfl rfl rfl rfl rfl (fun w' hm => words_b w' _ (l := [101#8, 120#8, 112#8, 97#8, 110#8, 100#8, 32#8, 51#8, 50#8, 45#8, 98#8, 121#8, 116#8, 101#8, 32#8, 107#8]) (By.full 18 rfl hm rfl (by omega))) (fun x20 _ => ?_)
  rw [show wordsL [101#8, 120#8, 112#8, 97#8, 110#8, 100#8, 32#8, 51#8, 50#8, 45#8, 98#8, 121#8, 116#8, 101#8, 32#8, 107#8] = sigma from by decide]
  refine g_pu rfl rfl rfl (pu_assign rfl rfl) ?_
  refine g_nil ?_
  (repeat refine g_seq ?_)
  refine g_region ?_
  refine g_pu rfl rfl rfl (pu_move rfl rfl) ?_
  refine g_pu rfl rfl rfl (pu_move rfl rfl) ?_
  refine g_call [23] rfl rfl rfl rfl rfl rfl (fun w' hm => words_b w' c (ha.m hm)) (fun x23 _ => ?_)
  refine g_append1 20 (L := ws sigma) (n := 4) (m := 8) (ws (wordsL key)) rfl rfl rfl rfl rfl rfl rfl rfl rfl (fun w' hm => Ow.rd (t := 23) rfl hm) (by rw [ws_length, hk8]) (oneCell_ws _) (by omega) (by omega) (fun p1 c1 => ?_)
  refine g_pu rfl rfl rfl (pu_assign rfl rfl) ?_
  refine g_nil ?_
  (repeat refine g_seq ?_)
  refine g_region ?_
  refine g_pu rfl rfl rfl (pu_move rfl rfl) ?_
  refine g_pu rfl rfl rfl (pu_move rfl rfl) ?_
  refine g_lo [27] rfl rfl rfl rfl (lo_buildSlice rfl rfl (by decide) (by decide) rfl rfl) (fun b27 hb27 => ?_)
  refine g_append1 20 (L := ws sigma ++ ws (wordsL key)) (n := 12) (m := 1) [b32 ctr] rfl rfl rfl rfl rfl rfl rfl rfl (by simp [ws_length, hk8, sigma]) (fun w' hm => hm.row 27 (J := []) rfl) rfl (fun u hu => by obtain rfl := List.mem_singleton.1 hu; rfl) (by omega) (by omega) (fun p2 c2 => ?_)
  refine g_pu rfl rfl rfl (pu_assign rfl rfl) ?_
  refine g_nil ?_
  (repeat refine g_seq ?_)
  refine g_region ?_
  refine g_pu rfl rfl rfl (pu_move rfl rfl) ?_
  refine g_pu rfl rfl rfl (pu_move rfl rfl) ?_
  refine g_call [31] rfl rfl rfl rfl rfl rfl (fun w' hm => words_b w' d (hb.m hm)) (fun x31 _ => ?_)
  refine g_append1 20 (L := ws sigma ++ ws (wordsL key) ++ [b32 ctr]) (n := 13) (m := 3) (ws (wordsL nonce)) rfl rfl rfl rfl rfl rfl rfl rfl (by simp [ws_length, hk8, sigma]) (fun w' hm => Ow.rd (t := 31) rfl hm) (by rw [ws_length, hn3]) (oneCell_ws _) (by omega) (by omega) (fun p7 c7 => ?_)
  rw [show ws sigma ++ ws (wordsL key) ++ [b32 ctr] ++ ws (wordsL nonce) = ws full by rw [← hfull]; simp [stateL, ws]]
  refine g_pu rfl rfl rfl (pu_assign rfl rfl) ?_
  refine g_nil ?_
  (repeat refine g_seq ?_)
  refine g_region ?_
  refine g_lo [33] rfl rfl rfl rfl (lo_buildSlice0 rfl) (fun b33 hb33 => ?_)
  refine g_own 33 (L := []) (J := []) (c := 0) (s := 1) rfl (by simp) (by omega) ?_
  refine g_pu rfl rfl rfl (pu_move rfl rfl) ?_
  refine g_append1 33 (n := 0) (m := 16) (ws full) rfl rfl rfl rfl rfl rfl rfl rfl rfl (fun w' hm => Own.rd (hm.holds 20 _ rfl)) (by rw [ws_length, hl]) (oneCell_ws _) (by omega) (by omega) (fun p8 c8 => ?_)
  refine g_pu rfl rfl rfl (pu_assign rfl rfl) ?_
  refine g_nil ?_
  refine g_row 20 rfl (by rw [ws_length, hl]; omega) (fun bb J hp hJ hcap => ?_)
  subst hp
  (repeat refine g_seq ?_)
  refine g_region ?_
  first | refine g_pu rfl rfl rfl (pu_buildA rfl rfl rfl rfl rfl) ?_ | refine g_pu rfl rfl rfl (pu_buildA' rfl rfl rfl) ?_
  first | refine g_pu rfl rfl rfl (pu_buildA rfl rfl rfl rfl rfl) ?_ | refine g_pu rfl rfl rfl (pu_buildA' rfl rfl rfl) ?_
  first | refine g_pu rfl rfl rfl (pu_buildA rfl rfl rfl rfl rfl) ?_ | refine g_pu rfl rfl rfl (pu_buildA' rfl rfl rfl) ?_
  first | refine g_pu rfl rfl rfl (pu_buildA rfl rfl rfl rfl rfl) ?_ | refine g_pu rfl rfl rfl (pu_buildA' rfl rfl rfl) ?_
  first | refine g_pu rfl rfl rfl (pu_buildA rfl rfl rfl rfl rfl) ?_ | refine g_pu rfl rfl rfl (pu_buildA' rfl rfl rfl) ?_
  first | refine g_pu rfl rfl rfl (pu_buildA rfl rfl rfl rfl rfl) ?_ | refine g_pu rfl rfl rfl (pu_buildA' rfl rfl rfl) ?_
  first | refine g_pu rfl rfl rfl (pu_buildA rfl rfl rfl rfl rfl) ?_ | refine g_pu rfl rfl rfl (pu_buildA' rfl rfl rfl) ?_
  first | refine g_pu rfl rfl rfl (pu_buildA rfl rfl rfl rfl rfl) ?_ | refine g_pu rfl rfl rfl (pu_buildA' rfl rfl rfl) ?_
  refine g_pu rfl rfl rfl (pu_buildA (cs := plAll) rfl rfl rfl rfl rfl) ?_
  refine g_lo [9] rfl rfl rfl rfl (lo_alloc rfl) (fun b9 hb9 => ?_)
  refine g_storeL 9 (C := plAll) rfl rfl rfl rfl rfl rfl rfl rfl (by simp [plAll, plCells, Value.oneCell']) ?_
  refine g_nil ?_
  (repeat refine g_seq ?_)
  refine g_region ?_
  refine g_pu rfl rfl rfl (pu_assign rfl rfl) ?_
  refine g_nil ?_
  (repeat refine g_seq ?_)
  refine g_block (g_loop (σ := Nat) (fun i => [(7, .slice (some ⟨bb, 0, none⟩) 16 c7), (8, .slice p8 16 c8), (9, .pointer (some ⟨b9, 0, none⟩)), (10, .int .i64 (i : Int))]) (fun i => [(9, .pt b9 (.cells plAll.toArray 64 (0, 0))), (20, .pt bb (.cells (ws (rnds full i) ++ J).toArray 22 (0, 0))), (33, .fact (At p8) (Own 22 1 p8 c8 (ws full)))]) (fun i => i ≤ 80) (fun i => 80 - i) 0 ⟨rfl, rfl, rfl, rfl, trivial⟩ ⟨rfl, rfl, rfl, trivial⟩ (by omega) ?_)
  intro i hi
  by_cases hlt : i < 80
  · (repeat refine g_seq ?_)
    refine g_region ?_
    refine g_pu rfl rfl rfl (pu_move rfl rfl) ?_
    first | refine g_pu rfl rfl rfl (pu_lss_t rfl rfl rfl (by omega)) ?_ | refine g_pu rfl rfl rfl (pu_lss_f rfl rfl rfl (by omega)) ?_ | refine g_pu rfl rfl rfl (pu_lss rfl rfl rfl) ?_
    refine g_nil ?_
    (repeat refine g_seq ?_)
    refine g_cond_t rfl (g_skip ?_)
    have hj8 : i % 8 < 8 := Nat.mod_lt _ (by omega)
    have hget := plAll_get (i % 8) hj8
    obtain ⟨ha1, hb1, hc1, hd1⟩ := pl_lt (i % 8) hj8
    have hnext : rnds full (i + 1) = qrAt (rnds full i) (pl (i % 8)).1 (pl (i % 8)).2.1 (pl (i % 8)).2.2.1 (pl (i % 8)).2.2.2 := rfl
    have hcell : plCells (i % 8) = [.int .i64 ((pl (i % 8)).1 : Int), .int .i64 ((pl (i % 8)).2.1 : Int), .int .i64 ((pl (i % 8)).2.2.1 : Int), .int .i64 ((pl (i % 8)).2.2.2 : Int)] := rfl
    have hsl : (rnds full i).length = 16 := by rw [rnds_length, hl]
    rw [hcell] at hget
    generalize (pl (i % 8)).1 = pa at ha1 hnext hget
    generalize (pl (i % 8)).2.1 = pb at hb1 hnext hget
    generalize (pl (i % 8)).2.2.1 = pc at hc1 hnext hget
    generalize (pl (i % 8)).2.2.2 = pd at hd1 hnext hget
    generalize rnds full i = s at hnext hsl
    have g : ∀ j, j < 16 → s[j]? = some (s.getD j 0#32) := fun j hj => by
      have : s[j]? = some s[j] := List.getElem?_eq_getElem (by omega)
      simp [List.getD, this]
    (repeat refine g_seq ?_); refine g_block ?_
    (repeat refine g_seq ?_)
    refine g_region ?_
    refine g_pu rfl rfl rfl (pu_move rfl rfl) ?_
    refine g_pu rfl rfl rfl (pu_remI rfl rfl rfl (by omega)) ?_
    refine g_pu rfl rfl rfl (pu_atA (i % 8) rfl rfl rfl (by omega) hj8) ?_
    refine g_pu rfl rfl rfl (pu_loadA 9 rfl rfl rfl (by simp [plAll, plCells]; omega)) ?_
    rw [hget]
    refine g_lo [11] rfl rfl rfl rfl (lo_alloc rfl) (fun b11 hb11 => ?_)
    refine g_storeW 11 rfl rfl rfl rfl rfl rfl rfl (by simp [Value.oneCell']) ?_
    refine g_nil ?_
    (repeat refine g_seq ?_)
    refine g_any (23, []) ?_
    refine a_pu 0 rfl rfl rfl rfl (pu_move rfl rfl) rfl rfl (by kernel_rfl) ?_
    refine a_pu 1 rfl rfl rfl rfl (pu_atA1 0 rfl rfl rfl rfl (by omega)) rfl rfl (by kernel_rfl) ?_
    refine a_pu 2 rfl rfl rfl rfl (pu_load 11 rfl rfl rfl rfl) rfl rfl (by kernel_rfl) ?_
    refine a_pu 3 rfl rfl rfl rfl (pu_at1 pa rfl rfl rfl rfl ha1) rfl rfl (by kernel_rfl) ?_
    refine a_pu 4 rfl rfl rfl rfl (pu_load 20 rfl rfl rfl (ws_loadJ (g pa ha1))) rfl rfl (by kernel_rfl) ?_
    refine a_pu 5 rfl rfl rfl rfl (pu_move rfl rfl) rfl rfl (by kernel_rfl) ?_
    refine a_pu 6 rfl rfl rfl rfl (pu_atA1 1 rfl rfl rfl rfl (by omega)) rfl rfl (by kernel_rfl) ?_
    refine a_pu 7 rfl rfl rfl rfl (pu_load 11 rfl rfl rfl rfl) rfl rfl (by kernel_rfl) ?_
    refine a_pu 8 rfl rfl rfl rfl (pu_at1 pb rfl rfl rfl rfl hb1) rfl rfl (by kernel_rfl) ?_
    refine a_pu 9 rfl rfl rfl rfl (pu_load 20 rfl rfl rfl (ws_loadJ (g pb hb1))) rfl rfl (by kernel_rfl) ?_
    refine a_pu 10 rfl rfl rfl rfl (pu_move rfl rfl) rfl rfl (by kernel_rfl) ?_
    refine a_pu 11 rfl rfl rfl rfl (pu_atA1 2 rfl rfl rfl rfl (by omega)) rfl rfl (by kernel_rfl) ?_
    refine a_pu 12 rfl rfl rfl rfl (pu_load 11 rfl rfl rfl rfl) rfl rfl (by kernel_rfl) ?_
    refine a_pu 13 rfl rfl rfl rfl (pu_at1 pc rfl rfl rfl rfl hc1) rfl rfl (by kernel_rfl) ?_
    refine a_pu 14 rfl rfl rfl rfl (pu_load 20 rfl rfl rfl (ws_loadJ (g pc hc1))) rfl rfl (by kernel_rfl) ?_
    refine a_pu 15 rfl rfl rfl rfl (pu_move rfl rfl) rfl rfl (by kernel_rfl) ?_
    refine a_pu 16 rfl rfl rfl rfl (pu_atA1 3 rfl rfl rfl rfl (by omega)) rfl rfl (by kernel_rfl) ?_
    refine a_pu 17 rfl rfl rfl rfl (pu_load 11 rfl rfl rfl rfl) rfl rfl (by kernel_rfl) ?_
    refine a_pu 18 rfl rfl rfl rfl (pu_at1 pd rfl rfl rfl rfl hd1) rfl rfl (by kernel_rfl) ?_
    refine a_pu 19 rfl rfl rfl rfl (pu_load 20 rfl rfl rfl (ws_loadJ (g pd hd1))) rfl rfl (by kernel_rfl) ?_
    first | refine a_pu 20 rfl rfl rfl rfl (pu_buildA rfl rfl rfl rfl rfl) rfl rfl (by kernel_rfl) ?_ | refine a_pu 20 rfl rfl rfl rfl (pu_buildA' rfl rfl rfl) rfl rfl (by kernel_rfl) ?_
    refine a_pendA 22 12 12 23 ?_
    refine a_do 21 74 [] (does_call rfl rfl rfl rfl rfl (fun w' hm => RQuarter_b w' (s.getD pa 0#32, s.getD pb 0#32, s.getD pc 0#32, s.getD pd 0#32))) rfl rfl (by kernel_rfl) rfl rfl (by kernel_rfl) (by kernel_rfl) (by kernel_rfl) rfl (fun p hp => by simp only [List.mem_cons, List.not_mem_nil, or_false] at hp; subst hp; exact does_PA rfl rfl rfl rfl) ?_; rintro v_ cs_ ⟨_, _, rfl, rfl⟩
    refine a_force _ (by kernel_rfl) rfl rfl rfl (by kernel_rfl) (by kernel_rfl) (by kernel_rfl) rfl (fun p hp => by simp only [List.mem_cons, List.not_mem_nil, or_false] at hp; subst hp; exact does_PA rfl rfl rfl rfl) ?_; rintro v_ cs_ ⟨b12, hb12, rfl, rfl⟩
    refine a_tail [23] (by kernel_rfl) rfl rfl (by kernel_rfl) ?_
    refine g_storeL 12 (C := cells4 (quarter (s.getD pa 0#32, s.getD pb 0#32, s.getD pc 0#32, s.getD pd 0#32))) rfl rfl rfl rfl rfl rfl rfl rfl (by simp [cells4, Value.oneCell', b32]) ?_
    refine g_nil ?_
    have hq : qrAt s pa pb pc pd = stK s pa pb pc pd (quarter (s.getD pa 0#32, s.getD pb 0#32, s.getD pc 0#32, s.getD pd 0#32)) 4 := rfl
    rw [hq] at hnext
    generalize quarter (s.getD pa 0#32, s.getD pb 0#32, s.getD pc 0#32, s.getD pd 0#32) = qq at hnext
    (repeat refine g_seq ?_)
    refine g_region ?_
    refine g_pu rfl rfl rfl (pu_assign rfl rfl) ?_
    refine g_nil ?_
    (repeat refine g_seq ?_)
    refine g_block (g_loop (σ := Nat) (fun k => [(7, .slice (some ⟨bb, 0, none⟩) 16 c7), (8, .slice p8 16 c8), (9, .pointer (some ⟨b9, 0, none⟩)), (10, .int .i64 (i : Int)), (11, .pointer (some ⟨b11, 0, none⟩)), (12, .pointer (some ⟨b12, 0, none⟩)), (13, .int .i64 (k : Int))]) (fun k => [(9, .pt b9 (.cells plAll.toArray 64 (0, 0))), (11, .pt b11 (.cells [.int .i64 (pa : Int), .int .i64 (pb : Int), .int .i64 (pc : Int), .int .i64 (pd : Int)].toArray 54 (0, 0))), (12, .pt b12 (.cells (cells4 qq).toArray 23 (0, 0))), (20, .pt bb (.cells (ws (stK s pa pb pc pd qq k) ++ J).toArray 22 (0, 0))), (33, .fact (At p8) (Own 22 1 p8 c8 (ws full)))]) (fun k => k ≤ 4) (fun k => 4 - k) 0 ⟨rfl, rfl, rfl, rfl, rfl, rfl, rfl, trivial⟩ ⟨rfl, rfl, rfl, rfl, rfl, trivial⟩ (by omega) ?_)
    intro k hk
    by_cases hltk : k < 4
    · (repeat refine g_seq ?_)
      refine g_region ?_
      refine g_pu rfl rfl rfl (pu_move rfl rfl) ?_
      first | refine g_pu rfl rfl rfl (pu_lss_t rfl rfl rfl (by omega)) ?_ | refine g_pu rfl rfl rfl (pu_lss_f rfl rfl rfl (by omega)) ?_ | refine g_pu rfl rfl rfl (pu_lss rfl rfl rfl) ?_
      refine g_nil ?_
      (repeat refine g_seq ?_)
      refine g_cond_t rfl (g_skip ?_)
      (repeat refine g_seq ?_); refine g_block ?_
      obtain rfl | rfl | rfl | rfl : k = 0 ∨ k = 1 ∨ k = 2 ∨ k = 3 := by omega
      · (repeat refine g_seq ?_)
        refine g_any (8, []) ?_
        refine a_pu 0 rfl rfl rfl rfl (pu_move rfl rfl) rfl rfl (by kernel_rfl) ?_
        refine a_pu 1 rfl rfl rfl rfl (pu_move rfl rfl) rfl rfl (by kernel_rfl) ?_
        refine a_pu 2 rfl rfl rfl rfl (pu_atA1 _ rfl rfl rfl rfl (by omega)) rfl rfl (by kernel_rfl) ?_
        refine a_pu 3 rfl rfl rfl rfl (pu_load 11 rfl rfl rfl rfl) rfl rfl (by kernel_rfl) ?_
        refine a_pu 4 rfl rfl rfl rfl (pu_move rfl rfl) rfl rfl (by kernel_rfl) ?_
        refine a_pu 5 rfl rfl rfl rfl (pu_atA1 _ rfl rfl rfl rfl (by omega)) rfl rfl (by kernel_rfl) ?_
        refine a_pu 6 rfl rfl rfl rfl (pu_load 12 rfl rfl rfl rfl) rfl rfl (by kernel_rfl) ?_
        refine a_pu 7 rfl rfl rfl rfl (pu_at1 pa rfl rfl rfl rfl ha1) rfl rfl (by kernel_rfl) ?_
        refine a_tail [8] (by kernel_rfl) rfl rfl (by kernel_rfl) ?_
        refine g_store 20 (v := b32 qq.1) rfl rfl rfl rfl rfl rfl rfl (by simp [ws_length, stK]; omega) ?_
        rw [ws_setJ _ _ _ _ (by simp [stK]; omega)]
        refine g_nil ?_
        refine g_blk ?_
        (repeat refine g_seq ?_)
        refine g_region ?_
        refine g_pu rfl rfl rfl (pu_move rfl rfl) ?_
        refine g_pu rfl rfl rfl (pu_addI rfl rfl rfl (by omega)) ?_
        refine g_pu rfl rfl rfl (pu_assign rfl rfl) ?_
        refine g_nil ?_
        exact g_round 1 (by omega) (by omega) ⟨rfl, rfl, rfl, rfl, rfl, rfl, rfl, trivial⟩ ⟨rfl, rfl, rfl, rfl, rfl, trivial⟩
      · (repeat refine g_seq ?_)
        refine g_any (8, []) ?_
        refine a_pu 0 rfl rfl rfl rfl (pu_move rfl rfl) rfl rfl (by kernel_rfl) ?_
        refine a_pu 1 rfl rfl rfl rfl (pu_move rfl rfl) rfl rfl (by kernel_rfl) ?_
        refine a_pu 2 rfl rfl rfl rfl (pu_atA1 _ rfl rfl rfl rfl (by omega)) rfl rfl (by kernel_rfl) ?_
        refine a_pu 3 rfl rfl rfl rfl (pu_load 11 rfl rfl rfl rfl) rfl rfl (by kernel_rfl) ?_
        refine a_pu 4 rfl rfl rfl rfl (pu_move rfl rfl) rfl rfl (by kernel_rfl) ?_
        refine a_pu 5 rfl rfl rfl rfl (pu_atA1 _ rfl rfl rfl rfl (by omega)) rfl rfl (by kernel_rfl) ?_
        refine a_pu 6 rfl rfl rfl rfl (pu_load 12 rfl rfl rfl rfl) rfl rfl (by kernel_rfl) ?_
        refine a_pu 7 rfl rfl rfl rfl (pu_at1 pb rfl rfl rfl rfl hb1) rfl rfl (by kernel_rfl) ?_
        refine a_tail [8] (by kernel_rfl) rfl rfl (by kernel_rfl) ?_
        refine g_store 20 (v := b32 qq.2.1) rfl rfl rfl rfl rfl rfl rfl (by simp [ws_length, stK]; omega) ?_
        rw [ws_setJ _ _ _ _ (by simp [stK]; omega)]
        refine g_nil ?_
        refine g_blk ?_
        (repeat refine g_seq ?_)
        refine g_region ?_
        refine g_pu rfl rfl rfl (pu_move rfl rfl) ?_
        refine g_pu rfl rfl rfl (pu_addI rfl rfl rfl (by omega)) ?_
        refine g_pu rfl rfl rfl (pu_assign rfl rfl) ?_
        refine g_nil ?_
        exact g_round 2 (by omega) (by omega) ⟨rfl, rfl, rfl, rfl, rfl, rfl, rfl, trivial⟩ ⟨rfl, rfl, rfl, rfl, rfl, trivial⟩
      · (repeat refine g_seq ?_)
        refine g_any (8, []) ?_
        refine a_pu 0 rfl rfl rfl rfl (pu_move rfl rfl) rfl rfl (by kernel_rfl) ?_
        refine a_pu 1 rfl rfl rfl rfl (pu_move rfl rfl) rfl rfl (by kernel_rfl) ?_
        refine a_pu 2 rfl rfl rfl rfl (pu_atA1 _ rfl rfl rfl rfl (by omega)) rfl rfl (by kernel_rfl) ?_
        refine a_pu 3 rfl rfl rfl rfl (pu_load 11 rfl rfl rfl rfl) rfl rfl (by kernel_rfl) ?_
        refine a_pu 4 rfl rfl rfl rfl (pu_move rfl rfl) rfl rfl (by kernel_rfl) ?_
        refine a_pu 5 rfl rfl rfl rfl (pu_atA1 _ rfl rfl rfl rfl (by omega)) rfl rfl (by kernel_rfl) ?_
        refine a_pu 6 rfl rfl rfl rfl (pu_load 12 rfl rfl rfl rfl) rfl rfl (by kernel_rfl) ?_
        refine a_pu 7 rfl rfl rfl rfl (pu_at1 pc rfl rfl rfl rfl hc1) rfl rfl (by kernel_rfl) ?_
        refine a_tail [8] (by kernel_rfl) rfl rfl (by kernel_rfl) ?_
        refine g_store 20 (v := b32 qq.2.2.1) rfl rfl rfl rfl rfl rfl rfl (by simp [ws_length, stK]; omega) ?_
        rw [ws_setJ _ _ _ _ (by simp [stK]; omega)]
        refine g_nil ?_
        refine g_blk ?_
        (repeat refine g_seq ?_)
        refine g_region ?_
        refine g_pu rfl rfl rfl (pu_move rfl rfl) ?_
        refine g_pu rfl rfl rfl (pu_addI rfl rfl rfl (by omega)) ?_
        refine g_pu rfl rfl rfl (pu_assign rfl rfl) ?_
        refine g_nil ?_
        exact g_round 3 (by omega) (by omega) ⟨rfl, rfl, rfl, rfl, rfl, rfl, rfl, trivial⟩ ⟨rfl, rfl, rfl, rfl, rfl, trivial⟩
      · (repeat refine g_seq ?_)
        refine g_any (8, []) ?_
        refine a_pu 0 rfl rfl rfl rfl (pu_move rfl rfl) rfl rfl (by kernel_rfl) ?_
        refine a_pu 1 rfl rfl rfl rfl (pu_move rfl rfl) rfl rfl (by kernel_rfl) ?_
        refine a_pu 2 rfl rfl rfl rfl (pu_atA1 _ rfl rfl rfl rfl (by omega)) rfl rfl (by kernel_rfl) ?_
        refine a_pu 3 rfl rfl rfl rfl (pu_load 11 rfl rfl rfl rfl) rfl rfl (by kernel_rfl) ?_
        refine a_pu 4 rfl rfl rfl rfl (pu_move rfl rfl) rfl rfl (by kernel_rfl) ?_
        refine a_pu 5 rfl rfl rfl rfl (pu_atA1 _ rfl rfl rfl rfl (by omega)) rfl rfl (by kernel_rfl) ?_
        refine a_pu 6 rfl rfl rfl rfl (pu_load 12 rfl rfl rfl rfl) rfl rfl (by kernel_rfl) ?_
        refine a_pu 7 rfl rfl rfl rfl (pu_at1 pd rfl rfl rfl rfl hd1) rfl rfl (by kernel_rfl) ?_
        refine a_tail [8] (by kernel_rfl) rfl rfl (by kernel_rfl) ?_
        refine g_store 20 (v := b32 qq.2.2.2) rfl rfl rfl rfl rfl rfl rfl (by simp [ws_length, stK]; omega) ?_
        rw [ws_setJ _ _ _ _ (by simp [stK]; omega)]
        refine g_nil ?_
        refine g_blk ?_
        (repeat refine g_seq ?_)
        refine g_region ?_
        refine g_pu rfl rfl rfl (pu_move rfl rfl) ?_
        refine g_pu rfl rfl rfl (pu_addI rfl rfl rfl (by omega)) ?_
        refine g_pu rfl rfl rfl (pu_assign rfl rfl) ?_
        refine g_nil ?_
        exact g_round 4 (by omega) (by omega) ⟨rfl, rfl, rfl, rfl, rfl, rfl, rfl, trivial⟩ ⟨rfl, rfl, rfl, rfl, rfl, trivial⟩
    · (repeat refine g_seq ?_)
      refine g_region ?_
      refine g_pu rfl rfl rfl (pu_move rfl rfl) ?_
      first | refine g_pu rfl rfl rfl (pu_lss_t rfl rfl rfl (by omega)) ?_ | refine g_pu rfl rfl rfl (pu_lss_f rfl rfl rfl (by omega)) ?_ | refine g_pu rfl rfl rfl (pu_lss rfl rfl rfl) ?_
      refine g_nil ?_
      (repeat refine g_seq ?_)
      refine g_cond_f rfl (g_exit rfl ?_)
      have e : k = 4 := by omega
      subst e
      refine g_blk ?_
      (repeat refine g_seq ?_)
      refine g_region ?_
      refine g_pu rfl rfl rfl (pu_move rfl rfl) ?_
      refine g_pu rfl rfl rfl (pu_addI rfl rfl rfl (by omega)) ?_
      refine g_pu rfl rfl rfl (pu_assign rfl rfl) ?_
      refine g_nil ?_
      exact g_round (i + 1) (by omega) (by omega) ⟨rfl, rfl, rfl, rfl, trivial⟩ ⟨rfl, by rw [hnext]; rfl, rfl, trivial⟩
  · (repeat refine g_seq ?_)
    refine g_region ?_
    refine g_pu rfl rfl rfl (pu_move rfl rfl) ?_
    first | refine g_pu rfl rfl rfl (pu_lss_t rfl rfl rfl (by omega)) ?_ | refine g_pu rfl rfl rfl (pu_lss_f rfl rfl rfl (by omega)) ?_ | refine g_pu rfl rfl rfl (pu_lss rfl rfl rfl) ?_
    refine g_nil ?_
    (repeat refine g_seq ?_)
    refine g_cond_f rfl (g_exit rfl ?_)
    have e : i = 80 := by omega
    subst e
    have hsl : (rnds full 80).length = 16 := by rw [rnds_length, hl]
    have hpl := fun i hi => putL_word (f := sumW (rnds full 80) full) (i := i) hi
    generalize rnds full 80 = s at hsl hbl hpl
    (repeat refine g_seq ?_)
    refine g_region ?_
    refine g_pu rfl rfl rfl (pu_assign rfl rfl) ?_
    refine g_nil ?_
    (repeat refine g_seq ?_)
    refine g_region ?_
    refine g_pu rfl rfl rfl (pu_assign rfl rfl) ?_
    refine g_nil ?_
    refine g_nilOwn 107 5 1 rfl ?_
    (repeat refine g_seq ?_)
    refine g_block (g_loop2 (fun (i : Nat) (x : Ow) => [(7, .slice (some ⟨bb, 0, none⟩) 16 c7), (8, .slice p8 16 c8), (14, x.sl (4 * i)), (15, .int .i64 (i : Int))]) (fun i x => [(20, .pt bb (.cells (ws s ++ J).toArray 22 (0, 0))), (33, .fact (At p8) (Own 22 1 p8 c8 (ws full))), (107, x.ck 5 1 (bs ((bytesOfW (sumW s full) 16).take (4 * i))))]) (fun i _ => i ≤ 16) (fun i _ => 16 - i) 0 ⟨none, 0⟩ ⟨rfl, rfl, rfl, rfl, trivial⟩ ⟨rfl, rfl, rfl, trivial⟩ (by omega) ?_)
    intro i x hi
    by_cases hlt : i < 16
    · (repeat refine g_seq ?_)
      refine g_region ?_
      refine g_pu rfl rfl rfl (pu_move rfl rfl) ?_
      first | refine g_pu rfl rfl rfl (pu_lss_t rfl rfl rfl (by omega)) ?_ | refine g_pu rfl rfl rfl (pu_lss_f rfl rfl rfl (by omega)) ?_ | refine g_pu rfl rfl rfl (pu_lss rfl rfl rfl) ?_
      refine g_nil ?_
      (repeat refine g_seq ?_)
      refine g_cond_t rfl (g_skip ?_)
      have g1 : s[i]? = some (s.getD i 0#32) := by
        have : s[i]? = some s[i] := List.getElem?_eq_getElem (by omega)
        simp [List.getD, this]
      have g2 : full[i]? = some (full.getD i 0#32) := by
        have : full[i]? = some full[i] := List.getElem?_eq_getElem (by omega)
        simp [List.getD, this]
      obtain ⟨hp1, hp2⟩ := hpl i hlt
      (repeat refine g_seq ?_); refine g_block ?_
      (repeat refine g_seq ?_)
      refine g_any (16, []) ?_
      refine a_pu 0 rfl rfl rfl rfl (pu_move rfl rfl) rfl rfl (by kernel_rfl) ?_
      refine a_pu 1 rfl rfl rfl rfl (pu_move rfl rfl) rfl rfl (by kernel_rfl) ?_
      refine a_pu 2 rfl rfl rfl rfl (pu_at1 i rfl rfl rfl rfl hlt) rfl rfl (by kernel_rfl) ?_
      refine a_pu 3 rfl rfl rfl rfl (pu_load 20 rfl rfl rfl (ws_loadJ g1)) rfl rfl (by kernel_rfl) ?_
      refine a_pu 4 rfl rfl rfl rfl (pu_move rfl rfl) rfl rfl (by kernel_rfl) ?_
      refine a_pu 5 rfl rfl rfl rfl (pu_move rfl rfl) rfl rfl (by kernel_rfl) ?_
      refine a_pu 6 rfl rfl rfl rfl (pu_atM1 i (fun w' hm => Own.rd (hm.holds 33 _ rfl)) rfl rfl rfl rfl hlt (by rw [ws_length, hl]; omega)) rfl rfl (by kernel_rfl) ?_
      refine a_pu 7 rfl rfl rfl rfl (pu_rdM (fun w' hm => Own.rd (hm.holds 33 _ rfl)) rfl rfl (ws_get g2)) rfl rfl (by kernel_rfl) ?_
      refine a_pu 8 rfl rfl rfl rfl (pu_add32 rfl rfl rfl) rfl rfl (by kernel_rfl) ?_
      refine a_pu 9 rfl rfl rfl rfl (pu_conv32_64 rfl rfl) rfl rfl (by kernel_rfl) ?_
      refine a_do 10 102 [102] (does_call rfl rfl rfl rfl rfl (fun w' hm => RPut_b w' 1 4 ((sumW s full i).setWidth 64))) rfl rfl (by kernel_rfl) rfl rfl (by kernel_rfl) (by kernel_rfl) (by kernel_rfl) rfl (fun p hp => by cases hp) ?_; rintro v_ cs_ ⟨x102, _, rfl, rfl⟩
      rw [hp2]
      refine a_pu 11 rfl rfl rfl rfl (pu_move rfl rfl) rfl rfl (by kernel_rfl) ?_
      refine a_pu 12 rfl rfl rfl rfl (pu_extract rfl rfl rfl) rfl rfl (by kernel_rfl) ?_
      refine a_pu 13 rfl rfl rfl rfl (pu_extract rfl rfl rfl) rfl rfl (by kernel_rfl) ?_
      refine a_pu 14 rfl rfl rfl rfl (pu_assign rfl rfl) rfl rfl (by kernel_rfl) ?_
      refine a_pu 15 rfl rfl rfl rfl (pu_assign rfl rfl) rfl rfl (by kernel_rfl) ?_
      refine a_done (by kernel_rfl) ?_
      (repeat refine g_seq ?_)
      refine g_region ?_
      refine g_pu rfl rfl rfl (pu_move rfl rfl) ?_
      refine g_pu rfl rfl rfl (pu_move rfl rfl) ?_
      refine g_append1 107 (m := 4) (bs (putL 1 4 ((sumW s full i).setWidth 64))) rfl rfl rfl rfl rfl rfl rfl rfl (by rw [bs_length, List.length_take, hbl]; omega) (fun w' hm => Ow.rd (t := 102) rfl hm) (by rw [bs_length, hp2]) (oneCell_bs _) (by omega) (by omega) (fun p' c' => ?_)
      refine g_pu rfl rfl rfl (pu_assign rfl rfl) ?_
      refine g_nil ?_
      refine g_blk ?_
      (repeat refine g_seq ?_)
      refine g_region ?_
      refine g_pu rfl rfl rfl (pu_move rfl rfl) ?_
      refine g_pu rfl rfl rfl (pu_addI rfl rfl rfl (by omega)) ?_
      refine g_pu rfl rfl rfl (pu_assign rfl rfl) ?_
      refine g_nil ?_
      refine g_round2 (i + 1) (⟨p', c'⟩ : Ow) (by omega) (by omega) ⟨rfl, rfl, rfl, rfl, trivial⟩ ⟨rfl, rfl, by rw [hp1, bs_append]; rfl, trivial⟩
    · (repeat refine g_seq ?_)
      refine g_region ?_
      refine g_pu rfl rfl rfl (pu_move rfl rfl) ?_
      first | refine g_pu rfl rfl rfl (pu_lss_t rfl rfl rfl (by omega)) ?_ | refine g_pu rfl rfl rfl (pu_lss_f rfl rfl rfl (by omega)) ?_ | refine g_pu rfl rfl rfl (pu_lss rfl rfl rfl) ?_
      refine g_nil ?_
      (repeat refine g_seq ?_)
      refine g_cond_f rfl (g_exit rfl ?_)
      (repeat refine g_seq ?_)
      refine g_region ?_
      refine g_pu rfl rfl rfl (pu_move rfl rfl) ?_
      refine g_pu rfl rfl rfl (pu_assign rfl rfl) ?_
      refine g_nil ?_
      have e : i = 16 := by omega
      subst e
      rw [List.take_of_length_le (by omega)]
      exact g_ret1 rfl rfl (fun w' hm => ⟨x, trivial, rfl, hm.grows [107] ⟨rfl, trivial⟩ rfl⟩)
end Go.Sx

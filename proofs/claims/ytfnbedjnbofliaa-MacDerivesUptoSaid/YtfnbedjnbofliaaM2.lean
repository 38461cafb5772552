/-
  The document's key blocks and tags. Each list has at most 2^47 - 4096 bytes.
-/
import Derived.Test.YtfnbedjnbofliaaM1
set_option linter.unusedVariables false
set_option linter.unusedSimpArgs false
namespace Go.Sx
open Go Go.Proofs

theorem copyZ {l : List (BitVec 8)} (h : l.length ≤ 64) : (bs (List.replicate 64 0#8)).take 0 ++ (bs l).take (Nat.min l.length 64) ++ (bs (List.replicate 64 0#8)).drop (0 + Nat.min l.length 64) = bs (l ++ List.replicate (64 - l.length) 0#8) := by
  have e : Nat.min l.length 64 = l.length := Nat.min_eq_left h
  rw [e, List.take_zero, List.nil_append, List.take_of_length_le (by rw [bs_length]; omega), bs_drop, ← bs_append, List.drop_replicate, Nat.zero_add]

theorem RBlock_b (w : World) {p : Option Addr} {n : Nat} (c : Nat) {key : List (BitVec 8)} (t : BitVec 8) (ha : By w p n key) (hnb : n ≤ 140737488355200) :
    Spec Try.prog 39 #[.slice p n c, b8 t] w (σ := Ow) (fun _ => True) (fun x => x.sl 64) Nob (fun x => [x.ck 5 1 (bs (padK key t))]) := by
  refine enter Try.func39 rfl rfl (Mem.start w) ?_
  have hkl := ha.len
  have hkk := keyK_length key
  have hkb := keyB_length key
  (repeat refine g_seq ?_)
  refine g_region ?_
  refine g_pu rfl rfl rfl (pu_assign rfl rfl) ?_
  refine g_nil ?_
  (repeat refine g_seq ?_)
  refine g_region ?_
  refine g_lo [8] rfl rfl rfl rfl (lo_make (n := 64) (c := 64) rfl rfl rfl (by omega) (by omega) (by omega) rfl) (fun kb hkb8 => ?_)
  refine g_pu rfl rfl rfl (pu_assign rfl rfl) ?_
  refine g_nil ?_
  by_cases h64 : n > 64
  · have hK : keyK key = shaL key := by unfold keyK; rw [if_pos (by omega)]
    have hsl := shaL_length key
    have hz : (bs (List.replicate 64 0#8)).take 0 ++ (bs (keyK key)).take (Nat.min 32 64) ++ (bs (List.replicate 64 0#8)).drop (0 + Nat.min 32 64) = bs (keyB key) := by
      have hl : 32 = (keyK key).length := by rw [hK, hsl]
      rw [hl]
      exact copyZ hkk
    (repeat refine g_seq ?_)
    refine g_region ?_
    refine g_pu rfl rfl rfl (pu_move rfl rfl) ?_
    first | refine g_pu rfl rfl rfl (pu_len rfl rfl) ?_ | refine g_pu rfl rfl rfl (pu_lenS rfl rfl) ?_
    first | refine g_pu rfl rfl rfl (pu_gtr_t rfl rfl rfl (by omega)) ?_ | refine g_pu rfl rfl rfl (pu_gtr_f rfl rfl rfl (by omega)) ?_ | refine g_pu rfl rfl rfl (pu_gtr rfl rfl rfl) ?_
    refine g_nil ?_
    (repeat refine g_seq ?_)
    refine g_cond_t rfl ?_
    (repeat refine g_seq ?_)
    refine g_region ?_
    refine g_pu rfl rfl rfl (pu_move rfl rfl) ?_
    refine g_call [] rfl rfl rfl rfl rfl rfl (fun w' hm => RSum_b w' c (ha.m hm) (by omega)) (fun _ _ => ?_)
    rw [← hK]
    refine g_lo [6] rfl rfl rfl rfl (lo_alloc rfl) (fun b6 hb6 => ?_)
    refine g_storeL 6 (s := 32) (C := bs (keyK key)) rfl rfl rfl rfl rfl rfl (by rw [bs_length, hK, hsl]) rfl (oneCell_bs _) ?_
    refine g_nil ?_
    (repeat refine g_seq ?_)
    refine g_region ?_
    refine g_pu rfl rfl rfl (pu_move rfl rfl) ?_
    refine g_pu rfl rfl rfl (pu_sliceA rfl rfl) ?_
    refine g_copy 8 (L := bs (List.replicate 64 0#8)) (n := 64) (m := 32) (bs (keyK key)) rfl rfl rfl rfl rfl rfl rfl (fun w' hm => hm.rowA 6 rfl) (by rw [bs_length, hK, hsl]) (by rw [bs_length]; simp) (oneCell_bs _) ?_
    rw [hz]
    refine g_nil ?_
    (repeat refine g_seq ?_)
    refine g_region ?_
    refine g_pu rfl rfl rfl (pu_assign rfl rfl) ?_
    refine g_nil ?_
    refine g_block (g_loop (σ := Nat) (fun i => [(1, b8 t), (5, .slice (some ⟨kb, 0, none⟩) 64 64), (7, .int .i64 (i : Int))]) (fun i => [(8, .pt kb (.cells (bs (tnL t (keyB key) i)).toArray 5 (0, 0)))]) (fun i => i ≤ 64) (fun i => 64 - i) 0 ⟨rfl, rfl, rfl, trivial⟩ ⟨by rw [tnL_zero]; rfl, trivial⟩ (by omega) ?_)
    intro i hi
    by_cases hlt : i < 64
    · (repeat refine g_seq ?_)
      refine g_region ?_
      refine g_pu rfl rfl rfl (pu_move rfl rfl) ?_
      first | refine g_pu rfl rfl rfl (pu_lss_t rfl rfl rfl (by omega)) ?_ | refine g_pu rfl rfl rfl (pu_lss_f rfl rfl rfl (by omega)) ?_ | refine g_pu rfl rfl rfl (pu_lss rfl rfl rfl) ?_
      refine g_nil ?_
      (repeat refine g_seq ?_)
      refine g_cond_t rfl (g_skip ?_)
      have h1 : (keyB key)[i]? = some ((keyB key).getD i 0#8) := getD_some (by omega)
      have hol := tnL_length t (keyB key) i
      (repeat refine g_seq ?_); refine g_block ?_
      (repeat refine g_seq ?_)
      refine g_region ?_
      refine g_pu rfl rfl rfl (pu_move rfl rfl) ?_
      refine g_pu rfl rfl rfl (pu_move rfl rfl) ?_
      refine g_pu rfl rfl rfl (pu_move rfl rfl) ?_
      refine g_pu rfl rfl rfl (pu_move rfl rfl) ?_
      refine g_pu rfl rfl rfl (pu_at1 i rfl rfl rfl rfl hlt) ?_
      refine g_pu rfl rfl rfl (pu_load 8 rfl rfl rfl (by have := bs_load (J := []) (tnL_get (t := t) h1); rwa [List.append_nil] at this)) ?_
      refine g_pu rfl rfl rfl (pu_move rfl rfl) ?_
      refine g_pu rfl rfl rfl (pu_xor8 rfl rfl rfl) ?_
      refine g_pu rfl rfl rfl (pu_at1 i rfl rfl rfl rfl hlt) ?_
      refine g_store 8 (v := b8 ((keyB key).getD i 0#8 ^^^ t)) rfl rfl rfl rfl rfl rfl rfl (by rw [bs_length]; omega) ?_
      rw [Nat.zero_add, show ((bs (tnL t (keyB key) i)).set i (b8 ((keyB key).getD i 0#8 ^^^ t))) = bs (tnL t (keyB key) (i + 1)) by rw [← tnL_set h1]; simp [bs, List.map_set]]
      refine g_nil ?_
      refine g_blk ?_
      (repeat refine g_seq ?_)
      refine g_region ?_
      refine g_pu rfl rfl rfl (pu_move rfl rfl) ?_
      refine g_pu rfl rfl rfl (pu_addI rfl rfl rfl (by omega)) ?_
      refine g_pu rfl rfl rfl (pu_assign rfl rfl) ?_
      refine g_nil ?_
      exact g_round (i + 1) (by omega) (by omega) ⟨rfl, rfl, rfl, trivial⟩ ⟨rfl, trivial⟩
    · (repeat refine g_seq ?_)
      refine g_region ?_
      refine g_pu rfl rfl rfl (pu_move rfl rfl) ?_
      first | refine g_pu rfl rfl rfl (pu_lss_t rfl rfl rfl (by omega)) ?_ | refine g_pu rfl rfl rfl (pu_lss_f rfl rfl rfl (by omega)) ?_ | refine g_pu rfl rfl rfl (pu_lss rfl rfl rfl) ?_
      refine g_nil ?_
      (repeat refine g_seq ?_)
      refine g_cond_f rfl (g_exit rfl ?_)
      have e : i = 64 := by omega
      subst e
      (repeat refine g_seq ?_)
      refine g_region ?_
      refine g_pu rfl rfl rfl (pu_move rfl rfl) ?_
      refine g_pu rfl rfl rfl (pu_assign rfl rfl) ?_
      refine g_nil ?_
      have hpp := padK_length key t
      refine g_own 8 (L := bs (padK key t)) (J := []) (c := 64) (s := 1) (by rw [List.append_nil]; rfl) (by simp [bs_length, hpp]) (by omega) ?_
      exact g_ret1 rfl rfl (fun w' hm => ⟨⟨some ⟨kb, 0, none⟩, 64⟩, trivial, rfl, hm.grows [8] ⟨rfl, trivial⟩ rfl⟩)
  · have hK : keyK key = key := by unfold keyK; rw [if_neg (by omega)]
    have hz : (bs (List.replicate 64 0#8)).take 0 ++ (bs (keyK key)).take (Nat.min n 64) ++ (bs (List.replicate 64 0#8)).drop (0 + Nat.min n 64) = bs (keyB key) := by
      have hl : n = (keyK key).length := by rw [hK, hkl]
      rw [hl]
      exact copyZ hkk
    (repeat refine g_seq ?_)
    refine g_region ?_
    refine g_pu rfl rfl rfl (pu_move rfl rfl) ?_
    first | refine g_pu rfl rfl rfl (pu_len rfl rfl) ?_ | refine g_pu rfl rfl rfl (pu_lenS rfl rfl) ?_
    first | refine g_pu rfl rfl rfl (pu_gtr_t rfl rfl rfl (by omega)) ?_ | refine g_pu rfl rfl rfl (pu_gtr_f rfl rfl rfl (by omega)) ?_ | refine g_pu rfl rfl rfl (pu_gtr rfl rfl rfl) ?_
    refine g_nil ?_
    (repeat refine g_seq ?_)
    refine g_cond_f rfl ?_
    (repeat refine g_seq ?_)
    refine g_region ?_
    refine g_pu rfl rfl rfl (pu_move rfl rfl) ?_
    refine g_pu rfl rfl rfl (pu_move rfl rfl) ?_
    refine g_copy 8 (L := bs (List.replicate 64 0#8)) (n := 64) (m := n) (bs (keyK key)) rfl rfl rfl rfl rfl rfl rfl (fun w' hm => by rw [hK]; exact (ha.m hm).rd) (by rw [bs_length, hK, hkl]) (by rw [bs_length]; simp) (oneCell_bs _) ?_
    rw [hz]
    refine g_nil ?_
    (repeat refine g_seq ?_)
    refine g_region ?_
    refine g_pu rfl rfl rfl (pu_assign rfl rfl) ?_
    refine g_nil ?_
    refine g_block (g_loop (σ := Nat) (fun i => [(1, b8 t), (5, .slice (some ⟨kb, 0, none⟩) 64 64), (7, .int .i64 (i : Int))]) (fun i => [(8, .pt kb (.cells (bs (tnL t (keyB key) i)).toArray 5 (0, 0)))]) (fun i => i ≤ 64) (fun i => 64 - i) 0 ⟨rfl, rfl, rfl, trivial⟩ ⟨by rw [tnL_zero]; rfl, trivial⟩ (by omega) ?_)
    intro i hi
    by_cases hlt : i < 64
    · (repeat refine g_seq ?_)
      refine g_region ?_
      refine g_pu rfl rfl rfl (pu_move rfl rfl) ?_
      first | refine g_pu rfl rfl rfl (pu_lss_t rfl rfl rfl (by omega)) ?_ | refine g_pu rfl rfl rfl (pu_lss_f rfl rfl rfl (by omega)) ?_ | refine g_pu rfl rfl rfl (pu_lss rfl rfl rfl) ?_
      refine g_nil ?_
      (repeat refine g_seq ?_)
      refine g_cond_t rfl (g_skip ?_)
      have h1 : (keyB key)[i]? = some ((keyB key).getD i 0#8) := getD_some (by omega)
      have hol := tnL_length t (keyB key) i
      (repeat refine g_seq ?_); refine g_block ?_
      (repeat refine g_seq ?_)
      refine g_region ?_
      refine g_pu rfl rfl rfl (pu_move rfl rfl) ?_
      refine g_pu rfl rfl rfl (pu_move rfl rfl) ?_
      refine g_pu rfl rfl rfl (pu_move rfl rfl) ?_
      refine g_pu rfl rfl rfl (pu_move rfl rfl) ?_
      refine g_pu rfl rfl rfl (pu_at1 i rfl rfl rfl rfl hlt) ?_
      refine g_pu rfl rfl rfl (pu_load 8 rfl rfl rfl (by have := bs_load (J := []) (tnL_get (t := t) h1); rwa [List.append_nil] at this)) ?_
      refine g_pu rfl rfl rfl (pu_move rfl rfl) ?_
      refine g_pu rfl rfl rfl (pu_xor8 rfl rfl rfl) ?_
      refine g_pu rfl rfl rfl (pu_at1 i rfl rfl rfl rfl hlt) ?_
      refine g_store 8 (v := b8 ((keyB key).getD i 0#8 ^^^ t)) rfl rfl rfl rfl rfl rfl rfl (by rw [bs_length]; omega) ?_
      rw [Nat.zero_add, show ((bs (tnL t (keyB key) i)).set i (b8 ((keyB key).getD i 0#8 ^^^ t))) = bs (tnL t (keyB key) (i + 1)) by rw [← tnL_set h1]; simp [bs, List.map_set]]
      refine g_nil ?_
      refine g_blk ?_
      (repeat refine g_seq ?_)
      refine g_region ?_
      refine g_pu rfl rfl rfl (pu_move rfl rfl) ?_
      refine g_pu rfl rfl rfl (pu_addI rfl rfl rfl (by omega)) ?_
      refine g_pu rfl rfl rfl (pu_assign rfl rfl) ?_
      refine g_nil ?_
      exact g_round (i + 1) (by omega) (by omega) ⟨rfl, rfl, rfl, trivial⟩ ⟨rfl, trivial⟩
    · (repeat refine g_seq ?_)
      refine g_region ?_
      refine g_pu rfl rfl rfl (pu_move rfl rfl) ?_
      first | refine g_pu rfl rfl rfl (pu_lss_t rfl rfl rfl (by omega)) ?_ | refine g_pu rfl rfl rfl (pu_lss_f rfl rfl rfl (by omega)) ?_ | refine g_pu rfl rfl rfl (pu_lss rfl rfl rfl) ?_
      refine g_nil ?_
      (repeat refine g_seq ?_)
      refine g_cond_f rfl (g_exit rfl ?_)
      have e : i = 64 := by omega
      subst e
      (repeat refine g_seq ?_)
      refine g_region ?_
      refine g_pu rfl rfl rfl (pu_move rfl rfl) ?_
      refine g_pu rfl rfl rfl (pu_assign rfl rfl) ?_
      refine g_nil ?_
      have hpp := padK_length key t
      refine g_own 8 (L := bs (padK key t)) (J := []) (c := 64) (s := 1) (by rw [List.append_nil]; rfl) (by simp [bs_length, hpp]) (by omega) ?_
      exact g_ret1 rfl rfl (fun w' hm => ⟨⟨some ⟨kb, 0, none⟩, 64⟩, trivial, rfl, hm.grows [8] ⟨rfl, trivial⟩ rfl⟩)

theorem Inside_b (w : World) {p q : Option Addr} {n m : Nat} (c d : Nat) {key b : List (BitVec 8)} (ha : By w p n key) (hb : By w q m b) (hnb : n ≤ 140737488355200) (hmb : m ≤ 140737488355136) :
    Spec Try.prog 25 #[.slice p n c, .slice q m d] w (σ := Unit) (fun _ => True) (fun _ => .agg (bs (hmacI key b)).toArray) Nob (fun _ => []) := by
  refine enter Try.func25 rfl rfl (Mem.start w) ?_
  have hpl := padK_length key 54#8
  have hhl := hmacI_length key b
  have hbl := hb.len
  (repeat refine g_seq ?_)
  refine g_region ?_
  refine g_lo [4] rfl rfl rfl rfl (lo_alloc rfl) (fun b4 hb4 => ?_)
  refine g_nil ?_
  (repeat refine g_seq ?_)
  refine g_region ?_
  refine g_pu rfl rfl rfl (pu_move rfl rfl) ?_
  refine g_call [6] rfl rfl rfl rfl rfl rfl (fun w' hm => RBlock_b w' c 54#8 (ha.m hm) hnb) (fun x6 _ => ?_)
  refine g_pu rfl rfl rfl (pu_move rfl rfl) ?_
  refine g_append1 6 (bs b) rfl rfl rfl rfl rfl rfl rfl rfl (by rw [bs_length, hpl]) (fun w' hm => (hb.m hm).rd) (by rw [bs_length, hbl]) (oneCell_bs _) (by omega) (by omega) (fun p1 c1 => ?_)
  rw [← bs_append]
  refine g_call [] rfl rfl rfl rfl rfl rfl (fun w' hm => RSum_b w' c1 (L := padK key 54#8 ++ b) ⟨Own.rd (hm.holds 6 _ rfl), by rw [List.length_append, hpl, hbl], by omega⟩ (by omega)) (fun _ _ => ?_)
  rw [show shaL (padK key 54#8 ++ b) = hmacI key b from rfl]
  refine g_storeL 4 (s := 32) (C := bs (hmacI key b)) rfl rfl rfl rfl rfl rfl (by rw [bs_length, hhl]) rfl (oneCell_bs _) ?_
  refine g_nil ?_
  exact g_retL 4 (L := bs (hmacI key b)) rfl (by rw [bs_length, hhl]) rfl rfl (fun w' hm => ⟨(), trivial, rfl, hm.grows [] trivial rfl⟩)

theorem RTag_b (w : World) {p q : Option Addr} {n m : Nat} (c d : Nat) {key b : List (BitVec 8)} (ha : By w p n key) (hb : By w q m b) (hnb : n ≤ 140737488355200) (hmb : m ≤ 140737488355136) :
    Spec Try.prog 17 #[.slice p n c, .slice q m d] w (σ := Unit) (fun _ => True) (fun _ => .agg (bs (hmacL key b)).toArray) Nob (fun _ => []) := by
  refine enter Try.func17 rfl rfl (Mem.start w) ?_
  have hpl := padK_length key 92#8
  have hhl := hmacI_length key b
  have hhl2 := hmacL_length key b
  (repeat refine g_seq ?_)
  refine g_region ?_
  refine g_lo [4] rfl rfl rfl rfl (lo_alloc rfl) (fun b4 hb4 => ?_)
  refine g_nil ?_
  (repeat refine g_seq ?_)
  refine g_region ?_
  refine g_pu rfl rfl rfl (pu_move rfl rfl) ?_
  refine g_pu rfl rfl rfl (pu_move rfl rfl) ?_
  refine g_call [] rfl rfl rfl rfl rfl rfl (fun w' hm => Inside_b w' c d (ha.m hm) (hb.m hm) hnb hmb) (fun _ _ => ?_)
  refine g_lo [5] rfl rfl rfl rfl (lo_alloc rfl) (fun b5 hb5 => ?_)
  refine g_storeL 5 (s := 32) (C := bs (hmacI key b)) rfl rfl rfl rfl rfl rfl (by rw [bs_length, hhl]) rfl (oneCell_bs _) ?_
  refine g_nil ?_
  (repeat refine g_seq ?_)
  refine g_any (1, [2]) ?_
  refine a_pu 0 rfl rfl rfl rfl (pu_move rfl rfl) rfl rfl (by kernel_rfl) ?_
  refine a_mv 2 rfl rfl rfl rfl (fun _ => pu_sliceA rfl rfl) rfl rfl rfl (by kernel_rfl) (by kernel_rfl) (by kernel_rfl) rfl ?_
  refine a_tail [1, 3, 4, 5] (by kernel_rfl) rfl rfl (by kernel_rfl) ?_
  refine g_call [10] rfl rfl rfl rfl rfl rfl (fun w' hm => RBlock_b w' c 92#8 (ha.m hm) hnb) (fun x10 _ => ?_)
  refine g_append1 10 (bs (hmacI key b)) rfl rfl rfl rfl rfl rfl rfl rfl (by rw [bs_length, hpl]) (fun w' hm => hm.rowA 5 rfl) (by rw [bs_length, hhl]) (oneCell_bs _) (by omega) (by omega) (fun p1 c1 => ?_)
  rw [← bs_append]
  refine g_call [] rfl rfl rfl rfl rfl rfl (fun w' hm => RSum_b w' c1 (L := padK key 92#8 ++ hmacI key b) ⟨Own.rd (hm.holds 10 _ rfl), by rw [List.length_append, hpl, hhl], by omega⟩ (by omega)) (fun _ _ => ?_)
  rw [show shaL (padK key 92#8 ++ hmacI key b) = hmacL key b from rfl]
  refine g_storeL 4 (s := 32) (C := bs (hmacL key b)) rfl rfl rfl rfl rfl rfl (by rw [bs_length, hhl2]) rfl (oneCell_bs _) ?_
  refine g_nil ?_
  exact g_retL 4 (L := bs (hmacL key b)) rfl (by rw [bs_length, hhl2]) rfl rfl (fun w' hm => ⟨(), trivial, rfl, hm.grows [] trivial rfl⟩)

theorem RShort_b (w : World) {p q : Option Addr} {n m : Nat} (c d : Nat) {key b : List (BitVec 8)} (ha : By w p n key) (hb : By w q m b) (hnb : n ≤ 140737488355200) (hmb : m ≤ 140737488355136) :
    Spec Try.prog 19 #[.slice p n c, .slice q m d] w (σ := Ow) (fun _ => True) (fun x => x.sl 16) Nob (fun x => [x.ck 5 1 (bs ((hmacL key b).take 16))]) := by
  refine enter Try.func19 rfl rfl (Mem.start w) ?_
  have hhl := hmacL_length key b
  have htl := take_len (l := hmacL key b) (k := 16) (by omega)
  (repeat refine g_seq ?_)
  refine g_region ?_
  refine g_pu rfl rfl rfl (pu_assign rfl rfl) ?_
  refine g_nil ?_
  (repeat refine g_seq ?_)
  refine g_region ?_
  refine g_pu rfl rfl rfl (pu_move rfl rfl) ?_
  refine g_pu rfl rfl rfl (pu_move rfl rfl) ?_
  refine g_call [] rfl rfl rfl rfl rfl rfl (fun w' hm => RTag_b w' c d (ha.m hm) (hb.m hm) hnb hmb) (fun _ _ => ?_)
  refine g_lo [5] rfl rfl rfl rfl (lo_alloc rfl) (fun b5 hb5 => ?_)
  refine g_storeL 5 (s := 32) (C := bs (hmacL key b)) rfl rfl rfl rfl rfl rfl (by rw [bs_length, hhl]) rfl (oneCell_bs _) ?_
  refine g_nil ?_
  (repeat refine g_seq ?_)
  refine g_region ?_
  refine g_pu rfl rfl rfl (pu_sliceA_h 16 rfl rfl rfl rfl (by omega)) ?_
  refine g_call [10] rfl rfl rfl rfl rfl rfl (fun w' hm => Copy_b w' _ ⟨by rw [← bs_take]; exact (hm.rowA 5 rfl : RdV w' _ (bs (hmacL key b))).fst, htl, by omega⟩) (fun x10 _ => ?_)
  refine g_pu rfl rfl rfl (pu_assign rfl rfl) ?_
  refine g_nil ?_
  exact g_ret1 rfl rfl (fun w' hm => ⟨x10, trivial, rfl, hm.grows [10] ⟨rfl, trivial⟩ rfl⟩)

set_option maxRecDepth 100000 in
theorem hmac_jefe : hmacL [74#8, 101#8, 102#8, 101#8] [119#8, 104#8, 97#8, 116#8, 32#8, 100#8, 111#8, 32#8, 121#8, 97#8, 32#8, 119#8, 97#8, 110#8, 116#8, 32#8, 102#8, 111#8, 114#8, 32#8, 110#8, 111#8, 116#8, 104#8, 105#8, 110#8, 103#8, 63#8] = [0x5b#8, 0xdc#8, 0xc1#8, 0x46#8, 0xbf#8, 0x60#8, 0x75#8, 0x4e#8, 0x6a#8, 0x04#8, 0x24#8, 0x26#8, 0x08#8, 0x95#8, 0x75#8, 0xc7#8, 0x5a#8, 0x00#8, 0x3f#8, 0x08#8, 0x9d#8, 0x27#8, 0x39#8, 0x83#8, 0x9d#8, 0xec#8, 0x58#8, 0xb9#8, 0x64#8, 0xec#8, 0x38#8, 0x43#8] := by decide +kernel
set_option maxRecDepth 100000 in
theorem hmac_none : (hmacL [] []).take 16 = [0xb6#8, 0x13#8, 0x67#8, 0x9a#8, 0x08#8, 0x14#8, 0xd9#8, 0xec#8, 0x77#8, 0x2f#8, 0x95#8, 0xd7#8, 0x78#8, 0xc3#8, 0x5f#8, 0xc5#8] := by decide +kernel

theorem awake03_b (w : World) : Spec Try.prog 9 #[] w (σ := Unit) (fun _ => True) (fun _ => .bool true) Nob (fun _ => []) := by
  refine enter Try.func9 rfl rfl (Mem.start w) ?_
  (repeat refine g_seq ?_)
  refine g_region ?_
  refine g_pu rfl rfl rfl (pu_assign rfl rfl) ?_
  refine g_nil ?_
  (repeat refine g_seq ?_)
  refine g_region ?_
  refine g_lo [2] rfl rfl rfl rfl (lo_buildSlice rfl rfl (by decide) (by decide) rfl rfl) (fun b2 hb2 => ?_)
  refine g_mark 2 rfl rfl rfl rfl rfl rfl ?_
  refine g_lo [4] rfl rfl rfl rfl (lo_buildSlice rfl rfl (by decide) (by decide) rfl rfl) (fun b4 hb4 => ?_)
  refine g_mark 4 rfl rfl rfl rfl rfl rfl ?_
  refine g_lo [6] rfl rfl rfl rfl (lo_buildSlice rfl rfl (by decide) (by decide) rfl rfl) (fun b6 hb6 => ?_)
  refine g_mark 6 rfl rfl rfl rfl rfl rfl ?_
  refine g_lo [8] rfl rfl rfl rfl (lo_buildSlice rfl rfl (by decide) (by decide) rfl rfl) (fun q8 hb8 => ?_)
  refine g_call [] rfl rfl rfl rfl rfl rfl (fun w' hm => Tag_b w' _ _ (key := [74#8, 101#8, 102#8, 101#8]) (LL := [.slice (some ⟨b4, 0, none⟩) 11 11, .slice (some ⟨b6, 0, none⟩) 17 17]) (ls := [[119#8, 104#8, 97#8, 116#8, 32#8, 100#8, 111#8, 32#8, 121#8, 97#8, 32#8], [119#8, 97#8, 110#8, 116#8, 32#8, 102#8, 111#8, 114#8, 32#8, 110#8, 111#8, 116#8, 104#8, 105#8, 110#8, 103#8, 63#8]]) (By.full 2 rfl hm rfl (by omega)) ⟨hm.rowA 8 rfl, rfl, All2.cons (IsB.full 4 rfl hm rfl (by omega)) (All2.cons (IsB.full 6 rfl hm rfl (by omega)) All2.nil), by omega⟩ (by omega) (by decide) (by decide)) (fun _ _ => ?_)
  rw [show [[119#8, 104#8, 97#8, 116#8, 32#8, 100#8, 111#8, 32#8, 121#8, 97#8, 32#8], [119#8, 97#8, 110#8, 116#8, 32#8, 102#8, 111#8, 114#8, 32#8, 110#8, 111#8, 116#8, 104#8, 105#8, 110#8, 103#8, 63#8]].flatten = [119#8, 104#8, 97#8, 116#8, 32#8, 100#8, 111#8, 32#8, 121#8, 97#8, 32#8, 119#8, 97#8, 110#8, 116#8, 32#8, 102#8, 111#8, 114#8, 32#8, 110#8, 111#8, 116#8, 104#8, 105#8, 110#8, 103#8, 63#8] from rfl, hmac_jefe]
  refine g_lo [1] rfl rfl rfl rfl (lo_alloc rfl) (fun b1 hb1 => ?_)
  refine g_storeL 1 (s := 32) rfl rfl rfl rfl rfl rfl rfl rfl (oneCell_bs _) ?_
  refine g_nil ?_
  (repeat refine g_seq ?_)
  refine g_region ?_
  refine g_pu rfl rfl rfl (pu_atA1 0 rfl rfl rfl rfl (by omega)) ?_
  refine g_pu rfl rfl rfl (pu_load 1 rfl rfl rfl rfl) ?_
  first | refine g_pu rfl rfl rfl (pu_eql8_t (b := 91#8) rfl rfl rfl (by first | rfl | assumption | decide)) ?_ | refine g_pu rfl rfl rfl (pu_eql8_f (b := 91#8) rfl rfl rfl (by first | assumption | decide)) ?_ | refine g_pu rfl rfl rfl (pu_eql8 (b := 91#8) rfl rfl rfl) ?_
  refine g_pu rfl rfl rfl (pu_move rfl rfl) ?_
  first | refine g_pass rfl rfl rfl ?_ | refine g_pu rfl rfl rfl (pu_atA1 1 rfl rfl rfl rfl (by omega)) ?_
  first | refine g_pass rfl rfl rfl ?_ | refine g_pu rfl rfl rfl (pu_load 1 rfl rfl rfl rfl) ?_
  first | refine g_pass rfl rfl rfl ?_ | refine g_pu rfl rfl rfl (pu_eql8_t (b := 220#8) rfl rfl rfl (by first | rfl | assumption | decide)) ?_ | refine g_pu rfl rfl rfl (pu_eql8_f (b := 220#8) rfl rfl rfl (by first | assumption | decide)) ?_ | refine g_pu rfl rfl rfl (pu_eql8 (b := 220#8) rfl rfl rfl) ?_
  first | refine g_pu rfl rfl rfl (pu_pick_t rfl rfl rfl) ?_ | refine g_pu rfl rfl rfl (pu_pick_f rfl rfl rfl) ?_
  refine g_pu rfl rfl rfl (pu_move rfl rfl) ?_
  first | refine g_pass rfl rfl rfl ?_ | refine g_pu rfl rfl rfl (pu_atA1 31 rfl rfl rfl rfl (by omega)) ?_
  first | refine g_pass rfl rfl rfl ?_ | refine g_pu rfl rfl rfl (pu_load 1 rfl rfl rfl rfl) ?_
  first | refine g_pass rfl rfl rfl ?_ | refine g_pu rfl rfl rfl (pu_eql8_t (b := 67#8) rfl rfl rfl (by first | rfl | assumption | decide)) ?_ | refine g_pu rfl rfl rfl (pu_eql8_f (b := 67#8) rfl rfl rfl (by first | assumption | decide)) ?_ | refine g_pu rfl rfl rfl (pu_eql8 (b := 67#8) rfl rfl rfl) ?_
  first | refine g_pu rfl rfl rfl (pu_pick_t rfl rfl rfl) ?_ | refine g_pu rfl rfl rfl (pu_pick_f rfl rfl rfl) ?_
  refine g_pu rfl rfl rfl (pu_assign rfl rfl) ?_
  refine g_nil ?_
  exact g_ret1 rfl rfl (fun w' hm => ⟨(), trivial, rfl, hm.grows [] trivial rfl⟩)
end Go.Sx

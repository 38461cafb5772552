/-
  Compressing a block: of the program and of the reference. The state has 8 words, the block 64 bytes.
-/
import Derived.Test.YtfnbedjnbofliaaS2
set_option linter.unusedVariables false
set_option linter.unusedSimpArgs false
namespace Go.Sx
open Go Go.Proofs

structure V8 where
  a : BitVec 32
  b : BitVec 32
  c : BitVec 32
  d : BitVec 32
  e : BitVec 32
  f : BitVec 32
  g : BitVec 32
  h : BitVec 32
def V8.l (v : V8) : List (BitVec 32) := [v.a, v.b, v.c, v.d, v.e, v.f, v.g, v.h]
def V8.of (s : List (BitVec 32)) : V8 := ⟨s.getD 0 0#32, s.getD 1 0#32, s.getD 2 0#32, s.getD 3 0#32, s.getD 4 0#32, s.getD 5 0#32, s.getD 6 0#32, s.getD 7 0#32⟩
theorem V8.of_l {s : List (BitVec 32)} (h : s.length = 8) : (V8.of s).l = s := by
  match s, h with
  | [a, b, c, d, e, f, g, h], _ => rfl
def bsg1 (e : BitVec 32) : BitVec 32 := rotL e 26 ^^^ rotL e 21 ^^^ rotL e 7
def bsg0 (a : BitVec 32) : BitVec 32 := rotL a 30 ^^^ rotL a 19 ^^^ rotL a 10
def rt1 (k w : BitVec 32) (v : V8) : BitVec 32 := v.h + bsg1 v.e + ((v.e &&& v.f) ^^^ (~~~ v.e &&& v.g)) + k + w
def rt2 (v : V8) : BitVec 32 := bsg0 v.a + ((v.a &&& v.b) ^^^ (v.a &&& v.c) ^^^ (v.b &&& v.c))
def rnd (k w : BitVec 32) (v : V8) : V8 := ⟨rt1 k w v + rt2 v, v.a, v.b, v.c, v.d + rt1 k w v, v.e, v.f, v.g⟩
def rndN (W : List (BitVec 32)) (v : V8) : Nat → V8
  | 0 => v
  | t + 1 => rnd (kT.getD t 0#32) (W.getD t 0#32) (rndN W v t)
def endV (s : List (BitVec 32)) (l : List (BitVec 8)) : V8 := rndN (schedL l 64) (V8.of s) 64
def cmp (s : List (BitVec 32)) (l : List (BitVec 8)) : List (BitVec 32) := List.zipWith (· + ·) s (endV s l).l
theorem cmp_length {s : List (BitVec 32)} (l : List (BitVec 8)) (h : s.length = 8) : (cmp s l).length = 8 := by simp [cmp, h, V8.l]
def mixL (full s : List (BitVec 32)) (i : Nat) : List (BitVec 32) := full.take i ++ s.drop i
theorem mixL_length {full s : List (BitVec 32)} {i : Nat} (h : full.length = s.length) : (mixL full s i).length = s.length := by simp [mixL]; omega
theorem mixL_get {full s : List (BitVec 32)} {i : Nat} (h : full.length = s.length) (hi : i < s.length) : (mixL full s i)[i]? = some (s.getD i 0#32) := by
  rw [mixL, List.getElem?_append_right (by simp; omega), List.length_take, List.getElem?_drop, show i + (i - min i full.length) = i by omega]
  exact getD_some hi
theorem mixL_set {full s : List (BitVec 32)} {i : Nat} {x : BitVec 32} (h : full.length = s.length) (hx : full[i]? = some x) : (mixL full s i).set i x = mixL full s (i + 1) := by
  have hi := (List.getElem?_eq_some_iff.1 hx).1
  unfold mixL
  rw [List.set_append_right _ _ (by simp; omega), List.length_take, show i - min i full.length = 0 by omega, List.drop_eq_getElem_cons (show i < s.length by omega), List.set_cons_zero, List.take_add_one, hx]
  simp
theorem cmp_get {s : List (BitVec 32)} {l : List (BitVec 8)} {i : Nat} (h : s.length = 8) (hi : i < 8) : (cmp s l)[i]? = some (s.getD i 0#32 + (endV s l).l.getD i 0#32) := by
  unfold cmp
  rw [List.getElem?_zipWith, getD_some (z := 0#32) (show i < s.length by omega), getD_some (z := 0#32) (show i < (endV s l).l.length by simp only [V8.l, List.length_cons, List.length_nil]; omega)]

theorem Compress_b (w : World) {p : Option Addr} (c : Nat) {s : List (BitVec 32)} {l : List (BitVec 8)} (ha : By w p 64 l) (hs : s.length = 8) : Spec Try.prog 56 #[.agg (ws s).toArray, .slice p 64 c] w (σ := Unit) (fun _ => True) (fun _ => .tuple #[.agg (ws (cmp s l)).toArray, .int .i64 0]) Nob (fun _ => []) := by
  refine enter Try.func56 rfl rfl (Mem.start w) ?_
  have hcl := cmp_length l hs
  have hcg := fun i (h : i < 8) => cmp_get (s := s) (l := l) (i := i) hs h
  have g : ∀ j, j < 8 → s[j]? = some (s.getD j 0#32) := fun j hj => getD_some (by omega)
  (repeat refine g_seq ?_)
  refine g_region ?_
  refine g_lo [2] rfl rfl rfl rfl (lo_box rfl rfl) (fun b2 hb2 => ?_)
  refine g_lo [4] rfl rfl rfl rfl (lo_alloc rfl) (fun b4 hb4 => ?_)
  refine g_pu rfl rfl rfl (pu_assign rfl rfl) ?_
  refine g_nil ?_
  (repeat refine g_seq ?_)
  refine g_region ?_
  refine g_pu rfl rfl rfl (pu_move rfl rfl) ?_
  first | refine g_pu rfl rfl rfl (pu_len rfl rfl) ?_ | refine g_pu rfl rfl rfl (pu_lenS rfl rfl) ?_
  first | refine g_pu rfl rfl rfl (pu_neq_t rfl rfl rfl (by omega)) ?_ | refine g_pu rfl rfl rfl (pu_neq_f rfl rfl rfl (by omega)) ?_ | refine g_pu rfl rfl rfl (pu_neq rfl rfl rfl) ?_
  refine g_nil ?_
  (repeat refine g_seq ?_)
  refine g_cond_f rfl (g_skip ?_)
  (repeat refine g_seq ?_)
  refine g_region ?_
  refine g_pu rfl rfl rfl (pu_move rfl rfl) ?_
  refine g_call [] rfl rfl rfl rfl rfl rfl (fun w' hm => schedule_b w' c (ha.m hm)) (fun _ _ => ?_)
  refine g_call [] rfl rfl rfl rfl rfl rfl (fun w' hm => Constants_b w') (fun _ _ => ?_)
  refine g_lo [6] rfl rfl rfl rfl (lo_alloc rfl) (fun b6 hb6 => ?_)
  refine g_lo [7] rfl rfl rfl rfl (lo_alloc rfl) (fun b7 hb7 => ?_)
  refine g_storeL 6 (C := ws (schedL l 64)) rfl rfl rfl rfl rfl rfl (by rw [ws_length, schedL_length]) (by simp) (oneCell_ws _) ?_
  refine g_storeL 7 (C := ws kT) rfl rfl rfl rfl rfl rfl (by rw [ws_length, kT_length]) (by simp) (oneCell_ws _) ?_
  refine g_nil ?_
  (repeat refine g_seq ?_)
  refine g_any (24, []) ?_
  refine a_pu 0 rfl rfl rfl rfl (pu_atA1 0 rfl rfl rfl rfl (by omega)) rfl rfl (by kernel_rfl) ?_
  refine a_pu 1 rfl rfl rfl rfl (pu_load 2 rfl rfl rfl (ws_load (g 0 (by omega)))) rfl rfl (by kernel_rfl) ?_
  refine a_pu 2 rfl rfl rfl rfl (pu_atA1 1 rfl rfl rfl rfl (by omega)) rfl rfl (by kernel_rfl) ?_
  refine a_pu 3 rfl rfl rfl rfl (pu_load 2 rfl rfl rfl (ws_load (g 1 (by omega)))) rfl rfl (by kernel_rfl) ?_
  refine a_pu 4 rfl rfl rfl rfl (pu_atA1 2 rfl rfl rfl rfl (by omega)) rfl rfl (by kernel_rfl) ?_
  refine a_pu 5 rfl rfl rfl rfl (pu_load 2 rfl rfl rfl (ws_load (g 2 (by omega)))) rfl rfl (by kernel_rfl) ?_
  refine a_pu 6 rfl rfl rfl rfl (pu_atA1 3 rfl rfl rfl rfl (by omega)) rfl rfl (by kernel_rfl) ?_
  refine a_pu 7 rfl rfl rfl rfl (pu_load 2 rfl rfl rfl (ws_load (g 3 (by omega)))) rfl rfl (by kernel_rfl) ?_
  refine a_pu 8 rfl rfl rfl rfl (pu_atA1 4 rfl rfl rfl rfl (by omega)) rfl rfl (by kernel_rfl) ?_
  refine a_pu 9 rfl rfl rfl rfl (pu_load 2 rfl rfl rfl (ws_load (g 4 (by omega)))) rfl rfl (by kernel_rfl) ?_
  refine a_pu 10 rfl rfl rfl rfl (pu_atA1 5 rfl rfl rfl rfl (by omega)) rfl rfl (by kernel_rfl) ?_
  refine a_pu 11 rfl rfl rfl rfl (pu_load 2 rfl rfl rfl (ws_load (g 5 (by omega)))) rfl rfl (by kernel_rfl) ?_
  refine a_pu 12 rfl rfl rfl rfl (pu_atA1 6 rfl rfl rfl rfl (by omega)) rfl rfl (by kernel_rfl) ?_
  refine a_pu 13 rfl rfl rfl rfl (pu_load 2 rfl rfl rfl (ws_load (g 6 (by omega)))) rfl rfl (by kernel_rfl) ?_
  refine a_pu 14 rfl rfl rfl rfl (pu_atA1 7 rfl rfl rfl rfl (by omega)) rfl rfl (by kernel_rfl) ?_
  refine a_pu 15 rfl rfl rfl rfl (pu_load 2 rfl rfl rfl (ws_load (g 7 (by omega)))) rfl rfl (by kernel_rfl) ?_
  refine a_pu 16 rfl rfl rfl rfl (pu_assign rfl rfl) rfl rfl (by kernel_rfl) ?_
  refine a_pu 17 rfl rfl rfl rfl (pu_assign rfl rfl) rfl rfl (by kernel_rfl) ?_
  refine a_pu 18 rfl rfl rfl rfl (pu_assign rfl rfl) rfl rfl (by kernel_rfl) ?_
  refine a_pu 19 rfl rfl rfl rfl (pu_assign rfl rfl) rfl rfl (by kernel_rfl) ?_
  refine a_pu 20 rfl rfl rfl rfl (pu_assign rfl rfl) rfl rfl (by kernel_rfl) ?_
  refine a_pu 21 rfl rfl rfl rfl (pu_assign rfl rfl) rfl rfl (by kernel_rfl) ?_
  refine a_pu 22 rfl rfl rfl rfl (pu_assign rfl rfl) rfl rfl (by kernel_rfl) ?_
  refine a_pu 23 rfl rfl rfl rfl (pu_assign rfl rfl) rfl rfl (by kernel_rfl) ?_
  refine a_done (by kernel_rfl) ?_
  (repeat refine g_seq ?_)
  refine g_region ?_
  refine g_pu rfl rfl rfl (pu_move rfl rfl) ?_
  refine g_nil ?_
  unfold endV at hcg
  generalize hW : schedL l 64 = W at hcg
  have hWl : W.length = 64 := by rw [← hW, schedL_length]
  generalize cmp s l = full at hcl hcg
  (repeat refine g_seq ?_)
  refine g_block (g_loop2 (fun (t : Nat) (v : V8) => [(2, .pointer (some ⟨b2, 0, none⟩)), (4, .pointer (some ⟨b4, 0, none⟩)), (6, .pointer (some ⟨b6, 0, none⟩)), (7, .pointer (some ⟨b7, 0, none⟩)), (8, b32 v.a), (9, b32 v.b), (10, b32 v.c), (11, b32 v.d), (12, b32 v.e), (13, b32 v.f), (14, b32 v.g), (15, b32 v.h), (46, .int .i64 (t : Int))]) (fun _ _ => [(2, .pt b2 (.cells (ws s).toArray 44 (0, 0))), (4, .pt b4 (.cells (ws (List.replicate 8 0#32)).toArray 44 (0, 0))), (6, .pt b6 (.cells (ws W).toArray 90 (0, 0))), (7, .pt b7 (.cells (ws kT).toArray 90 (0, 0)))]) (fun t v => t ≤ 64 ∧ v = rndN W (V8.of s) t) (fun t _ => 64 - t) 0 (V8.of s) ⟨rfl, rfl, rfl, rfl, rfl, rfl, rfl, rfl, rfl, rfl, rfl, rfl, rfl, trivial⟩ ⟨rfl, rfl, rfl, rfl, trivial⟩ ⟨by omega, rfl⟩ ?_)
  intro t v ⟨ht, hv⟩
  by_cases hlt : t < 64
  · (repeat refine g_seq ?_)
    refine g_region ?_
    first | refine g_pu rfl rfl rfl (pu_lss_t rfl rfl rfl (by omega)) ?_ | refine g_pu rfl rfl rfl (pu_lss_f rfl rfl rfl (by omega)) ?_ | refine g_pu rfl rfl rfl (pu_lss rfl rfl rfl) ?_
    refine g_nil ?_
    (repeat refine g_seq ?_)
    refine g_cond_t rfl (g_skip ?_)
    have hk : kT[t]? = some (kT.getD t 0#32) := getD_some (by rw [kT_length]; omega)
    have hw : W[t]? = some (W.getD t 0#32) := getD_some (by omega)
    have hst : rnd (kT.getD t 0#32) (W.getD t 0#32) v = rndN W (V8.of s) (t + 1) := by rw [hv]; rfl
    generalize kT.getD t 0#32 = kt at hk hst
    generalize W.getD t 0#32 = wt at hw hst
    (repeat refine g_seq ?_); refine g_block ?_
    (repeat refine g_seq ?_)
    refine g_region ?_
    refine g_pu rfl rfl rfl (pu_move rfl rfl) ?_
    refine g_pu rfl rfl rfl (pu_assign rfl rfl) ?_
    refine g_nil ?_
    (repeat refine g_seq ?_)
    refine g_region ?_
    refine g_pu rfl rfl rfl (pu_move rfl rfl) ?_
    refine g_call [] rfl rfl rfl rfl rfl rfl (fun w' hm => RotN_b w' _ 6 (by omega) (by omega)) (fun _ _ => ?_)
    refine g_pu rfl rfl rfl (pu_move rfl rfl) ?_
    refine g_call [] rfl rfl rfl rfl rfl rfl (fun w' hm => RotN_b w' _ 11 (by omega) (by omega)) (fun _ _ => ?_)
    refine g_pu rfl rfl rfl (pu_xor32 rfl rfl rfl) ?_
    refine g_pu rfl rfl rfl (pu_move rfl rfl) ?_
    refine g_call [] rfl rfl rfl rfl rfl rfl (fun w' hm => RotN_b w' _ 25 (by omega) (by omega)) (fun _ _ => ?_)
    refine g_pu rfl rfl rfl (pu_xor32 rfl rfl rfl) ?_
    refine g_pu rfl rfl rfl (pu_assign rfl rfl) ?_
    refine g_nil ?_
    (repeat refine g_seq ?_)
    refine g_any (21, []) ?_
    refine a_pu 0 rfl rfl rfl rfl (pu_move rfl rfl) rfl rfl (by kernel_rfl) ?_
    refine a_pu 1 rfl rfl rfl rfl (pu_move rfl rfl) rfl rfl (by kernel_rfl) ?_
    refine a_pu 2 rfl rfl rfl rfl (pu_add32 rfl rfl rfl) rfl rfl (by kernel_rfl) ?_
    refine a_pu 3 rfl rfl rfl rfl (pu_move rfl rfl) rfl rfl (by kernel_rfl) ?_
    refine a_pu 4 rfl rfl rfl rfl (pu_move rfl rfl) rfl rfl (by kernel_rfl) ?_
    refine a_pu 5 rfl rfl rfl rfl (pu_and32 rfl rfl rfl) rfl rfl (by kernel_rfl) ?_
    refine a_pu 6 rfl rfl rfl rfl (pu_move rfl rfl) rfl rfl (by kernel_rfl) ?_
    refine a_pu 7 rfl rfl rfl rfl (pu_com32 rfl rfl) rfl rfl (by kernel_rfl) ?_
    refine a_pu 8 rfl rfl rfl rfl (pu_move rfl rfl) rfl rfl (by kernel_rfl) ?_
    refine a_pu 9 rfl rfl rfl rfl (pu_and32 rfl rfl rfl) rfl rfl (by kernel_rfl) ?_
    refine a_pu 10 rfl rfl rfl rfl (pu_xor32 rfl rfl rfl) rfl rfl (by kernel_rfl) ?_
    refine a_pu 11 rfl rfl rfl rfl (pu_add32 rfl rfl rfl) rfl rfl (by kernel_rfl) ?_
    refine a_pu 12 rfl rfl rfl rfl (pu_move rfl rfl) rfl rfl (by kernel_rfl) ?_
    refine a_pu 13 rfl rfl rfl rfl (pu_atA1 t rfl rfl rfl rfl (by omega)) rfl rfl (by kernel_rfl) ?_
    refine a_pu 14 rfl rfl rfl rfl (pu_load 7 rfl rfl rfl (ws_load hk)) rfl rfl (by kernel_rfl) ?_
    refine a_pu 15 rfl rfl rfl rfl (pu_add32 rfl rfl rfl) rfl rfl (by kernel_rfl) ?_
    refine a_pu 16 rfl rfl rfl rfl (pu_move rfl rfl) rfl rfl (by kernel_rfl) ?_
    refine a_pu 17 rfl rfl rfl rfl (pu_atA1 t rfl rfl rfl rfl (by omega)) rfl rfl (by kernel_rfl) ?_
    refine a_pu 18 rfl rfl rfl rfl (pu_load 6 rfl rfl rfl (ws_load hw)) rfl rfl (by kernel_rfl) ?_
    refine a_pu 19 rfl rfl rfl rfl (pu_add32 rfl rfl rfl) rfl rfl (by kernel_rfl) ?_
    refine a_pu 20 rfl rfl rfl rfl (pu_assign rfl rfl) rfl rfl (by kernel_rfl) ?_
    refine a_done (by kernel_rfl) ?_
    (repeat refine g_seq ?_)
    refine g_region ?_
    refine g_pu rfl rfl rfl (pu_move rfl rfl) ?_
    refine g_call [] rfl rfl rfl rfl rfl rfl (fun w' hm => RotN_b w' _ 2 (by omega) (by omega)) (fun _ _ => ?_)
    refine g_pu rfl rfl rfl (pu_move rfl rfl) ?_
    refine g_call [] rfl rfl rfl rfl rfl rfl (fun w' hm => RotN_b w' _ 13 (by omega) (by omega)) (fun _ _ => ?_)
    refine g_pu rfl rfl rfl (pu_xor32 rfl rfl rfl) ?_
    refine g_pu rfl rfl rfl (pu_move rfl rfl) ?_
    refine g_call [] rfl rfl rfl rfl rfl rfl (fun w' hm => RotN_b w' _ 22 (by omega) (by omega)) (fun _ _ => ?_)
    refine g_pu rfl rfl rfl (pu_xor32 rfl rfl rfl) ?_
    refine g_pu rfl rfl rfl (pu_assign rfl rfl) ?_
    refine g_nil ?_
    (repeat refine g_seq ?_)
    refine g_region ?_
    refine g_pu rfl rfl rfl (pu_move rfl rfl) ?_
    refine g_pu rfl rfl rfl (pu_move rfl rfl) ?_
    refine g_pu rfl rfl rfl (pu_move rfl rfl) ?_
    refine g_pu rfl rfl rfl (pu_and32 rfl rfl rfl) ?_
    refine g_pu rfl rfl rfl (pu_move rfl rfl) ?_
    refine g_pu rfl rfl rfl (pu_move rfl rfl) ?_
    refine g_pu rfl rfl rfl (pu_and32 rfl rfl rfl) ?_
    refine g_pu rfl rfl rfl (pu_xor32 rfl rfl rfl) ?_
    refine g_pu rfl rfl rfl (pu_move rfl rfl) ?_
    refine g_pu rfl rfl rfl (pu_move rfl rfl) ?_
    refine g_pu rfl rfl rfl (pu_and32 rfl rfl rfl) ?_
    refine g_pu rfl rfl rfl (pu_xor32 rfl rfl rfl) ?_
    refine g_pu rfl rfl rfl (pu_add32 rfl rfl rfl) ?_
    refine g_pu rfl rfl rfl (pu_assign rfl rfl) ?_
    refine g_nil ?_
    (repeat refine g_seq ?_)
    refine g_region ?_
    refine g_pu rfl rfl rfl (pu_move rfl rfl) ?_
    refine g_pu rfl rfl rfl (pu_move rfl rfl) ?_
    refine g_pu rfl rfl rfl (pu_move rfl rfl) ?_
    refine g_pu rfl rfl rfl (pu_move rfl rfl) ?_
    refine g_pu rfl rfl rfl (pu_move rfl rfl) ?_
    refine g_pu rfl rfl rfl (pu_add32 rfl rfl rfl) ?_
    refine g_pu rfl rfl rfl (pu_move rfl rfl) ?_
    refine g_pu rfl rfl rfl (pu_move rfl rfl) ?_
    refine g_pu rfl rfl rfl (pu_move rfl rfl) ?_
    refine g_pu rfl rfl rfl (pu_move rfl rfl) ?_
    refine g_pu rfl rfl rfl (pu_move rfl rfl) ?_
    refine g_pu rfl rfl rfl (pu_add32 rfl rfl rfl) ?_
    refine g_pu rfl rfl rfl (pu_assign rfl rfl) ?_
    refine g_pu rfl rfl rfl (pu_assign rfl rfl) ?_
    refine g_pu rfl rfl rfl (pu_assign rfl rfl) ?_
    refine g_pu rfl rfl rfl (pu_assign rfl rfl) ?_
    refine g_pu rfl rfl rfl (pu_assign rfl rfl) ?_
    refine g_pu rfl rfl rfl (pu_assign rfl rfl) ?_
    refine g_pu rfl rfl rfl (pu_assign rfl rfl) ?_
    refine g_pu rfl rfl rfl (pu_assign rfl rfl) ?_
    refine g_nil ?_
    refine g_blk ?_
    (repeat refine g_seq ?_)
    refine g_region ?_
    refine g_pu rfl rfl rfl (pu_addI rfl rfl rfl (by omega)) ?_
    refine g_pu rfl rfl rfl (pu_move rfl rfl) ?_
    refine g_nil ?_
    exact g_round2 (t + 1) (rnd kt wt v) ⟨by omega, hst⟩ (by omega) ⟨rfl, rfl, rfl, rfl, rfl, rfl, rfl, rfl, rfl, rfl, rfl, rfl, rfl, trivial⟩ ⟨rfl, rfl, rfl, rfl, trivial⟩
  · (repeat refine g_seq ?_)
    refine g_region ?_
    first | refine g_pu rfl rfl rfl (pu_lss_t rfl rfl rfl (by omega)) ?_ | refine g_pu rfl rfl rfl (pu_lss_f rfl rfl rfl (by omega)) ?_ | refine g_pu rfl rfl rfl (pu_lss rfl rfl rfl) ?_
    refine g_nil ?_
    (repeat refine g_seq ?_)
    refine g_cond_f rfl (g_exit rfl ?_)
    have e : t = 64 := by omega
    subst e
    rw [← hv] at hcg
    (repeat refine g_seq ?_)
    refine g_region ?_
    refine g_pu rfl rfl rfl (pu_move rfl rfl) ?_
    refine g_pu rfl rfl rfl (pu_move rfl rfl) ?_
    refine g_pu rfl rfl rfl (pu_move rfl rfl) ?_
    refine g_pu rfl rfl rfl (pu_move rfl rfl) ?_
    refine g_pu rfl rfl rfl (pu_move rfl rfl) ?_
    refine g_pu rfl rfl rfl (pu_move rfl rfl) ?_
    refine g_pu rfl rfl rfl (pu_move rfl rfl) ?_
    refine g_pu rfl rfl rfl (pu_move rfl rfl) ?_
    first | refine g_pu rfl rfl rfl (pu_buildA rfl rfl rfl rfl rfl) ?_ | refine g_pu rfl rfl rfl (pu_buildA' rfl rfl rfl) ?_
    refine g_pu rfl rfl rfl (pu_move rfl rfl) ?_
    refine g_nil ?_
    (repeat refine g_seq ?_)
    refine g_block (g_loop (σ := Nat) (fun i => [(2, .pointer (some ⟨b2, 0, none⟩)), (4, .pointer (some ⟨b4, 0, none⟩)), (119, .agg (ws v.l).toArray), (120, .int .i64 (i : Int))]) (fun i => [(2, .pt b2 (.cells (ws (mixL full s i)).toArray 44 (0, 0))), (4, .pt b4 (.cells (ws (List.replicate 8 0#32)).toArray 44 (0, 0)))]) (fun i => i ≤ 8) (fun i => 8 - i) 0 ⟨rfl, rfl, rfl, rfl, trivial⟩ ⟨rfl, rfl, trivial⟩ (by omega) ?_)
    intro i hi
    by_cases hlt : i < 8
    · (repeat refine g_seq ?_)
      refine g_region ?_
      first | refine g_pu rfl rfl rfl (pu_lss_t rfl rfl rfl (by omega)) ?_ | refine g_pu rfl rfl rfl (pu_lss_f rfl rfl rfl (by omega)) ?_ | refine g_pu rfl rfl rfl (pu_lss rfl rfl rfl) ?_
      refine g_nil ?_
      (repeat refine g_seq ?_)
      refine g_cond_t rfl (g_skip ?_)
      have hm1 := mixL_get (full := full) (s := s) (i := i) (by omega) (by omega)
      have hm2 := mixL_set (full := full) (s := s) (i := i) (by omega) (hcg i hlt)
      have hvl : v.l[i]? = some (v.l.getD i 0#32) := getD_some (by simp only [V8.l, List.length_cons, List.length_nil]; omega)
      (repeat refine g_seq ?_); refine g_block ?_
      (repeat refine g_seq ?_)
      refine g_region ?_
      refine g_pu rfl rfl rfl (pu_move rfl rfl) ?_
      refine g_pu rfl rfl rfl (pu_indexA i rfl rfl rfl rfl hlt (by rw [List.getElem?_toArray]; exact ws_get hvl)) ?_
      refine g_pu rfl rfl rfl (pu_assign rfl rfl) ?_
      refine g_pu rfl rfl rfl (pu_assign rfl rfl) ?_
      refine g_nil ?_
      (repeat refine g_seq ?_)
      refine g_region ?_
      refine g_pu rfl rfl rfl (pu_move rfl rfl) ?_
      refine g_pu rfl rfl rfl (pu_atA1 i rfl rfl rfl rfl hlt) ?_
      refine g_pu rfl rfl rfl (pu_load 2 rfl rfl rfl (ws_load hm1)) ?_
      refine g_pu rfl rfl rfl (pu_move rfl rfl) ?_
      refine g_pu rfl rfl rfl (pu_add32 rfl rfl rfl) ?_
      refine g_pu rfl rfl rfl (pu_atA1 i rfl rfl rfl rfl hlt) ?_
      refine g_store 2 (v := b32 (s.getD i 0#32 + v.l.getD i 0#32)) rfl rfl rfl rfl rfl rfl rfl (by rw [ws_length, mixL_length (by omega)]; omega) ?_
      rw [ws_set, hm2]
      refine g_nil ?_
      refine g_blk ?_
      (repeat refine g_seq ?_)
      refine g_region ?_
      refine g_pu rfl rfl rfl (pu_addI rfl rfl rfl (by omega)) ?_
      refine g_pu rfl rfl rfl (pu_move rfl rfl) ?_
      refine g_nil ?_
      exact g_round (i + 1) (by omega) (by omega) ⟨rfl, rfl, rfl, rfl, trivial⟩ ⟨rfl, rfl, trivial⟩
    · (repeat refine g_seq ?_)
      refine g_region ?_
      first | refine g_pu rfl rfl rfl (pu_lss_t rfl rfl rfl (by omega)) ?_ | refine g_pu rfl rfl rfl (pu_lss_f rfl rfl rfl (by omega)) ?_ | refine g_pu rfl rfl rfl (pu_lss rfl rfl rfl) ?_
      refine g_nil ?_
      (repeat refine g_seq ?_)
      refine g_cond_f rfl (g_exit rfl ?_)
      have e : i = 8 := by omega
      subst e
      have hf : mixL full s 8 = full := by
        unfold mixL
        rw [List.take_of_length_le (by omega), List.drop_eq_nil_of_le (by omega), List.append_nil]
      rw [hf]
      (repeat refine g_seq ?_)
      refine g_region ?_
      refine g_pu rfl rfl rfl (pu_loadW 2 (L := ws full) rfl rfl rfl (by rw [ws_length, hcl])) ?_
      refine g_storeL 4 (C := ws full) rfl rfl rfl rfl rfl rfl (by rw [ws_length, hcl]) (by simp [ws]) (oneCell_ws _) ?_
      refine g_pu rfl rfl rfl (pu_assign rfl rfl) ?_
      refine g_nil ?_
      exact g_retLT 4 (L := ws full) rfl (by rw [ws_length, hcl]) rfl rfl rfl (fun w' hm => ⟨(), trivial, rfl, hm.grows [] trivial rfl⟩)
theorem Compress_e (w : World) {p : Option Addr} {n : Nat} (c : Nat) {s : List (BitVec 32)} (hn : n ≠ 64) : Spec Try.prog 56 #[.agg (ws s).toArray, .slice p n c] w (σ := Unit) (fun _ => True) (fun _ => .tuple #[.agg (ws (List.replicate 8 0#32)).toArray, .int .i64 2]) Nob (fun _ => []) := by
  refine enter Try.func56 rfl rfl (Mem.start w) ?_
  (repeat refine g_seq ?_)
  refine g_region ?_
  refine g_lo [2] rfl rfl rfl rfl (lo_box rfl rfl) (fun b2 hb2 => ?_)
  refine g_lo [4] rfl rfl rfl rfl (lo_alloc rfl) (fun b4 hb4 => ?_)
  refine g_pu rfl rfl rfl (pu_assign rfl rfl) ?_
  refine g_nil ?_
  (repeat refine g_seq ?_)
  refine g_region ?_
  refine g_pu rfl rfl rfl (pu_move rfl rfl) ?_
  first | refine g_pu rfl rfl rfl (pu_len rfl rfl) ?_ | refine g_pu rfl rfl rfl (pu_lenS rfl rfl) ?_
  first | refine g_pu rfl rfl rfl (pu_neq_t rfl rfl rfl (by omega)) ?_ | refine g_pu rfl rfl rfl (pu_neq_f rfl rfl rfl (by omega)) ?_ | refine g_pu rfl rfl rfl (pu_neq rfl rfl rfl) ?_
  refine g_nil ?_
  (repeat refine g_seq ?_)
  refine g_cond_t rfl ?_
  (repeat refine g_seq ?_)
  refine g_region ?_
  first | refine g_pu rfl rfl rfl (pu_buildA rfl rfl rfl rfl rfl) ?_ | refine g_pu rfl rfl rfl (pu_buildA' rfl rfl rfl) ?_
  refine g_storeW 4 rfl rfl rfl rfl rfl rfl rfl (by simp [Value.oneCell', b8, b32, b64]) ?_
  refine g_pu rfl rfl rfl (pu_assign rfl rfl) ?_
  refine g_nil ?_
  exact g_retLT 4 (L := ws (List.replicate 8 0#32)) rfl rfl rfl rfl rfl (fun w' hm => ⟨(), trivial, rfl, hm.grows [] trivial rfl⟩)
end Go.Sx

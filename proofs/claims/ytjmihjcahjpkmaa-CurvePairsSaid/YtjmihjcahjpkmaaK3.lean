/-
  X25519 of the program: the ladder as a law of its own, and Mult. The bytes fit memory.
-/
import Derived.Test.YtjmihjcahjpkmaaK2
set_option linter.unusedVariables false
set_option linter.unusedSimpArgs false
namespace Go.Sx
open Go Go.Proofs

/-- The two points of the ladder: x, z, and x, z of the next. -/
abbrev Lad := Nat × Nat × Nat × Nat
def stepL (t b : Nat) (S : Lad) : Lad :=
  if b = 1 then (sX S.2.2.1 S.2.2.2 S.1 S.2.1, sZ t S.2.2.1 S.2.2.2 S.1 S.2.1, dX S.2.2.1 S.2.2.2, dZ S.2.2.1 S.2.2.2)
  else (dX S.1 S.2.1, dZ S.1 S.2.1, sX S.1 S.2.1 S.2.2.1 S.2.2.2, sZ t S.1 S.2.1 S.2.2.1 S.2.2.2)
/-- After j of the 255 bits. -/
def lad (t n : Nat) : Nat → Lad
  | 0 => (1, 0, t, 1)
  | j + 1 => stepL t (n / 2 ^ (254 - j) % 2) (lad t n j)
def okL (S : Lad) : Prop := S.1 < 115792089237316195423570985008687907853269984665640564039457584007913129639936 ∧ S.2.1 < 115792089237316195423570985008687907853269984665640564039457584007913129639936 ∧ S.2.2.1 < 115792089237316195423570985008687907853269984665640564039457584007913129639936 ∧ S.2.2.2 < 115792089237316195423570985008687907853269984665640564039457584007913129639936
theorem stepL_ok (t b : Nat) (S : Lad) : okL (stepL t b S) := by
  unfold stepL
  split
  · exact ⟨sX_lt _ _ _ _, sZ_lt _ _ _ _ _, dX_lt _ _, dZ_lt _ _⟩
  · exact ⟨dX_lt _ _, dZ_lt _ _, sX_lt _ _ _ _, sZ_lt _ _ _ _ _⟩
theorem lad_ok {t : Nat} (ht : t < 115792089237316195423570985008687907853269984665640564039457584007913129639936) (n : Nat) : ∀ j, okL (lad t n j)
  | 0 => ⟨by show 1 < 115792089237316195423570985008687907853269984665640564039457584007913129639936; omega, by show 0 < 115792089237316195423570985008687907853269984665640564039457584007913129639936; omega, ht, by show 1 < 115792089237316195423570985008687907853269984665640564039457584007913129639936; omega⟩
  | j + 1 => stepL_ok _ _ _
theorem lad_t {t n s : Nat} (hs : 0 < s) (h255 : s ≤ 255) (hb : n / 2 ^ (s - 1) % 2 = 1) : lad t n (255 - (s - 1)) = stepL t 1 (lad t n (255 - s)) := by
  rw [show 255 - (s - 1) = (255 - s) + 1 by omega]
  show stepL t (n / 2 ^ (254 - (255 - s)) % 2) _ = _
  rw [show 254 - (255 - s) = s - 1 by omega, hb]
theorem lad_f {t n s : Nat} (hs : 0 < s) (h255 : s ≤ 255) (hb : ¬ n / 2 ^ (s - 1) % 2 = 1) : lad t n (255 - (s - 1)) = stepL t 0 (lad t n (255 - s)) := by
  rw [show 255 - (s - 1) = (255 - s) + 1 by omega]
  show stepL t (n / 2 ^ (254 - (255 - s)) % 2) _ = _
  rw [show 254 - (255 - s) = s - 1 by omega, show n / 2 ^ (s - 1) % 2 = 0 by omega]
/-- What the ladder comes to: of the number n and the point t. -/
def ladV (t n : Nat) : Nat := ml (lad t n 255).1 (invN (lad t n 255).2.1)
def xmN (k u : List (BitVec 8)) : Nat := if k.length = 32 ∧ u.length = 32 then ladV (readN u) (numB (clampL k)) else 0
def xmE (k u : List (BitVec 8)) : Int := if k.length = 32 ∧ u.length = 32 then (if xmN k u = 0 then 5 else 0) else 2
def xmV (k u : List (BitVec 8)) : List (BitVec 8) := leB 32 (xmN k u)
theorem ladV_lt (t n : Nat) : ladV t n < 57896044618658097711785492504343953926634992332820282019728792003956564819949 := Nat.mod_lt _ (by decide)
theorem xmN_lt (k u : List (BitVec 8)) : xmN k u < 57896044618658097711785492504343953926634992332820282019728792003956564819949 := by
  unfold xmN
  split
  · exact ladV_lt _ _
  · decide
theorem xmV_length (k u : List (BitVec 8)) : (xmV k u).length = 32 := leB_length 32 _
theorem ml_mod (a b : Nat) : ml a b % 57896044618658097711785492504343953926634992332820282019728792003956564819949 = ml a b := Nat.mod_mod _ _
theorem bitAnd0 (x : BitVec 8) (s : Nat) : ((x >>> s) &&& 1#8 = 0#8) ↔ x.toNat / 2 ^ s % 2 = 0 := by
  have e1 : ((x >>> s) &&& 1#8).toNat = x.toNat / 2 ^ s % 2 := by
    rw [BitVec.toNat_and, BitVec.toNat_ushiftRight, Nat.shiftRight_eq_div_pow, show (1#8).toNat = 2 ^ 1 - 1 from rfl, Nat.and_two_pow_sub_one_eq_mod]
  constructor
  · intro h; rw [← e1, h]; rfl
  · intro h; apply BitVec.eq_of_toNat_eq; rw [e1, h]; rfl

theorem ValueK (w : World) {a b : Nat} (ha : a < 115792089237316195423570985008687907853269984665640564039457584007913129639936) (hb : b < 115792089237316195423570985008687907853269984665640564039457584007913129639936) : Spec Try.prog 31 #[.agg (rt a b).toArray] w (σ := Unit) (fun _ => True) (fun _ => .agg (el (ml a (invN b))).toArray) Nob (fun _ => []) := Value_b w a b ha hb

theorem Mult_b (w : World) {p q : Option Addr} {n m : Nat} (c d : Nat) {k u : List (BitVec 8)} (hk : By w p n k) (hu : By w q m u) : Spec Try.prog 14 #[.slice p n c, .slice q m d] w (σ := Unit) (fun _ => True) (fun _ => .tuple #[.agg (bs (xmV k u)).toArray, .int .i64 (xmE k u)]) Nob (fun _ => []) := by
  refine enter Try.func14 rfl rfl (Mem.start w) ?_
  have hkl := hk.len
  have hul := hu.len
  have hcv := clampV_length k
  have hbz : bs (leB 32 0) = bs zero32 := by rw [zero32_leB]
  have h0 : el 0 = qs [0#64, 0#64, 0#64, 0#64] := el_small (by decide)
  (repeat refine g_seq ?_)
  refine g_region ?_
  refine g_lo [4] rfl rfl rfl rfl (lo_alloc rfl) (fun b4 hb4 => ?_)
  refine g_pu rfl rfl rfl (pu_assign rfl rfl) ?_
  refine g_nil ?_
  (repeat refine g_seq ?_)
  refine g_region ?_
  refine g_pu rfl rfl rfl (pu_move rfl rfl) ?_
  refine g_call [] rfl rfl rfl rfl rfl rfl (fun w' hm => Clamp_b w' c (hk.m hm)) (fun _ _ => ?_)
  refine g_pu rfl rfl rfl (pu_move rfl rfl) ?_
  refine g_pu rfl rfl rfl (pu_extract rfl rfl rfl) ?_
  refine g_pu rfl rfl rfl (pu_extract rfl rfl rfl) ?_
  refine g_lo [6] rfl rfl rfl rfl (lo_alloc rfl) (fun b6 hb6 => ?_)
  refine g_storeL 6 (s := 32) (C := bs (clampV k)) rfl rfl rfl rfl rfl rfl (by rw [bs_length, hcv]) rfl (oneCell_bs _) ?_
  refine g_pu rfl rfl rfl (pu_assign rfl rfl) ?_
  refine g_nil ?_
  by_cases hk32 : k.length = 32
  · have hcE : clampE k = 0 := if_pos hk32
    have hcV : clampV k = clampL k := if_pos hk32
    have hcl : (clampL k).length = 32 := by rw [clampL_length, hk32]
    rw [hcE, hcV]
    (repeat refine g_seq ?_)
    refine g_region ?_
    refine g_pu rfl rfl rfl (pu_move rfl rfl) ?_
    first | refine g_pu rfl rfl rfl (pu_neq_t rfl rfl rfl (by omega)) ?_ | refine g_pu rfl rfl rfl (pu_neq_f rfl rfl rfl (by omega)) ?_ | refine g_pu rfl rfl rfl (pu_neq rfl rfl rfl) ?_
    refine g_nil ?_
    (repeat refine g_seq ?_)
    refine g_cond_f rfl (g_skip ?_)
    (repeat refine g_seq ?_)
    refine g_region ?_
    refine g_pu rfl rfl rfl (pu_move rfl rfl) ?_
    refine g_call [] rfl rfl rfl rfl rfl rfl (fun w' hm => Read_b w' d (hu.m hm)) (fun _ _ => ?_)
    refine g_pu rfl rfl rfl (pu_move rfl rfl) ?_
    refine g_pu rfl rfl rfl (pu_extract rfl rfl rfl) ?_
    refine g_pu rfl rfl rfl (pu_extract rfl rfl rfl) ?_
    refine g_lo [8] rfl rfl rfl rfl (lo_alloc rfl) (fun q8 hb8 => ?_)
    refine g_storeL 8 (s := 4) (C := el (readN u)) rfl rfl rfl rfl rfl rfl rfl rfl (oneCell_el _) ?_
    refine g_pu rfl rfl rfl (pu_assign rfl rfl) ?_
    refine g_nil ?_
    by_cases hu32 : u.length = 32
    · have hrE : readE u = 0 := if_pos hu32
      have hmE : xmE k u = if xmN k u = 0 then 5 else 0 := if_pos ⟨hk32, hu32⟩
      have hmN : xmN k u = ladV (readN u) (numB (clampL k)) := if_pos ⟨hk32, hu32⟩
      have hrl : readN u < 115792089237316195423570985008687907853269984665640564039457584007913129639936 := by
        unfold readN
        rw [if_pos hu32]
        exact modp _
      unfold xmV
      rw [hrE, hmE, hmN]
      have hdg := fun i (hi : i < 255) => getDb (l := clampL k) (i := i / 8) (by omega)
      have hbt := fun i (hi : i < 255) => numB_bit (l := clampL k) (i := i) (by omega)
      generalize hC : clampL k = C at *
      generalize hT : readN u = t at *
      (repeat refine g_seq ?_)
      refine g_region ?_
      refine g_pu rfl rfl rfl (pu_move rfl rfl) ?_
      first | refine g_pu rfl rfl rfl (pu_neq_t rfl rfl rfl (by omega)) ?_ | refine g_pu rfl rfl rfl (pu_neq_f rfl rfl rfl (by omega)) ?_ | refine g_pu rfl rfl rfl (pu_neq rfl rfl rfl) ?_
      refine g_nil ?_
      (repeat refine g_seq ?_)
      refine g_cond_f rfl (g_skip ?_)
      (repeat refine g_seq ?_)
      refine g_any (9, []) ?_
      refine a_pu 2 rfl rfl rfl rfl (pu_loadW 8 (L := el t) rfl rfl rfl rfl) rfl rfl (by kernel_rfl) ?_
      refine a_pendR 5 9 9 61 8 ?_
      refine a_pendR 6 10 10 61 8 ?_
      refine a_do 0 31 [] (does_call rfl rfl rfl rfl rfl (fun w' hm => Of_b w' 1#64)) rfl rfl (by kernel_rfl) rfl rfl (by kernel_rfl) (by kernel_rfl) (by kernel_rfl) rfl (fun p hp => by simp only [List.mem_cons, List.not_mem_nil, or_false] at hp; rcases hp with rfl | rfl <;> exact does_PR rfl rfl rfl rfl rfl) ?_; rintro v_ cs_ ⟨_, _, rfl, rfl⟩
      refine a_pu 1 rfl rfl rfl rfl (pu_buildS (cs := rt 1 0) rfl rfl rfl) rfl rfl (by kernel_rfl) ?_
      refine a_do 3 34 [] (does_call rfl rfl rfl rfl rfl (fun w' hm => Of_b w' 1#64)) rfl rfl (by kernel_rfl) rfl rfl (by kernel_rfl) (by kernel_rfl) (by kernel_rfl) rfl (fun p hp => by simp only [List.mem_cons, List.not_mem_nil, or_false] at hp; rcases hp with rfl | rfl <;> exact does_PR rfl rfl rfl rfl rfl) ?_; rintro v_ cs_ ⟨_, _, rfl, rfl⟩
      refine a_pu 4 rfl rfl rfl rfl (pu_buildS (cs := rt t 1) rfl rfl (fill_rtK _ _ rfl)) rfl rfl (by kernel_rfl) ?_
      refine a_force _ (by kernel_rfl) rfl rfl rfl (by kernel_rfl) (by kernel_rfl) (by kernel_rfl) rfl (fun p hp => by simp only [List.mem_cons, List.not_mem_nil, or_false] at hp; rcases hp with rfl | rfl <;> exact does_PR rfl rfl rfl rfl rfl) ?_; rintro v_ cs_ ⟨b10, hb10, rfl, rfl⟩
      refine a_force _ (by kernel_rfl) rfl rfl rfl (by kernel_rfl) (by kernel_rfl) (by kernel_rfl) rfl (fun p hp => by simp only [List.mem_cons, List.not_mem_nil, or_false] at hp; subst hp; exact does_PR rfl rfl rfl rfl rfl) ?_; rintro v_ cs_ ⟨b9, hb9, rfl, rfl⟩
      refine a_stR 7 9 (s := 8) (C := rt 1 0) rfl rfl rfl rfl (by kernel_rfl) rfl rfl rfl rfl rfl (oneCell_rt _ _) ?_
      refine a_stR 8 10 (s := 8) (C := rt t 1) rfl rfl rfl rfl (by kernel_rfl) rfl rfl rfl rfl rfl (oneCell_rt _ _) ?_
      refine a_done (by kernel_rfl) ?_
      (repeat refine g_seq ?_)
      refine g_region ?_
      refine g_pu rfl rfl rfl (pu_assign rfl rfl) ?_
      refine g_nil ?_
      (repeat refine g_seq ?_)
      refine g_block (g_loop2 (fun (s : Nat) (S : Lad) => [(4, .pointer (some ⟨b4, 0, none⟩)), (6, .pointer (some ⟨b6, 0, none⟩)), (8, .pointer (some ⟨q8, 0, none⟩)), (9, .pointer (some ⟨b9, 0, none⟩)), (10, .pointer (some ⟨b10, 0, none⟩)), (11, .int .i64 ((s : Int) - 1))])
        (fun s S => [(4, .pt b4 (.cells (bs zero32).toArray 24 (0, 0))), (6, .pt b6 (.cells (bs C).toArray 24 (0, 0))), (8, .pt q8 (.cells (el t).toArray 56 (0, 0))), (9, .pt b9 (.cells (rt S.1 S.2.1).toArray 61 (0, 0))), (10, .pt b10 (.cells (rt S.2.2.1 S.2.2.2).toArray 61 (0, 0)))])
        (fun s S => s ≤ 255 ∧ S = lad t (numB C) (255 - s)) (fun s _ => s) 255 (1, 0, t, 1) ⟨rfl, rfl, rfl, rfl, rfl, rfl, trivial⟩ ⟨rfl, rfl, rfl, rfl, rfl, trivial⟩ ⟨by omega, rfl⟩ ?_)
      intro s S ⟨hs, hS⟩
      have hok := lad_ok hrl (numB C) (255 - s)
      rw [← hS] at hok
      by_cases hlt : 0 < s
      · (repeat refine g_seq ?_)
        refine g_region ?_
        refine g_pu rfl rfl rfl (pu_move rfl rfl) ?_
        first | refine g_pu rfl rfl rfl (pu_geq_t rfl rfl rfl (by omega)) ?_ | refine g_pu rfl rfl rfl (pu_geq_f rfl rfl rfl (by omega)) ?_ | refine g_pu rfl rfl rfl (pu_geq rfl rfl rfl) ?_
        refine g_nil ?_
        (repeat refine g_seq ?_)
        refine g_cond_t rfl (g_skip ?_)
        have hb := hdg (s - 1) (by omega)
        have hnb := hbt (s - 1) (by omega)
        generalize C.getD ((s - 1) / 8) 0#8 = x at hb hnb
        have hba := bitAnd0 x ((s - 1) % 8)
        obtain ⟨x1, z1, x2, z2⟩ := S
        obtain ⟨o1, o2, o3, o4⟩ := hok
        dsimp only at o1 o2 o3 o4
        (repeat refine g_seq ?_); refine g_block ?_
        by_cases hbit : numB C / 2 ^ (s - 1) % 2 = 1
        · have hst := lad_t (t := t) hlt hs hbit
          rw [← hS] at hst
          (repeat refine g_seq ?_)
          refine g_region ?_
          refine g_pu rfl rfl rfl (pu_move rfl rfl) ?_
          refine g_pu rfl rfl rfl (pu_quoI rfl rfl rfl (by omega)) ?_
          refine g_pu rfl rfl rfl (pu_atA1 ((s - 1) / 8) rfl rfl rfl (by omega) (by omega)) ?_
          refine g_pu rfl rfl rfl (pu_load 6 (v := b8 x) rfl rfl rfl (by rw [Nat.zero_add, List.getElem?_toArray]; exact bs_get hb)) ?_
          refine g_pu rfl rfl rfl (pu_move rfl rfl) ?_
          refine g_pu rfl rfl rfl (pu_remI rfl rfl rfl (by omega)) ?_
          refine g_pu rfl rfl rfl (pu_shr8 rfl rfl rfl (by omega)) ?_
          rw [show (((s : Int) - 1) % 8).toNat = (s - 1) % 8 by omega]
          refine g_pu rfl rfl rfl (pu_and8 (b := 1#8) rfl rfl rfl) ?_
          refine g_pu rfl rfl rfl (pu_eql8_f (b := 0#8) rfl rfl rfl (fun h => by have := hba.1 h; omega)) ?_
          refine g_nil ?_
          (repeat refine g_seq ?_)
          refine g_cond_f rfl ?_
          (repeat refine g_seq ?_)
          refine g_region ?_
          refine g_pu rfl rfl rfl (pu_loadW 10 (L := rt x2 z2) rfl rfl rfl rfl) ?_
          refine g_pu rfl rfl rfl (pu_loadW 9 (L := rt x1 z1) rfl rfl rfl rfl) ?_
          refine g_pu rfl rfl rfl (pu_loadW 8 (L := el t) rfl rfl rfl rfl) ?_
          refine g_call [] rfl rfl rfl rfl rfl rfl (fun w' hm => step_b w' o3 o4 o1 o2 hrl) (fun _ _ => ?_)
          refine g_pu rfl rfl rfl (pu_move rfl rfl) ?_
          refine g_pu rfl rfl rfl (pu_extract rfl rfl rfl) ?_
          refine g_pu rfl rfl rfl (pu_extract rfl rfl rfl) ?_
          refine g_storeL 10 (s := 8) (C := rt (dX x2 z2) (dZ x2 z2)) rfl rfl rfl rfl rfl rfl rfl rfl (oneCell_rt _ _) ?_
          refine g_storeL 9 (s := 8) (C := rt (sX x2 z2 x1 z1) (sZ t x2 z2 x1 z1)) rfl rfl rfl rfl rfl rfl rfl rfl (oneCell_rt _ _) ?_
          refine g_nil ?_
          refine g_blk ?_
          (repeat refine g_seq ?_)
          refine g_region ?_
          refine g_pu rfl rfl rfl (pu_move rfl rfl) ?_
          refine g_pu rfl rfl rfl (pu_subI rfl rfl rfl (by omega)) ?_
          refine g_pu rfl rfl rfl (pu_assign rfl rfl) ?_
          refine g_nil ?_
          exact g_round2 (s - 1) (stepL t 1 (x1, z1, x2, z2)) ⟨by omega, hst.symm⟩ (by omega) ⟨rfl, rfl, rfl, rfl, rfl, by rw [show (((s - 1 : Nat) : Int) - 1) = (s : Int) - 1 - 1 by omega]; rfl, trivial⟩ ⟨rfl, rfl, rfl, rfl, rfl, trivial⟩
        · have hst := lad_f (t := t) hlt hs hbit
          rw [← hS] at hst
          (repeat refine g_seq ?_)
          refine g_region ?_
          refine g_pu rfl rfl rfl (pu_move rfl rfl) ?_
          refine g_pu rfl rfl rfl (pu_quoI rfl rfl rfl (by omega)) ?_
          refine g_pu rfl rfl rfl (pu_atA1 ((s - 1) / 8) rfl rfl rfl (by omega) (by omega)) ?_
          refine g_pu rfl rfl rfl (pu_load 6 (v := b8 x) rfl rfl rfl (by rw [Nat.zero_add, List.getElem?_toArray]; exact bs_get hb)) ?_
          refine g_pu rfl rfl rfl (pu_move rfl rfl) ?_
          refine g_pu rfl rfl rfl (pu_remI rfl rfl rfl (by omega)) ?_
          refine g_pu rfl rfl rfl (pu_shr8 rfl rfl rfl (by omega)) ?_
          rw [show (((s : Int) - 1) % 8).toNat = (s - 1) % 8 by omega]
          refine g_pu rfl rfl rfl (pu_and8 (b := 1#8) rfl rfl rfl) ?_
          refine g_pu rfl rfl rfl (pu_eql8_t (b := 0#8) rfl rfl rfl (hba.2 (by omega))) ?_
          refine g_nil ?_
          (repeat refine g_seq ?_)
          refine g_cond_t rfl ?_
          (repeat refine g_seq ?_)
          refine g_region ?_
          refine g_pu rfl rfl rfl (pu_loadW 9 (L := rt x1 z1) rfl rfl rfl rfl) ?_
          refine g_pu rfl rfl rfl (pu_loadW 10 (L := rt x2 z2) rfl rfl rfl rfl) ?_
          refine g_pu rfl rfl rfl (pu_loadW 8 (L := el t) rfl rfl rfl rfl) ?_
          refine g_call [] rfl rfl rfl rfl rfl rfl (fun w' hm => step_b w' o1 o2 o3 o4 hrl) (fun _ _ => ?_)
          refine g_pu rfl rfl rfl (pu_move rfl rfl) ?_
          refine g_pu rfl rfl rfl (pu_extract rfl rfl rfl) ?_
          refine g_pu rfl rfl rfl (pu_extract rfl rfl rfl) ?_
          refine g_storeL 9 (s := 8) (C := rt (dX x1 z1) (dZ x1 z1)) rfl rfl rfl rfl rfl rfl rfl rfl (oneCell_rt _ _) ?_
          refine g_storeL 10 (s := 8) (C := rt (sX x1 z1 x2 z2) (sZ t x1 z1 x2 z2)) rfl rfl rfl rfl rfl rfl rfl rfl (oneCell_rt _ _) ?_
          refine g_nil ?_
          refine g_blk ?_
          (repeat refine g_seq ?_)
          refine g_region ?_
          refine g_pu rfl rfl rfl (pu_move rfl rfl) ?_
          refine g_pu rfl rfl rfl (pu_subI rfl rfl rfl (by omega)) ?_
          refine g_pu rfl rfl rfl (pu_assign rfl rfl) ?_
          refine g_nil ?_
          exact g_round2 (s - 1) (stepL t 0 (x1, z1, x2, z2)) ⟨by omega, hst.symm⟩ (by omega) ⟨rfl, rfl, rfl, rfl, rfl, by rw [show (((s - 1 : Nat) : Int) - 1) = (s : Int) - 1 - 1 by omega]; rfl, trivial⟩ ⟨rfl, rfl, rfl, rfl, rfl, trivial⟩
      · (repeat refine g_seq ?_)
        refine g_region ?_
        refine g_pu rfl rfl rfl (pu_move rfl rfl) ?_
        first | refine g_pu rfl rfl rfl (pu_geq_t rfl rfl rfl (by omega)) ?_ | refine g_pu rfl rfl rfl (pu_geq_f rfl rfl rfl (by omega)) ?_ | refine g_pu rfl rfl rfl (pu_geq rfl rfl rfl) ?_
        refine g_nil ?_
        (repeat refine g_seq ?_)
        refine g_cond_f rfl (g_exit rfl ?_)
        have e1 : s = 0 := by omega
        subst e1
        have hV : ml S.1 (invN S.2.1) = ladV t (numB C) := by rw [hS]; rfl
        obtain ⟨x1, z1, x2, z2⟩ := S
        obtain ⟨o1, o2, o3, o4⟩ := hok
        dsimp only at o1 o2 o3 o4 hV
        have hvl : ladV t (numB C) < 115792089237316195423570985008687907853269984665640564039457584007913129639936 := by have := ladV_lt t (numB C); omega
        have hvm : ladV t (numB C) % 57896044618658097711785492504343953926634992332820282019728792003956564819949 = ladV t (numB C) := Nat.mod_eq_of_lt (ladV_lt _ _)
        (repeat refine g_seq ?_)
        refine g_region ?_
        refine g_pu rfl rfl rfl (pu_loadW 9 (L := rt x1 z1) rfl rfl rfl rfl) ?_
        refine g_call [] rfl rfl rfl rfl rfl rfl (fun w' hm => ValueK w' o1 o2) (fun _ _ => ?_)
        rw [hV]
        refine g_lo [12] rfl rfl rfl rfl (lo_alloc rfl) (fun b12 hb12 => ?_)
        refine g_storeL 12 (s := 4) (C := el (ladV t (numB C))) rfl rfl rfl rfl rfl rfl rfl rfl (oneCell_el _) ?_
        refine g_nil ?_
        generalize ladV t (numB C) = V at hV hvl hvm
        by_cases hz : V = 0
        · subst hz
          rw [if_pos rfl, hbz]
          (repeat refine g_seq ?_)
          refine g_region ?_
          refine g_pu rfl rfl rfl (pu_loadW 12 (L := el 0) rfl rfl rfl rfl) ?_
          refine g_pu rfl rfl rfl (pu_buildA' (cs := el 0) rfl rfl (by rw [h0]; rfl)) ?_
          refine g_call [] rfl rfl rfl rfl rfl rfl (fun w' hm => Is_t w' 0 0 (by decide) (by decide) rfl) (fun _ _ => ?_)
          refine g_nil ?_
          (repeat refine g_seq ?_)
          refine g_cond_t rfl ?_
          (repeat refine g_seq ?_)
          refine g_region ?_
          refine g_pu rfl rfl rfl (pu_buildA' (cs := bs zero32) rfl rfl rfl) ?_
          refine g_storeL 4 (s := 32) (C := bs zero32) rfl rfl rfl rfl rfl rfl rfl rfl (oneCell_bs _) ?_
          refine g_pu rfl rfl rfl (pu_assign rfl rfl) ?_
          refine g_nil ?_
          exact g_retLT 4 (L := bs zero32) rfl rfl rfl rfl rfl (fun w' hm => ⟨(), trivial, rfl, hm.grows [] trivial rfl⟩)
        · rw [if_neg hz]
          have hbl : (bs (leB 32 V)).length = 32 := by rw [bs_length, leB_length]
          (repeat refine g_seq ?_)
          refine g_region ?_
          refine g_pu rfl rfl rfl (pu_loadW 12 (L := el V) rfl rfl rfl rfl) ?_
          refine g_pu rfl rfl rfl (pu_buildA' (cs := el 0) rfl rfl (by rw [h0]; rfl)) ?_
          refine g_call [] rfl rfl rfl rfl rfl rfl (fun w' hm => Is_f w' V 0 hvl (by decide) (by rw [hvm]; exact hz)) (fun _ _ => ?_)
          refine g_nil ?_
          (repeat refine g_seq ?_)
          refine g_cond_f rfl (g_skip ?_)
          (repeat refine g_seq ?_)
          refine g_region ?_
          refine g_pu rfl rfl rfl (pu_loadW 12 (L := el V) rfl rfl rfl rfl) ?_
          refine g_call [] rfl rfl rfl rfl rfl rfl (fun w' hm => Bytes_n w' V (by rw [← hvm]; exact Nat.mod_lt _ (by decide))) (fun _ _ => ?_)
          refine g_storeL 4 (s := 32) (C := bs (leB 32 V)) rfl rfl rfl rfl rfl rfl hbl rfl (oneCell_bs _) ?_
          refine g_pu rfl rfl rfl (pu_assign rfl rfl) ?_
          refine g_nil ?_
          exact g_retLT 4 (L := bs (leB 32 V)) rfl hbl rfl rfl rfl (fun w' hm => ⟨(), trivial, rfl, hm.grows [] trivial rfl⟩)
    · have hrE : readE u = 2 := if_neg hu32
      have hmE : xmE k u = 2 := if_neg (fun h => hu32 h.2)
      have hmN : xmN k u = 0 := if_neg (fun h => hu32 h.2)
      unfold xmV
      rw [hrE, hmE, hmN, hbz]
      (repeat refine g_seq ?_)
      refine g_region ?_
      refine g_pu rfl rfl rfl (pu_move rfl rfl) ?_
      first | refine g_pu rfl rfl rfl (pu_neq_t rfl rfl rfl (by omega)) ?_ | refine g_pu rfl rfl rfl (pu_neq_f rfl rfl rfl (by omega)) ?_ | refine g_pu rfl rfl rfl (pu_neq rfl rfl rfl) ?_
      refine g_nil ?_
      (repeat refine g_seq ?_)
      refine g_cond_t rfl ?_
      (repeat refine g_seq ?_)
      refine g_region ?_
      refine g_pu rfl rfl rfl (pu_buildA' (cs := bs zero32) rfl rfl rfl) ?_
      refine g_pu rfl rfl rfl (pu_move rfl rfl) ?_
      refine g_storeL 4 (s := 32) (C := bs zero32) rfl rfl rfl rfl rfl rfl rfl rfl (oneCell_bs _) ?_
      refine g_pu rfl rfl rfl (pu_assign rfl rfl) ?_
      refine g_nil ?_
      exact g_retLT 4 (L := bs zero32) rfl rfl rfl rfl rfl (fun w' hm => ⟨(), trivial, rfl, hm.grows [] trivial rfl⟩)
  · have hcE : clampE k = 2 := if_neg hk32
    have hmE : xmE k u = 2 := if_neg (fun h => hk32 h.1)
    have hmN : xmN k u = 0 := if_neg (fun h => hk32 h.1)
    unfold xmV
    rw [hcE, hmE, hmN, hbz]
    (repeat refine g_seq ?_)
    refine g_region ?_
    refine g_pu rfl rfl rfl (pu_move rfl rfl) ?_
    first | refine g_pu rfl rfl rfl (pu_neq_t rfl rfl rfl (by omega)) ?_ | refine g_pu rfl rfl rfl (pu_neq_f rfl rfl rfl (by omega)) ?_ | refine g_pu rfl rfl rfl (pu_neq rfl rfl rfl) ?_
    refine g_nil ?_
    (repeat refine g_seq ?_)
    refine g_cond_t rfl ?_
    (repeat refine g_seq ?_)
    refine g_region ?_
    refine g_pu rfl rfl rfl (pu_buildA' (cs := bs zero32) rfl rfl rfl) ?_
    refine g_pu rfl rfl rfl (pu_move rfl rfl) ?_
    refine g_storeL 4 (s := 32) (C := bs zero32) rfl rfl rfl rfl rfl rfl rfl rfl (oneCell_bs _) ?_
    refine g_pu rfl rfl rfl (pu_assign rfl rfl) ?_
    refine g_nil ?_
    exact g_retLT 4 (L := bs zero32) rfl rfl rfl rfl rfl (fun w' hm => ⟨(), trivial, rfl, hm.grows [] trivial rfl⟩)
end Go.Sx

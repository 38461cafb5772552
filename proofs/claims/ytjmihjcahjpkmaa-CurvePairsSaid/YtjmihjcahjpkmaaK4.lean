/-
  X25519 of the document: the ladder with exchanges. The bytes fit memory.
-/
import Derived.Test.YtjmihjcahjpkmaaK3
set_option linter.unusedVariables false
set_option linter.unusedSimpArgs false
namespace Go.Sx
open Go Go.Proofs

theorem RAddK (w : World) {a b : Nat} (ha : a < 115792089237316195423570985008687907853269984665640564039457584007913129639936) (hb : b < 115792089237316195423570985008687907853269984665640564039457584007913129639936) : Spec Try.prog 35 #[.agg (dg a).toArray, .agg (dg b).toArray] w (σ := Unit) (fun _ => True) (fun _ => .agg (dg (ad a b)).toArray) Nob (fun _ => []) := by
  rw [show ad a b = (a + b) % 57896044618658097711785492504343953926634992332820282019728792003956564819949 from rfl]; exact RAdd_b w a b ha hb
theorem RSubK (w : World) {a b : Nat} (ha : a < 115792089237316195423570985008687907853269984665640564039457584007913129639936) (hb : b < 115792089237316195423570985008687907853269984665640564039457584007913129639936) : Spec Try.prog 36 #[.agg (dg a).toArray, .agg (dg b).toArray] w (σ := Unit) (fun _ => True) (fun _ => .agg (dg (sb a b)).toArray) Nob (fun _ => []) := by
  rw [show sb a b = (a + (57896044618658097711785492504343953926634992332820282019728792003956564819949 - b % 57896044618658097711785492504343953926634992332820282019728792003956564819949)) % 57896044618658097711785492504343953926634992332820282019728792003956564819949 from rfl]; exact RSub_b w a b ha hb
theorem RMulK (w : World) {a b : Nat} (ha : a < 115792089237316195423570985008687907853269984665640564039457584007913129639936) (hb : b < 115792089237316195423570985008687907853269984665640564039457584007913129639936) : Spec Try.prog 37 #[.agg (dg a).toArray, .agg (dg b).toArray] w (σ := Unit) (fun _ => True) (fun _ => .agg (dg (ml a b)).toArray) Nob (fun _ => []) := by
  rw [show ml a b = a * b % 57896044618658097711785492504343953926634992332820282019728792003956564819949 from rfl]; exact RMul_b w a b ha hb

theorem RMult_b (w : World) {p q : Option Addr} {n m : Nat} (c d : Nat) {k u : List (BitVec 8)} (hk : By w p n k) (hu : By w q m u) : Spec Try.prog 15 #[.slice p n c, .slice q m d] w (σ := Unit) (fun _ => True) (fun _ => .tuple #[.agg (bs (xmV k u)).toArray, .int .i64 (xmE k u)]) Nob (fun _ => []) := by
  refine enter Try.func15 rfl rfl (Mem.start w) ?_
  have hkl := hk.len
  have hul := hu.len
  have hcv := clampV_length k
  have hbz : bs (leB 32 0) = bs zero32 := by rw [zero32_leB]
  have h0 : dg 0 = ws [0#32, 0#32, 0#32, 0#32, 0#32, 0#32, 0#32, 0#32] := dg_small (by decide)
  have h1 : dg 1 = ws [1#32, 0#32, 0#32, 0#32, 0#32, 0#32, 0#32, 0#32] := dg_small (by decide)
  have hK : dg 121665 = ws [121665#32, 0#32, 0#32, 0#32, 0#32, 0#32, 0#32, 0#32] := dg_small (by decide)
  (repeat refine g_seq ?_)
  refine g_region ?_
  refine g_lo [4] rfl rfl rfl rfl (lo_alloc rfl) (fun b4 hb4 => ?_)
  refine g_pu rfl rfl rfl (pu_assign rfl rfl) ?_
  refine g_nil ?_
  (repeat refine g_seq ?_)
  refine g_region ?_
  refine g_pu rfl rfl rfl (pu_move rfl rfl) ?_
  refine g_call [] rfl rfl rfl rfl rfl rfl (fun w' hm => RClamp_b w' c (hk.m hm)) (fun _ _ => ?_)
  refine g_pu rfl rfl rfl (pu_move rfl rfl) ?_
  refine g_pu rfl rfl rfl (pu_extract rfl rfl rfl) ?_
  refine g_pu rfl rfl rfl (pu_extract rfl rfl rfl) ?_
  refine g_lo [6] rfl rfl rfl rfl (lo_alloc rfl) (fun b6 hb6 => ?_)
  refine g_storeL 6 (s := 32) (C := bs (clampV k)) rfl rfl rfl rfl rfl rfl (by rw [bs_length, hcv]) rfl (oneCell_bs _) ?_
  refine g_pu rfl rfl rfl (pu_assign rfl rfl) ?_
  refine g_nil ?_
  by_cases hk32 : k.length = 32
  · have hcE : clampE k = 0 := if_pos hk32
    have hcV : clampV k = clampL k := if_pos hk32
    have hcl : (clampL k).length = 32 := by rw [clampL_length, hk32]
    rw [hcE, hcV]
    (repeat refine g_seq ?_)
    refine g_region ?_
    refine g_pu rfl rfl rfl (pu_move rfl rfl) ?_
    first | refine g_pu rfl rfl rfl (pu_neq_t rfl rfl rfl (by omega)) ?_ | refine g_pu rfl rfl rfl (pu_neq_f rfl rfl rfl (by omega)) ?_ | refine g_pu rfl rfl rfl (pu_neq rfl rfl rfl) ?_
    refine g_nil ?_
    (repeat refine g_seq ?_)
    refine g_cond_f rfl (g_skip ?_)
    (repeat refine g_seq ?_)
    refine g_region ?_
    refine g_pu rfl rfl rfl (pu_move rfl rfl) ?_
    refine g_call [] rfl rfl rfl rfl rfl rfl (fun w' hm => RRead_b w' d (hu.m hm)) (fun _ _ => ?_)
    refine g_pu rfl rfl rfl (pu_move rfl rfl) ?_
    refine g_pu rfl rfl rfl (pu_extract rfl rfl rfl) ?_
    refine g_pu rfl rfl rfl (pu_extract rfl rfl rfl) ?_
    refine g_lo [8] rfl rfl rfl rfl (lo_alloc rfl) (fun q8 hb8 => ?_)
    refine g_storeL 8 (s := 8) (C := dg (readN u)) rfl rfl rfl rfl rfl rfl rfl rfl (oneCell_dg _) ?_
    refine g_pu rfl rfl rfl (pu_assign rfl rfl) ?_
    refine g_nil ?_
    by_cases hu32 : u.length = 32
    · have hrE : readE u = 0 := if_pos hu32
      have hmE : xmE k u = if xmN k u = 0 then 5 else 0 := if_pos ⟨hk32, hu32⟩
      have hmN : xmN k u = ladV (readN u) (numB (clampL k)) := if_pos ⟨hk32, hu32⟩
      have hrl : readN u < 115792089237316195423570985008687907853269984665640564039457584007913129639936 := by
        unfold readN
        rw [if_pos hu32]
        exact modp _
      unfold xmV
      rw [hrE, hmE, hmN]
      have hdg := fun i (hi : i < 255) => getDb (l := clampL k) (i := i / 8) (by omega)
      have hbt := fun i (hi : i < 255) => numB_bit (l := clampL k) (i := i) (by omega)
      generalize hC : clampL k = C at *
      generalize hT : readN u = t at *
      (repeat refine g_seq ?_)
      refine g_region ?_
      refine g_pu rfl rfl rfl (pu_move rfl rfl) ?_
      first | refine g_pu rfl rfl rfl (pu_neq_t rfl rfl rfl (by omega)) ?_ | refine g_pu rfl rfl rfl (pu_neq_f rfl rfl rfl (by omega)) ?_ | refine g_pu rfl rfl rfl (pu_neq rfl rfl rfl) ?_
      refine g_nil ?_
      (repeat refine g_seq ?_)
      refine g_cond_f rfl (g_skip ?_)
      (repeat refine g_seq ?_)
      refine g_any (12, []) ?_
      refine a_pu 0 rfl rfl rfl rfl (pu_buildA' (cs := dg 1) rfl rfl (by rw [h1]; rfl)) rfl rfl (by kernel_rfl) ?_
      refine a_pu 1 rfl rfl rfl rfl (pu_buildA' (cs := dg 0) rfl rfl (by rw [h0]; rfl)) rfl rfl (by kernel_rfl) ?_
      refine a_pu 2 rfl rfl rfl rfl (pu_loadW 8 (L := dg t) rfl rfl rfl rfl) rfl rfl (by kernel_rfl) ?_
      refine a_pu 3 rfl rfl rfl rfl (pu_buildA' (cs := dg 1) rfl rfl (by rw [h1]; rfl)) rfl rfl (by kernel_rfl) ?_
      refine a_pendR 4 9 9 69 8 ?_
      refine a_pendR 5 10 10 69 8 ?_
      refine a_pendR 6 11 11 69 8 ?_
      refine a_pendR 7 12 12 69 8 ?_
      refine a_force _ (by kernel_rfl) rfl rfl rfl (by kernel_rfl) (by kernel_rfl) (by kernel_rfl) rfl (fun p hp => by simp only [List.mem_cons, List.not_mem_nil, or_false] at hp; rcases hp with rfl | rfl | rfl | rfl <;> exact does_PR rfl rfl rfl rfl rfl) ?_; rintro v_ cs_ ⟨b12, hb12, rfl, rfl⟩
      refine a_force _ (by kernel_rfl) rfl rfl rfl (by kernel_rfl) (by kernel_rfl) (by kernel_rfl) rfl (fun p hp => by simp only [List.mem_cons, List.not_mem_nil, or_false] at hp; rcases hp with rfl | rfl | rfl <;> exact does_PR rfl rfl rfl rfl rfl) ?_; rintro v_ cs_ ⟨b11, hb11, rfl, rfl⟩
      refine a_force _ (by kernel_rfl) rfl rfl rfl (by kernel_rfl) (by kernel_rfl) (by kernel_rfl) rfl (fun p hp => by simp only [List.mem_cons, List.not_mem_nil, or_false] at hp; rcases hp with rfl | rfl <;> exact does_PR rfl rfl rfl rfl rfl) ?_; rintro v_ cs_ ⟨b10, hb10, rfl, rfl⟩
      refine a_force _ (by kernel_rfl) rfl rfl rfl (by kernel_rfl) (by kernel_rfl) (by kernel_rfl) rfl (fun p hp => by simp only [List.mem_cons, List.not_mem_nil, or_false] at hp; subst hp; exact does_PR rfl rfl rfl rfl rfl) ?_; rintro v_ cs_ ⟨b9, hb9, rfl, rfl⟩
      refine a_stR 8 9 (s := 8) (C := dg 1) rfl rfl rfl rfl (by kernel_rfl) rfl rfl rfl rfl rfl (oneCell_dg _) ?_
      refine a_stR 9 10 (s := 8) (C := dg 0) rfl rfl rfl rfl (by kernel_rfl) rfl rfl rfl rfl rfl (oneCell_dg _) ?_
      refine a_stR 10 11 (s := 8) (C := dg t) rfl rfl rfl rfl (by kernel_rfl) rfl rfl rfl rfl rfl (oneCell_dg _) ?_
      refine a_stR 11 12 (s := 8) (C := dg 1) rfl rfl rfl rfl (by kernel_rfl) rfl rfl rfl rfl rfl (oneCell_dg _) ?_
      refine a_done (by kernel_rfl) ?_
      (repeat refine g_seq ?_)
      refine g_region ?_
      refine g_pu rfl rfl rfl (pu_assign rfl rfl) ?_
      refine g_nil ?_
      (repeat refine g_seq ?_)
      refine g_block (g_loop2 (fun (s : Nat) (S : Lad) => [(4, .pointer (some ⟨b4, 0, none⟩)), (6, .pointer (some ⟨b6, 0, none⟩)), (8, .pointer (some ⟨q8, 0, none⟩)), (9, .pointer (some ⟨b9, 0, none⟩)), (10, .pointer (some ⟨b10, 0, none⟩)), (11, .pointer (some ⟨b11, 0, none⟩)), (12, .pointer (some ⟨b12, 0, none⟩)), (13, .int .i64 ((s : Int) - 1))])
        (fun s S => [(4, .pt b4 (.cells (bs zero32).toArray 24 (0, 0))), (6, .pt b6 (.cells (bs C).toArray 24 (0, 0))), (8, .pt q8 (.cells (dg t).toArray 69 (0, 0))), (9, .pt b9 (.cells (dg (S.1)).toArray 69 (0, 0))), (10, .pt b10 (.cells (dg (S.2.1)).toArray 69 (0, 0))), (11, .pt b11 (.cells (dg (S.2.2.1)).toArray 69 (0, 0))), (12, .pt b12 (.cells (dg (S.2.2.2)).toArray 69 (0, 0)))])
        (fun s S => s ≤ 255 ∧ S = lad t (numB C) (255 - s)) (fun s _ => s) 255 (1, 0, t, 1) ⟨rfl, rfl, rfl, rfl, rfl, rfl, rfl, rfl, trivial⟩ ⟨rfl, rfl, rfl, rfl, rfl, rfl, rfl, trivial⟩ ⟨by omega, rfl⟩ ?_)
      intro s S ⟨hs, hS⟩
      have hok := lad_ok hrl (numB C) (255 - s)
      rw [← hS] at hok
      by_cases hlt : 0 < s
      · (repeat refine g_seq ?_)
        refine g_region ?_
        refine g_pu rfl rfl rfl (pu_move rfl rfl) ?_
        first | refine g_pu rfl rfl rfl (pu_geq_t rfl rfl rfl (by omega)) ?_ | refine g_pu rfl rfl rfl (pu_geq_f rfl rfl rfl (by omega)) ?_ | refine g_pu rfl rfl rfl (pu_geq rfl rfl rfl) ?_
        refine g_nil ?_
        (repeat refine g_seq ?_)
        refine g_cond_t rfl (g_skip ?_)
        have hb := hdg (s - 1) (by omega)
        have hnb := hbt (s - 1) (by omega)
        generalize C.getD ((s - 1) / 8) 0#8 = x at hb hnb
        have hba := bit_rem x ((s - 1) % 8)
        obtain ⟨x1, z1, x2, z2⟩ := S
        obtain ⟨o1, o2, o3, o4⟩ := hok
        dsimp only at o1 o2 o3 o4
        (repeat refine g_seq ?_); refine g_block ?_
        (repeat refine g_seq ?_)
        refine g_region ?_
        refine g_pu rfl rfl rfl (pu_move rfl rfl) ?_
        refine g_pu rfl rfl rfl (pu_quoI rfl rfl rfl (by omega)) ?_
        refine g_pu rfl rfl rfl (pu_atA1 ((s - 1) / 8) rfl rfl rfl (by omega) (by omega)) ?_
        refine g_pu rfl rfl rfl (pu_load 6 (v := b8 x) rfl rfl rfl (by rw [Nat.zero_add, List.getElem?_toArray]; exact bs_get hb)) ?_
        refine g_pu rfl rfl rfl (pu_move rfl rfl) ?_
        refine g_pu rfl rfl rfl (pu_remI rfl rfl rfl (by omega)) ?_
        refine g_pu rfl rfl rfl (pu_shr8 rfl rfl rfl (by omega)) ?_
        rw [show (((s : Int) - 1) % 8).toNat = (s - 1) % 8 by omega]
        refine g_pu rfl rfl rfl (pu_rem8 (b := 2#8) rfl rfl rfl (by decide)) ?_
        refine g_pu rfl rfl rfl (pu_assign rfl rfl) ?_
        refine g_nil ?_
        rw [hnb] at hba
        generalize (x >>> ((s - 1) % 8)) % 2#8 = bb at hba
        refine g_seq ?_
        refine g_join (σ := Lad) (fun S => [(4, .pointer (some ⟨b4, 0, none⟩)), (6, .pointer (some ⟨b6, 0, none⟩)), (8, .pointer (some ⟨q8, 0, none⟩)), (9, .pointer (some ⟨b9, 0, none⟩)), (10, .pointer (some ⟨b10, 0, none⟩)), (11, .pointer (some ⟨b11, 0, none⟩)), (12, .pointer (some ⟨b12, 0, none⟩)), (13, .int .i64 ((s : Int) - 1)), (14, b8 bb)]) (fun S => [(4, .pt b4 (.cells (bs zero32).toArray 24 (0, 0))), (6, .pt b6 (.cells (bs C).toArray 24 (0, 0))), (8, .pt q8 (.cells (dg t).toArray 69 (0, 0))), (9, .pt b9 (.cells (dg (S.1)).toArray 69 (0, 0))), (10, .pt b10 (.cells (dg (S.2.1)).toArray 69 (0, 0))), (11, .pt b11 (.cells (dg (S.2.2.1)).toArray 69 (0, 0))), (12, .pt b12 (.cells (dg (S.2.2.2)).toArray 69 (0, 0)))]) (fun S => S = if bb = 1#8 then (x2, z2, x1, z1) else (x1, z1, x2, z2)) ?_ (fun S hS2 => ?_)
        · by_cases hbit : bb = 1#8
          · (repeat refine g_seq ?_)
            refine g_region ?_
            refine g_pu rfl rfl rfl (pu_move rfl rfl) ?_
            refine g_pu rfl rfl rfl (pu_eql8_t (b := 1#8) rfl rfl rfl hbit) ?_
            refine g_nil ?_
            (repeat refine g_seq ?_)
            refine g_cond_t rfl ?_
            (repeat refine g_seq ?_)
            refine g_any (4, [1]) ?_
            refine a_pu 0 rfl rfl rfl rfl (pu_loadW 11 (L := dg x2) rfl rfl rfl rfl) rfl rfl (by kernel_rfl) ?_
            refine a_pu 2 rfl rfl rfl rfl (pu_loadW 9 (L := dg x1) rfl rfl rfl rfl) rfl rfl (by kernel_rfl) ?_
            refine a_pu 3 rfl rfl rfl rfl (pu_loadW 10 (L := dg z1) rfl rfl rfl rfl) rfl rfl (by kernel_rfl) ?_
            refine a_fork 1 4 [5, 6, 7] rfl rfl rfl rfl rfl rfl rfl rfl rfl rfl rfl (pu_loadW 12 (L := dg z2) rfl rfl rfl rfl) (st_rowF 9 (s := 8) (C := dg x2) rfl rfl rfl rfl rfl rfl (oneCell_dg _)) (pu_loadW 12 (L := dg z2) rfl rfl rfl rfl) (st_rowF 9 (s := 8) (C := dg x2) rfl rfl rfl rfl rfl rfl (oneCell_dg _)) (by kernel_rfl) (by kernel_rfl) (by kernel_rfl) (by decide) rfl rfl (by kernel_rfl) ?_
            refine g_storeL 10 (s := 8) (C := dg z2) rfl rfl rfl rfl rfl rfl rfl rfl (oneCell_dg _) ?_
            refine g_storeL 11 (s := 8) (C := dg x1) rfl rfl rfl rfl rfl rfl rfl rfl (oneCell_dg _) ?_
            refine g_storeL 12 (s := 8) (C := dg z1) rfl rfl rfl rfl rfl rfl rfl rfl (oneCell_dg _) ?_
            refine g_nil ?_
            exact g_meet (x2, z2, x1, z1) (by rw [if_pos hbit]) ⟨rfl, rfl, rfl, rfl, rfl, rfl, rfl, rfl, rfl, trivial⟩ ⟨rfl, rfl, rfl, rfl, rfl, rfl, rfl, trivial⟩
          · (repeat refine g_seq ?_)
            refine g_region ?_
            refine g_pu rfl rfl rfl (pu_move rfl rfl) ?_
            refine g_pu rfl rfl rfl (pu_eql8_f (b := 1#8) rfl rfl rfl hbit) ?_
            refine g_nil ?_
            (repeat refine g_seq ?_)
            refine g_cond_f rfl (g_skip ?_)
            exact g_meet (x1, z1, x2, z2) (by rw [if_neg hbit]) ⟨rfl, rfl, rfl, rfl, rfl, rfl, rfl, rfl, rfl, trivial⟩ ⟨rfl, rfl, rfl, rfl, rfl, rfl, rfl, trivial⟩
        have hok2 : okL S := by
          rw [hS2]
          split
          · exact ⟨o3, o4, o1, o2⟩
          · exact ⟨o1, o2, o3, o4⟩
        obtain ⟨a, b, e, f⟩ := S
        obtain ⟨ha, hb', he, hf⟩ := hok2
        dsimp only at ha hb' he hf ⊢
        have hA := ad_lt a b
        have hB := sb_lt a b
        have hCC := ad_lt e f
        have hD := sb_lt e f
        have hAA := ml_lt (ad a b) (ad a b)
        have hBB := ml_lt (sb a b) (sb a b)
        have hEE : eeN a b < 115792089237316195423570985008687907853269984665640564039457584007913129639936 := sb_lt _ _
        have hDA : cA a b e f < 115792089237316195423570985008687907853269984665640564039457584007913129639936 := ml_lt _ _
        have hCB : cB a b e f < 115792089237316195423570985008687907853269984665640564039457584007913129639936 := ml_lt _ _
        (repeat refine g_seq ?_)
        refine g_region ?_
        refine g_pu rfl rfl rfl (pu_loadW 9 (L := dg a) rfl rfl rfl rfl) ?_
        refine g_pu rfl rfl rfl (pu_loadW 10 (L := dg b) rfl rfl rfl rfl) ?_
        refine g_call [] rfl rfl rfl rfl rfl rfl (fun w' hm => RAddK w' ha hb') (fun _ _ => ?_)
        refine g_lo [15] rfl rfl rfl rfl (lo_alloc rfl) (fun b15 hb15 => ?_)
        refine g_storeL 15 (s := 8) (C := dg (ad a b)) rfl rfl rfl rfl rfl rfl rfl rfl (oneCell_dg _) ?_
        refine g_nil ?_
        (repeat refine g_seq ?_)
        refine g_region ?_
        refine g_pu rfl rfl rfl (pu_loadW 9 (L := dg a) rfl rfl rfl rfl) ?_
        refine g_pu rfl rfl rfl (pu_loadW 10 (L := dg b) rfl rfl rfl rfl) ?_
        refine g_call [] rfl rfl rfl rfl rfl rfl (fun w' hm => RSubK w' ha hb') (fun _ _ => ?_)
        refine g_lo [16] rfl rfl rfl rfl (lo_alloc rfl) (fun b16 hb16 => ?_)
        refine g_storeL 16 (s := 8) (C := dg (sb a b)) rfl rfl rfl rfl rfl rfl rfl rfl (oneCell_dg _) ?_
        refine g_nil ?_
        (repeat refine g_seq ?_)
        refine g_any (6, []) ?_
        refine a_pu 0 rfl rfl rfl rfl (pu_loadW 11 (L := dg e) rfl rfl rfl rfl) rfl rfl (by kernel_rfl) ?_
        refine a_pu 1 rfl rfl rfl rfl (pu_loadW 12 (L := dg f) rfl rfl rfl rfl) rfl rfl (by kernel_rfl) ?_
        refine a_pu 3 rfl rfl rfl rfl (pu_loadW 15 (L := dg (ad a b)) rfl rfl rfl rfl) rfl rfl (by kernel_rfl) ?_
        refine a_pendA 5 17 17 69 ?_
        refine a_do 2 73 [] (does_call rfl rfl rfl rfl rfl (fun w' hm => RSubK w' he hf)) rfl rfl (by kernel_rfl) rfl rfl (by kernel_rfl) (by kernel_rfl) (by kernel_rfl) rfl (fun p hp => by simp only [List.mem_cons, List.not_mem_nil, or_false] at hp; subst hp; first | exact does_PA rfl rfl rfl rfl | exact does_PB rfl rfl rfl rfl rfl (by decide) (by decide) rfl rfl) ?_; rintro v_ cs_ ⟨_, _, rfl, rfl⟩
        refine a_do 4 75 [] (does_call rfl rfl rfl rfl rfl (fun w' hm => RMulK w' hD hA)) rfl rfl (by kernel_rfl) rfl rfl (by kernel_rfl) (by kernel_rfl) (by kernel_rfl) rfl (fun p hp => by simp only [List.mem_cons, List.not_mem_nil, or_false] at hp; subst hp; first | exact does_PA rfl rfl rfl rfl | exact does_PB rfl rfl rfl rfl rfl (by decide) (by decide) rfl rfl) ?_; rintro v_ cs_ ⟨_, _, rfl, rfl⟩
        refine a_force _ (by kernel_rfl) rfl rfl rfl (by kernel_rfl) (by kernel_rfl) (by kernel_rfl) rfl (fun p hp => by simp only [List.mem_cons, List.not_mem_nil, or_false] at hp; subst hp; first | exact does_PA rfl rfl rfl rfl | exact does_PB rfl rfl rfl rfl rfl (by decide) (by decide) rfl rfl) ?_; rintro v_ cs_ ⟨b17, hb17, rfl, rfl⟩
        refine a_tail [6] (by kernel_rfl) rfl rfl (by kernel_rfl) ?_
        refine g_storeL 17 (s := 8) (C := dg (cA a b e f)) rfl rfl rfl rfl rfl rfl rfl rfl (oneCell_dg _) ?_
        refine g_nil ?_
        (repeat refine g_seq ?_)
        refine g_any (6, []) ?_
        refine a_pu 0 rfl rfl rfl rfl (pu_loadW 11 (L := dg e) rfl rfl rfl rfl) rfl rfl (by kernel_rfl) ?_
        refine a_pu 1 rfl rfl rfl rfl (pu_loadW 12 (L := dg f) rfl rfl rfl rfl) rfl rfl (by kernel_rfl) ?_
        refine a_pu 3 rfl rfl rfl rfl (pu_loadW 16 (L := dg (sb a b)) rfl rfl rfl rfl) rfl rfl (by kernel_rfl) ?_
        refine a_pendA 5 18 18 69 ?_
        refine a_do 2 78 [] (does_call rfl rfl rfl rfl rfl (fun w' hm => RAddK w' he hf)) rfl rfl (by kernel_rfl) rfl rfl (by kernel_rfl) (by kernel_rfl) (by kernel_rfl) rfl (fun p hp => by simp only [List.mem_cons, List.not_mem_nil, or_false] at hp; subst hp; first | exact does_PA rfl rfl rfl rfl | exact does_PB rfl rfl rfl rfl rfl (by decide) (by decide) rfl rfl) ?_; rintro v_ cs_ ⟨_, _, rfl, rfl⟩
        refine a_do 4 80 [] (does_call rfl rfl rfl rfl rfl (fun w' hm => RMulK w' hCC hB)) rfl rfl (by kernel_rfl) rfl rfl (by kernel_rfl) (by kernel_rfl) (by kernel_rfl) rfl (fun p hp => by simp only [List.mem_cons, List.not_mem_nil, or_false] at hp; subst hp; first | exact does_PA rfl rfl rfl rfl | exact does_PB rfl rfl rfl rfl rfl (by decide) (by decide) rfl rfl) ?_; rintro v_ cs_ ⟨_, _, rfl, rfl⟩
        refine a_force _ (by kernel_rfl) rfl rfl rfl (by kernel_rfl) (by kernel_rfl) (by kernel_rfl) rfl (fun p hp => by simp only [List.mem_cons, List.not_mem_nil, or_false] at hp; subst hp; first | exact does_PA rfl rfl rfl rfl | exact does_PB rfl rfl rfl rfl rfl (by decide) (by decide) rfl rfl) ?_; rintro v_ cs_ ⟨b18, hb18, rfl, rfl⟩
        refine a_tail [6] (by kernel_rfl) rfl rfl (by kernel_rfl) ?_
        refine g_storeL 18 (s := 8) (C := dg (cB a b e f)) rfl rfl rfl rfl rfl rfl rfl rfl (oneCell_dg _) ?_
        refine g_nil ?_
        (repeat refine g_seq ?_)
        refine g_region ?_
        refine g_pu rfl rfl rfl (pu_loadW 15 (L := dg (ad a b)) rfl rfl rfl rfl) ?_
        refine g_pu rfl rfl rfl (pu_loadW 15 (L := dg (ad a b)) rfl rfl rfl rfl) ?_
        refine g_call [] rfl rfl rfl rfl rfl rfl (fun w' hm => RMulK w' hA hA) (fun _ _ => ?_)
        refine g_lo [19] rfl rfl rfl rfl (lo_alloc rfl) (fun b19 hb19 => ?_)
        refine g_storeL 19 (s := 8) (C := dg (ml (ad a b) (ad a b))) rfl rfl rfl rfl rfl rfl rfl rfl (oneCell_dg _) ?_
        refine g_nil ?_
        (repeat refine g_seq ?_)
        refine g_region ?_
        refine g_pu rfl rfl rfl (pu_loadW 16 (L := dg (sb a b)) rfl rfl rfl rfl) ?_
        refine g_pu rfl rfl rfl (pu_loadW 16 (L := dg (sb a b)) rfl rfl rfl rfl) ?_
        refine g_call [] rfl rfl rfl rfl rfl rfl (fun w' hm => RMulK w' hB hB) (fun _ _ => ?_)
        refine g_lo [20] rfl rfl rfl rfl (lo_alloc rfl) (fun b20 hb20 => ?_)
        refine g_storeL 20 (s := 8) (C := dg (ml (sb a b) (sb a b))) rfl rfl rfl rfl rfl rfl rfl rfl (oneCell_dg _) ?_
        refine g_nil ?_
        (repeat refine g_seq ?_)
        refine g_region ?_
        refine g_pu rfl rfl rfl (pu_loadW 19 (L := dg (ml (ad a b) (ad a b))) rfl rfl rfl rfl) ?_
        refine g_pu rfl rfl rfl (pu_loadW 20 (L := dg (ml (sb a b) (sb a b))) rfl rfl rfl rfl) ?_
        refine g_call [] rfl rfl rfl rfl rfl rfl (fun w' hm => RSubK w' hAA hBB) (fun _ _ => ?_)
        refine g_lo [21] rfl rfl rfl rfl (lo_alloc rfl) (fun b21 hb21 => ?_)
        refine g_storeL 21 (s := 8) (C := dg (eeN a b)) rfl rfl rfl rfl rfl rfl rfl rfl (oneCell_dg _) ?_
        refine g_nil ?_
        (repeat refine g_seq ?_)
        refine g_region ?_
        refine g_pu rfl rfl rfl (pu_loadW 17 (L := dg (cA a b e f)) rfl rfl rfl rfl) ?_
        refine g_pu rfl rfl rfl (pu_loadW 18 (L := dg (cB a b e f)) rfl rfl rfl rfl) ?_
        refine g_call [] rfl rfl rfl rfl rfl rfl (fun w' hm => RAddK w' hDA hCB) (fun _ _ => ?_)
        refine g_lo [22] rfl rfl rfl rfl (lo_alloc rfl) (fun b22 hb22 => ?_)
        refine g_storeL 22 (s := 8) (C := dg (ad (cA a b e f) (cB a b e f))) rfl rfl rfl rfl rfl rfl rfl rfl (oneCell_dg _) ?_
        refine g_nil ?_
        (repeat refine g_seq ?_)
        refine g_region ?_
        refine g_pu rfl rfl rfl (pu_loadW 17 (L := dg (cA a b e f)) rfl rfl rfl rfl) ?_
        refine g_pu rfl rfl rfl (pu_loadW 18 (L := dg (cB a b e f)) rfl rfl rfl rfl) ?_
        refine g_call [] rfl rfl rfl rfl rfl rfl (fun w' hm => RSubK w' hDA hCB) (fun _ _ => ?_)
        refine g_lo [23] rfl rfl rfl rfl (lo_alloc rfl) (fun b23 hb23 => ?_)
        refine g_storeL 23 (s := 8) (C := dg (sb (cA a b e f) (cB a b e f))) rfl rfl rfl rfl rfl rfl rfl rfl (oneCell_dg _) ?_
        refine g_nil ?_
        (repeat refine g_seq ?_)
        refine g_region ?_
        refine g_pu rfl rfl rfl (pu_loadW 22 (L := dg (ad (cA a b e f) (cB a b e f))) rfl rfl rfl rfl) ?_
        refine g_pu rfl rfl rfl (pu_loadW 22 (L := dg (ad (cA a b e f) (cB a b e f))) rfl rfl rfl rfl) ?_
        refine g_call [] rfl rfl rfl rfl rfl rfl (fun w' hm => RMulK w' (ad_lt _ _) (ad_lt _ _)) (fun _ _ => ?_)
        refine g_storeL 11 (s := 8) (C := dg (sX a b e f)) rfl rfl rfl rfl rfl rfl rfl rfl (oneCell_dg _) ?_
        refine g_nil ?_
        (repeat refine g_seq ?_)
        refine g_any (4, []) ?_
        refine a_pu 0 rfl rfl rfl rfl (pu_loadW 8 (L := dg t) rfl rfl rfl rfl) rfl rfl (by kernel_rfl) ?_
        refine a_pu 1 rfl rfl rfl rfl (pu_loadW 23 (L := dg (sb (cA a b e f) (cB a b e f))) rfl rfl rfl rfl) rfl rfl (by kernel_rfl) ?_
        refine a_pu 2 rfl rfl rfl rfl (pu_loadW 23 (L := dg (sb (cA a b e f) (cB a b e f))) rfl rfl rfl rfl) rfl rfl (by kernel_rfl) ?_
        refine a_do 3 102 [] (does_call rfl rfl rfl rfl rfl (fun w' hm => RMulK w' (sb_lt _ _) (sb_lt _ _))) rfl rfl (by kernel_rfl) rfl rfl (by kernel_rfl) (by kernel_rfl) (by kernel_rfl) rfl (fun p hp => by cases hp) ?_; rintro v_ cs_ ⟨_, _, rfl, rfl⟩
        refine a_tail [4, 5] (by kernel_rfl) rfl rfl (by kernel_rfl) ?_
        refine g_call [] rfl rfl rfl rfl rfl rfl (fun w' hm => RMulK w' hrl (ml_lt _ _)) (fun _ _ => ?_)
        refine g_storeL 12 (s := 8) (C := dg (sZ t a b e f)) rfl rfl rfl rfl rfl rfl rfl rfl (oneCell_dg _) ?_
        refine g_nil ?_
        (repeat refine g_seq ?_)
        refine g_region ?_
        refine g_pu rfl rfl rfl (pu_loadW 19 (L := dg (ml (ad a b) (ad a b))) rfl rfl rfl rfl) ?_
        refine g_pu rfl rfl rfl (pu_loadW 20 (L := dg (ml (sb a b) (sb a b))) rfl rfl rfl rfl) ?_
        refine g_call [] rfl rfl rfl rfl rfl rfl (fun w' hm => RMulK w' hAA hBB) (fun _ _ => ?_)
        refine g_storeL 9 (s := 8) (C := dg (dX a b)) rfl rfl rfl rfl rfl rfl rfl rfl (oneCell_dg _) ?_
        refine g_nil ?_
        (repeat refine g_seq ?_)
        refine g_any (6, []) ?_
        refine a_pu 0 rfl rfl rfl rfl (pu_loadW 21 (L := dg (eeN a b)) rfl rfl rfl rfl) rfl rfl (by kernel_rfl) ?_
        refine a_pu 1 rfl rfl rfl rfl (pu_loadW 19 (L := dg (ml (ad a b) (ad a b))) rfl rfl rfl rfl) rfl rfl (by kernel_rfl) ?_
        refine a_pu 2 rfl rfl rfl rfl (pu_buildA' (cs := dg 121665) rfl rfl (by rw [hK]; rfl)) rfl rfl (by kernel_rfl) ?_
        refine a_pu 3 rfl rfl rfl rfl (pu_loadW 21 (L := dg (eeN a b)) rfl rfl rfl rfl) rfl rfl (by kernel_rfl) ?_
        refine a_do 4 111 [] (does_call rfl rfl rfl rfl rfl (fun w' hm => RMulK w' (a := 121665) (by decide) hEE)) rfl rfl (by kernel_rfl) rfl rfl (by kernel_rfl) (by kernel_rfl) (by kernel_rfl) rfl (fun p hp => by cases hp) ?_; rintro v_ cs_ ⟨_, _, rfl, rfl⟩
        refine a_do 5 112 [] (does_call rfl rfl rfl rfl rfl (fun w' hm => RAddK w' hAA (ml_lt _ _))) rfl rfl (by kernel_rfl) rfl rfl (by kernel_rfl) (by kernel_rfl) (by kernel_rfl) rfl (fun p hp => by cases hp) ?_; rintro v_ cs_ ⟨_, _, rfl, rfl⟩
        refine a_tail [6, 7] (by kernel_rfl) rfl rfl (by kernel_rfl) ?_
        refine g_call [] rfl rfl rfl rfl rfl rfl (fun w' hm => RMulK w' hEE (ad_lt _ _)) (fun _ _ => ?_)
        refine g_storeL 10 (s := 8) (C := dg (dZ a b)) rfl rfl rfl rfl rfl rfl rfl rfl (oneCell_dg _) ?_
        refine g_nil ?_
        by_cases hbit : bb = 1#8
        · have hst := lad_t (t := t) hlt hs (hba.1 hbit)
          rw [← hS] at hst
          rw [if_pos hbit] at hS2
          obtain ⟨rfl, rfl, rfl, rfl⟩ : a = x2 ∧ b = z2 ∧ e = x1 ∧ f = z1 := by
            simp only [Prod.mk.injEq] at hS2
            exact hS2
          (repeat refine g_seq ?_)
          refine g_region ?_
          refine g_pu rfl rfl rfl (pu_move rfl rfl) ?_
          refine g_pu rfl rfl rfl (pu_eql8_t (b := 1#8) rfl rfl rfl hbit) ?_
          refine g_nil ?_
          (repeat refine g_seq ?_)
          refine g_cond_t rfl ?_
          (repeat refine g_seq ?_)
          refine g_any (4, [1]) ?_
          refine a_pu 0 rfl rfl rfl rfl (pu_loadW 11 (L := dg (sX a b e f)) rfl rfl rfl rfl) rfl rfl (by kernel_rfl) ?_
          refine a_pu 2 rfl rfl rfl rfl (pu_loadW 9 (L := dg (dX a b)) rfl rfl rfl rfl) rfl rfl (by kernel_rfl) ?_
          refine a_pu 3 rfl rfl rfl rfl (pu_loadW 10 (L := dg (dZ a b)) rfl rfl rfl rfl) rfl rfl (by kernel_rfl) ?_
          refine a_fork 1 4 [5, 6, 7] rfl rfl rfl rfl rfl rfl rfl rfl rfl rfl rfl (pu_loadW 12 (L := dg (sZ t a b e f)) rfl rfl rfl rfl) (st_rowF 9 (s := 8) (C := dg (sX a b e f)) rfl rfl rfl rfl rfl rfl (oneCell_dg _)) (pu_loadW 12 (L := dg (sZ t a b e f)) rfl rfl rfl rfl) (st_rowF 9 (s := 8) (C := dg (sX a b e f)) rfl rfl rfl rfl rfl rfl (oneCell_dg _)) (by kernel_rfl) (by kernel_rfl) (by kernel_rfl) (by decide) rfl rfl (by kernel_rfl) ?_
          refine g_storeL 10 (s := 8) (C := dg (sZ t a b e f)) rfl rfl rfl rfl rfl rfl rfl rfl (oneCell_dg _) ?_
          refine g_storeL 11 (s := 8) (C := dg (dX a b)) rfl rfl rfl rfl rfl rfl rfl rfl (oneCell_dg _) ?_
          refine g_storeL 12 (s := 8) (C := dg (dZ a b)) rfl rfl rfl rfl rfl rfl rfl rfl (oneCell_dg _) ?_
          refine g_nil ?_
          refine g_blk ?_
          (repeat refine g_seq ?_)
          refine g_region ?_
          refine g_pu rfl rfl rfl (pu_move rfl rfl) ?_
          refine g_pu rfl rfl rfl (pu_subI rfl rfl rfl (by omega)) ?_
          refine g_pu rfl rfl rfl (pu_assign rfl rfl) ?_
          refine g_nil ?_
          exact g_round2 (s - 1) (stepL t 1 (e, f, a, b)) ⟨by omega, hst.symm⟩ (by omega) ⟨rfl, rfl, rfl, rfl, rfl, rfl, rfl, by rw [show (((s - 1 : Nat) : Int) - 1) = (s : Int) - 1 - 1 by omega]; rfl, trivial⟩ ⟨rfl, rfl, rfl, rfl, rfl, rfl, rfl, trivial⟩
        · have hst := lad_f (t := t) hlt hs (fun h => hbit (hba.2 h))
          rw [← hS] at hst
          rw [if_neg hbit] at hS2
          obtain ⟨rfl, rfl, rfl, rfl⟩ : a = x1 ∧ b = z1 ∧ e = x2 ∧ f = z2 := by
            simp only [Prod.mk.injEq] at hS2
            exact hS2
          (repeat refine g_seq ?_)
          refine g_region ?_
          refine g_pu rfl rfl rfl (pu_move rfl rfl) ?_
          refine g_pu rfl rfl rfl (pu_eql8_f (b := 1#8) rfl rfl rfl hbit) ?_
          refine g_nil ?_
          (repeat refine g_seq ?_)
          refine g_cond_f rfl (g_skip ?_)
          refine g_blk ?_
          (repeat refine g_seq ?_)
          refine g_region ?_
          refine g_pu rfl rfl rfl (pu_move rfl rfl) ?_
          refine g_pu rfl rfl rfl (pu_subI rfl rfl rfl (by omega)) ?_
          refine g_pu rfl rfl rfl (pu_assign rfl rfl) ?_
          refine g_nil ?_
          exact g_round2 (s - 1) (stepL t 0 (a, b, e, f)) ⟨by omega, hst.symm⟩ (by omega) ⟨rfl, rfl, rfl, rfl, rfl, rfl, rfl, by rw [show (((s - 1 : Nat) : Int) - 1) = (s : Int) - 1 - 1 by omega]; rfl, trivial⟩ ⟨rfl, rfl, rfl, rfl, rfl, rfl, rfl, trivial⟩
      · (repeat refine g_seq ?_)
        refine g_region ?_
        refine g_pu rfl rfl rfl (pu_move rfl rfl) ?_
        first | refine g_pu rfl rfl rfl (pu_geq_t rfl rfl rfl (by omega)) ?_ | refine g_pu rfl rfl rfl (pu_geq_f rfl rfl rfl (by omega)) ?_ | refine g_pu rfl rfl rfl (pu_geq rfl rfl rfl) ?_
        refine g_nil ?_
        (repeat refine g_seq ?_)
        refine g_cond_f rfl (g_exit rfl ?_)
        have e1 : s = 0 := by omega
        subst e1
        have hV : ml S.1 (invN S.2.1) = ladV t (numB C) := by rw [hS]; rfl
        obtain ⟨x1, z1, x2, z2⟩ := S
        obtain ⟨o1, o2, o3, o4⟩ := hok
        dsimp only at o1 o2 o3 o4 hV
        have hvl : ladV t (numB C) < 57896044618658097711785492504343953926634992332820282019728792003956564819949 := ladV_lt _ _
        (repeat refine g_seq ?_)
        refine g_any (5, []) ?_
        refine a_pu 0 rfl rfl rfl rfl (pu_loadW 9 (L := dg x1) rfl rfl rfl rfl) rfl rfl (by kernel_rfl) ?_
        refine a_pu 1 rfl rfl rfl rfl (pu_loadW 10 (L := dg z1) rfl rfl rfl rfl) rfl rfl (by kernel_rfl) ?_
        refine a_pendA 4 24 24 69 ?_
        refine a_do 2 122 [] (does_call rfl rfl rfl rfl rfl (fun w' hm => RInv_b w' z1 o2)) rfl rfl (by kernel_rfl) rfl rfl (by kernel_rfl) (by kernel_rfl) (by kernel_rfl) rfl (fun p hp => by simp only [List.mem_cons, List.not_mem_nil, or_false] at hp; subst hp; first | exact does_PA rfl rfl rfl rfl | exact does_PB rfl rfl rfl rfl rfl (by decide) (by decide) rfl rfl) ?_; rintro v_ cs_ ⟨_, _, rfl, rfl⟩
        refine a_do 3 123 [] (does_call rfl rfl rfl rfl rfl (fun w' hm => RMulK w' o1 (invN_lt z1))) rfl rfl (by kernel_rfl) rfl rfl (by kernel_rfl) (by kernel_rfl) (by kernel_rfl) rfl (fun p hp => by simp only [List.mem_cons, List.not_mem_nil, or_false] at hp; subst hp; first | exact does_PA rfl rfl rfl rfl | exact does_PB rfl rfl rfl rfl rfl (by decide) (by decide) rfl rfl) ?_; rintro v_ cs_ ⟨_, _, rfl, rfl⟩
        rw [hV]
        refine a_force _ (by kernel_rfl) rfl rfl rfl (by kernel_rfl) (by kernel_rfl) (by kernel_rfl) rfl (fun p hp => by simp only [List.mem_cons, List.not_mem_nil, or_false] at hp; subst hp; first | exact does_PA rfl rfl rfl rfl | exact does_PB rfl rfl rfl rfl rfl (by decide) (by decide) rfl rfl) ?_; rintro v_ cs_ ⟨b24, hb24, rfl, rfl⟩
        refine a_tail [5] (by kernel_rfl) rfl rfl (by kernel_rfl) ?_
        refine g_storeL 24 (s := 8) (C := dg (ladV t (numB C))) rfl rfl rfl rfl rfl rfl rfl rfl (oneCell_dg _) ?_
        refine g_nil ?_
        generalize ladV t (numB C) = V at hV hvl
        by_cases hz : V = 0
        · subst hz
          rw [if_pos rfl, hbz]
          (repeat refine g_seq ?_)
          refine g_region ?_
          refine g_pu rfl rfl rfl (pu_loadW 24 (L := dg 0) rfl rfl rfl rfl) ?_
          refine g_pu rfl rfl rfl (pu_buildA' (cs := dg 0) rfl rfl (by rw [h0]; rfl)) ?_
          refine g_pu rfl rfl rfl (pu_eqlA_t (a := dg 0) (b := dg 0) rfl rfl rfl rfl (all_dg _) (dg_length _)) ?_
          refine g_nil ?_
          (repeat refine g_seq ?_)
          refine g_cond_t rfl ?_
          (repeat refine g_seq ?_)
          refine g_region ?_
          refine g_pu rfl rfl rfl (pu_buildA' (cs := bs zero32) rfl rfl rfl) ?_
          refine g_storeL 4 (s := 32) (C := bs zero32) rfl rfl rfl rfl rfl rfl rfl rfl (oneCell_bs _) ?_
          refine g_pu rfl rfl rfl (pu_assign rfl rfl) ?_
          refine g_nil ?_
          exact g_retLT 4 (L := bs zero32) rfl rfl rfl rfl rfl (fun w' hm => ⟨(), trivial, rfl, hm.grows [] trivial rfl⟩)
        · rw [if_neg hz]
          have hbl : (bs (leB 32 V)).length = 32 := by rw [bs_length, leB_length]
          (repeat refine g_seq ?_)
          refine g_region ?_
          refine g_pu rfl rfl rfl (pu_loadW 24 (L := dg V) rfl rfl rfl rfl) ?_
          refine g_pu rfl rfl rfl (pu_buildA' (cs := dg 0) rfl rfl (by rw [h0]; rfl)) ?_
          refine g_pu rfl rfl rfl (pu_eqlA_f (a := dg V) (b := dg 0) rfl rfl rfl (fun h => hz (dg_inj (by omega) (by decide) h)) (all_dg _) (all_dg _) (dg_length _) (dg_length _)) ?_
          refine g_nil ?_
          (repeat refine g_seq ?_)
          refine g_cond_f rfl (g_skip ?_)
          (repeat refine g_seq ?_)
          refine g_region ?_
          refine g_pu rfl rfl rfl (pu_loadW 24 (L := dg V) rfl rfl rfl rfl) ?_
          refine g_call [] rfl rfl rfl rfl rfl rfl (fun w' hm => RBytes_n w' V hvl) (fun _ _ => ?_)
          refine g_storeL 4 (s := 32) (C := bs (leB 32 V)) rfl rfl rfl rfl rfl rfl hbl rfl (oneCell_bs _) ?_
          refine g_pu rfl rfl rfl (pu_assign rfl rfl) ?_
          refine g_nil ?_
          exact g_retLT 4 (L := bs (leB 32 V)) rfl hbl rfl rfl rfl (fun w' hm => ⟨(), trivial, rfl, hm.grows [] trivial rfl⟩)
    · have hrE : readE u = 2 := if_neg hu32
      have hmE : xmE k u = 2 := if_neg (fun h => hu32 h.2)
      have hmN : xmN k u = 0 := if_neg (fun h => hu32 h.2)
      unfold xmV
      rw [hrE, hmE, hmN, hbz]
      (repeat refine g_seq ?_)
      refine g_region ?_
      refine g_pu rfl rfl rfl (pu_move rfl rfl) ?_
      first | refine g_pu rfl rfl rfl (pu_neq_t rfl rfl rfl (by omega)) ?_ | refine g_pu rfl rfl rfl (pu_neq_f rfl rfl rfl (by omega)) ?_ | refine g_pu rfl rfl rfl (pu_neq rfl rfl rfl) ?_
      refine g_nil ?_
      (repeat refine g_seq ?_)
      refine g_cond_t rfl ?_
      (repeat refine g_seq ?_)
      refine g_region ?_
      refine g_pu rfl rfl rfl (pu_buildA' (cs := bs zero32) rfl rfl rfl) ?_
      refine g_pu rfl rfl rfl (pu_move rfl rfl) ?_
      refine g_storeL 4 (s := 32) (C := bs zero32) rfl rfl rfl rfl rfl rfl rfl rfl (oneCell_bs _) ?_
      refine g_pu rfl rfl rfl (pu_assign rfl rfl) ?_
      refine g_nil ?_
      exact g_retLT 4 (L := bs zero32) rfl rfl rfl rfl rfl (fun w' hm => ⟨(), trivial, rfl, hm.grows [] trivial rfl⟩)
  · have hcE : clampE k = 2 := if_neg hk32
    have hmE : xmE k u = 2 := if_neg (fun h => hk32 h.1)
    have hmN : xmN k u = 0 := if_neg (fun h => hk32 h.1)
    unfold xmV
    rw [hcE, hmE, hmN, hbz]
    (repeat refine g_seq ?_)
    refine g_region ?_
    refine g_pu rfl rfl rfl (pu_move rfl rfl) ?_
    first | refine g_pu rfl rfl rfl (pu_neq_t rfl rfl rfl (by omega)) ?_ | refine g_pu rfl rfl rfl (pu_neq_f rfl rfl rfl (by omega)) ?_ | refine g_pu rfl rfl rfl (pu_neq rfl rfl rfl) ?_
    refine g_nil ?_
    (repeat refine g_seq ?_)
    refine g_cond_t rfl ?_
    (repeat refine g_seq ?_)
    refine g_region ?_
    refine g_pu rfl rfl rfl (pu_buildA' (cs := bs zero32) rfl rfl rfl) ?_
    refine g_pu rfl rfl rfl (pu_move rfl rfl) ?_
    refine g_storeL 4 (s := 32) (C := bs zero32) rfl rfl rfl rfl rfl rfl rfl rfl (oneCell_bs _) ?_
    refine g_pu rfl rfl rfl (pu_assign rfl rfl) ?_
    refine g_nil ?_
    exact g_retLT 4 (L := bs zero32) rfl rfl rfl rfl rfl (fun w' hm => ⟨(), trivial, rfl, hm.grows [] trivial rfl⟩)
end Go.Sx

/-
  The reference's roots and primes: what is above a power, the root bit by bit, the n-th prime. Conditions: what the functions of lists answer.
-/
import Derived.Test.YtieafkfdkhpffaaT2
set_option linter.unusedVariables false
set_option linter.unusedSimpArgs false
namespace Go.Sx
open Go Go.Proofs

theorem above_b (w : World) (y : BitVec 64) (p k : Nat) {r : Bool} (hk : k ≤ 100) (hr : aboveM y p k = some r) : Spec Try.prog 36 #[b64 y, .int .i64 (p : Int), .int .i64 (k : Int)] w (σ := Unit) (fun _ => True) (fun _ => .bool r) Nob (fun _ => []) := by
  refine enter Try.func36 rfl rfl (Mem.start w) ?_
  unfold aboveM at hr
  cases hd : digM 10 y [] with
  | none => rw [hd] at hr; cases hr
  | some d =>
  cases ho : digM 10 1#64 [] with
  | none => rw [hd, ho] at hr; cases hr
  | some o1 =>
  rw [hd, ho] at hr
  simp only at hr
  cases hp : powM d k o1 with
  | none => rw [hp] at hr; cases hr
  | some v =>
  rw [hp] at hr
  simp only at hr
  split at hr
  case isFalse => cases hr
  case isTrue hv =>
  have hr := Option.some.inj hr
  (repeat refine g_seq ?_)
  refine g_region ?_
  refine g_pu rfl rfl rfl (pu_assign rfl rfl) ?_
  refine g_nil ?_
  (repeat refine g_seq ?_)
  refine g_region ?_
  refine g_pu rfl rfl rfl (pu_move rfl rfl) ?_
  refine g_call [15] rfl rfl rfl rfl rfl rfl (fun w' hm => digits_b w' y hd) (fun x15 _ => ?_)
  refine g_pu rfl rfl rfl (pu_assign rfl rfl) ?_
  refine g_nil ?_
  (repeat refine g_seq ?_)
  refine g_region ?_
  refine g_call [16] rfl rfl rfl rfl rfl rfl (fun w' hm => digits_b w' 1#64 ho) (fun x16 _ => ?_)
  refine g_pu rfl rfl rfl (pu_assign rfl rfl) ?_
  refine g_nil ?_
  (repeat refine g_seq ?_)
  refine g_region ?_
  refine g_pu rfl rfl rfl (pu_assign rfl rfl) ?_
  refine g_nil ?_
  (repeat refine g_seq ?_)
  refine g_block (g_loop3 (fun (i : Nat) (u : List (BitVec 64)) (x : Ow) => [(1, .int .i64 (p : Int)), (2, .int .i64 (k : Int)), (7, x15.sl d.length), (8, x.sl u.length), (9, .int .i64 (i : Int))]) (fun _ u x => [(15, x15.ck 70 1 (qs d)), (16, x.ck 70 1 (qs u))]) (fun i u _ => i ≤ k ∧ powM d (k - i) u = some v) (fun i _ _ => k - i) 0 o1 x16 ⟨rfl, rfl, rfl, rfl, rfl, trivial⟩ ⟨rfl, rfl, trivial⟩ ⟨by omega, hp⟩ ?_)
  intro i u x ⟨hi, hpw⟩
  by_cases hlt : i < k
  · (repeat refine g_seq ?_)
    refine g_region ?_
    refine g_pu rfl rfl rfl (pu_move rfl rfl) ?_
    refine g_pu rfl rfl rfl (pu_move rfl rfl) ?_
    first | refine g_pu rfl rfl rfl (pu_lss_t rfl rfl rfl (by omega)) ?_ | refine g_pu rfl rfl rfl (pu_lss_f rfl rfl rfl (by omega)) ?_ | refine g_pu rfl rfl rfl (pu_lss rfl rfl rfl) ?_
    refine g_nil ?_
    (repeat refine g_seq ?_)
    refine g_cond_t rfl (g_skip ?_)
    rw [show k - i = (k - (i + 1)) + 1 by omega] at hpw
    simp only [powM] at hpw
    cases ht : timesM u d with
    | none => rw [ht] at hpw; cases hpw
    | some u2 =>
    rw [ht] at hpw
    simp only at hpw
    (repeat refine g_seq ?_); refine g_block ?_
    (repeat refine g_seq ?_)
    refine g_region ?_
    refine g_pu rfl rfl rfl (pu_move rfl rfl) ?_
    refine g_pu rfl rfl rfl (pu_move rfl rfl) ?_
    refine g_call [24] rfl rfl rfl rfl rfl rfl (fun w' hm => times_b w' _ _ (Ow.rd (t := 16) rfl hm) rfl (Ow.rd (t := 15) rfl hm) rfl ht) (fun x24 _ => ?_)
    refine g_pu rfl rfl rfl (pu_assign rfl rfl) ?_
    refine g_nil ?_
    refine g_retag 24 16 _ rfl rfl ?_
    refine g_blk ?_
    (repeat refine g_seq ?_)
    refine g_region ?_
    refine g_pu rfl rfl rfl (pu_move rfl rfl) ?_
    refine g_pu rfl rfl rfl (pu_addI rfl rfl rfl (by omega)) ?_
    refine g_pu rfl rfl rfl (pu_assign rfl rfl) ?_
    refine g_nil ?_
    exact g_round3 (i + 1) u2 x24 ⟨by omega, hpw⟩ (by omega) ⟨rfl, rfl, rfl, rfl, rfl, trivial⟩ ⟨rfl, rfl, trivial⟩
  · (repeat refine g_seq ?_)
    refine g_region ?_
    refine g_pu rfl rfl rfl (pu_move rfl rfl) ?_
    refine g_pu rfl rfl rfl (pu_move rfl rfl) ?_
    first | refine g_pu rfl rfl rfl (pu_lss_t rfl rfl rfl (by omega)) ?_ | refine g_pu rfl rfl rfl (pu_lss_f rfl rfl rfl (by omega)) ?_ | refine g_pu rfl rfl rfl (pu_lss rfl rfl rfl) ?_
    refine g_nil ?_
    (repeat refine g_seq ?_)
    refine g_cond_f rfl (g_exit rfl ?_)
    have e : k - i = 0 := by omega
    rw [e] at hpw
    cases hpw
    (repeat refine g_seq ?_)
    refine g_region ?_
    refine g_pu rfl rfl rfl (pu_move rfl rfl) ?_
    refine g_pu rfl rfl rfl (pu_mulI rfl rfl rfl (by omega)) ?_
    refine g_lo [27] rfl rfl rfl rfl (lo_make (n := 2 * k) (c := 2 * k) rfl rfl rfl (by omega) (by omega) (by omega) rfl) (fun b27 hb27 => ?_)
    refine g_own 27 (L := qs (List.replicate (2 * k) 0#64)) (J := []) (c := 2 * k) (s := 1) (congrArg (fun L => some (Ck.pt b27 (.cells (List.toArray L) 70 (0, 0)))) (by simp [qs])) (by simp [qs_length]) (by omega) ?_
    refine g_pu rfl rfl rfl (pu_move rfl rfl) ?_
    refine g_pu rfl rfl rfl (pu_convI_64 rfl rfl) ?_
    refine g_lo [30] rfl rfl rfl rfl (lo_buildSlice rfl rfl (by decide) (by decide) rfl rfl) (fun b30 hb30 => ?_)
    refine g_append1 27 [b64 (BitVec.ofNat 64 p)] rfl rfl rfl rfl rfl rfl rfl rfl (by simp [qs_length]) (fun w' hm => hm.row 30 (J := []) rfl) rfl (fun u hu => by obtain rfl := List.mem_singleton.1 hu; rfl) (by omega) (by omega) (fun p' c' => ?_)
    rw [show qs (List.replicate (2 * k) 0#64) ++ [b64 (BitVec.ofNat 64 p)] = qs (List.replicate (2 * k) 0#64 ++ [BitVec.ofNat 64 p]) by rw [qs_append]; rfl]
    refine g_pu rfl rfl rfl (pu_assign rfl rfl) ?_
    refine g_nil ?_
    have hul : (List.replicate (2 * k) 0#64 ++ [BitVec.ofNat 64 p]).length = 2 * k + 1 := by simp
    unfold cmpT at hr
    rw [hul] at hr
    generalize List.replicate (2 * k) 0#64 ++ [BitVec.ofNat 64 p] = u at hr hul
    have hmax : (if ((2 * k + 1 : Nat) : Int) > (v.length : Int) then ((2 * k + 1 : Nat) : Int) else (v.length : Int)) = ((max v.length (2 * k + 1) : Nat) : Int) := by split <;> omega
    (repeat refine g_seq ?_)
    refine g_region ?_
    refine g_pu rfl rfl rfl (pu_move rfl rfl) ?_
    first | refine g_pu rfl rfl rfl (pu_len rfl rfl) ?_ | refine g_pu rfl rfl rfl (pu_lenS rfl rfl) ?_
    refine g_pu rfl rfl rfl (pu_move rfl rfl) ?_
    first | refine g_pu rfl rfl rfl (pu_len rfl rfl) ?_ | refine g_pu rfl rfl rfl (pu_lenS rfl rfl) ?_
    refine g_pu rfl rfl rfl (pu_max rfl rfl rfl) ?_
    rw [hmax]
    refine g_pu rfl rfl rfl (pu_subI rfl rfl rfl (by omega)) ?_
    refine g_pu rfl rfl rfl (pu_assign rfl rfl) ?_
    refine g_nil ?_
    (repeat refine g_seq ?_)
    refine g_block (g_loop (σ := Nat) (fun i => [(8, x.sl v.length), (10, .slice p' (2 * k + 1) c'), (11, .int .i64 ((i : Int) - 1))]) (fun _ => [(16, x.ck 70 1 (qs v)), (27, .fact (At p') (Own 70 1 p' c' (qs u)))]) (fun i => i ≤ max v.length (2 * k + 1) ∧ cmpM v u i = r) (fun i => i) (max v.length (2 * k + 1)) ⟨rfl, rfl, rfl, trivial⟩ ⟨rfl, rfl, trivial⟩ ⟨by omega, hr⟩ ?_)
    intro i ⟨hi, hc⟩
    match i, hi, hc with
    | 0, _, hc =>
      (repeat refine g_seq ?_)
      refine g_region ?_
      refine g_pu rfl rfl rfl (pu_move rfl rfl) ?_
      first | refine g_pu rfl rfl rfl (pu_geq_t rfl rfl rfl (by omega)) ?_ | refine g_pu rfl rfl rfl (pu_geq_f rfl rfl rfl (by omega)) ?_ | refine g_pu rfl rfl rfl (pu_geq rfl rfl rfl) ?_
      refine g_nil ?_
      (repeat refine g_seq ?_)
      refine g_cond_f rfl (g_exit rfl ?_)
      (repeat refine g_seq ?_)
      refine g_region ?_
      refine g_pu rfl rfl rfl (pu_assign rfl rfl) ?_
      refine g_nil ?_
      have hc : false = r := hc
      subst hc
      exact g_ret1 rfl rfl (fun w' hm => ⟨(), trivial, rfl, hm.grows [] trivial rfl⟩)
    | i + 1, hi, hc =>
      simp only [cmpM] at hc
      (repeat refine g_seq ?_)
      refine g_region ?_
      refine g_pu rfl rfl rfl (pu_move rfl rfl) ?_
      first | refine g_pu rfl rfl rfl (pu_geq_t rfl rfl rfl (by omega)) ?_ | refine g_pu rfl rfl rfl (pu_geq_f rfl rfl rfl (by omega)) ?_ | refine g_pu rfl rfl rfl (pu_geq rfl rfl rfl) ?_
      refine g_nil ?_
      (repeat refine g_seq ?_)
      refine g_cond_t rfl (g_skip ?_)
      refine g_as (t := 11) (u := .int .i64 (i : Int)) rfl (congrArg (Value.int .i64) (by omega)) rfl ?_
      (repeat refine g_seq ?_); refine g_block ?_
      (repeat refine g_seq ?_)
      refine g_region ?_
      refine g_pu rfl rfl rfl (pu_move rfl rfl) ?_
      refine g_pu rfl rfl rfl (pu_move rfl rfl) ?_
      refine g_call [] rfl rfl rfl rfl rfl rfl (fun w' hm => at_b w' _ i (Ow.rd (t := 16) rfl hm) rfl) (fun _ _ => ?_)
      refine g_pu rfl rfl rfl (pu_move rfl rfl) ?_
      refine g_pu rfl rfl rfl (pu_move rfl rfl) ?_
      refine g_call [] rfl rfl rfl rfl rfl rfl (fun w' hm => at_b w' _ i (Own.rd (hm.holds 27 _ rfl)) hul) (fun _ _ => ?_)
      refine g_pu rfl rfl rfl (pu_assign rfl rfl) ?_
      refine g_pu rfl rfl rfl (pu_assign rfl rfl) ?_
      refine g_nil ?_
      by_cases hne : atW v i = atW u i
      · rw [if_neg (fun h => h hne)] at hc
        (repeat refine g_seq ?_)
        refine g_region ?_
        refine g_pu rfl rfl rfl (pu_move rfl rfl) ?_
        refine g_pu rfl rfl rfl (pu_move rfl rfl) ?_
        refine g_pu rfl rfl rfl (pu_neq64_f rfl rfl rfl hne) ?_
        refine g_nil ?_
        (repeat refine g_seq ?_)
        refine g_cond_f rfl (g_skip ?_)
        refine g_blk ?_
        (repeat refine g_seq ?_)
        refine g_region ?_
        refine g_pu rfl rfl rfl (pu_move rfl rfl) ?_
        refine g_pu rfl rfl rfl (pu_subI rfl rfl rfl (by omega)) ?_
        refine g_pu rfl rfl rfl (pu_assign rfl rfl) ?_
        refine g_nil ?_
        exact g_round i ⟨by omega, hc⟩ (by omega) ⟨rfl, rfl, rfl, trivial⟩ ⟨rfl, rfl, trivial⟩
      · rw [if_pos hne] at hc
        (repeat refine g_seq ?_)
        refine g_region ?_
        refine g_pu rfl rfl rfl (pu_move rfl rfl) ?_
        refine g_pu rfl rfl rfl (pu_move rfl rfl) ?_
        refine g_pu rfl rfl rfl (pu_neq64_t rfl rfl rfl hne) ?_
        refine g_nil ?_
        (repeat refine g_seq ?_)
        refine g_cond_t rfl ?_
        (repeat refine g_seq ?_)
        refine g_region ?_
        refine g_pu rfl rfl rfl (pu_move rfl rfl) ?_
        refine g_pu rfl rfl rfl (pu_move rfl rfl) ?_
        refine g_pu rfl rfl rfl (pu_gtr rfl rfl rfl) ?_
        refine g_pu rfl rfl rfl (pu_assign rfl rfl) ?_
        refine g_nil ?_
        subst hc
        exact g_ret1 rfl rfl (fun w' hm => ⟨(), trivial, rfl, hm.grows [] trivial rfl⟩)

theorem Root_b (w : World) (p k : Nat) {r : BitVec 32} (hk : k ≤ 100) (hr : rootM p k = some r) : Spec Try.prog 13 #[.int .i64 (p : Int), .int .i64 (k : Int)] w (σ := Unit) (fun _ => True) (fun _ => b32 r) Nob (fun _ => []) := by
  refine enter Try.func13 rfl rfl (Mem.start w) ?_
  unfold rootM at hr
  cases hg : rootG p k 37 0#64 with
  | none => rw [hg] at hr; cases hr
  | some z =>
  rw [hg] at hr
  cases hr
  (repeat refine g_seq ?_)
  refine g_region ?_
  refine g_pu rfl rfl rfl (pu_assign (v := b32 0#32) rfl rfl) ?_
  refine g_nil ?_
  (repeat refine g_seq ?_)
  refine g_region ?_
  refine g_pu rfl rfl rfl (pu_assign (v := b64 0#64) rfl rfl) ?_
  refine g_nil ?_
  (repeat refine g_seq ?_)
  refine g_region ?_
  refine g_pu rfl rfl rfl (pu_assign rfl rfl) ?_
  refine g_nil ?_
  (repeat refine g_seq ?_)
  refine g_block (g_loop2 (fun (j : Nat) (x : BitVec 64) => [(0, .int .i64 (p : Int)), (1, .int .i64 (k : Int)), (5, b64 x), (6, .int .i64 ((j : Int) - 1))]) (fun _ _ => []) (fun j x => j ≤ 37 ∧ rootG p k j x = some z) (fun j _ => j) 37 0#64 ⟨rfl, rfl, rfl, rfl, trivial⟩ trivial ⟨by omega, hg⟩ ?_)
  intro j x ⟨hj, hgj⟩
  match j, hj, hgj with
  | 0, _, hgj =>
    cases hgj
    (repeat refine g_seq ?_)
    refine g_region ?_
    refine g_pu rfl rfl rfl (pu_move rfl rfl) ?_
    first | refine g_pu rfl rfl rfl (pu_geq_t rfl rfl rfl (by omega)) ?_ | refine g_pu rfl rfl rfl (pu_geq_f rfl rfl rfl (by omega)) ?_ | refine g_pu rfl rfl rfl (pu_geq rfl rfl rfl) ?_
    refine g_nil ?_
    (repeat refine g_seq ?_)
    refine g_cond_f rfl (g_exit rfl ?_)
    (repeat refine g_seq ?_)
    refine g_region ?_
    refine g_pu rfl rfl rfl (pu_move rfl rfl) ?_
    refine g_pu rfl rfl rfl (pu_rem64 (b := 4294967296#64) rfl rfl rfl (by first | decide | assumption)) ?_
    refine g_pu rfl rfl rfl (pu_conv64_32 rfl rfl) ?_
    refine g_pu rfl rfl rfl (pu_assign rfl rfl) ?_
    refine g_nil ?_
    exact g_ret1 rfl rfl (fun w' hm => ⟨(), trivial, rfl, hm.grows [] trivial rfl⟩)
  | j + 1, hj, hgj =>
    simp only [rootG] at hgj
    (repeat refine g_seq ?_)
    refine g_region ?_
    refine g_pu rfl rfl rfl (pu_move rfl rfl) ?_
    first | refine g_pu rfl rfl rfl (pu_geq_t rfl rfl rfl (by omega)) ?_ | refine g_pu rfl rfl rfl (pu_geq_f rfl rfl rfl (by omega)) ?_ | refine g_pu rfl rfl rfl (pu_geq rfl rfl rfl) ?_
    refine g_nil ?_
    (repeat refine g_seq ?_)
    refine g_cond_t rfl (g_skip ?_)
    refine g_as (t := 6) (u := .int .i64 (j : Int)) rfl (congrArg (Value.int .i64) (by omega)) rfl ?_
    (repeat refine g_seq ?_); refine g_block ?_
    (repeat refine g_seq ?_)
    refine g_region ?_
    refine g_pu rfl rfl rfl (pu_move rfl rfl) ?_
    refine g_pu rfl rfl rfl (pu_move rfl rfl) ?_
    refine g_pu rfl rfl rfl (pu_shl64 (a := 1#64) rfl rfl rfl (by omega)) ?_
    refine g_pu rfl rfl rfl (pu_add64 rfl rfl rfl) ?_
    refine g_pu rfl rfl rfl (pu_assign rfl rfl) ?_
    refine g_nil ?_
    cases ha : aboveM (x + 1#64 <<< j) p k with
    | none => rw [ha] at hgj; cases hgj
    | some b =>
    rw [ha] at hgj
    cases b with
    | true =>
      simp only at hgj
      (repeat refine g_seq ?_)
      refine g_region ?_
      refine g_pu rfl rfl rfl (pu_move rfl rfl) ?_
      refine g_pu rfl rfl rfl (pu_move rfl rfl) ?_
      refine g_pu rfl rfl rfl (pu_move rfl rfl) ?_
      refine g_call [] rfl rfl rfl rfl rfl rfl (fun w' hm => above_b w' (x + 1#64 <<< j) p k hk ha) (fun _ _ => ?_)
      refine g_pu rfl rfl rfl (pu_not rfl rfl) ?_
      refine g_nil ?_
      (repeat refine g_seq ?_)
      refine g_cond_f rfl (g_skip ?_)
      refine g_blk ?_
      (repeat refine g_seq ?_)
      refine g_region ?_
      refine g_pu rfl rfl rfl (pu_move rfl rfl) ?_
      refine g_pu rfl rfl rfl (pu_subI rfl rfl rfl (by omega)) ?_
      refine g_pu rfl rfl rfl (pu_assign rfl rfl) ?_
      refine g_nil ?_
      exact g_round2 j x ⟨by omega, hgj⟩ (by omega) ⟨rfl, rfl, rfl, rfl, trivial⟩ trivial
    | false =>
      simp only at hgj
      (repeat refine g_seq ?_)
      refine g_region ?_
      refine g_pu rfl rfl rfl (pu_move rfl rfl) ?_
      refine g_pu rfl rfl rfl (pu_move rfl rfl) ?_
      refine g_pu rfl rfl rfl (pu_move rfl rfl) ?_
      refine g_call [] rfl rfl rfl rfl rfl rfl (fun w' hm => above_b w' (x + 1#64 <<< j) p k hk ha) (fun _ _ => ?_)
      refine g_pu rfl rfl rfl (pu_not rfl rfl) ?_
      refine g_nil ?_
      (repeat refine g_seq ?_)
      refine g_cond_t rfl ?_
      (repeat refine g_seq ?_)
      refine g_region ?_
      refine g_pu rfl rfl rfl (pu_move rfl rfl) ?_
      refine g_pu rfl rfl rfl (pu_assign rfl rfl) ?_
      refine g_nil ?_
      refine g_blk ?_
      (repeat refine g_seq ?_)
      refine g_region ?_
      refine g_pu rfl rfl rfl (pu_move rfl rfl) ?_
      refine g_pu rfl rfl rfl (pu_subI rfl rfl rfl (by omega)) ?_
      refine g_pu rfl rfl rfl (pu_assign rfl rfl) ?_
      refine g_nil ?_
      exact g_round2 j (x + 1#64 <<< j) ⟨by omega, hgj⟩ (by omega) ⟨rfl, rfl, rfl, rfl, trivial⟩ trivial

theorem Prime_b (w : World) (n0 : Nat) (hn0 : n0 < 64) : Spec Try.prog 12 #[.int .i64 (n0 : Int)] w (σ := Unit) (fun _ => True) (fun _ => .int .i64 ((prT.getD n0 0 : Nat) : Int)) Nob (fun _ => []) := by
  refine enter Try.func12 rfl rfl (Mem.start w) ?_
  (repeat refine g_seq ?_)
  refine g_region ?_
  refine g_pu rfl rfl rfl (pu_assign rfl rfl) ?_
  refine g_nil ?_
  (repeat refine g_seq ?_)
  refine g_region ?_
  refine g_pu rfl rfl rfl (pu_assign rfl rfl) ?_
  refine g_nil ?_
  (repeat refine g_seq ?_)
  refine g_block (g_loop2 (fun (p n : Nat) => [(0, .int .i64 (n : Int)), (3, .int .i64 (p : Int))]) (fun _ _ => []) (fun p n => 2 ≤ p ∧ p ≤ 312 ∧ cnt p + n = n0) (fun p _ => 400 - p) 2 n0 ⟨rfl, rfl, trivial⟩ trivial ⟨by omega, by omega, by simp [cnt, pf]⟩ ?_)
  intro p n ⟨hp2, hp, hc⟩
  have hlt := cnt_lt p (by omega) (by omega)
  (repeat refine g_seq ?_); refine g_block ?_
  (repeat refine g_seq ?_)
  refine g_region ?_
  refine g_pu rfl rfl rfl (pu_assign rfl rfl) ?_
  refine g_nil ?_
  (repeat refine g_seq ?_)
  refine g_region ?_
  refine g_pu rfl rfl rfl (pu_assign rfl rfl) ?_
  refine g_nil ?_
  (repeat refine g_seq ?_)
  refine g_block (g_loop (σ := Nat) (fun q => [(0, .int .i64 (n : Int)), (3, .int .i64 (p : Int)), (4, .bool (pf p q)), (5, .int .i64 (q : Int))]) (fun _ => []) (fun q => 2 ≤ q ∧ (q - 1) * (q - 1) ≤ p) (fun q => 400 - q) 2 ⟨rfl, rfl, rfl, rfl, trivial⟩ trivial ⟨by omega, by omega⟩ ?_)
  intro q ⟨hq2, hq⟩
  have hq19 : q < 19 := by
    rcases Nat.lt_or_ge q 19 with h3 | h3
    · exact h3
    · have : 18 * 18 ≤ (q - 1) * (q - 1) := Nat.mul_le_mul (by omega) (by omega)
      omega
  have hqq : q * q ≤ 18 * 18 := Nat.mul_le_mul (by omega) (by omega)
  have hqi : ((q * q : Nat) : Int) = (q : Int) * (q : Int) := by push_cast; rfl
  by_cases hle : q * q ≤ p
  · (repeat refine g_seq ?_)
    refine g_region ?_
    refine g_pu rfl rfl rfl (pu_move rfl rfl) ?_
    refine g_pu rfl rfl rfl (pu_move rfl rfl) ?_
    refine g_pu rfl rfl rfl (pu_mulI rfl rfl rfl (by omega)) ?_
    rw [← hqi]
    refine g_pu rfl rfl rfl (pu_move rfl rfl) ?_
    first | refine g_pu rfl rfl rfl (pu_leq_t rfl rfl rfl (by omega)) ?_ | refine g_pu rfl rfl rfl (pu_leq_f rfl rfl rfl (by omega)) ?_ | refine g_pu rfl rfl rfl (pu_leq rfl rfl rfl) ?_
    refine g_nil ?_
    (repeat refine g_seq ?_)
    refine g_cond_t rfl (g_skip ?_)
    (repeat refine g_seq ?_); refine g_block ?_
    have hpf : pf p (q + 1) = (pf p q && (Nat.blt q 2 || !(Nat.beq (p % q) 0))) := rfl
    have hb2 : Nat.blt q 2 = false := by
      cases h : Nat.blt q 2 with
      | false => rfl
      | true => rw [Nat.blt_eq] at h; omega
    rw [hb2, Bool.false_or] at hpf
    have hmod : ((p : Int) % (q : Int)) = ((p % q : Nat) : Int) := by omega
    by_cases hm : p % q = 0
    · rw [hm] at hpf
      have hpf : pf p (q + 1) = false := by rw [hpf]; simp
      (repeat refine g_seq ?_)
      refine g_region ?_
      refine g_pu rfl rfl rfl (pu_move rfl rfl) ?_
      refine g_pu rfl rfl rfl (pu_move rfl rfl) ?_
      refine g_pu rfl rfl rfl (pu_remI rfl rfl rfl (by omega)) ?_
      rw [hmod]
      first | refine g_pu rfl rfl rfl (pu_eql_t rfl rfl rfl (by omega)) ?_ | refine g_pu rfl rfl rfl (pu_eql_f rfl rfl rfl (by omega)) ?_ | refine g_pu rfl rfl rfl (pu_eql rfl rfl rfl) ?_
      refine g_nil ?_
      (repeat refine g_seq ?_)
      refine g_cond_t rfl ?_
      (repeat refine g_seq ?_)
      refine g_region ?_
      refine g_pu rfl rfl rfl (pu_assign rfl rfl) ?_
      refine g_nil ?_
      refine g_blk ?_
      (repeat refine g_seq ?_)
      refine g_region ?_
      refine g_pu rfl rfl rfl (pu_move rfl rfl) ?_
      refine g_pu rfl rfl rfl (pu_addI rfl rfl rfl (by omega)) ?_
      refine g_pu rfl rfl rfl (pu_assign rfl rfl) ?_
      refine g_nil ?_
      exact g_round (q + 1) ⟨by omega, by simpa using hle⟩ (by omega) ⟨rfl, rfl, by rw [hpf]; rfl, rfl, trivial⟩ trivial
    · have hpf : pf p (q + 1) = pf p q := by
        rw [hpf]
        cases hb : Nat.beq (p % q) 0 with
        | false => simp
        | true => exact absurd (Nat.eq_of_beq_eq_true hb) hm
      (repeat refine g_seq ?_)
      refine g_region ?_
      refine g_pu rfl rfl rfl (pu_move rfl rfl) ?_
      refine g_pu rfl rfl rfl (pu_move rfl rfl) ?_
      refine g_pu rfl rfl rfl (pu_remI rfl rfl rfl (by omega)) ?_
      rw [hmod]
      first | refine g_pu rfl rfl rfl (pu_eql_t rfl rfl rfl (by omega)) ?_ | refine g_pu rfl rfl rfl (pu_eql_f rfl rfl rfl (by omega)) ?_ | refine g_pu rfl rfl rfl (pu_eql rfl rfl rfl) ?_
      refine g_nil ?_
      (repeat refine g_seq ?_)
      refine g_cond_f rfl (g_skip ?_)
      refine g_blk ?_
      (repeat refine g_seq ?_)
      refine g_region ?_
      refine g_pu rfl rfl rfl (pu_move rfl rfl) ?_
      refine g_pu rfl rfl rfl (pu_addI rfl rfl rfl (by omega)) ?_
      refine g_pu rfl rfl rfl (pu_assign rfl rfl) ?_
      refine g_nil ?_
      exact g_round (q + 1) ⟨by omega, by simpa using hle⟩ (by omega) ⟨rfl, rfl, by rw [hpf]; rfl, rfl, trivial⟩ trivial
  · (repeat refine g_seq ?_)
    refine g_region ?_
    refine g_pu rfl rfl rfl (pu_move rfl rfl) ?_
    refine g_pu rfl rfl rfl (pu_move rfl rfl) ?_
    refine g_pu rfl rfl rfl (pu_mulI rfl rfl rfl (by omega)) ?_
    rw [← hqi]
    refine g_pu rfl rfl rfl (pu_move rfl rfl) ?_
    first | refine g_pu rfl rfl rfl (pu_leq_t rfl rfl rfl (by omega)) ?_ | refine g_pu rfl rfl rfl (pu_leq_f rfl rfl rfl (by omega)) ?_ | refine g_pu rfl rfl rfl (pu_leq rfl rfl rfl) ?_
    refine g_nil ?_
    (repeat refine g_seq ?_)
    refine g_cond_f rfl (g_exit rfl ?_)
    rw [pf_all (by omega) hp2 hq2 hq (by omega)]
    have hcn : cnt (p + 1) = cnt p + (if Nat.ble 2 p && pf p p then 1 else 0) := rfl
    have hb2 : Nat.ble 2 p = true := by rw [Nat.ble_eq]; exact hp2
    rw [hb2, Bool.true_and] at hcn
    cases hpp : pf p p with
    | true =>
      rw [hpp, if_pos rfl] at hcn
      (repeat refine g_seq ?_)
      refine g_region ?_
      refine g_pu rfl rfl rfl (pu_move rfl rfl) ?_
      refine g_nil ?_
      (repeat refine g_seq ?_)
      refine g_cond_t rfl ?_
      by_cases hn : n = 0
      · subst hn
        have hpr := cnt_pr p (by omega) ⟨hp2, hpp, by omega⟩
        rw [show cnt p = n0 by omega] at hpr
        rw [hpr]
        (repeat refine g_seq ?_)
        refine g_region ?_
        refine g_pu rfl rfl rfl (pu_move rfl rfl) ?_
        first | refine g_pu rfl rfl rfl (pu_eql_t rfl rfl rfl (by omega)) ?_ | refine g_pu rfl rfl rfl (pu_eql_f rfl rfl rfl (by omega)) ?_ | refine g_pu rfl rfl rfl (pu_eql rfl rfl rfl) ?_
        refine g_nil ?_
        (repeat refine g_seq ?_)
        refine g_cond_t rfl ?_
        (repeat refine g_seq ?_)
        refine g_region ?_
        refine g_pu rfl rfl rfl (pu_move rfl rfl) ?_
        refine g_pu rfl rfl rfl (pu_assign rfl rfl) ?_
        refine g_nil ?_
        exact g_ret1 rfl rfl (fun w' hm => ⟨(), trivial, rfl, hm.grows [] trivial rfl⟩)
      · (repeat refine g_seq ?_)
        refine g_region ?_
        refine g_pu rfl rfl rfl (pu_move rfl rfl) ?_
        first | refine g_pu rfl rfl rfl (pu_eql_t rfl rfl rfl (by omega)) ?_ | refine g_pu rfl rfl rfl (pu_eql_f rfl rfl rfl (by omega)) ?_ | refine g_pu rfl rfl rfl (pu_eql rfl rfl rfl) ?_
        refine g_nil ?_
        (repeat refine g_seq ?_)
        refine g_cond_f rfl (g_skip ?_)
        obtain ⟨n', rfl⟩ : ∃ n', n = n' + 1 := ⟨n - 1, by omega⟩
        (repeat refine g_seq ?_)
        refine g_region ?_
        refine g_pu rfl rfl rfl (pu_move rfl rfl) ?_
        refine g_pu rfl rfl rfl (pu_subI rfl rfl rfl (by omega)) ?_
        refine g_pu rfl rfl rfl (pu_assign rfl rfl) ?_
        refine g_nil ?_
        refine g_blk ?_
        (repeat refine g_seq ?_)
        refine g_region ?_
        refine g_pu rfl rfl rfl (pu_move rfl rfl) ?_
        refine g_pu rfl rfl rfl (pu_addI rfl rfl rfl (by omega)) ?_
        refine g_pu rfl rfl rfl (pu_assign rfl rfl) ?_
        refine g_nil ?_
        exact g_round2 (p + 1) n' ⟨by omega, by omega, by omega⟩ (by omega) ⟨congrArg (fun z => some (Value.int .i64 z)) (by omega), rfl, trivial⟩ trivial
    | false =>
      rw [hpp, if_neg (by simp)] at hcn
      (repeat refine g_seq ?_)
      refine g_region ?_
      refine g_pu rfl rfl rfl (pu_move rfl rfl) ?_
      refine g_nil ?_
      (repeat refine g_seq ?_)
      refine g_cond_f rfl (g_skip ?_)
      refine g_blk ?_
      (repeat refine g_seq ?_)
      refine g_region ?_
      refine g_pu rfl rfl rfl (pu_move rfl rfl) ?_
      refine g_pu rfl rfl rfl (pu_addI rfl rfl rfl (by omega)) ?_
      refine g_pu rfl rfl rfl (pu_assign rfl rfl) ?_
      refine g_nil ?_
      exact g_round2 (p + 1) n ⟨by omega, by omega, by omega⟩ (by omega) ⟨rfl, rfl, trivial⟩ trivial
end Go.Sx

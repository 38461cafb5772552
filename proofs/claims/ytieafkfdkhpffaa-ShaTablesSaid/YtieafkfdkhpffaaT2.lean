/-
  The reference's digits, products and roots of small numbers: each function computes what the functions of lists say. Conditions: what the functions of lists answer.
-/
import Derived.Test.YtieafkfdkhpffaaT1
set_option linter.unusedVariables false
set_option linter.unusedSimpArgs false
namespace Go.Sx
open Go Go.Proofs

theorem at_b (w : World) {p : Option Addr} {n : Nat} (c : Nat) {l : List (BitVec 64)} (i : Nat) (hr : RdV w p (qs l)) (hn : l.length = n) : Spec Try.prog 49 #[.slice p n c, .int .i64 (i : Int)] w (σ := Unit) (fun _ => True) (fun _ => b64 (atW l i)) Nob (fun _ => []) := by
  refine enter Try.func49 rfl rfl (Mem.start w) ?_
  (repeat refine g_seq ?_)
  refine g_region ?_
  refine g_pu rfl rfl rfl (pu_assign (v := b64 0#64) rfl rfl) ?_
  refine g_nil ?_
  by_cases h : i < n
  · (repeat refine g_seq ?_)
    refine g_region ?_
    refine g_pu rfl rfl rfl (pu_move rfl rfl) ?_
    refine g_pu rfl rfl rfl (pu_move rfl rfl) ?_
    first | refine g_pu rfl rfl rfl (pu_len rfl rfl) ?_ | refine g_pu rfl rfl rfl (pu_lenS rfl rfl) ?_
    first | refine g_pu rfl rfl rfl (pu_lss_t rfl rfl rfl (by omega)) ?_ | refine g_pu rfl rfl rfl (pu_lss_f rfl rfl rfl (by omega)) ?_ | refine g_pu rfl rfl rfl (pu_lss rfl rfl rfl) ?_
    refine g_nil ?_
    (repeat refine g_seq ?_)
    refine g_cond_t rfl ?_
    have hg : l[i]? = some (atW l i) := getD_some (by omega)
    (repeat refine g_seq ?_)
    refine g_region ?_
    refine g_pu rfl rfl rfl (pu_move rfl rfl) ?_
    refine g_pu rfl rfl rfl (pu_move rfl rfl) ?_
    refine g_pu rfl rfl rfl (pu_atR i hr rfl rfl rfl rfl h (by rw [qs_length]; omega)) ?_
    refine g_pu rfl rfl rfl (pu_rd0 hr rfl rfl (qs_get hg)) ?_
    refine g_pu rfl rfl rfl (pu_assign rfl rfl) ?_
    refine g_nil ?_
    exact g_ret1 rfl rfl (fun w' hm => ⟨(), trivial, rfl, hm.grows [] trivial rfl⟩)
  · (repeat refine g_seq ?_)
    refine g_region ?_
    refine g_pu rfl rfl rfl (pu_move rfl rfl) ?_
    refine g_pu rfl rfl rfl (pu_move rfl rfl) ?_
    first | refine g_pu rfl rfl rfl (pu_len rfl rfl) ?_ | refine g_pu rfl rfl rfl (pu_lenS rfl rfl) ?_
    first | refine g_pu rfl rfl rfl (pu_lss_t rfl rfl rfl (by omega)) ?_ | refine g_pu rfl rfl rfl (pu_lss_f rfl rfl rfl (by omega)) ?_ | refine g_pu rfl rfl rfl (pu_lss rfl rfl rfl) ?_
    refine g_nil ?_
    (repeat refine g_seq ?_)
    refine g_cond_f rfl (g_skip ?_)
    have hg : atW l i = 0#64 := by unfold atW; simp [List.getD, List.getElem?_eq_none (show l.length ≤ i by omega)]
    rw [hg]
    (repeat refine g_seq ?_)
    refine g_region ?_
    refine g_pu rfl rfl rfl (pu_assign (v := b64 0#64) rfl rfl) ?_
    refine g_nil ?_
    exact g_ret1 rfl rfl (fun w' hm => ⟨(), trivial, rfl, hm.grows [] trivial rfl⟩)

theorem digits_b (w : World) (n : BitVec 64) {d : List (BitVec 64)} (hd : digM 10 n [] = some d) : Spec Try.prog 47 #[b64 n] w (σ := Ow) (fun _ => True) (fun x => x.sl d.length) Nob (fun x => [x.ck 70 1 (qs d)]) := by
  refine enter Try.func47 rfl rfl (Mem.start w) ?_
  (repeat refine g_seq ?_)
  refine g_region ?_
  refine g_pu rfl rfl rfl (pu_assign rfl rfl) ?_
  refine g_nil ?_
  (repeat refine g_seq ?_)
  refine g_region ?_
  refine g_pu rfl rfl rfl (pu_assign rfl rfl) ?_
  refine g_nil ?_
  refine g_nilOwn 24 70 1 rfl ?_
  (repeat refine g_seq ?_)
  refine g_block (g_loop4 (fun (f : Nat) (n : BitVec 64) (l : List (BitVec 64)) (x : Ow) => [(0, b64 n), (3, x.sl l.length)]) (fun f n l x => [(24, x.ck 70 1 (qs l))]) (fun f n l x => digM f n l = some d ∧ l.length + f = 10) (fun f _ _ _ => f) 10 n [] ⟨none, 0⟩ ⟨rfl, rfl, trivial⟩ ⟨rfl, trivial⟩ ⟨hd, rfl⟩ ?_)
  intro f n l x ⟨hs, hl⟩
  match f, hs, hl with
  | 0, hs, _ => cases hs
  | f + 1, hs, hl =>
  simp only [digM] at hs
  by_cases h0 : 0 < n.toNat
  · rw [if_pos h0] at hs
    (repeat refine g_seq ?_)
    refine g_region ?_
    refine g_pu rfl rfl rfl (pu_move rfl rfl) ?_
    refine g_pu rfl rfl rfl (pu_gtr_t rfl rfl rfl (by omega)) ?_
    refine g_nil ?_
    (repeat refine g_seq ?_)
    refine g_cond_t rfl (g_skip ?_)
    (repeat refine g_seq ?_); refine g_block ?_
    (repeat refine g_seq ?_)
    refine g_region ?_
    refine g_pu rfl rfl rfl (pu_move rfl rfl) ?_
    refine g_pu rfl rfl rfl (pu_move rfl rfl) ?_
    refine g_pu rfl rfl rfl (pu_rem64 (b := 65536#64) rfl rfl rfl (by first | decide | assumption)) ?_
    refine g_lo [9] rfl rfl rfl rfl (lo_buildSlice rfl rfl (by decide) (by decide) rfl rfl) (fun b9 hb9 => ?_)
    refine g_append1 24 [b64 (n % 65536#64)] rfl rfl rfl rfl rfl rfl rfl rfl (by rw [qs_length]) (fun w' hm => hm.row 9 (J := []) rfl) rfl (fun u hu => by obtain rfl := List.mem_singleton.1 hu; rfl) (by omega) (by omega) (fun p' c' => ?_)
    refine g_pu rfl rfl rfl (pu_assign rfl rfl) ?_
    refine g_nil ?_
    (repeat refine g_seq ?_)
    refine g_region ?_
    refine g_pu rfl rfl rfl (pu_move rfl rfl) ?_
    refine g_pu rfl rfl rfl (pu_quo64 (b := 65536#64) rfl rfl rfl (by first | decide | assumption)) ?_
    refine g_pu rfl rfl rfl (pu_assign rfl rfl) ?_
    refine g_nil ?_
    refine g_blk ?_
    exact g_round4 f (n / 65536#64) (l ++ [n % 65536#64]) (⟨p', c'⟩ : Ow) ⟨hs, by simp; omega⟩ (by omega) ⟨rfl, by rw [List.length_append]; rfl, trivial⟩ ⟨by rw [qs_append]; rfl, trivial⟩
  · rw [if_neg h0] at hs
    cases hs
    (repeat refine g_seq ?_)
    refine g_region ?_
    refine g_pu rfl rfl rfl (pu_move rfl rfl) ?_
    refine g_pu rfl rfl rfl (pu_gtr_f rfl rfl rfl (by omega)) ?_
    refine g_nil ?_
    (repeat refine g_seq ?_)
    refine g_cond_f rfl (g_exit rfl ?_)
    (repeat refine g_seq ?_)
    refine g_region ?_
    refine g_pu rfl rfl rfl (pu_move rfl rfl) ?_
    refine g_pu rfl rfl rfl (pu_assign rfl rfl) ?_
    refine g_nil ?_
    exact g_ret1 rfl rfl (fun w' hm => ⟨x, trivial, rfl, hm.grows [24] ⟨rfl, trivial⟩ rfl⟩)

theorem inM_length {x : BitVec 64} {b : List (BitVec 64)} {i : Nat} : ∀ {f j : Nat} {c : BitVec 64} {out o : List (BitVec 64)}, inM x b i f j c out = some o → o.length = out.length
  | 0, _, _, _, _, h => by cases h
  | f + 1, j, c, out, o, h => by
    simp only [inM] at h
    split at h
    · split at h
      · have := inM_length h; simpa using this
      · cases h
    · cases h; rfl
theorem outM_length {b : List (BitVec 64)} : ∀ {a : List (BitVec 64)} {i : Nat} {out o : List (BitVec 64)}, outM b a i out = some o → o.length = out.length
  | [], _, _, _, h => by cases h; rfl
  | x :: r, i, out, o, h => by
    simp only [outM] at h
    split at h
    · rename_i o' ho
      rw [outM_length h, inM_length ho]
    · cases h

theorem times_b (w : World) {p q : Option Addr} {n m : Nat} (c d : Nat) {a b res : List (BitVec 64)} (ha : RdV w p (qs a)) (hna : a.length = n) (hb : RdV w q (qs b)) (hnb : b.length = m) (hT : timesM a b = some res) :
    Spec Try.prog 48 #[.slice p n c, .slice q m d] w (σ := Ow) (fun _ => True) (fun x => x.sl res.length) Nob (fun x => [x.ck 70 1 (qs res)]) := by
  refine enter Try.func48 rfl rfl (Mem.start w) ?_
  unfold timesM at hT
  split at hT
  case isFalse => cases hT
  case isTrue hbig =>
  rw [hna, hnb] at hbig hT
  have hrl : res.length = n + m + 1 := by rw [outM_length hT, List.length_replicate]
  (repeat refine g_seq ?_)
  refine g_region ?_
  refine g_pu rfl rfl rfl (pu_assign rfl rfl) ?_
  refine g_nil ?_
  (repeat refine g_seq ?_)
  refine g_region ?_
  refine g_pu rfl rfl rfl (pu_move rfl rfl) ?_
  first | refine g_pu rfl rfl rfl (pu_len rfl rfl) ?_ | refine g_pu rfl rfl rfl (pu_lenS rfl rfl) ?_
  refine g_pu rfl rfl rfl (pu_move rfl rfl) ?_
  first | refine g_pu rfl rfl rfl (pu_len rfl rfl) ?_ | refine g_pu rfl rfl rfl (pu_lenS rfl rfl) ?_
  refine g_pu rfl rfl rfl (pu_addI rfl rfl rfl (by omega)) ?_
  refine g_pu rfl rfl rfl (pu_addI rfl rfl rfl (by omega)) ?_
  refine g_lo [15] rfl rfl rfl rfl (lo_make (n := n + m + 1) (c := n + m + 1) rfl rfl rfl (by omega) (by omega) (by omega) rfl) (fun b15 hb15 => ?_)
  refine g_pu rfl rfl rfl (pu_assign rfl rfl) ?_
  refine g_nil ?_
  (repeat refine g_seq ?_)
  refine g_region ?_
  refine g_pu rfl rfl rfl (pu_assign rfl rfl) ?_
  refine g_nil ?_
  (repeat refine g_seq ?_)
  refine g_block (g_loop2 (fun (i : Nat) (_ : List (BitVec 64)) => [(0, .slice p n c), (1, .slice q m d), (5, .slice (some ⟨b15, 0, none⟩) (n + m + 1) (n + m + 1)), (6, .int .i64 (i : Int))]) (fun _ out => [(15, .pt b15 (.cells (qs out).toArray 70 (0, 0)))]) (fun i out => outM b (a.drop i) i out = some res ∧ i ≤ n ∧ out.length = n + m + 1) (fun i _ => n - i) 0 (List.replicate (n + m + 1) 0#64) ⟨rfl, rfl, rfl, rfl, trivial⟩ ⟨by rw [show qs (List.replicate (n + m + 1) 0#64) = List.replicate (n + m + 1) (b64 0#64) by simp [qs]]; rfl, trivial⟩ ⟨hT, by omega, by simp⟩ ?_)
  intro i out ⟨hO, hi, hol⟩
  by_cases hlt : i < n
  · (repeat refine g_seq ?_)
    refine g_region ?_
    refine g_pu rfl rfl rfl (pu_move rfl rfl) ?_
    refine g_pu rfl rfl rfl (pu_move rfl rfl) ?_
    first | refine g_pu rfl rfl rfl (pu_len rfl rfl) ?_ | refine g_pu rfl rfl rfl (pu_lenS rfl rfl) ?_
    first | refine g_pu rfl rfl rfl (pu_lss_t rfl rfl rfl (by omega)) ?_ | refine g_pu rfl rfl rfl (pu_lss_f rfl rfl rfl (by omega)) ?_ | refine g_pu rfl rfl rfl (pu_lss rfl rfl rfl) ?_
    refine g_nil ?_
    (repeat refine g_seq ?_)
    refine g_cond_t rfl (g_skip ?_)
    have hga : a[i]? = some (atW a i) := getD_some (by omega)
    obtain ⟨pb, po, hp, _⟩ := ha.place (by rw [qs_length]; omega)
    subst hp
    have hdr : a.drop i = atW a i :: a.drop (i + 1) := by
      rw [List.drop_eq_getElem_cons (by omega)]
      rw [List.getElem?_eq_getElem (by omega)] at hga
      rw [Option.some.inj hga]
    rw [hdr] at hO
    simp only [outM] at hO
    cases hI : inM (atW a i) b i 40 0 0#64 out with
    | none => rw [hI] at hO; cases hO
    | some o2 =>
    rw [hI] at hO
    simp only at hO
    have ho2 := inM_length hI
    (repeat refine g_seq ?_); refine g_block ?_
    (repeat refine g_seq ?_)
    refine g_region ?_
    refine g_pu rfl rfl rfl (pu_assign (v := b64 0#64) rfl rfl) ?_
    refine g_nil ?_
    (repeat refine g_seq ?_)
    refine g_region ?_
    refine g_pu rfl rfl rfl (pu_assign rfl rfl) ?_
    refine g_nil ?_
    (repeat refine g_seq ?_)
    refine g_block (g_loop4 (fun (f j : Nat) (cy : BitVec 64) (_ : List (BitVec 64)) => [(0, .slice (some ⟨pb, po, none⟩) n c), (1, .slice q m d), (5, .slice (some ⟨b15, 0, none⟩) (n + m + 1) (n + m + 1)), (6, .int .i64 (i : Int)), (7, b64 cy), (8, .int .i64 (j : Int))]) (fun _ _ _ out => [(15, .pt b15 (.cells (qs out).toArray 70 (0, 0)))]) (fun f j cy out => inM (atW a i) b i f j cy out = some o2 ∧ j + f = 40 ∧ out.length = n + m + 1) (fun f _ _ _ => f) 40 0 0#64 out ⟨rfl, rfl, rfl, rfl, rfl, rfl, trivial⟩ ⟨rfl, trivial⟩ ⟨hI, rfl, hol⟩ ?_)
    intro f j cy out ⟨hI, hf, hol⟩
    match f, hI, hf with
    | 0, hI, _ => cases hI
    | f + 1, hI, hf =>
    simp only [inM] at hI
    by_cases hc : j < b.length ∨ 0 < cy.toNat
    · rw [if_pos hc] at hI
      by_cases hr : i + j < out.length
      · rw [if_pos hr] at hI
        rw [hnb] at hc
        have hgo : out[i + j]? = some (atW out (i + j)) := getD_some hr
        by_cases hj : j < m
        · (repeat refine g_seq ?_)
          refine g_region ?_
          refine g_pu rfl rfl rfl (pu_move rfl rfl) ?_
          refine g_pu rfl rfl rfl (pu_move rfl rfl) ?_
          first | refine g_pu rfl rfl rfl (pu_len rfl rfl) ?_ | refine g_pu rfl rfl rfl (pu_lenS rfl rfl) ?_
          first | refine g_pu rfl rfl rfl (pu_lss_t rfl rfl rfl (by omega)) ?_ | refine g_pu rfl rfl rfl (pu_lss_f rfl rfl rfl (by omega)) ?_ | refine g_pu rfl rfl rfl (pu_lss rfl rfl rfl) ?_
          refine g_pu rfl rfl rfl (pu_move rfl rfl) ?_
          first | refine g_pass rfl rfl rfl ?_ | refine g_pu rfl rfl rfl (pu_move rfl rfl) ?_
          first | refine g_pass rfl rfl rfl ?_ | refine g_pu rfl rfl rfl (pu_gtr rfl rfl rfl) ?_
          first | refine g_pu rfl rfl rfl (pu_pick_t rfl rfl rfl) ?_ | refine g_pu rfl rfl rfl (pu_pick_f rfl rfl rfl) ?_
          refine g_nil ?_
          (repeat refine g_seq ?_)
          refine g_cond_t rfl (g_skip ?_)
          (repeat refine g_seq ?_); refine g_block ?_
          (repeat refine g_seq ?_)
          refine g_any (18, []) ?_
          refine a_pu 0 rfl rfl rfl rfl (pu_move rfl rfl) rfl rfl (by kernel_rfl) ?_
          refine a_pu 1 rfl rfl rfl rfl (pu_move rfl rfl) rfl rfl (by kernel_rfl) ?_
          refine a_pu 2 rfl rfl rfl rfl (pu_move rfl rfl) rfl rfl (by kernel_rfl) ?_
          refine a_pu 3 rfl rfl rfl rfl (pu_move rfl rfl) rfl rfl (by kernel_rfl) ?_
          refine a_pu 4 rfl rfl rfl rfl (pu_addI rfl rfl rfl (by omega)) rfl rfl (by kernel_rfl) ?_
          refine a_pu 5 rfl rfl rfl rfl (pu_at1 (i + j) rfl rfl rfl rfl (by omega)) rfl rfl (by kernel_rfl) ?_
          refine a_pu 6 rfl rfl rfl rfl (pu_load 15 rfl rfl rfl (qs_load hgo)) rfl rfl (by kernel_rfl) ?_
          refine a_pu 7 rfl rfl rfl rfl (pu_add64 rfl rfl rfl) rfl rfl (by kernel_rfl) ?_
          refine a_pu 8 rfl rfl rfl rfl (pu_move rfl rfl) rfl rfl (by kernel_rfl) ?_
          refine a_pu 9 rfl rfl rfl rfl (pu_move rfl rfl) rfl rfl (by kernel_rfl) ?_
          refine a_pu 10 rfl rfl rfl rfl (pu_at1 i rfl rfl rfl rfl hlt) rfl rfl (by kernel_rfl) ?_
          refine a_pu 11 rfl rfl rfl rfl (pu_rd0 (j := i) ha rfl rfl (qs_get hga)) rfl rfl (by kernel_rfl) ?_
          refine a_pu 12 rfl rfl rfl rfl (pu_move rfl rfl) rfl rfl (by kernel_rfl) ?_
          refine a_pu 13 rfl rfl rfl rfl (pu_move rfl rfl) rfl rfl (by kernel_rfl) ?_
          refine a_do 14 46 [] (does_call rfl rfl rfl rfl rfl (fun w' hm => at_b w' d j (hb.mem0 hm) hnb)) rfl rfl (by kernel_rfl) rfl rfl (by kernel_rfl) (by kernel_rfl) (by kernel_rfl) rfl (fun p hp => by cases hp) ?_; rintro v_ cs_ ⟨_, _, rfl, rfl⟩
          refine a_pu 15 rfl rfl rfl rfl (pu_mul64 rfl rfl rfl) rfl rfl (by kernel_rfl) ?_
          refine a_pu 16 rfl rfl rfl rfl (pu_add64 rfl rfl rfl) rfl rfl (by kernel_rfl) ?_
          refine a_pu 17 rfl rfl rfl rfl (pu_assign rfl rfl) rfl rfl (by kernel_rfl) ?_
          refine a_done (by kernel_rfl) ?_
          (repeat refine g_seq ?_)
          refine g_region ?_
          refine g_pu rfl rfl rfl (pu_move rfl rfl) ?_
          refine g_pu rfl rfl rfl (pu_move rfl rfl) ?_
          refine g_pu rfl rfl rfl (pu_move rfl rfl) ?_
          refine g_pu rfl rfl rfl (pu_addI rfl rfl rfl (by omega)) ?_
          refine g_pu rfl rfl rfl (pu_move rfl rfl) ?_
          refine g_pu rfl rfl rfl (pu_rem64 (b := 65536#64) rfl rfl rfl (by first | decide | assumption)) ?_
          refine g_pu rfl rfl rfl (pu_at1 (i + j) rfl rfl rfl rfl (by omega)) ?_
          refine g_store 15 (v := b64 ((cy + atW out (i + j) + atW a i * atW b j) % 65536#64)) rfl rfl rfl rfl rfl rfl rfl (by rw [qs_length]; omega) ?_
          rw [qs_set]
          refine g_nil ?_
          (repeat refine g_seq ?_)
          refine g_region ?_
          refine g_pu rfl rfl rfl (pu_move rfl rfl) ?_
          refine g_pu rfl rfl rfl (pu_quo64 (b := 65536#64) rfl rfl rfl (by first | decide | assumption)) ?_
          refine g_pu rfl rfl rfl (pu_assign rfl rfl) ?_
          refine g_nil ?_
          refine g_blk ?_
          (repeat refine g_seq ?_)
          refine g_region ?_
          refine g_pu rfl rfl rfl (pu_move rfl rfl) ?_
          refine g_pu rfl rfl rfl (pu_addI rfl rfl rfl (by omega)) ?_
          refine g_pu rfl rfl rfl (pu_assign rfl rfl) ?_
          refine g_nil ?_
          exact g_round4 f (j + 1) ((cy + atW out (i + j) + atW a i * atW b j) / 65536#64) (out.set (i + j) ((cy + atW out (i + j) + atW a i * atW b j) % 65536#64)) ⟨hI, by omega, by simpa using hol⟩ (by omega) ⟨rfl, rfl, rfl, rfl, rfl, rfl, trivial⟩ ⟨rfl, trivial⟩
        · (repeat refine g_seq ?_)
          refine g_region ?_
          refine g_pu rfl rfl rfl (pu_move rfl rfl) ?_
          refine g_pu rfl rfl rfl (pu_move rfl rfl) ?_
          first | refine g_pu rfl rfl rfl (pu_len rfl rfl) ?_ | refine g_pu rfl rfl rfl (pu_lenS rfl rfl) ?_
          first | refine g_pu rfl rfl rfl (pu_lss_t rfl rfl rfl (by omega)) ?_ | refine g_pu rfl rfl rfl (pu_lss_f rfl rfl rfl (by omega)) ?_ | refine g_pu rfl rfl rfl (pu_lss rfl rfl rfl) ?_
          refine g_pu rfl rfl rfl (pu_move rfl rfl) ?_
          first | refine g_pass rfl rfl rfl ?_ | refine g_pu rfl rfl rfl (pu_move rfl rfl) ?_
          refine g_pu rfl rfl rfl (pu_gtr_t rfl rfl rfl (by omega)) ?_
          first | refine g_pu rfl rfl rfl (pu_pick_t rfl rfl rfl) ?_ | refine g_pu rfl rfl rfl (pu_pick_f rfl rfl rfl) ?_
          refine g_nil ?_
          (repeat refine g_seq ?_)
          refine g_cond_t rfl (g_skip ?_)
          (repeat refine g_seq ?_); refine g_block ?_
          (repeat refine g_seq ?_)
          refine g_any (18, []) ?_
          refine a_pu 0 rfl rfl rfl rfl (pu_move rfl rfl) rfl rfl (by kernel_rfl) ?_
          refine a_pu 1 rfl rfl rfl rfl (pu_move rfl rfl) rfl rfl (by kernel_rfl) ?_
          refine a_pu 2 rfl rfl rfl rfl (pu_move rfl rfl) rfl rfl (by kernel_rfl) ?_
          refine a_pu 3 rfl rfl rfl rfl (pu_move rfl rfl) rfl rfl (by kernel_rfl) ?_
          refine a_pu 4 rfl rfl rfl rfl (pu_addI rfl rfl rfl (by omega)) rfl rfl (by kernel_rfl) ?_
          refine a_pu 5 rfl rfl rfl rfl (pu_at1 (i + j) rfl rfl rfl rfl (by omega)) rfl rfl (by kernel_rfl) ?_
          refine a_pu 6 rfl rfl rfl rfl (pu_load 15 rfl rfl rfl (qs_load hgo)) rfl rfl (by kernel_rfl) ?_
          refine a_pu 7 rfl rfl rfl rfl (pu_add64 rfl rfl rfl) rfl rfl (by kernel_rfl) ?_
          refine a_pu 8 rfl rfl rfl rfl (pu_move rfl rfl) rfl rfl (by kernel_rfl) ?_
          refine a_pu 9 rfl rfl rfl rfl (pu_move rfl rfl) rfl rfl (by kernel_rfl) ?_
          refine a_pu 10 rfl rfl rfl rfl (pu_at1 i rfl rfl rfl rfl hlt) rfl rfl (by kernel_rfl) ?_
          refine a_pu 11 rfl rfl rfl rfl (pu_rd0 (j := i) ha rfl rfl (qs_get hga)) rfl rfl (by kernel_rfl) ?_
          refine a_pu 12 rfl rfl rfl rfl (pu_move rfl rfl) rfl rfl (by kernel_rfl) ?_
          refine a_pu 13 rfl rfl rfl rfl (pu_move rfl rfl) rfl rfl (by kernel_rfl) ?_
          refine a_do 14 46 [] (does_call rfl rfl rfl rfl rfl (fun w' hm => at_b w' d j (hb.mem0 hm) hnb)) rfl rfl (by kernel_rfl) rfl rfl (by kernel_rfl) (by kernel_rfl) (by kernel_rfl) rfl (fun p hp => by cases hp) ?_; rintro v_ cs_ ⟨_, _, rfl, rfl⟩
          refine a_pu 15 rfl rfl rfl rfl (pu_mul64 rfl rfl rfl) rfl rfl (by kernel_rfl) ?_
          refine a_pu 16 rfl rfl rfl rfl (pu_add64 rfl rfl rfl) rfl rfl (by kernel_rfl) ?_
          refine a_pu 17 rfl rfl rfl rfl (pu_assign rfl rfl) rfl rfl (by kernel_rfl) ?_
          refine a_done (by kernel_rfl) ?_
          (repeat refine g_seq ?_)
          refine g_region ?_
          refine g_pu rfl rfl rfl (pu_move rfl rfl) ?_
          refine g_pu rfl rfl rfl (pu_move rfl rfl) ?_
          refine g_pu rfl rfl rfl (pu_move rfl rfl) ?_
          refine g_pu rfl rfl rfl (pu_addI rfl rfl rfl (by omega)) ?_
          refine g_pu rfl rfl rfl (pu_move rfl rfl) ?_
          refine g_pu rfl rfl rfl (pu_rem64 (b := 65536#64) rfl rfl rfl (by first | decide | assumption)) ?_
          refine g_pu rfl rfl rfl (pu_at1 (i + j) rfl rfl rfl rfl (by omega)) ?_
          refine g_store 15 (v := b64 ((cy + atW out (i + j) + atW a i * atW b j) % 65536#64)) rfl rfl rfl rfl rfl rfl rfl (by rw [qs_length]; omega) ?_
          rw [qs_set]
          refine g_nil ?_
          (repeat refine g_seq ?_)
          refine g_region ?_
          refine g_pu rfl rfl rfl (pu_move rfl rfl) ?_
          refine g_pu rfl rfl rfl (pu_quo64 (b := 65536#64) rfl rfl rfl (by first | decide | assumption)) ?_
          refine g_pu rfl rfl rfl (pu_assign rfl rfl) ?_
          refine g_nil ?_
          refine g_blk ?_
          (repeat refine g_seq ?_)
          refine g_region ?_
          refine g_pu rfl rfl rfl (pu_move rfl rfl) ?_
          refine g_pu rfl rfl rfl (pu_addI rfl rfl rfl (by omega)) ?_
          refine g_pu rfl rfl rfl (pu_assign rfl rfl) ?_
          refine g_nil ?_
          exact g_round4 f (j + 1) ((cy + atW out (i + j) + atW a i * atW b j) / 65536#64) (out.set (i + j) ((cy + atW out (i + j) + atW a i * atW b j) % 65536#64)) ⟨hI, by omega, by simpa using hol⟩ (by omega) ⟨rfl, rfl, rfl, rfl, rfl, rfl, trivial⟩ ⟨rfl, trivial⟩
      · rw [if_neg hr] at hI; cases hI
    · rw [if_neg hc] at hI
      cases hI
      rw [hnb] at hc
      (repeat refine g_seq ?_)
      refine g_region ?_
      refine g_pu rfl rfl rfl (pu_move rfl rfl) ?_
      refine g_pu rfl rfl rfl (pu_move rfl rfl) ?_
      first | refine g_pu rfl rfl rfl (pu_len rfl rfl) ?_ | refine g_pu rfl rfl rfl (pu_lenS rfl rfl) ?_
      first | refine g_pu rfl rfl rfl (pu_lss_t rfl rfl rfl (by omega)) ?_ | refine g_pu rfl rfl rfl (pu_lss_f rfl rfl rfl (by omega)) ?_ | refine g_pu rfl rfl rfl (pu_lss rfl rfl rfl) ?_
      refine g_pu rfl rfl rfl (pu_move rfl rfl) ?_
      first | refine g_pass rfl rfl rfl ?_ | refine g_pu rfl rfl rfl (pu_move rfl rfl) ?_
      refine g_pu rfl rfl rfl (pu_gtr_f rfl rfl rfl (by omega)) ?_
      first | refine g_pu rfl rfl rfl (pu_pick_t rfl rfl rfl) ?_ | refine g_pu rfl rfl rfl (pu_pick_f rfl rfl rfl) ?_
      refine g_nil ?_
      (repeat refine g_seq ?_)
      refine g_cond_f rfl (g_exit rfl ?_)
      refine g_blk ?_
      (repeat refine g_seq ?_)
      refine g_region ?_
      refine g_pu rfl rfl rfl (pu_move rfl rfl) ?_
      refine g_pu rfl rfl rfl (pu_addI rfl rfl rfl (by omega)) ?_
      refine g_pu rfl rfl rfl (pu_assign rfl rfl) ?_
      refine g_nil ?_
      exact g_round2 (i + 1) _ ⟨hO, by omega, hol⟩ (by omega) ⟨rfl, rfl, rfl, rfl, trivial⟩ ⟨rfl, trivial⟩
  · (repeat refine g_seq ?_)
    refine g_region ?_
    refine g_pu rfl rfl rfl (pu_move rfl rfl) ?_
    refine g_pu rfl rfl rfl (pu_move rfl rfl) ?_
    first | refine g_pu rfl rfl rfl (pu_len rfl rfl) ?_ | refine g_pu rfl rfl rfl (pu_lenS rfl rfl) ?_
    first | refine g_pu rfl rfl rfl (pu_lss_t rfl rfl rfl (by omega)) ?_ | refine g_pu rfl rfl rfl (pu_lss_f rfl rfl rfl (by omega)) ?_ | refine g_pu rfl rfl rfl (pu_lss rfl rfl rfl) ?_
    refine g_nil ?_
    (repeat refine g_seq ?_)
    refine g_cond_f rfl (g_exit rfl ?_)
    have e : i = n := by omega
    subst e
    rw [List.drop_eq_nil_of_le (by omega)] at hO
    cases hO
    (repeat refine g_seq ?_)
    refine g_region ?_
    refine g_pu rfl rfl rfl (pu_move rfl rfl) ?_
    refine g_pu rfl rfl rfl (pu_assign rfl rfl) ?_
    refine g_nil ?_
    refine g_own 15 (L := qs res) (J := []) (c := i + m + 1) (s := 1) (by rw [List.append_nil]; rfl) (by simp [qs_length, hol]) (by omega) ?_
    rw [hrl]
    exact g_ret1 rfl rfl (fun w' hm => ⟨⟨some ⟨b15, 0, none⟩, i + m + 1⟩, trivial, rfl, hm.grows [15] ⟨rfl, trivial⟩ rfl⟩)
end Go.Sx

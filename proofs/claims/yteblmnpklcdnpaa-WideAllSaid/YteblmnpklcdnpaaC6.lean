/-
  The reference's turning of lists by one another. A list of lists takes at most 2^47 bytes.
-/
import Derived.Test.YteblmnpklcdnpaaC5
set_option linter.unusedVariables false
set_option linter.unusedSimpArgs false
namespace Go.Sx
open Go Go.Proofs

def accR (ls : List (List (BitVec 8))) : Nat → List (BitVec 8)
  | 0 => []
  | i + 1 => match ls with
    | [] => []
    | l :: r => (r.take i).foldl xorL l
def okR (ls : List (List (BitVec 8))) : Nat → Bool
  | 0 => true
  | i + 1 => match ls with
    | [] => true
    | l :: r => ((r.take i).all fun m => m.length == l.length) && ((r.take i).foldl xorL l).length == l.length

theorem RXor_b (w : World) {p : Option Addr} {n : Nat} (c : Nat) {L : List Value} {ls : List (List (BitVec 8))} (ha : ByL w p n L ls) :
    Spec Try.prog 33 #[.slice p n c] w (σ := Ow) (fun _ => True) (fun x => .tuple #[x.sl (xorV ls).length, .int .i64 (xorE ls)]) Nob (fun x => [x.ck 5 1 (bs (xorV ls))]) := by
  refine enter Try.func33 rfl rfl (Mem.start w) ?_
  have hn := ha.len
  have hbig := ha.big
  have hln := ha.lenL
  (repeat refine g_seq ?_)
  refine g_region ?_
  refine g_pu rfl rfl rfl (pu_assign rfl rfl) ?_
  refine g_pu rfl rfl rfl (pu_assign rfl rfl) ?_
  refine g_nil ?_
  (repeat refine g_seq ?_)
  refine g_region ?_
  refine g_pu rfl rfl rfl (pu_assign rfl rfl) ?_
  refine g_nil ?_
  (repeat refine g_seq ?_)
  refine g_region ?_
  refine g_pu rfl rfl rfl (pu_assign rfl rfl) ?_
  refine g_nil ?_
  refine g_nilOwn 14 5 1 rfl ?_
  refine g_block (g_loop2 (fun (i : Nat) (x : Ow) => [(0, .slice p n c), (4, x.sl (accR ls i).length), (5, .int .i64 (i : Int))]) (fun i x => [(14, x.ck 5 1 (bs (accR ls i)))]) (fun i _ => i ≤ n ∧ okR ls i = true) (fun i _ => n - i) 0 ⟨none, 0⟩ ⟨rfl, rfl, rfl, trivial⟩ ⟨rfl, trivial⟩ ⟨by omega, rfl⟩ ?_)
  intro i x ⟨hi, hok⟩
  by_cases hlt : i < n
  · (repeat refine g_seq ?_)
    refine g_region ?_
    refine g_pu rfl rfl rfl (pu_move rfl rfl) ?_
    refine g_pu rfl rfl rfl (pu_move rfl rfl) ?_
    first | refine g_pu rfl rfl rfl (pu_len rfl rfl) ?_ | refine g_pu rfl rfl rfl (pu_lenS rfl rfl) ?_
    first | refine g_pu rfl rfl rfl (pu_lss_t rfl rfl rfl (by omega)) ?_ | refine g_pu rfl rfl rfl (pu_lss_f rfl rfl rfl (by omega)) ?_ | refine g_pu rfl rfl rfl (pu_lss rfl rfl rfl) ?_
    refine g_nil ?_
    (repeat refine g_seq ?_)
    refine g_cond_t rfl (g_skip ?_)
    have hl : ls[i]? = some ls[i] := List.getElem?_eq_getElem (by omega)
    generalize ls[i] = b at hl
    obtain ⟨q, m, cc, hL, hq⟩ := ha.at hl
    have hq1 := hq.len
    have hq2 := hq.big
    (repeat refine g_seq ?_); refine g_block ?_
    by_cases h0 : i = 0
    · subst h0
      (repeat refine g_seq ?_)
      refine g_region ?_
      refine g_pu rfl rfl rfl (pu_move rfl rfl) ?_
      first | refine g_pu rfl rfl rfl (pu_eql_t rfl rfl rfl (by omega)) ?_ | refine g_pu rfl rfl rfl (pu_eql_f rfl rfl rfl (by omega)) ?_ | refine g_pu rfl rfl rfl (pu_eql rfl rfl rfl) ?_
      refine g_nil ?_
      (repeat refine g_seq ?_)
      refine g_cond_t rfl ?_
      (repeat refine g_seq ?_)
      refine g_region ?_
      refine g_pu rfl rfl rfl (pu_move rfl rfl) ?_
      refine g_pu rfl rfl rfl (pu_atM1 0 (fun w' hm => (ha.m hm).rd) rfl rfl rfl rfl hlt (by omega)) ?_
      refine g_pu rfl rfl rfl (pu_rdM (fun w' hm => (ha.m hm).rd) rfl rfl hL) ?_
      refine g_call [18] rfl rfl rfl rfl rfl rfl (fun w' hm => Copy_b w' cc (hq.m hm)) (fun x18 _ => ?_)
      refine g_pu rfl rfl rfl (pu_assign rfl rfl) ?_
      refine g_nil ?_
      refine g_exit rfl ?_
      (repeat refine g_seq ?_)
      refine g_region ?_
      refine g_pu rfl rfl rfl (pu_move rfl rfl) ?_
      refine g_pu rfl rfl rfl (pu_addI rfl rfl rfl (by omega)) ?_
      refine g_pu rfl rfl rfl (pu_assign rfl rfl) ?_
      refine g_nil ?_
      refine g_retag 18 14 _ rfl rfl ?_
      obtain ⟨r, rfl⟩ : ∃ r, ls = b :: r := by
        cases ls with
        | nil => simp at hl
        | cons a r => simp at hl; exact ⟨r, by rw [hl]⟩
      refine g_round2 1 x18 ⟨by omega, by simp [okR]⟩ (by omega) ⟨rfl, by simp [accR, hq1]; rfl, rfl, trivial⟩ ⟨rfl, trivial⟩
    · (repeat refine g_seq ?_)
      refine g_region ?_
      refine g_pu rfl rfl rfl (pu_move rfl rfl) ?_
      first | refine g_pu rfl rfl rfl (pu_eql_t rfl rfl rfl (by omega)) ?_ | refine g_pu rfl rfl rfl (pu_eql_f rfl rfl rfl (by omega)) ?_ | refine g_pu rfl rfl rfl (pu_eql rfl rfl rfl) ?_
      refine g_nil ?_
      (repeat refine g_seq ?_)
      refine g_cond_f rfl (g_skip ?_)
      obtain ⟨i, rfl⟩ : ∃ k, i = k + 1 := ⟨i - 1, by omega⟩
      obtain ⟨l0, r, rfl⟩ : ∃ l0 r, ls = l0 :: r := by
        cases ls with
        | nil => simp at hl
        | cons a r => exact ⟨a, r, rfl⟩
      simp only [List.getElem?_cons_succ] at hl
      simp only [okR, Bool.and_eq_true, beq_iff_eq] at hok
      obtain ⟨hall, hlen⟩ := hok
      have ht : r.take (i + 1) = r.take i ++ [b] := by rw [List.take_add_one, hl]; rfl
      obtain ⟨p14, c14⟩ := x
      by_cases hne : m = l0.length
      · (repeat refine g_seq ?_)
        refine g_region ?_
        refine g_pu rfl rfl rfl (pu_move rfl rfl) ?_
        refine g_pu rfl rfl rfl (pu_move rfl rfl) ?_
        refine g_pu rfl rfl rfl (pu_atM1 (i + 1) (fun w' hm => (ha.m hm).rd) rfl rfl rfl rfl hlt (by omega)) ?_
        refine g_pu rfl rfl rfl (pu_rdM (fun w' hm => (ha.m hm).rd) rfl rfl hL) ?_
        first | refine g_pu rfl rfl rfl (pu_len rfl rfl) ?_ | refine g_pu rfl rfl rfl (pu_lenS rfl rfl) ?_
        refine g_pu rfl rfl rfl (pu_move rfl rfl) ?_
        first | refine g_pu rfl rfl rfl (pu_len rfl rfl) ?_ | refine g_pu rfl rfl rfl (pu_lenS rfl rfl) ?_
        refine g_pu rfl rfl rfl (pu_neq_f rfl rfl rfl (by simp only [accR]; omega)) ?_
        refine g_nil ?_
        (repeat refine g_seq ?_)
        refine g_cond_f rfl (g_skip ?_)
        generalize hacc : (r.take i).foldl xorL l0 = a at hlen
        have haR : accR (l0 :: r) (i + 1) = a := hacc
        rw [haR]
        have hal : a.length = m := by omega
        rw [hal]
        have hab : b.length = a.length := by omega
        (repeat refine g_seq ?_)
        refine g_region ?_
        refine g_pu rfl rfl rfl (pu_assign rfl rfl) ?_
        refine g_nil ?_
        refine g_block (g_loop (σ := Nat) (fun j => [(0, .slice p n c), (4, .slice p14 m c14), (5, .int .i64 ((i + 1 : Nat) : Int)), (6, .int .i64 (j : Int))]) (fun j => [(14, .fact (At p14) (Own 5 1 p14 c14 (bs (xorAt a b j))))]) (fun j => j ≤ m) (fun j => m - j) 0 ⟨rfl, rfl, rfl, rfl, trivial⟩ ⟨by rw [xorAt_zero]; rfl, trivial⟩ (by omega) ?_)
        intro j hj
        have hxl := xorAt_length (i := j) hab (by omega)
        by_cases hlt2 : j < m
        · (repeat refine g_seq ?_)
          refine g_region ?_
          refine g_pu rfl rfl rfl (pu_move rfl rfl) ?_
          refine g_pu rfl rfl rfl (pu_move rfl rfl) ?_
          first | refine g_pu rfl rfl rfl (pu_len rfl rfl) ?_ | refine g_pu rfl rfl rfl (pu_lenS rfl rfl) ?_
          first | refine g_pu rfl rfl rfl (pu_lss_t rfl rfl rfl (by omega)) ?_ | refine g_pu rfl rfl rfl (pu_lss_f rfl rfl rfl (by omega)) ?_ | refine g_pu rfl rfl rfl (pu_lss rfl rfl rfl) ?_
          refine g_nil ?_
          (repeat refine g_seq ?_)
          refine g_cond_t rfl (g_skip ?_)
          have h1 : a[j]? = some a[j] := List.getElem?_eq_getElem (by omega)
          have h2 : b[j]? = some b[j] := List.getElem?_eq_getElem (by omega)
          (repeat refine g_seq ?_); refine g_block ?_
          refine g_row 14 rfl (by rw [bs_length]; omega) (fun bb J hp hJ hcap => ?_)
          subst hp
          (repeat refine g_seq ?_)
          refine g_any (15, []) ?_
          refine a_pu 0 rfl rfl rfl rfl (pu_move rfl rfl) rfl rfl (by kernel_rfl) ?_
          refine a_pu 1 rfl rfl rfl rfl (pu_move rfl rfl) rfl rfl (by kernel_rfl) ?_
          refine a_pu 2 rfl rfl rfl rfl (pu_move rfl rfl) rfl rfl (by kernel_rfl) ?_
          refine a_pu 3 rfl rfl rfl rfl (pu_move rfl rfl) rfl rfl (by kernel_rfl) ?_
          refine a_pu 4 rfl rfl rfl rfl (pu_at1 j rfl rfl rfl rfl (by omega)) rfl rfl (by kernel_rfl) ?_
          refine a_pu 5 rfl rfl rfl rfl (pu_load 14 (v := b8 a[j]) rfl rfl rfl (by rw [Nat.zero_add, List.getElem?_toArray, List.getElem?_append_left (by rw [bs_length]; omega)]; exact bs_get ((xorAt_get hab (by omega)).trans h1))) rfl rfl (by kernel_rfl) ?_
          refine a_pu 6 rfl rfl rfl rfl (pu_move rfl rfl) rfl rfl (by kernel_rfl) ?_
          refine a_pu 7 rfl rfl rfl rfl (pu_move rfl rfl) rfl rfl (by kernel_rfl) ?_
          refine a_pu 8 rfl rfl rfl rfl (pu_atM1 (i + 1) (fun w' hm => (ha.m hm).rd) rfl rfl rfl rfl hlt (by omega)) rfl rfl (by kernel_rfl) ?_
          refine a_pu 9 rfl rfl rfl rfl (pu_rdM (fun w' hm => (ha.m hm).rd) rfl rfl hL) rfl rfl (by kernel_rfl) ?_
          refine a_pu 10 rfl rfl rfl rfl (pu_move rfl rfl) rfl rfl (by kernel_rfl) ?_
          refine a_pu 11 rfl rfl rfl rfl (pu_atB j (fun w' hm => hq.m hm) rfl rfl rfl (by omega) (by omega)) rfl rfl (by kernel_rfl) ?_
          refine a_pu 12 rfl rfl rfl rfl (pu_rdB (fun w' hm => hq.m hm) rfl rfl h2) rfl rfl (by kernel_rfl) ?_
          refine a_pu 13 rfl rfl rfl rfl (pu_xor8 rfl rfl rfl) rfl rfl (by kernel_rfl) ?_
          refine a_pu 14 rfl rfl rfl rfl (pu_at1 j rfl rfl rfl rfl (by omega)) rfl rfl (by kernel_rfl) ?_
          refine a_tail [15] (by kernel_rfl) rfl rfl (by kernel_rfl) ?_
          refine g_store 14 (v := b8 (a[j] ^^^ b[j])) rfl rfl rfl rfl rfl rfl rfl (by rw [List.length_append, bs_length]; omega) ?_
          refine g_nil ?_
          have hset := xorAt_set (i := j) hab h1 h2 J
          refine g_own 14 (L := bs (xorAt a b (j + 1))) (J := J) (c := c14) (s := 1) (by rw [← hset, Nat.zero_add]; rfl) (by refine ⟨?_, by rw [← hset, List.length_set]; exact hJ.2⟩; have hJ1 := hJ.1; rw [bs_length, xorAt_length hab (by omega)] at hJ1 ⊢; exact hJ1) hcap ?_
          refine g_blk ?_
          (repeat refine g_seq ?_)
          refine g_region ?_
          refine g_pu rfl rfl rfl (pu_move rfl rfl) ?_
          refine g_pu rfl rfl rfl (pu_addI rfl rfl rfl (by omega)) ?_
          refine g_pu rfl rfl rfl (pu_assign rfl rfl) ?_
          refine g_nil ?_
          exact g_round (j + 1) (by omega) (by omega) ⟨rfl, rfl, rfl, rfl, trivial⟩ ⟨rfl, trivial⟩
        · (repeat refine g_seq ?_)
          refine g_region ?_
          refine g_pu rfl rfl rfl (pu_move rfl rfl) ?_
          refine g_pu rfl rfl rfl (pu_move rfl rfl) ?_
          first | refine g_pu rfl rfl rfl (pu_len rfl rfl) ?_ | refine g_pu rfl rfl rfl (pu_lenS rfl rfl) ?_
          first | refine g_pu rfl rfl rfl (pu_lss_t rfl rfl rfl (by omega)) ?_ | refine g_pu rfl rfl rfl (pu_lss_f rfl rfl rfl (by omega)) ?_ | refine g_pu rfl rfl rfl (pu_lss rfl rfl rfl) ?_
          refine g_nil ?_
          (repeat refine g_seq ?_)
          refine g_cond_f rfl (g_exit rfl ?_)
          have e1 : j = m := by omega
          subst e1
          refine g_blk ?_
          (repeat refine g_seq ?_)
          refine g_region ?_
          refine g_pu rfl rfl rfl (pu_move rfl rfl) ?_
          refine g_pu rfl rfl rfl (pu_addI rfl rfl rfl (by omega)) ?_
          refine g_pu rfl rfl rfl (pu_assign rfl rfl) ?_
          refine g_nil ?_
          have hfold : accR (l0 :: r) (i + 1 + 1) = xorL a b := by simp only [accR]; rw [ht, List.foldl_append, hacc]; rfl
          have hxl2 : (xorL a b).length = j := by rw [xorL_length hab, hal]
          refine g_round2 (i + 1 + 1) (⟨p14, c14⟩ : Ow) ⟨by omega, ?_⟩ (by omega) ⟨rfl, by rw [hfold, hxl2]; rfl, rfl, trivial⟩ ⟨by rw [hfold, ← xorAt_end hab hal]; rfl, trivial⟩
          simp only [okR, Bool.and_eq_true, beq_iff_eq]
          refine ⟨?_, ?_⟩
          · rw [ht, List.all_append, hall]
            simp; omega
          · have : (r.take (i + 1)).foldl xorL l0 = xorL a b := hfold
            rw [this, hxl2, hne]
      · (repeat refine g_seq ?_)
        refine g_region ?_
        refine g_pu rfl rfl rfl (pu_move rfl rfl) ?_
        refine g_pu rfl rfl rfl (pu_move rfl rfl) ?_
        refine g_pu rfl rfl rfl (pu_atM1 (i + 1) (fun w' hm => (ha.m hm).rd) rfl rfl rfl rfl hlt (by omega)) ?_
        refine g_pu rfl rfl rfl (pu_rdM (fun w' hm => (ha.m hm).rd) rfl rfl hL) ?_
        first | refine g_pu rfl rfl rfl (pu_len rfl rfl) ?_ | refine g_pu rfl rfl rfl (pu_lenS rfl rfl) ?_
        refine g_pu rfl rfl rfl (pu_move rfl rfl) ?_
        first | refine g_pu rfl rfl rfl (pu_len rfl rfl) ?_ | refine g_pu rfl rfl rfl (pu_lenS rfl rfl) ?_
        refine g_pu rfl rfl rfl (pu_neq_t rfl rfl rfl (by simp only [accR]; omega)) ?_
        refine g_nil ?_
        (repeat refine g_seq ?_)
        refine g_cond_t rfl ?_
        (repeat refine g_seq ?_)
        refine g_region ?_
        refine g_pu rfl rfl rfl (pu_assign rfl rfl) ?_
        refine g_pu rfl rfl rfl (pu_assign rfl rfl) ?_
        refine g_nil ?_
        have hbad : xorOk (l0 :: r) = false := by
          rw [Bool.eq_false_iff]
          intro h
          have := List.all_eq_true.1 h b (List.mem_of_getElem? hl)
          simp at this; omega
        have hE : xorE (l0 :: r) = 2 := by simp [xorE, hbad]
        have hV : xorV (l0 :: r) = [] := by simp [xorV, hbad]
        rw [hE, hV]
        exact g_nilOwn 90 5 1 rfl (g_ret2 rfl rfl rfl (fun w' hm => ⟨⟨none, 0⟩, trivial, rfl, hm.grows [90] ⟨rfl, trivial⟩ rfl⟩))
  · (repeat refine g_seq ?_)
    refine g_region ?_
    refine g_pu rfl rfl rfl (pu_move rfl rfl) ?_
    refine g_pu rfl rfl rfl (pu_move rfl rfl) ?_
    first | refine g_pu rfl rfl rfl (pu_len rfl rfl) ?_ | refine g_pu rfl rfl rfl (pu_lenS rfl rfl) ?_
    first | refine g_pu rfl rfl rfl (pu_lss_t rfl rfl rfl (by omega)) ?_ | refine g_pu rfl rfl rfl (pu_lss_f rfl rfl rfl (by omega)) ?_ | refine g_pu rfl rfl rfl (pu_lss rfl rfl rfl) ?_
    refine g_nil ?_
    (repeat refine g_seq ?_)
    refine g_cond_f rfl (g_exit rfl ?_)
    (repeat refine g_seq ?_)
    refine g_region ?_
    refine g_pu rfl rfl rfl (pu_move rfl rfl) ?_
    refine g_pu rfl rfl rfl (pu_assign rfl rfl) ?_
    refine g_pu rfl rfl rfl (pu_assign rfl rfl) ?_
    refine g_nil ?_
    have hE : xorE ls = 0 ∧ xorV ls = accR ls i := by
      have e1 : i = ls.length := by omega
      subst e1
      cases ls with
      | nil => exact ⟨rfl, rfl⟩
      | cons l0 r =>
        simp only [okR, List.length_cons, Bool.and_eq_true, List.take_of_length_le (Nat.le_refl _)] at hok
        have h1 : xorOk (l0 :: r) = true := hok.1
        exact ⟨by simp [xorE, h1], by simp [xorV, h1, accR]⟩
    rw [hE.1, hE.2]
    exact g_ret2 rfl rfl rfl (fun w' hm => ⟨x, trivial, rfl, hm.grows [14] ⟨rfl, trivial⟩ rfl⟩)
end Go.Sx

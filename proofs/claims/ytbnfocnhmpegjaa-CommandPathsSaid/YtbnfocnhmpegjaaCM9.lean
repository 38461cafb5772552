/-
  The commands of a route, of the program. Each mark has 16 bytes, each key 32.
-/
import Derived.Test.YtbnfocnhmpegjaaCM8
import Derived.Test.YtbnfocnhmpegjaaSxAnyK
set_option linter.unusedVariables false
set_option linter.unusedSimpArgs false
namespace Go.Sx
open Go Go.Proofs

def pathL (x : Cmd) (hs : List Hop) : List Cmd := if pathE x hs = 0 then pcmds x hs else []
section
variable {x : Cmd} {hs : List Hop}
theorem pathL_ne {z : Int} (h : pathE x hs = z) (hz : z ≠ 0) : pathL x hs = [] := if_neg (by rw [h]; exact hz)
theorem pathE_kind (hk : x.k.toNat < 2 ∨ x.k.toNat > 4) : pathE x hs = 1 := if_pos hk
theorem pathE_hop (hk : ¬ (x.k.toNat < 2 ∨ x.k.toNat > 4)) {h : Hop} (hm : h ∈ hs) (hb : badHop h = true) : pathE x hs = 1 := by
  unfold pathE
  rw [if_neg hk, if_pos (List.any_eq_true.2 ⟨h, hm, hb⟩)]
theorem any_no (hg : ∀ h ∈ hs, badHop h = false) : ¬ hs.any badHop = true := fun h => by
  obtain ⟨y, hy, hb⟩ := List.any_eq_true.1 h
  rw [hg y hy] at hb; cases hb
theorem pathE_len (hk : ¬ (x.k.toNat < 2 ∨ x.k.toNat > 4)) (hg : ∀ h ∈ hs, badHop h = false) (hl : hs.length < 1 ∨ hs.length > 5) : pathE x hs = 2 := by
  unfold pathE
  rw [if_neg hk, if_neg (any_no hg), if_pos hl]
theorem pathE_bad (hk : ¬ (x.k.toNat < 2 ∨ x.k.toNat > 4)) (hg : ∀ h ∈ hs, badHop h = false) (hl : ¬ (hs.length < 1 ∨ hs.length > 5)) {y : Cmd} (hm : y ∈ pcmds x hs) (hb : chkE y ≠ 0) : pathE x hs = 3 := by
  unfold pathE
  rw [if_neg hk, if_neg (any_no hg), if_neg hl, if_pos]
  exact List.any_eq_true.2 ⟨y, hm, decide_eq_true hb⟩
theorem pathE_ok (hk : ¬ (x.k.toNat < 2 ∨ x.k.toNat > 4)) (hg : ∀ h ∈ hs, badHop h = false) (hl : ¬ (hs.length < 1 ∨ hs.length > 5)) (ho : ∀ y ∈ pcmds x hs, chkE y = 0) : pathE x hs = 0 := by
  unfold pathE
  rw [if_neg hk, if_neg (any_no hg), if_neg hl, if_neg]
  intro h
  obtain ⟨y, hy, hb⟩ := List.any_eq_true.1 h
  exact of_decide_eq_true hb (ho y hy)
/-- The error of a command of the route is 3, if there is one. -/
theorem chk_3 (hk : ¬ (x.k.toNat < 2 ∨ x.k.toNat > 4)) {h : Hop} (hb : badHop h = false) {g : Option Hop} (hne : chkE (pcmd x h g) ≠ 0) : chkE (pcmd x h g) = 3 := by
  classical
  cases g with
  | none => rw [chk_last hb hk] at hne ⊢; split <;> first | rfl | (rename_i hc; rw [if_neg hc] at hne; exact absurd rfl hne)
  | some g => rw [chk_next hb] at hne ⊢; split <;> first | rfl | (rename_i hc; rw [if_neg hc] at hne; exact absurd rfl hne)
end
theorem fillNext (n : BitVec 64) : Instr.fill (fun i => [(0, 1), (1, 1), (2, 1), (3, 1), (4, 16)][i]?) (cmdC zeroCmd).toArray [(0, b8 1#8), (3, b64 n)] = some (cmdC ⟨1#8, 0#8, 0#32, n, zero16⟩).toArray := by kernel_rfl
theorem fillLast' (k : BitVec 8) (n : BitVec 64) (a0 a1 a2 a3 a4 a5 a6 a7 a8 a9 a10 a11 a12 a13 a14 a15 : BitVec 8) : Instr.fill (fun i => [(0, 1), (1, 1), (2, 1), (3, 1), (4, 16)][i]?) (cmdC zeroCmd).toArray [(0, b8 k), (3, b64 n), (4, .agg (bs [a0, a1, a2, a3, a4, a5, a6, a7, a8, a9, a10, a11, a12, a13, a14, a15]).toArray)] = some (cmdC ⟨k, 0#8, 0#32, n, [a0, a1, a2, a3, a4, a5, a6, a7, a8, a9, a10, a11, a12, a13, a14, a15]⟩).toArray := by
  kernel_rfl
theorem fillLast {x : Cmd} (h16 : x.m.length = 16) : Instr.fill (fun i => [(0, 1), (1, 1), (2, 1), (3, 1), (4, 16)][i]?) (cmdC zeroCmd).toArray [(0, b8 x.k), (3, b64 x.n), (4, .agg (bs x.m).toArray)] = some (cmdC ⟨x.k, 0#8, 0#32, x.n, x.m⟩).toArray := by
  obtain ⟨k, f, d, n, m⟩ := x
  match m, h16 with
  | [a0, a1, a2, a3, a4, a5, a6, a7, a8, a9, a10, a11, a12, a13, a14, a15], _ => exact fillLast' k n a0 a1 a2 a3 a4 a5 a6 a7 a8 a9 a10 a11 a12 a13 a14 a15

theorem Path_b (w : World) (x : Cmd) (h16 : x.m.length = 16) {q : Option Addr} {m : Nat} (d : Nat) {hs : List Hop} (hq : RdV w q (hopsC hs)) (hn : hs.length = m) (ho : ∀ h ∈ hs, h.ok) (hmb : m ≤ 1353245080300) :
    Spec Try.prog 12 #[.agg (cmdC x).toArray, .slice q m d] w (σ := Ow) (fun _ => True) (fun y => .tuple #[y.sl (pathL x hs).length, .int .i64 (pathE x hs)]) Nob (fun y => [y.ck 28 20 (cmdsC (pathL x hs))]) := by
  refine enter Try.func12 rfl rfl (Mem.start w) ?_
  have hcl := cmdC_length h16
  have hhl := hopsC_length ho
  (repeat refine g_seq ?_)
  refine g_region ?_
  refine g_lo [2] rfl rfl rfl rfl (lo_box rfl rfl) (fun b2 hb2 => ?_)
  refine g_pu rfl rfl rfl (pu_assign rfl rfl) ?_
  refine g_pu rfl rfl rfl (pu_assign rfl rfl) ?_
  refine g_nil ?_
  by_cases hk : x.k.toNat < 2 ∨ x.k.toNat > 4
  · have hE : pathE x hs = 1 := pathE_kind hk
    rw [pathL_ne hE (by decide), hE]
    rcases hk with hk | hk
    · (repeat refine g_seq ?_)
      refine g_region ?_
      refine g_pu rfl rfl rfl (pu_fieldAddr (by decide) rfl rfl) ?_
      refine g_pu rfl rfl rfl (pu_load 2 rfl rfl rfl rfl) ?_
      refine g_pu rfl rfl rfl (pu_lss_t rfl rfl rfl (by omega)) ?_
      refine g_pu rfl rfl rfl (pu_move rfl rfl) ?_
      first | refine g_pass rfl rfl rfl ?_ | refine g_pu rfl rfl rfl (pu_fieldAddr (by decide) rfl rfl) ?_
      first | refine g_pass rfl rfl rfl ?_ | refine g_pu rfl rfl rfl (pu_load 2 rfl rfl rfl rfl) ?_
      first | refine g_pass rfl rfl rfl ?_ | refine g_pu rfl rfl rfl (pu_gtr rfl rfl rfl) ?_
      first | refine g_pu rfl rfl rfl (pu_pick_t rfl rfl rfl) ?_ | refine g_pu rfl rfl rfl (pu_pick_f rfl rfl rfl) ?_
      refine g_nil ?_
      (repeat refine g_seq ?_)
      refine g_cond_t rfl ?_
      (repeat refine g_seq ?_)
      refine g_region ?_
      refine g_pu rfl rfl rfl (pu_assign rfl rfl) ?_
      refine g_pu rfl rfl rfl (pu_assign rfl rfl) ?_
      refine g_nil ?_
      refine g_nilOwn 90 28 20 rfl ?_
      exact g_ret2 rfl rfl rfl (fun w' hm => ⟨⟨none, 0⟩, trivial, rfl, hm.grows [90] ⟨rfl, trivial⟩ rfl⟩)
    · (repeat refine g_seq ?_)
      refine g_region ?_
      refine g_pu rfl rfl rfl (pu_fieldAddr (by decide) rfl rfl) ?_
      refine g_pu rfl rfl rfl (pu_load 2 rfl rfl rfl rfl) ?_
      refine g_pu rfl rfl rfl (pu_lss_f rfl rfl rfl (by omega)) ?_
      refine g_pu rfl rfl rfl (pu_move rfl rfl) ?_
      first | refine g_pass rfl rfl rfl ?_ | refine g_pu rfl rfl rfl (pu_fieldAddr (by decide) rfl rfl) ?_
      first | refine g_pass rfl rfl rfl ?_ | refine g_pu rfl rfl rfl (pu_load 2 rfl rfl rfl rfl) ?_
      refine g_pu rfl rfl rfl (pu_gtr_t rfl rfl rfl (by omega)) ?_
      first | refine g_pu rfl rfl rfl (pu_pick_t rfl rfl rfl) ?_ | refine g_pu rfl rfl rfl (pu_pick_f rfl rfl rfl) ?_
      refine g_nil ?_
      (repeat refine g_seq ?_)
      refine g_cond_t rfl ?_
      (repeat refine g_seq ?_)
      refine g_region ?_
      refine g_pu rfl rfl rfl (pu_assign rfl rfl) ?_
      refine g_pu rfl rfl rfl (pu_assign rfl rfl) ?_
      refine g_nil ?_
      refine g_nilOwn 90 28 20 rfl ?_
      exact g_ret2 rfl rfl rfl (fun w' hm => ⟨⟨none, 0⟩, trivial, rfl, hm.grows [90] ⟨rfl, trivial⟩ rfl⟩)
  · (repeat refine g_seq ?_)
    refine g_region ?_
    refine g_pu rfl rfl rfl (pu_fieldAddr (by decide) rfl rfl) ?_
    refine g_pu rfl rfl rfl (pu_load 2 rfl rfl rfl rfl) ?_
    refine g_pu rfl rfl rfl (pu_lss_f rfl rfl rfl (by omega)) ?_
    refine g_pu rfl rfl rfl (pu_move rfl rfl) ?_
    first | refine g_pass rfl rfl rfl ?_ | refine g_pu rfl rfl rfl (pu_fieldAddr (by decide) rfl rfl) ?_
    first | refine g_pass rfl rfl rfl ?_ | refine g_pu rfl rfl rfl (pu_load 2 rfl rfl rfl rfl) ?_
    refine g_pu rfl rfl rfl (pu_gtr_f rfl rfl rfl (by omega)) ?_
    first | refine g_pu rfl rfl rfl (pu_pick_t rfl rfl rfl) ?_ | refine g_pu rfl rfl rfl (pu_pick_f rfl rfl rfl) ?_
    refine g_nil ?_
    (repeat refine g_seq ?_)
    refine g_cond_f rfl (g_skip ?_)
    (repeat refine g_seq ?_)
    refine g_region ?_
    refine g_pu rfl rfl rfl (pu_move rfl rfl) ?_
    first | refine g_pu rfl rfl rfl (pu_len rfl rfl) ?_ | refine g_pu rfl rfl rfl (pu_lenS rfl rfl) ?_
    refine g_pu rfl rfl rfl (pu_move rfl rfl) ?_
    refine g_nil ?_
    refine g_block (g_loop (σ := Nat) (fun (i : Nat) => [(1, .slice q m d), (2, .pointer (some ⟨b2, 0, none⟩)), (21, .slice q m d), (22, .int .i64 (m : Int)), (23, .int .i64 (i : Int))]) (fun i => [(2, .pt b2 (.cells (cmdC x).toArray 28 (0, 0)))]) (fun i => i ≤ m ∧ ∀ h ∈ hs.take i, badHop h = false) (fun i => m - i) 0 ⟨rfl, rfl, rfl, rfl, rfl, trivial⟩ ⟨rfl, trivial⟩ ⟨by omega, fun h hh => by simp at hh⟩ ?_)
    intro i ⟨hi, hgood⟩
    by_cases hlt : i < m
    · (repeat refine g_seq ?_)
      refine g_region ?_
      first | refine g_pu rfl rfl rfl (pu_lss_t rfl rfl rfl (by omega)) ?_ | refine g_pu rfl rfl rfl (pu_lss_f rfl rfl rfl (by omega)) ?_ | refine g_pu rfl rfl rfl (pu_lss rfl rfl rfl) ?_
      refine g_nil ?_
      (repeat refine g_seq ?_)
      refine g_cond_t rfl (g_skip ?_)
      have h1 : hs[i]? = some hs[i] := List.getElem?_eq_getElem (by omega)
      have hxo := ho hs[i] (List.getElem_mem (by omega))
      have hmem : hs[i] ∈ hs := List.getElem_mem (by omega)
      generalize hs[i] = y at h1 hxo hmem
      have hyl := hopC_length hxo
      have hg := hopsC_get ho h1
      have hc66 : (hopC y).toArray[0 + 66]? = some (.int .i64 y.dl) := by rw [List.getElem?_toArray]; exact hop_cell66 hxo
      have hc67 : (hopC y).toArray[0 + 67]? = some (.int .i64 y.fl) := by rw [List.getElem?_toArray]; exact hop_cell67 hxo
      (repeat refine g_seq ?_); refine g_block ?_
      (repeat refine g_seq ?_)
      refine g_region ?_
      refine g_pu rfl rfl rfl (pu_atM i (s := 68) (L := hopsC hs) (fun w' hm => hq.mem0 hm) rfl rfl rfl rfl hlt (by omega)) ?_
      refine g_pu rfl rfl rfl (pu_rdMA (L := hopsC hs) (j := i * 68) (s := 68) (fun w' hm => hq.mem0 hm) rfl rfl (by omega) (by omega)) ?_
      rw [hg]
      refine g_lo [7] rfl rfl rfl rfl (lo_alloc rfl) (fun b7 hb7 => ?_)
      refine g_storeL 7 (s := 68) (C := hopC y) rfl rfl rfl rfl rfl rfl hyl rfl (oneCell_hop y) ?_
      refine g_nil ?_
      cases hb : badHop y with
      | true =>
        have hE : pathE x hs = 1 := pathE_hop hk hmem hb
        rw [pathL_ne hE (by decide), hE]
        have hb := of_decide_eq_true hb
        by_cases h2 : y.dl < 0 <;> by_cases h3 : y.dl > 1000000 <;> by_cases h4 : y.fl < 0 <;> by_cases h5 : y.fl > 255 <;> first | (exfalso; omega) | (
          (repeat refine g_seq ?_)
          refine g_region ?_
          refine g_pu rfl rfl rfl (pu_fieldAddr (by decide) rfl rfl) ?_
          refine g_pu rfl rfl rfl (pu_load 7 (v := .int .i64 y.dl) rfl rfl rfl hc66) ?_
          first | refine g_pu rfl rfl rfl (pu_lss_t rfl rfl rfl (by omega)) ?_ | refine g_pu rfl rfl rfl (pu_lss_f rfl rfl rfl (by omega)) ?_ | refine g_pu rfl rfl rfl (pu_lss rfl rfl rfl) ?_
          refine g_pu rfl rfl rfl (pu_move rfl rfl) ?_
          first | refine g_pass rfl rfl rfl ?_ | refine g_pu rfl rfl rfl (pu_fieldAddr (by decide) rfl rfl) ?_
          first | refine g_pass rfl rfl rfl ?_ | refine g_pu rfl rfl rfl (pu_load 7 (v := .int .i64 y.dl) rfl rfl rfl hc66) ?_
          first | refine g_pass rfl rfl rfl ?_ | refine g_pu rfl rfl rfl (pu_gtr_t rfl rfl rfl (by omega)) ?_ | refine g_pu rfl rfl rfl (pu_gtr_f rfl rfl rfl (by omega)) ?_ | refine g_pu rfl rfl rfl (pu_gtr rfl rfl rfl) ?_
          first | refine g_pu rfl rfl rfl (pu_pick_t rfl rfl rfl) ?_ | refine g_pu rfl rfl rfl (pu_pick_f rfl rfl rfl) ?_
          refine g_pu rfl rfl rfl (pu_move rfl rfl) ?_
          first | refine g_pass rfl rfl rfl ?_ | refine g_pu rfl rfl rfl (pu_fieldAddr (by decide) rfl rfl) ?_
          first | refine g_pass rfl rfl rfl ?_ | refine g_pu rfl rfl rfl (pu_load 7 (v := .int .i64 y.fl) rfl rfl rfl hc67) ?_
          first | refine g_pass rfl rfl rfl ?_ | refine g_pu rfl rfl rfl (pu_lss_t rfl rfl rfl (by omega)) ?_ | refine g_pu rfl rfl rfl (pu_lss_f rfl rfl rfl (by omega)) ?_ | refine g_pu rfl rfl rfl (pu_lss rfl rfl rfl) ?_
          first | refine g_pu rfl rfl rfl (pu_pick_t rfl rfl rfl) ?_ | refine g_pu rfl rfl rfl (pu_pick_f rfl rfl rfl) ?_
          refine g_pu rfl rfl rfl (pu_move rfl rfl) ?_
          first | refine g_pass rfl rfl rfl ?_ | refine g_pu rfl rfl rfl (pu_fieldAddr (by decide) rfl rfl) ?_
          first | refine g_pass rfl rfl rfl ?_ | refine g_pu rfl rfl rfl (pu_load 7 (v := .int .i64 y.fl) rfl rfl rfl hc67) ?_
          first | refine g_pass rfl rfl rfl ?_ | refine g_pu rfl rfl rfl (pu_gtr_t rfl rfl rfl (by omega)) ?_ | refine g_pu rfl rfl rfl (pu_gtr_f rfl rfl rfl (by omega)) ?_ | refine g_pu rfl rfl rfl (pu_gtr rfl rfl rfl) ?_
          first | refine g_pu rfl rfl rfl (pu_pick_t rfl rfl rfl) ?_ | refine g_pu rfl rfl rfl (pu_pick_f rfl rfl rfl) ?_
          refine g_nil ?_
          (repeat refine g_seq ?_)
          refine g_cond_t rfl ?_
          (repeat refine g_seq ?_)
          refine g_region ?_
          refine g_pu rfl rfl rfl (pu_assign rfl rfl) ?_
          refine g_pu rfl rfl rfl (pu_assign rfl rfl) ?_
          refine g_nil ?_
          refine g_nilOwn 90 28 20 rfl ?_
          exact g_ret2 rfl rfl rfl (fun w' hm => ⟨⟨none, 0⟩, trivial, rfl, hm.grows [90] ⟨rfl, trivial⟩ rfl⟩))
      | false =>
        have hb' := of_decide_eq_false hb
        (repeat refine g_seq ?_)
        refine g_region ?_
        refine g_pu rfl rfl rfl (pu_fieldAddr (by decide) rfl rfl) ?_
        refine g_pu rfl rfl rfl (pu_load 7 (v := .int .i64 y.dl) rfl rfl rfl hc66) ?_
        first | refine g_pu rfl rfl rfl (pu_lss_t rfl rfl rfl (by omega)) ?_ | refine g_pu rfl rfl rfl (pu_lss_f rfl rfl rfl (by omega)) ?_ | refine g_pu rfl rfl rfl (pu_lss rfl rfl rfl) ?_
        refine g_pu rfl rfl rfl (pu_move rfl rfl) ?_
        first | refine g_pass rfl rfl rfl ?_ | refine g_pu rfl rfl rfl (pu_fieldAddr (by decide) rfl rfl) ?_
        refine g_pu rfl rfl rfl (pu_load 7 (v := .int .i64 y.dl) rfl rfl rfl hc66) ?_
        first | refine g_pass rfl rfl rfl ?_ | refine g_pu rfl rfl rfl (pu_gtr_t rfl rfl rfl (by omega)) ?_ | refine g_pu rfl rfl rfl (pu_gtr_f rfl rfl rfl (by omega)) ?_ | refine g_pu rfl rfl rfl (pu_gtr rfl rfl rfl) ?_
        first | refine g_pu rfl rfl rfl (pu_pick_t rfl rfl rfl) ?_ | refine g_pu rfl rfl rfl (pu_pick_f rfl rfl rfl) ?_
        refine g_pu rfl rfl rfl (pu_move rfl rfl) ?_
        first | refine g_pass rfl rfl rfl ?_ | refine g_pu rfl rfl rfl (pu_fieldAddr (by decide) rfl rfl) ?_
        refine g_pu rfl rfl rfl (pu_load 7 (v := .int .i64 y.fl) rfl rfl rfl hc67) ?_
        first | refine g_pass rfl rfl rfl ?_ | refine g_pu rfl rfl rfl (pu_lss_t rfl rfl rfl (by omega)) ?_ | refine g_pu rfl rfl rfl (pu_lss_f rfl rfl rfl (by omega)) ?_ | refine g_pu rfl rfl rfl (pu_lss rfl rfl rfl) ?_
        first | refine g_pu rfl rfl rfl (pu_pick_t rfl rfl rfl) ?_ | refine g_pu rfl rfl rfl (pu_pick_f rfl rfl rfl) ?_
        refine g_pu rfl rfl rfl (pu_move rfl rfl) ?_
        first | refine g_pass rfl rfl rfl ?_ | refine g_pu rfl rfl rfl (pu_fieldAddr (by decide) rfl rfl) ?_
        refine g_pu rfl rfl rfl (pu_load 7 (v := .int .i64 y.fl) rfl rfl rfl hc67) ?_
        first | refine g_pass rfl rfl rfl ?_ | refine g_pu rfl rfl rfl (pu_gtr_t rfl rfl rfl (by omega)) ?_ | refine g_pu rfl rfl rfl (pu_gtr_f rfl rfl rfl (by omega)) ?_ | refine g_pu rfl rfl rfl (pu_gtr rfl rfl rfl) ?_
        first | refine g_pu rfl rfl rfl (pu_pick_t rfl rfl rfl) ?_ | refine g_pu rfl rfl rfl (pu_pick_f rfl rfl rfl) ?_
        refine g_nil ?_
        (repeat refine g_seq ?_)
        refine g_cond_f rfl (g_skip ?_)
        refine g_blk ?_
        (repeat refine g_seq ?_)
        refine g_region ?_
        refine g_pu rfl rfl rfl (pu_addI rfl rfl rfl (by omega)) ?_
        refine g_pu rfl rfl rfl (pu_move rfl rfl) ?_
        refine g_nil ?_
        refine g_round (i + 1) ⟨by omega, fun h hh => ?_⟩ (by omega) ⟨rfl, rfl, rfl, rfl, rfl, trivial⟩ ⟨rfl, trivial⟩
        rw [List.take_add_one, h1] at hh
        rcases List.mem_append.1 hh with hh | hh
        · exact hgood h hh
        · obtain rfl : h = y := by simpa using hh
          exact hb
    · (repeat refine g_seq ?_)
      refine g_region ?_
      first | refine g_pu rfl rfl rfl (pu_lss_t rfl rfl rfl (by omega)) ?_ | refine g_pu rfl rfl rfl (pu_lss_f rfl rfl rfl (by omega)) ?_ | refine g_pu rfl rfl rfl (pu_lss rfl rfl rfl) ?_
      refine g_nil ?_
      (repeat refine g_seq ?_)
      refine g_cond_f rfl (g_exit rfl ?_)
      have e1 : m = i := by omega
      subst e1
      rw [List.take_of_length_le (by omega)] at hgood
      by_cases hlen : hs.length < 1 ∨ hs.length > 5
      · have hE : pathE x hs = 2 := pathE_len hk hgood hlen
        rw [pathL_ne hE (by decide), hE]
        rcases hlen with hlen | hlen
        · (repeat refine g_seq ?_)
          refine g_region ?_
          refine g_pu rfl rfl rfl (pu_move rfl rfl) ?_
          first | refine g_pu rfl rfl rfl (pu_len rfl rfl) ?_ | refine g_pu rfl rfl rfl (pu_lenS rfl rfl) ?_
          first | refine g_pu rfl rfl rfl (pu_lss_t rfl rfl rfl (by omega)) ?_ | refine g_pu rfl rfl rfl (pu_lss_f rfl rfl rfl (by omega)) ?_ | refine g_pu rfl rfl rfl (pu_lss rfl rfl rfl) ?_
          refine g_pu rfl rfl rfl (pu_move rfl rfl) ?_
          first | refine g_pass rfl rfl rfl ?_ | refine g_pu rfl rfl rfl (pu_move rfl rfl) ?_
          first | refine g_pass rfl rfl rfl ?_ | refine g_pu rfl rfl rfl (pu_len rfl rfl) ?_ | refine g_pu rfl rfl rfl (pu_lenS rfl rfl) ?_
          first | refine g_pass rfl rfl rfl ?_ | refine g_pu rfl rfl rfl (pu_gtr_t rfl rfl rfl (by omega)) ?_ | refine g_pu rfl rfl rfl (pu_gtr_f rfl rfl rfl (by omega)) ?_ | refine g_pu rfl rfl rfl (pu_gtr rfl rfl rfl) ?_
          first | refine g_pu rfl rfl rfl (pu_pick_t rfl rfl rfl) ?_ | refine g_pu rfl rfl rfl (pu_pick_f rfl rfl rfl) ?_
          refine g_nil ?_
          (repeat refine g_seq ?_)
          refine g_cond_t rfl ?_
          (repeat refine g_seq ?_)
          refine g_region ?_
          refine g_pu rfl rfl rfl (pu_assign rfl rfl) ?_
          refine g_pu rfl rfl rfl (pu_assign rfl rfl) ?_
          refine g_nil ?_
          refine g_nilOwn 90 28 20 rfl ?_
          exact g_ret2 rfl rfl rfl (fun w' hm => ⟨⟨none, 0⟩, trivial, rfl, hm.grows [90] ⟨rfl, trivial⟩ rfl⟩)
        · (repeat refine g_seq ?_)
          refine g_region ?_
          refine g_pu rfl rfl rfl (pu_move rfl rfl) ?_
          first | refine g_pu rfl rfl rfl (pu_len rfl rfl) ?_ | refine g_pu rfl rfl rfl (pu_lenS rfl rfl) ?_
          first | refine g_pu rfl rfl rfl (pu_lss_t rfl rfl rfl (by omega)) ?_ | refine g_pu rfl rfl rfl (pu_lss_f rfl rfl rfl (by omega)) ?_ | refine g_pu rfl rfl rfl (pu_lss rfl rfl rfl) ?_
          refine g_pu rfl rfl rfl (pu_move rfl rfl) ?_
          first | refine g_pass rfl rfl rfl ?_ | refine g_pu rfl rfl rfl (pu_move rfl rfl) ?_
          first | refine g_pass rfl rfl rfl ?_ | refine g_pu rfl rfl rfl (pu_len rfl rfl) ?_ | refine g_pu rfl rfl rfl (pu_lenS rfl rfl) ?_
          first | refine g_pass rfl rfl rfl ?_ | refine g_pu rfl rfl rfl (pu_gtr_t rfl rfl rfl (by omega)) ?_ | refine g_pu rfl rfl rfl (pu_gtr_f rfl rfl rfl (by omega)) ?_ | refine g_pu rfl rfl rfl (pu_gtr rfl rfl rfl) ?_
          first | refine g_pu rfl rfl rfl (pu_pick_t rfl rfl rfl) ?_ | refine g_pu rfl rfl rfl (pu_pick_f rfl rfl rfl) ?_
          refine g_nil ?_
          (repeat refine g_seq ?_)
          refine g_cond_t rfl ?_
          (repeat refine g_seq ?_)
          refine g_region ?_
          refine g_pu rfl rfl rfl (pu_assign rfl rfl) ?_
          refine g_pu rfl rfl rfl (pu_assign rfl rfl) ?_
          refine g_nil ?_
          refine g_nilOwn 90 28 20 rfl ?_
          exact g_ret2 rfl rfl rfl (fun w' hm => ⟨⟨none, 0⟩, trivial, rfl, hm.grows [90] ⟨rfl, trivial⟩ rfl⟩)
      · (repeat refine g_seq ?_)
        refine g_region ?_
        refine g_pu rfl rfl rfl (pu_move rfl rfl) ?_
        first | refine g_pu rfl rfl rfl (pu_len rfl rfl) ?_ | refine g_pu rfl rfl rfl (pu_lenS rfl rfl) ?_
        first | refine g_pu rfl rfl rfl (pu_lss_t rfl rfl rfl (by omega)) ?_ | refine g_pu rfl rfl rfl (pu_lss_f rfl rfl rfl (by omega)) ?_ | refine g_pu rfl rfl rfl (pu_lss rfl rfl rfl) ?_
        refine g_pu rfl rfl rfl (pu_move rfl rfl) ?_
        first | refine g_pass rfl rfl rfl ?_ | refine g_pu rfl rfl rfl (pu_move rfl rfl) ?_
        first | refine g_pass rfl rfl rfl ?_ | refine g_pu rfl rfl rfl (pu_len rfl rfl) ?_ | refine g_pu rfl rfl rfl (pu_lenS rfl rfl) ?_
        first | refine g_pass rfl rfl rfl ?_ | refine g_pu rfl rfl rfl (pu_gtr_t rfl rfl rfl (by omega)) ?_ | refine g_pu rfl rfl rfl (pu_gtr_f rfl rfl rfl (by omega)) ?_ | refine g_pu rfl rfl rfl (pu_gtr rfl rfl rfl) ?_
        first | refine g_pu rfl rfl rfl (pu_pick_t rfl rfl rfl) ?_ | refine g_pu rfl rfl rfl (pu_pick_f rfl rfl rfl) ?_
        refine g_nil ?_
        (repeat refine g_seq ?_)
        refine g_cond_f rfl (g_skip ?_)
        (repeat refine g_seq ?_)
        refine g_region ?_
        refine g_pu rfl rfl rfl (pu_assign rfl rfl) ?_
        refine g_nil ?_
        (repeat refine g_seq ?_)
        refine g_region ?_
        refine g_pu rfl rfl rfl (pu_move rfl rfl) ?_
        first | refine g_pu rfl rfl rfl (pu_len rfl rfl) ?_ | refine g_pu rfl rfl rfl (pu_lenS rfl rfl) ?_
        refine g_pu rfl rfl rfl (pu_move rfl rfl) ?_
        refine g_nil ?_
        refine g_nilOwn 90 28 20 rfl ?_
        have hpl := pcmds_length x hs
        have hp16 := pcmds_16 h16 (hs := hs)
        refine g_block (g_loop2 (fun (i : Nat) (y : Ow) => [(1, .slice q m d), (2, .pointer (some ⟨b2, 0, none⟩)), (8, y.sl i), (54, .slice q m d), (55, .int .i64 (m : Int)), (56, .int .i64 (i : Int))]) (fun i y => [(2, .pt b2 (.cells (cmdC x).toArray 28 (0, 0))), (90, y.ck 28 20 (cmdsC ((pcmds x hs).take i)))]) (fun i _ => i ≤ m ∧ ∀ c ∈ (pcmds x hs).take i, chkE c = 0) (fun i _ => m - i) 0 ⟨none, 0⟩ ⟨rfl, rfl, rfl, rfl, rfl, rfl, trivial⟩ ⟨rfl, rfl, trivial⟩ ⟨by omega, fun h hh => by simp at hh⟩ ?_)
        intro i y ⟨hi, hgood2⟩
        by_cases hlt : i < m
        · (repeat refine g_seq ?_)
          refine g_region ?_
          first | refine g_pu rfl rfl rfl (pu_lss_t rfl rfl rfl (by omega)) ?_ | refine g_pu rfl rfl rfl (pu_lss_f rfl rfl rfl (by omega)) ?_ | refine g_pu rfl rfl rfl (pu_lss rfl rfl rfl) ?_
          refine g_nil ?_
          (repeat refine g_seq ?_)
          refine g_cond_t rfl (g_skip ?_)
          have h1 : hs[i]? = some hs[i] := List.getElem?_eq_getElem (by omega)
          have hxo := ho hs[i] (List.getElem_mem (by omega))
          have hmem : hs[i] ∈ hs := List.getElem_mem (by omega)
          generalize hs[i] = h at h1 hxo hmem
          have hb := hgood h hmem
          have hhl2 := hopC_length hxo
          have hg := hopsC_get ho h1
          have hc66 : (hopC h).toArray[0 + 66]? = some (.int .i64 h.dl) := by rw [List.getElem?_toArray]; exact hop_cell66 hxo
          have hc67 : (hopC h).toArray[0 + 67]? = some (.int .i64 h.fl) := by rw [List.getElem?_toArray]; exact hop_cell67 hxo
          have hpg := pcmds_get x h1
          have hpm : pcmd x h hs[i + 1]? ∈ pcmds x hs := List.mem_of_getElem? hpg
          have hpl16 := hp16 _ hpm
          have htl : (cmdsC ((pcmds x hs).take i)).length = i * 20 := cmdsC_take hp16 (by omega)
          have hA := cmdsC_at hpg
          (repeat refine g_seq ?_); refine g_block ?_
          (repeat refine g_seq ?_)
          refine g_region ?_
          refine g_pu rfl rfl rfl (pu_move rfl rfl) ?_
          refine g_pu rfl rfl rfl (pu_atM i (s := 68) (L := hopsC hs) (fun w' hm => hq.mem0 hm) rfl rfl rfl rfl hlt (by omega)) ?_
          refine g_pu rfl rfl rfl (pu_rdMA (L := hopsC hs) (j := i * 68) (s := 68) (fun w' hm => hq.mem0 hm) rfl rfl (by omega) (by omega)) ?_
          rw [hg]
          refine g_lo [10] rfl rfl rfl rfl (lo_alloc rfl) (fun b10 hb10 => ?_)
          refine g_pu rfl rfl rfl (pu_assign rfl rfl) ?_
          refine g_storeL 10 (s := 68) (C := hopC h) rfl rfl rfl rfl rfl rfl hhl2 rfl (oneCell_hop h) ?_
          refine g_nil ?_
          (repeat refine g_seq ?_)
          refine g_region ?_
          refine g_pu rfl rfl rfl (pu_fieldAddr (by decide) rfl rfl) ?_
          refine g_pu rfl rfl rfl (pu_load 2 (v := b8 x.k) rfl rfl rfl rfl) ?_
          refine g_pu rfl rfl rfl (pu_fieldAddr (by decide) rfl rfl) ?_
          refine g_pu rfl rfl rfl (pu_load 2 (v := b64 x.n) rfl rfl rfl rfl) ?_
          refine g_pu rfl rfl rfl (pu_fieldAddr (by decide) rfl rfl) ?_
          refine g_pu rfl rfl rfl (pu_loadE 2 (bs x.m).toArray rfl rfl rfl (show 0 + 4 + 16 ≤ (cmdC x).toArray.size by rw [List.size_toArray]; omega) (ext_mark h16)) ?_
          refine g_pu rfl rfl rfl (pu_buildS (cs := cmdC ⟨x.k, 0#8, 0#32, x.n, x.m⟩) rfl rfl (fillLast h16)) ?_
          refine g_lo [11] rfl rfl rfl rfl (lo_alloc rfl) (fun b11 hb11 => ?_)
          refine g_storeL 11 (s := 20) (C := cmdC ⟨x.k, 0#8, 0#32, x.n, x.m⟩) rfl rfl rfl rfl rfl rfl (cmdC_length h16) rfl (oneCell_cmd _) ?_
          refine g_nil ?_
          (repeat refine g_seq ?_)
          refine g_region ?_
          refine g_pu rfl rfl rfl (pu_move rfl rfl) ?_
          refine g_pu rfl rfl rfl (pu_addI rfl rfl rfl (by omega)) ?_
          refine g_pu rfl rfl rfl (pu_move rfl rfl) ?_
          first | refine g_pu rfl rfl rfl (pu_len rfl rfl) ?_ | refine g_pu rfl rfl rfl (pu_lenS rfl rfl) ?_
          first | refine g_pu rfl rfl rfl (pu_lss_t rfl rfl rfl (by omega)) ?_ | refine g_pu rfl rfl rfl (pu_lss_f rfl rfl rfl (by omega)) ?_ | refine g_pu rfl rfl rfl (pu_lss rfl rfl rfl) ?_
          refine g_nil ?_
          refine g_join (σ := Cmd) (fun c => [(1, .slice q m d), (2, .pointer (some ⟨b2, 0, none⟩)), (8, y.sl i), (54, .slice q m d), (55, .int .i64 (m : Int)), (56, .int .i64 (i : Int)), (10, .pointer (some ⟨b10, 0, none⟩)), (11, .pointer (some ⟨b11, 0, none⟩))]) (fun c => [(2, .pt b2 (.cells (cmdC x).toArray 28 (0, 0))), (90, y.ck 28 20 (cmdsC ((pcmds x hs).take i))), (10, .pt b10 (.cells (hopC h).toArray 71 (0, 0))), (11, .pt b11 (.cells (cmdC c).toArray 28 (0, 0)))]) (fun c => pcmd x h hs[i + 1]? = ⟨c.k, BitVec.ofInt 8 h.fl, BitVec.ofInt 32 h.dl, c.n, c.m⟩) ?_ ?_
          · by_cases hlast : i + 1 < m
            · have h2 : hs[i + 1]? = some hs[i + 1] := List.getElem?_eq_getElem (by omega)
              generalize hs[i + 1] = z at h2
              have hz := hopsC_cell ho h2 (hop_cell1 z)
              refine g_cond_t (by rw [← decide_eq_true (show ((i : Int) + 1 < (m : Int)) by omega)]; rfl) ?_
              (repeat refine g_seq ?_)
              refine g_region ?_
              refine g_pu rfl rfl rfl (pu_move rfl rfl) ?_
              refine g_pu rfl rfl rfl (pu_move rfl rfl) ?_
              refine g_pu rfl rfl rfl (pu_addI rfl rfl rfl (by omega)) ?_
              refine g_pu rfl rfl rfl (pu_atM (i + 1) (s := 68) (L := hopsC hs) (fun w' hm => hq.mem0 hm) rfl rfl rfl (by omega) hlast (by omega)) ?_
              refine g_pu rfl rfl rfl (pu_fieldM (L := hopsC hs) (fun w' hm => hq.mem0 hm) (by omega) (by decide) rfl rfl) ?_
              refine g_pu rfl rfl rfl (pu_fieldM (L := hopsC hs) (fun w' hm => hq.mem0 hm) (by omega) (by decide) rfl rfl) ?_
              refine g_pu rfl rfl rfl (pu_fieldM (L := hopsC hs) (fun w' hm => hq.mem0 hm) (by omega) (by decide) rfl rfl) ?_
              refine g_pu rfl rfl rfl (pu_rdM (L := hopsC hs) (v := b64 z.id) (fun w' hm => hq.mem0 hm) rfl rfl hz) ?_
              refine g_pu rfl rfl rfl (pu_buildS (cs := cmdC ⟨1#8, 0#8, 0#32, z.id, zero16⟩) rfl rfl (fillNext z.id)) ?_
              refine g_storeL 11 (s := 20) (C := cmdC ⟨1#8, 0#8, 0#32, z.id, zero16⟩) rfl rfl rfl rfl rfl rfl (cmdC_length rfl) (cmdC_length h16) (oneCell_cmd _) ?_
              refine g_nil ?_
              exact g_meet (⟨1#8, 0#8, 0#32, z.id, zero16⟩ : Cmd) (by rw [h2]; rfl) ⟨rfl, rfl, rfl, rfl, rfl, rfl, rfl, rfl, trivial⟩ ⟨rfl, rfl, rfl, rfl, trivial⟩
            · have h2 : hs[i + 1]? = none := List.getElem?_eq_none (by omega)
              refine g_cond_f (by rw [← decide_eq_false (show ¬ ((i : Int) + 1 < (m : Int)) by omega)]; rfl) ?_
              refine g_skip ?_
              exact g_meet (⟨x.k, 0#8, 0#32, x.n, x.m⟩ : Cmd) (by rw [h2]; rfl) ⟨rfl, rfl, rfl, rfl, rfl, rfl, rfl, rfl, trivial⟩ ⟨rfl, rfl, rfl, rfl, trivial⟩
          · intro c hc
            (repeat refine g_seq ?_)
            refine g_anyK [(10, .pt b10 (.cells (hopC h).toArray 71 (0, 0)))] ?_
            refine a_puK 0 rfl rfl rfl rfl ⟨rfl, trivial⟩ (pu_fieldAddr (by decide) rfl rfl) (by kernel_rfl) ?_
            refine a_puK 1 rfl rfl rfl rfl ⟨rfl, trivial⟩ (pu_load 10 (v := .int .i64 h.dl) rfl rfl rfl hc66) (by kernel_rfl) ?_
            refine a_puK 2 rfl rfl rfl rfl ⟨rfl, trivial⟩ (pu_convI_32 rfl rfl) (by kernel_rfl) ?_
            refine a_puK 3 rfl rfl rfl rfl ⟨rfl, trivial⟩ (pu_fieldAddr (by decide) rfl rfl) (by kernel_rfl) ?_
            refine a_puK 4 rfl rfl rfl rfl ⟨rfl, trivial⟩ (pu_load 10 (v := .int .i64 h.fl) rfl rfl rfl hc67) (by kernel_rfl) ?_
            refine a_puK 5 rfl rfl rfl rfl ⟨rfl, trivial⟩ (pu_convI_8 rfl rfl) (by kernel_rfl) ?_
            refine a_puK 6 rfl rfl rfl rfl ⟨rfl, trivial⟩ (pu_fieldAddr (by decide) rfl rfl) (by kernel_rfl) ?_
            refine a_stK 7 rfl rfl rfl (st_store 11 (L := cmdC c) rfl rfl rfl rfl rfl (by simp [cmdC])) ⟨rfl, trivial⟩ (by kernel_rfl) ?_
            refine a_puK 8 rfl rfl rfl rfl ⟨rfl, trivial⟩ (pu_fieldAddr (by decide) rfl rfl) (by kernel_rfl) ?_
            refine a_stK 9 rfl rfl rfl (st_store 11 (L := cmdC ⟨c.k, c.f, BitVec.ofInt 32 h.dl, c.n, c.m⟩) rfl rfl rfl rfl rfl (by simp [cmdC])) ⟨rfl, trivial⟩ (by kernel_rfl) ?_
            refine a_doneK (by kernel_rfl) ?_
            generalize hP : pcmd x h hs[i + 1]? = P at hc hpg hpm hpl16 hA
            have hPl := cmdC_length hpl16
            refine g_recast 11 (.pt b11 (.cells (cmdC ⟨c.k, BitVec.ofInt 8 h.fl, BitVec.ofInt 32 h.dl, c.n, c.m⟩).toArray 28 (0, 0))) (.pt b11 (.cells (cmdC P).toArray 28 (0, 0))) rfl (fun w' hw' => by rw [hc]; exact hw') trivial (fun j hj => hj) ?_
            by_cases h0 : chkE P = 0
            · (repeat refine g_seq ?_)
              refine g_region ?_
              refine g_pu rfl rfl rfl (pu_loadW 11 (L := cmdC P) rfl rfl rfl hPl) ?_
              refine g_call [] rfl rfl rfl rfl rfl rfl (fun w' hm => Check_b w' P hpl16) (fun _ _ => ?_)
              refine g_pu rfl rfl rfl (pu_assign rfl rfl) ?_
              refine g_nil ?_
              (repeat refine g_seq ?_)
              refine g_region ?_
              refine g_pu rfl rfl rfl (pu_move rfl rfl) ?_
              refine g_pu rfl rfl rfl (pu_neq_f rfl rfl rfl (by omega)) ?_
              refine g_nil ?_
              (repeat refine g_seq ?_)
              refine g_cond_f rfl (g_skip ?_)
              have hsq : seqCells 20 0 [(0, Value.agg (cmdC P).toArray)] = some (cmdC P) := by simp [seqCells, Value.cells, hPl]
              (repeat refine g_seq ?_)
              refine g_region ?_
              refine g_pu rfl rfl rfl (pu_move rfl rfl) ?_
              refine g_pu rfl rfl rfl (pu_loadW 11 (L := cmdC P) rfl rfl rfl hPl) ?_
              refine g_lo [97] rfl rfl rfl rfl (lo_buildSlice rfl rfl (by decide) (by decide) rfl hsq) (fun b97 hb97 => ?_)
              refine g_append 90 (s := 20) (cmdC P) rfl rfl rfl (by omega) rfl rfl rfl rfl rfl htl (fun w' hm => hm.rowA 97 rfl) hPl (oneCell_cmd P) (by omega) (by omega) (fun p' c' => ?_)
              rw [← hA]
              refine g_pu rfl rfl rfl (pu_assign rfl rfl) ?_
              refine g_nil ?_
              refine g_blk ?_
              (repeat refine g_seq ?_)
              refine g_region ?_
              refine g_pu rfl rfl rfl (pu_addI rfl rfl rfl (by omega)) ?_
              refine g_pu rfl rfl rfl (pu_move rfl rfl) ?_
              refine g_nil ?_
              refine g_round2 (i + 1) (⟨p', c'⟩ : Ow) ⟨by omega, fun u hu => ?_⟩ (by omega) ⟨rfl, rfl, rfl, rfl, rfl, rfl, trivial⟩ ⟨rfl, rfl, trivial⟩
              rw [List.take_add_one, hpg] at hu
              rcases List.mem_append.1 hu with hu | hu
              · exact hgood2 u hu
              · obtain rfl : u = P := by simpa using hu
                exact h0
            · have hE : pathE x hs = 3 := pathE_bad hk hgood hlen hpm h0
              have h3 : chkE P = 3 := by rw [← hP] at h0 ⊢; exact chk_3 hk hb h0
              rw [pathL_ne hE (by decide), hE]
              (repeat refine g_seq ?_)
              refine g_region ?_
              refine g_pu rfl rfl rfl (pu_loadW 11 (L := cmdC P) rfl rfl rfl hPl) ?_
              refine g_call [] rfl rfl rfl rfl rfl rfl (fun w' hm => Check_b w' P hpl16) (fun _ _ => ?_)
              rw [h3]
              refine g_pu rfl rfl rfl (pu_assign rfl rfl) ?_
              refine g_nil ?_
              (repeat refine g_seq ?_)
              refine g_region ?_
              refine g_pu rfl rfl rfl (pu_move rfl rfl) ?_
              first | refine g_pu rfl rfl rfl (pu_neq_t rfl rfl rfl (by omega)) ?_ | refine g_pu rfl rfl rfl (pu_neq_f rfl rfl rfl (by omega)) ?_ | refine g_pu rfl rfl rfl (pu_neq rfl rfl rfl) ?_
              refine g_nil ?_
              (repeat refine g_seq ?_)
              refine g_cond_t rfl ?_
              (repeat refine g_seq ?_)
              refine g_region ?_
              refine g_pu rfl rfl rfl (pu_move rfl rfl) ?_
              refine g_pu rfl rfl rfl (pu_assign rfl rfl) ?_
              refine g_pu rfl rfl rfl (pu_assign rfl rfl) ?_
              refine g_nil ?_
              refine g_nilOwn 91 28 20 rfl ?_
              exact g_ret2 rfl rfl rfl (fun w' hm => ⟨⟨none, 0⟩, trivial, rfl, hm.grows [91] ⟨rfl, trivial⟩ rfl⟩)
        · (repeat refine g_seq ?_)
          refine g_region ?_
          first | refine g_pu rfl rfl rfl (pu_lss_t rfl rfl rfl (by omega)) ?_ | refine g_pu rfl rfl rfl (pu_lss_f rfl rfl rfl (by omega)) ?_ | refine g_pu rfl rfl rfl (pu_lss rfl rfl rfl) ?_
          refine g_nil ?_
          (repeat refine g_seq ?_)
          refine g_cond_f rfl (g_exit rfl ?_)
          have e1 : m = i := by omega
          subst e1
          rw [List.take_of_length_le (by omega)] at hgood2 ⊢
          have hE : pathE x hs = 0 := pathE_ok hk hgood hlen hgood2
          have hL : pathL x hs = pcmds x hs := if_pos hE
          rw [hL, hE, hpl, hn]
          (repeat refine g_seq ?_)
          refine g_region ?_
          refine g_pu rfl rfl rfl (pu_move rfl rfl) ?_
          refine g_pu rfl rfl rfl (pu_assign rfl rfl) ?_
          refine g_pu rfl rfl rfl (pu_assign rfl rfl) ?_
          refine g_nil ?_
          exact g_ret2 rfl rfl rfl (fun w' hm => ⟨y, trivial, rfl, hm.grows [90] ⟨rfl, trivial⟩ rfl⟩)
end Go.Sx

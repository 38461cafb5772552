/-
  The commands of a route, of the document. Each mark has 16 bytes, each key 32.
-/
import Derived.Test.YtbnfocnhmpegjaaCM9
set_option linter.unusedVariables false
set_option linter.unusedSimpArgs false
namespace Go.Sx
open Go Go.Proofs

theorem fillHop (f : BitVec 8) (d : BitVec 32) : Instr.fill (fun i => [(0, 1), (1, 1), (2, 1), (3, 1), (4, 16)][i]?) (cmdC zeroCmd).toArray [(0, b8 1#8), (1, b8 f), (2, b32 d)] = some (cmdC ⟨1#8, f, d, 0#64, zero16⟩).toArray := by kernel_rfl
theorem cmd_mark_set {k : BitVec 8} {f : BitVec 8} {d : BitVec 32} {n : BitVec 64} {m m' : List (BitVec 8)} (h : m.length = 16) : (cmdC ⟨k, f, d, n, m⟩).take (0 + 4) ++ bs m' ++ (cmdC ⟨k, f, d, n, m⟩).drop (0 + 4 + 16) = cmdC ⟨k, f, d, n, m'⟩ := by
  rw [List.drop_of_length_le (by rw [cmdC_length h]; omega), List.append_nil]
  rfl

theorem RPath_b (w : World) (x : Cmd) (h16 : x.m.length = 16) {q : Option Addr} {m : Nat} (d : Nat) {hs : List Hop} (hq : RdV w q (hopsC hs)) (hn : hs.length = m) (ho : ∀ h ∈ hs, h.ok) (hmb : m ≤ 1353245080300) :
    Spec Try.prog 14 #[.agg (cmdC x).toArray, .slice q m d] w (σ := Ow) (fun _ => True) (fun y => .tuple #[y.sl (pathL x hs).length, .int .i64 (pathE x hs)]) Nob (fun y => [y.ck 28 20 (cmdsC (pathL x hs))]) := by
  refine enter Try.func14 rfl rfl (Mem.start w) ?_
  have hcl := cmdC_length h16
  have hhl := hopsC_length ho
  (repeat refine g_seq ?_)
  refine g_region ?_
  refine g_lo [2] rfl rfl rfl rfl (lo_box rfl rfl) (fun b2 hb2 => ?_)
  refine g_pu rfl rfl rfl (pu_assign rfl rfl) ?_
  refine g_pu rfl rfl rfl (pu_assign rfl rfl) ?_
  refine g_nil ?_
  by_cases hk : x.k.toNat < 2 ∨ x.k.toNat > 4
  · have hE : pathE x hs = 1 := pathE_kind hk
    rw [pathL_ne hE (by decide), hE]
    rcases hk with hk | hk
    · (repeat refine g_seq ?_)
      refine g_region ?_
      refine g_pu rfl rfl rfl (pu_fieldAddr (by decide) rfl rfl) ?_
      refine g_pu rfl rfl rfl (pu_load 2 rfl rfl rfl rfl) ?_
      refine g_pu rfl rfl rfl (pu_lss_t rfl rfl rfl (by omega)) ?_
      refine g_pu rfl rfl rfl (pu_move rfl rfl) ?_
      first | refine g_pass rfl rfl rfl ?_ | refine g_pu rfl rfl rfl (pu_fieldAddr (by decide) rfl rfl) ?_
      first | refine g_pass rfl rfl rfl ?_ | refine g_pu rfl rfl rfl (pu_load 2 rfl rfl rfl rfl) ?_
      first | refine g_pass rfl rfl rfl ?_ | refine g_pu rfl rfl rfl (pu_gtr rfl rfl rfl) ?_
      first | refine g_pu rfl rfl rfl (pu_pick_t rfl rfl rfl) ?_ | refine g_pu rfl rfl rfl (pu_pick_f rfl rfl rfl) ?_
      refine g_nil ?_
      (repeat refine g_seq ?_)
      refine g_cond_t rfl ?_
      (repeat refine g_seq ?_)
      refine g_region ?_
      refine g_pu rfl rfl rfl (pu_assign rfl rfl) ?_
      refine g_pu rfl rfl rfl (pu_assign rfl rfl) ?_
      refine g_nil ?_
      refine g_nilOwn 90 28 20 rfl ?_
      exact g_ret2 rfl rfl rfl (fun w' hm => ⟨⟨none, 0⟩, trivial, rfl, hm.grows [90] ⟨rfl, trivial⟩ rfl⟩)
    · (repeat refine g_seq ?_)
      refine g_region ?_
      refine g_pu rfl rfl rfl (pu_fieldAddr (by decide) rfl rfl) ?_
      refine g_pu rfl rfl rfl (pu_load 2 rfl rfl rfl rfl) ?_
      refine g_pu rfl rfl rfl (pu_lss_f rfl rfl rfl (by omega)) ?_
      refine g_pu rfl rfl rfl (pu_move rfl rfl) ?_
      first | refine g_pass rfl rfl rfl ?_ | refine g_pu rfl rfl rfl (pu_fieldAddr (by decide) rfl rfl) ?_
      first | refine g_pass rfl rfl rfl ?_ | refine g_pu rfl rfl rfl (pu_load 2 rfl rfl rfl rfl) ?_
      refine g_pu rfl rfl rfl (pu_gtr_t rfl rfl rfl (by omega)) ?_
      first | refine g_pu rfl rfl rfl (pu_pick_t rfl rfl rfl) ?_ | refine g_pu rfl rfl rfl (pu_pick_f rfl rfl rfl) ?_
      refine g_nil ?_
      (repeat refine g_seq ?_)
      refine g_cond_t rfl ?_
      (repeat refine g_seq ?_)
      refine g_region ?_
      refine g_pu rfl rfl rfl (pu_assign rfl rfl) ?_
      refine g_pu rfl rfl rfl (pu_assign rfl rfl) ?_
      refine g_nil ?_
      refine g_nilOwn 90 28 20 rfl ?_
      exact g_ret2 rfl rfl rfl (fun w' hm => ⟨⟨none, 0⟩, trivial, rfl, hm.grows [90] ⟨rfl, trivial⟩ rfl⟩)
  · (repeat refine g_seq ?_)
    refine g_region ?_
    refine g_pu rfl rfl rfl (pu_fieldAddr (by decide) rfl rfl) ?_
    refine g_pu rfl rfl rfl (pu_load 2 rfl rfl rfl rfl) ?_
    refine g_pu rfl rfl rfl (pu_lss_f rfl rfl rfl (by omega)) ?_
    refine g_pu rfl rfl rfl (pu_move rfl rfl) ?_
    first | refine g_pass rfl rfl rfl ?_ | refine g_pu rfl rfl rfl (pu_fieldAddr (by decide) rfl rfl) ?_
    first | refine g_pass rfl rfl rfl ?_ | refine g_pu rfl rfl rfl (pu_load 2 rfl rfl rfl rfl) ?_
    refine g_pu rfl rfl rfl (pu_gtr_f rfl rfl rfl (by omega)) ?_
    first | refine g_pu rfl rfl rfl (pu_pick_t rfl rfl rfl) ?_ | refine g_pu rfl rfl rfl (pu_pick_f rfl rfl rfl) ?_
    refine g_nil ?_
    (repeat refine g_seq ?_)
    refine g_cond_f rfl (g_skip ?_)
    (repeat refine g_seq ?_)
    refine g_region ?_
    refine g_pu rfl rfl rfl (pu_assign rfl rfl) ?_
    refine g_nil ?_
    refine g_block (g_loop (σ := Nat) (fun (i : Nat) => [(1, .slice q m d), (2, .pointer (some ⟨b2, 0, none⟩)), (6, .int .i64 (i : Int))]) (fun i => [(2, .pt b2 (.cells (cmdC x).toArray 28 (0, 0)))]) (fun i => i ≤ m ∧ ∀ h ∈ hs.take i, badHop h = false) (fun i => m - i) 0 ⟨rfl, rfl, rfl, trivial⟩ ⟨rfl, trivial⟩ ⟨by omega, fun h hh => by simp at hh⟩ ?_)
    intro i ⟨hi, hgood⟩
    by_cases hlt : i < m
    · (repeat refine g_seq ?_)
      refine g_region ?_
      refine g_pu rfl rfl rfl (pu_move rfl rfl) ?_
      refine g_pu rfl rfl rfl (pu_move rfl rfl) ?_
      first | refine g_pu rfl rfl rfl (pu_len rfl rfl) ?_ | refine g_pu rfl rfl rfl (pu_lenS rfl rfl) ?_
      first | refine g_pu rfl rfl rfl (pu_lss_t rfl rfl rfl (by omega)) ?_ | refine g_pu rfl rfl rfl (pu_lss_f rfl rfl rfl (by omega)) ?_ | refine g_pu rfl rfl rfl (pu_lss rfl rfl rfl) ?_
      refine g_nil ?_
      (repeat refine g_seq ?_)
      refine g_cond_t rfl (g_skip ?_)
      have h1 : hs[i]? = some hs[i] := List.getElem?_eq_getElem (by omega)
      have hxo := ho hs[i] (List.getElem_mem (by omega))
      have hmem : hs[i] ∈ hs := List.getElem_mem (by omega)
      generalize hs[i] = y at h1 hxo hmem
      have hc66 := hopsC_cell ho h1 (hop_cell66 hxo)
      have hc67 := hopsC_cell ho h1 (hop_cell67 hxo)
      (repeat refine g_seq ?_); refine g_block ?_
      cases hb : badHop y with
      | true =>
        have hE : pathE x hs = 1 := pathE_hop hk hmem hb
        rw [pathL_ne hE (by decide), hE]
        have hb := of_decide_eq_true hb
        by_cases h2 : y.dl < 0 <;> by_cases h3 : y.dl > 1000000 <;> by_cases h4 : y.fl < 0 <;> by_cases h5 : y.fl > 255 <;> first | (exfalso; omega) | (
          (repeat refine g_seq ?_)
          refine g_region ?_
          refine g_pu rfl rfl rfl (pu_move rfl rfl) ?_
          refine g_pu rfl rfl rfl (pu_move rfl rfl) ?_
          refine g_pu rfl rfl rfl (pu_atM i (s := 68) (L := hopsC hs) (fun w' hm => hq.mem0 hm) rfl rfl rfl rfl hlt (by omega)) ?_
          refine g_pu rfl rfl rfl (pu_fieldM (L := hopsC hs) (fun w' hm => hq.mem0 hm) (by omega) (by decide) rfl rfl) ?_
          refine g_pu rfl rfl rfl (pu_rdM (L := hopsC hs) (v := .int .i64 y.dl) (fun w' hm => hq.mem0 hm) rfl rfl hc66) ?_
          first | refine g_pu rfl rfl rfl (pu_lss_t rfl rfl rfl (by omega)) ?_ | refine g_pu rfl rfl rfl (pu_lss_f rfl rfl rfl (by omega)) ?_ | refine g_pu rfl rfl rfl (pu_lss rfl rfl rfl) ?_
          refine g_pu rfl rfl rfl (pu_move rfl rfl) ?_
          first | refine g_pass rfl rfl rfl ?_ | refine g_pu rfl rfl rfl (pu_move rfl rfl) ?_
          first | refine g_pass rfl rfl rfl ?_ | refine g_pu rfl rfl rfl (pu_move rfl rfl) ?_
          first | refine g_pass rfl rfl rfl ?_ | refine g_pu rfl rfl rfl (pu_atM i (s := 68) (L := hopsC hs) (fun w' hm => hq.mem0 hm) rfl rfl rfl rfl hlt (by omega)) ?_
          first | refine g_pass rfl rfl rfl ?_ | refine g_pu rfl rfl rfl (pu_fieldM (L := hopsC hs) (fun w' hm => hq.mem0 hm) (by omega) (by decide) rfl rfl) ?_
          first | refine g_pass rfl rfl rfl ?_ | refine g_pu rfl rfl rfl (pu_rdM (L := hopsC hs) (v := .int .i64 y.dl) (fun w' hm => hq.mem0 hm) rfl rfl hc66) ?_
          first | refine g_pass rfl rfl rfl ?_ | refine g_pu rfl rfl rfl (pu_gtr_t rfl rfl rfl (by omega)) ?_ | refine g_pu rfl rfl rfl (pu_gtr_f rfl rfl rfl (by omega)) ?_ | refine g_pu rfl rfl rfl (pu_gtr rfl rfl rfl) ?_
          first | refine g_pu rfl rfl rfl (pu_pick_t rfl rfl rfl) ?_ | refine g_pu rfl rfl rfl (pu_pick_f rfl rfl rfl) ?_
          refine g_pu rfl rfl rfl (pu_move rfl rfl) ?_
          first | refine g_pass rfl rfl rfl ?_ | refine g_pu rfl rfl rfl (pu_move rfl rfl) ?_
          first | refine g_pass rfl rfl rfl ?_ | refine g_pu rfl rfl rfl (pu_move rfl rfl) ?_
          first | refine g_pass rfl rfl rfl ?_ | refine g_pu rfl rfl rfl (pu_atM i (s := 68) (L := hopsC hs) (fun w' hm => hq.mem0 hm) rfl rfl rfl rfl hlt (by omega)) ?_
          first | refine g_pass rfl rfl rfl ?_ | refine g_pu rfl rfl rfl (pu_fieldM (L := hopsC hs) (fun w' hm => hq.mem0 hm) (by omega) (by decide) rfl rfl) ?_
          first | refine g_pass rfl rfl rfl ?_ | refine g_pu rfl rfl rfl (pu_rdM (L := hopsC hs) (v := .int .i64 y.fl) (fun w' hm => hq.mem0 hm) rfl rfl hc67) ?_
          first | refine g_pass rfl rfl rfl ?_ | refine g_pu rfl rfl rfl (pu_lss_t rfl rfl rfl (by omega)) ?_ | refine g_pu rfl rfl rfl (pu_lss_f rfl rfl rfl (by omega)) ?_ | refine g_pu rfl rfl rfl (pu_lss rfl rfl rfl) ?_
          first | refine g_pu rfl rfl rfl (pu_pick_t rfl rfl rfl) ?_ | refine g_pu rfl rfl rfl (pu_pick_f rfl rfl rfl) ?_
          refine g_pu rfl rfl rfl (pu_move rfl rfl) ?_
          first | refine g_pass rfl rfl rfl ?_ | refine g_pu rfl rfl rfl (pu_move rfl rfl) ?_
          first | refine g_pass rfl rfl rfl ?_ | refine g_pu rfl rfl rfl (pu_move rfl rfl) ?_
          first | refine g_pass rfl rfl rfl ?_ | refine g_pu rfl rfl rfl (pu_atM i (s := 68) (L := hopsC hs) (fun w' hm => hq.mem0 hm) rfl rfl rfl rfl hlt (by omega)) ?_
          first | refine g_pass rfl rfl rfl ?_ | refine g_pu rfl rfl rfl (pu_fieldM (L := hopsC hs) (fun w' hm => hq.mem0 hm) (by omega) (by decide) rfl rfl) ?_
          first | refine g_pass rfl rfl rfl ?_ | refine g_pu rfl rfl rfl (pu_rdM (L := hopsC hs) (v := .int .i64 y.fl) (fun w' hm => hq.mem0 hm) rfl rfl hc67) ?_
          first | refine g_pass rfl rfl rfl ?_ | refine g_pu rfl rfl rfl (pu_gtr_t rfl rfl rfl (by omega)) ?_ | refine g_pu rfl rfl rfl (pu_gtr_f rfl rfl rfl (by omega)) ?_ | refine g_pu rfl rfl rfl (pu_gtr rfl rfl rfl) ?_
          first | refine g_pu rfl rfl rfl (pu_pick_t rfl rfl rfl) ?_ | refine g_pu rfl rfl rfl (pu_pick_f rfl rfl rfl) ?_
          refine g_nil ?_
          (repeat refine g_seq ?_)
          refine g_cond_t rfl ?_
          (repeat refine g_seq ?_)
          refine g_region ?_
          refine g_pu rfl rfl rfl (pu_assign rfl rfl) ?_
          refine g_pu rfl rfl rfl (pu_assign rfl rfl) ?_
          refine g_nil ?_
          refine g_nilOwn 90 28 20 rfl ?_
          exact g_ret2 rfl rfl rfl (fun w' hm => ⟨⟨none, 0⟩, trivial, rfl, hm.grows [90] ⟨rfl, trivial⟩ rfl⟩))
      | false =>
        have hb' := of_decide_eq_false hb
        (repeat refine g_seq ?_)
        refine g_region ?_
        refine g_pu rfl rfl rfl (pu_move rfl rfl) ?_
        refine g_pu rfl rfl rfl (pu_move rfl rfl) ?_
        refine g_pu rfl rfl rfl (pu_atM i (s := 68) (L := hopsC hs) (fun w' hm => hq.mem0 hm) rfl rfl rfl rfl hlt (by omega)) ?_
        refine g_pu rfl rfl rfl (pu_fieldM (L := hopsC hs) (fun w' hm => hq.mem0 hm) (by omega) (by decide) rfl rfl) ?_
        refine g_pu rfl rfl rfl (pu_rdM (L := hopsC hs) (v := .int .i64 y.dl) (fun w' hm => hq.mem0 hm) rfl rfl hc66) ?_
        first | refine g_pu rfl rfl rfl (pu_lss_t rfl rfl rfl (by omega)) ?_ | refine g_pu rfl rfl rfl (pu_lss_f rfl rfl rfl (by omega)) ?_ | refine g_pu rfl rfl rfl (pu_lss rfl rfl rfl) ?_
        refine g_pu rfl rfl rfl (pu_move rfl rfl) ?_
        first | refine g_pass rfl rfl rfl ?_ | refine g_pu rfl rfl rfl (pu_move rfl rfl) ?_
        first | refine g_pass rfl rfl rfl ?_ | refine g_pu rfl rfl rfl (pu_move rfl rfl) ?_
        refine g_pu rfl rfl rfl (pu_atM i (s := 68) (L := hopsC hs) (fun w' hm => hq.mem0 hm) rfl rfl rfl rfl hlt (by omega)) ?_
        refine g_pu rfl rfl rfl (pu_fieldM (L := hopsC hs) (fun w' hm => hq.mem0 hm) (by omega) (by decide) rfl rfl) ?_
        refine g_pu rfl rfl rfl (pu_rdM (L := hopsC hs) (v := .int .i64 y.dl) (fun w' hm => hq.mem0 hm) rfl rfl hc66) ?_
        first | refine g_pass rfl rfl rfl ?_ | refine g_pu rfl rfl rfl (pu_gtr_t rfl rfl rfl (by omega)) ?_ | refine g_pu rfl rfl rfl (pu_gtr_f rfl rfl rfl (by omega)) ?_ | refine g_pu rfl rfl rfl (pu_gtr rfl rfl rfl) ?_
        first | refine g_pu rfl rfl rfl (pu_pick_t rfl rfl rfl) ?_ | refine g_pu rfl rfl rfl (pu_pick_f rfl rfl rfl) ?_
        refine g_pu rfl rfl rfl (pu_move rfl rfl) ?_
        first | refine g_pass rfl rfl rfl ?_ | refine g_pu rfl rfl rfl (pu_move rfl rfl) ?_
        first | refine g_pass rfl rfl rfl ?_ | refine g_pu rfl rfl rfl (pu_move rfl rfl) ?_
        refine g_pu rfl rfl rfl (pu_atM i (s := 68) (L := hopsC hs) (fun w' hm => hq.mem0 hm) rfl rfl rfl rfl hlt (by omega)) ?_
        refine g_pu rfl rfl rfl (pu_fieldM (L := hopsC hs) (fun w' hm => hq.mem0 hm) (by omega) (by decide) rfl rfl) ?_
        refine g_pu rfl rfl rfl (pu_rdM (L := hopsC hs) (v := .int .i64 y.fl) (fun w' hm => hq.mem0 hm) rfl rfl hc67) ?_
        first | refine g_pass rfl rfl rfl ?_ | refine g_pu rfl rfl rfl (pu_lss_t rfl rfl rfl (by omega)) ?_ | refine g_pu rfl rfl rfl (pu_lss_f rfl rfl rfl (by omega)) ?_ | refine g_pu rfl rfl rfl (pu_lss rfl rfl rfl) ?_
        first | refine g_pu rfl rfl rfl (pu_pick_t rfl rfl rfl) ?_ | refine g_pu rfl rfl rfl (pu_pick_f rfl rfl rfl) ?_
        refine g_pu rfl rfl rfl (pu_move rfl rfl) ?_
        first | refine g_pass rfl rfl rfl ?_ | refine g_pu rfl rfl rfl (pu_move rfl rfl) ?_
        first | refine g_pass rfl rfl rfl ?_ | refine g_pu rfl rfl rfl (pu_move rfl rfl) ?_
        refine g_pu rfl rfl rfl (pu_atM i (s := 68) (L := hopsC hs) (fun w' hm => hq.mem0 hm) rfl rfl rfl rfl hlt (by omega)) ?_
        refine g_pu rfl rfl rfl (pu_fieldM (L := hopsC hs) (fun w' hm => hq.mem0 hm) (by omega) (by decide) rfl rfl) ?_
        refine g_pu rfl rfl rfl (pu_rdM (L := hopsC hs) (v := .int .i64 y.fl) (fun w' hm => hq.mem0 hm) rfl rfl hc67) ?_
        first | refine g_pass rfl rfl rfl ?_ | refine g_pu rfl rfl rfl (pu_gtr_t rfl rfl rfl (by omega)) ?_ | refine g_pu rfl rfl rfl (pu_gtr_f rfl rfl rfl (by omega)) ?_ | refine g_pu rfl rfl rfl (pu_gtr rfl rfl rfl) ?_
        first | refine g_pu rfl rfl rfl (pu_pick_t rfl rfl rfl) ?_ | refine g_pu rfl rfl rfl (pu_pick_f rfl rfl rfl) ?_
        refine g_nil ?_
        (repeat refine g_seq ?_)
        refine g_cond_f rfl (g_skip ?_)
        refine g_blk ?_
        (repeat refine g_seq ?_)
        refine g_region ?_
        refine g_pu rfl rfl rfl (pu_move rfl rfl) ?_
        refine g_pu rfl rfl rfl (pu_addI rfl rfl rfl (by omega)) ?_
        refine g_pu rfl rfl rfl (pu_assign rfl rfl) ?_
        refine g_nil ?_
        refine g_round (i + 1) ⟨by omega, fun h hh => ?_⟩ (by omega) ⟨rfl, rfl, rfl, trivial⟩ ⟨rfl, trivial⟩
        rw [List.take_add_one, h1] at hh
        rcases List.mem_append.1 hh with hh | hh
        · exact hgood h hh
        · obtain rfl : h = y := by simpa using hh
          exact hb
    · (repeat refine g_seq ?_)
      refine g_region ?_
      refine g_pu rfl rfl rfl (pu_move rfl rfl) ?_
      refine g_pu rfl rfl rfl (pu_move rfl rfl) ?_
      first | refine g_pu rfl rfl rfl (pu_len rfl rfl) ?_ | refine g_pu rfl rfl rfl (pu_lenS rfl rfl) ?_
      first | refine g_pu rfl rfl rfl (pu_lss_t rfl rfl rfl (by omega)) ?_ | refine g_pu rfl rfl rfl (pu_lss_f rfl rfl rfl (by omega)) ?_ | refine g_pu rfl rfl rfl (pu_lss rfl rfl rfl) ?_
      refine g_nil ?_
      (repeat refine g_seq ?_)
      refine g_cond_f rfl (g_exit rfl ?_)
      have e1 : m = i := by omega
      subst e1
      rw [List.take_of_length_le (by omega)] at hgood
      by_cases hlen : hs.length < 1 ∨ hs.length > 5
      · have hE : pathE x hs = 2 := pathE_len hk hgood hlen
        rw [pathL_ne hE (by decide), hE]
        rcases hlen with hlen | hlen
        · (repeat refine g_seq ?_)
          refine g_region ?_
          refine g_pu rfl rfl rfl (pu_move rfl rfl) ?_
          first | refine g_pu rfl rfl rfl (pu_len rfl rfl) ?_ | refine g_pu rfl rfl rfl (pu_lenS rfl rfl) ?_
          first | refine g_pu rfl rfl rfl (pu_eql_t rfl rfl rfl (by omega)) ?_ | refine g_pu rfl rfl rfl (pu_eql_f rfl rfl rfl (by omega)) ?_ | refine g_pu rfl rfl rfl (pu_eql rfl rfl rfl) ?_
          refine g_pu rfl rfl rfl (pu_move rfl rfl) ?_
          first | refine g_pass rfl rfl rfl ?_ | refine g_pu rfl rfl rfl (pu_move rfl rfl) ?_
          first | refine g_pass rfl rfl rfl ?_ | refine g_pu rfl rfl rfl (pu_len rfl rfl) ?_ | refine g_pu rfl rfl rfl (pu_lenS rfl rfl) ?_
          first | refine g_pass rfl rfl rfl ?_ | refine g_pu rfl rfl rfl (pu_gtr_t rfl rfl rfl (by omega)) ?_ | refine g_pu rfl rfl rfl (pu_gtr_f rfl rfl rfl (by omega)) ?_ | refine g_pu rfl rfl rfl (pu_gtr rfl rfl rfl) ?_
          first | refine g_pu rfl rfl rfl (pu_pick_t rfl rfl rfl) ?_ | refine g_pu rfl rfl rfl (pu_pick_f rfl rfl rfl) ?_
          refine g_nil ?_
          (repeat refine g_seq ?_)
          refine g_cond_t rfl ?_
          (repeat refine g_seq ?_)
          refine g_region ?_
          refine g_pu rfl rfl rfl (pu_assign rfl rfl) ?_
          refine g_pu rfl rfl rfl (pu_assign rfl rfl) ?_
          refine g_nil ?_
          refine g_nilOwn 90 28 20 rfl ?_
          exact g_ret2 rfl rfl rfl (fun w' hm => ⟨⟨none, 0⟩, trivial, rfl, hm.grows [90] ⟨rfl, trivial⟩ rfl⟩)
        · (repeat refine g_seq ?_)
          refine g_region ?_
          refine g_pu rfl rfl rfl (pu_move rfl rfl) ?_
          first | refine g_pu rfl rfl rfl (pu_len rfl rfl) ?_ | refine g_pu rfl rfl rfl (pu_lenS rfl rfl) ?_
          first | refine g_pu rfl rfl rfl (pu_eql_t rfl rfl rfl (by omega)) ?_ | refine g_pu rfl rfl rfl (pu_eql_f rfl rfl rfl (by omega)) ?_ | refine g_pu rfl rfl rfl (pu_eql rfl rfl rfl) ?_
          refine g_pu rfl rfl rfl (pu_move rfl rfl) ?_
          first | refine g_pass rfl rfl rfl ?_ | refine g_pu rfl rfl rfl (pu_move rfl rfl) ?_
          first | refine g_pass rfl rfl rfl ?_ | refine g_pu rfl rfl rfl (pu_len rfl rfl) ?_ | refine g_pu rfl rfl rfl (pu_lenS rfl rfl) ?_
          first | refine g_pass rfl rfl rfl ?_ | refine g_pu rfl rfl rfl (pu_gtr_t rfl rfl rfl (by omega)) ?_ | refine g_pu rfl rfl rfl (pu_gtr_f rfl rfl rfl (by omega)) ?_ | refine g_pu rfl rfl rfl (pu_gtr rfl rfl rfl) ?_
          first | refine g_pu rfl rfl rfl (pu_pick_t rfl rfl rfl) ?_ | refine g_pu rfl rfl rfl (pu_pick_f rfl rfl rfl) ?_
          refine g_nil ?_
          (repeat refine g_seq ?_)
          refine g_cond_t rfl ?_
          (repeat refine g_seq ?_)
          refine g_region ?_
          refine g_pu rfl rfl rfl (pu_assign rfl rfl) ?_
          refine g_pu rfl rfl rfl (pu_assign rfl rfl) ?_
          refine g_nil ?_
          refine g_nilOwn 90 28 20 rfl ?_
          exact g_ret2 rfl rfl rfl (fun w' hm => ⟨⟨none, 0⟩, trivial, rfl, hm.grows [90] ⟨rfl, trivial⟩ rfl⟩)
      · have hpl := pcmds_length x hs
        have hp16 := pcmds_16 h16 (hs := hs)
        have hlastm : ∃ h, hs[m - 1]? = some h := ⟨hs[m - 1], List.getElem?_eq_getElem (by omega)⟩
        obtain ⟨hl, hhl1⟩ := hlastm
        have hlp := pcmds_get x hhl1
        rw [show m - 1 + 1 = m by omega, show hs[m]? = none from List.getElem?_eq_none (by omega)] at hlp
        have hlb := hgood hl (List.mem_of_getElem? hhl1)
        (repeat refine g_seq ?_)
        refine g_region ?_
        refine g_pu rfl rfl rfl (pu_move rfl rfl) ?_
        first | refine g_pu rfl rfl rfl (pu_len rfl rfl) ?_ | refine g_pu rfl rfl rfl (pu_lenS rfl rfl) ?_
        first | refine g_pu rfl rfl rfl (pu_eql_t rfl rfl rfl (by omega)) ?_ | refine g_pu rfl rfl rfl (pu_eql_f rfl rfl rfl (by omega)) ?_ | refine g_pu rfl rfl rfl (pu_eql rfl rfl rfl) ?_
        refine g_pu rfl rfl rfl (pu_move rfl rfl) ?_
        first | refine g_pass rfl rfl rfl ?_ | refine g_pu rfl rfl rfl (pu_move rfl rfl) ?_
        first | refine g_pass rfl rfl rfl ?_ | refine g_pu rfl rfl rfl (pu_len rfl rfl) ?_ | refine g_pu rfl rfl rfl (pu_lenS rfl rfl) ?_
        first | refine g_pass rfl rfl rfl ?_ | refine g_pu rfl rfl rfl (pu_gtr_t rfl rfl rfl (by omega)) ?_ | refine g_pu rfl rfl rfl (pu_gtr_f rfl rfl rfl (by omega)) ?_ | refine g_pu rfl rfl rfl (pu_gtr rfl rfl rfl) ?_
        first | refine g_pu rfl rfl rfl (pu_pick_t rfl rfl rfl) ?_ | refine g_pu rfl rfl rfl (pu_pick_f rfl rfl rfl) ?_
        refine g_nil ?_
        (repeat refine g_seq ?_)
        refine g_cond_f rfl (g_skip ?_)
        classical
        have hce := chk_last (x := x) hlb hk
        by_cases hbad : lastBad x
        · rw [if_pos hbad] at hce
          have hE : pathE x hs = 3 := pathE_bad hk hgood hlen (y := pcmd x hl none) (List.mem_of_getElem? hlp) (by rw [hce]; decide)
          rw [pathL_ne hE (by decide), hE]
          have hbad' := hbad
          unfold lastBad at hbad'
          have hzz : x.n.toNat = 0 → x.k.toNat ≠ 4 → x.m ≠ zero16 := fun a b => by
            rcases hbad' with c | c
            · exact absurd a c
            · exact c.2
          by_cases h2 : x.n.toNat = 0 <;> by_cases h4 : x.k.toNat = 4 <;> first | (exfalso; omega) | (
            (repeat refine g_seq ?_)
            refine g_region ?_
            refine g_pu rfl rfl rfl (pu_fieldAddr (by decide) rfl rfl) ?_
            refine g_pu rfl rfl rfl (pu_load 2 (v := b64 x.n) rfl rfl rfl rfl) ?_
            first | refine g_pu rfl rfl rfl (pu_neq_t rfl rfl rfl (by omega)) ?_ | refine g_pu rfl rfl rfl (pu_neq_f rfl rfl rfl (by omega)) ?_
            refine g_pu rfl rfl rfl (pu_move rfl rfl) ?_
            first | refine g_pass rfl rfl rfl ?_ | refine g_pu rfl rfl rfl (pu_fieldAddr (by decide) rfl rfl) ?_
            first | refine g_pass rfl rfl rfl ?_ | refine g_pu rfl rfl rfl (pu_load 2 (v := b8 x.k) rfl rfl rfl rfl) ?_
            first | refine g_pass rfl rfl rfl ?_ | refine g_pu rfl rfl rfl (pu_neq_t rfl rfl rfl (by omega)) ?_ | refine g_pu rfl rfl rfl (pu_neq_f rfl rfl rfl (by omega)) ?_
            first | refine g_pass rfl rfl rfl ?_ | refine g_pu rfl rfl rfl (pu_move rfl rfl) ?_
            first | refine g_pass rfl rfl rfl ?_ | refine g_pu rfl rfl rfl (pu_loadW 2 (L := cmdC x) rfl rfl rfl hcl) ?_
            first | refine g_pass rfl rfl rfl ?_ | (refine g_call [] rfl rfl rfl rfl rfl rfl (fun w' hm => marked_b w' x h16) (fun _ _ => ?_); rw [decide_eq_true (hzz (by omega) (by omega))])
            first | refine g_pass rfl rfl rfl ?_ | refine g_pu rfl rfl rfl (pu_pick_t rfl rfl rfl) ?_ | refine g_pu rfl rfl rfl (pu_pick_f rfl rfl rfl) ?_
            first | refine g_pu rfl rfl rfl (pu_pick_t rfl rfl rfl) ?_ | refine g_pu rfl rfl rfl (pu_pick_f rfl rfl rfl) ?_
            refine g_nil ?_
            (repeat refine g_seq ?_)
            refine g_cond_t rfl ?_
            (repeat refine g_seq ?_)
            refine g_region ?_
            refine g_pu rfl rfl rfl (pu_assign rfl rfl) ?_
            refine g_pu rfl rfl rfl (pu_assign rfl rfl) ?_
            refine g_nil ?_
            refine g_nilOwn 90 28 20 rfl ?_
            exact g_ret2 rfl rfl rfl (fun w' hm => ⟨⟨none, 0⟩, trivial, rfl, hm.grows [90] ⟨rfl, trivial⟩ rfl⟩))
        · rw [if_neg hbad] at hce
          have h2 : x.n.toNat = 0 := Classical.byContradiction fun h' => hbad (.inl h')
          have h2' : x.n = 0#64 := BitVec.eq_of_toNat_eq h2
          have h3 : x.k.toNat ≠ 4 → x.m = zero16 := fun h => Classical.byContradiction fun h' => hbad (.inr ⟨h, h'⟩)
          by_cases h4 : x.k.toNat = 4 <;> (
            (repeat refine g_seq ?_)
            refine g_region ?_
            refine g_pu rfl rfl rfl (pu_fieldAddr (by decide) rfl rfl) ?_
            refine g_pu rfl rfl rfl (pu_load 2 (v := b64 x.n) rfl rfl rfl rfl) ?_
            refine g_pu rfl rfl rfl (pu_neq_f rfl rfl rfl (by omega)) ?_
            refine g_pu rfl rfl rfl (pu_move rfl rfl) ?_
            first | refine g_pass rfl rfl rfl ?_ | refine g_pu rfl rfl rfl (pu_fieldAddr (by decide) rfl rfl) ?_
            refine g_pu rfl rfl rfl (pu_load 2 (v := b8 x.k) rfl rfl rfl rfl) ?_
            first | refine g_pu rfl rfl rfl (pu_neq_t rfl rfl rfl (by omega)) ?_ | refine g_pu rfl rfl rfl (pu_neq_f rfl rfl rfl (by omega)) ?_
            first | refine g_pass rfl rfl rfl ?_ | refine g_pu rfl rfl rfl (pu_move rfl rfl) ?_
            first | refine g_pass rfl rfl rfl ?_ | refine g_pu rfl rfl rfl (pu_loadW 2 (L := cmdC x) rfl rfl rfl hcl) ?_
            first | refine g_pass rfl rfl rfl ?_ | (refine g_call [] rfl rfl rfl rfl rfl rfl (fun w' hm => marked_b w' x h16) (fun _ _ => ?_); rw [decide_eq_false (show ¬ x.m ≠ zero16 from fun h => h (h3 (by omega)))])
            first | refine g_pass rfl rfl rfl ?_ | refine g_pu rfl rfl rfl (pu_pick_t rfl rfl rfl) ?_ | refine g_pu rfl rfl rfl (pu_pick_f rfl rfl rfl) ?_
            first | refine g_pu rfl rfl rfl (pu_pick_t rfl rfl rfl) ?_ | refine g_pu rfl rfl rfl (pu_pick_f rfl rfl rfl) ?_
            refine g_nil ?_
            (repeat refine g_seq ?_)
            refine g_cond_f rfl (g_skip ?_)
            (repeat refine g_seq ?_)
            refine g_region ?_
            refine g_pu rfl rfl rfl (pu_assign rfl rfl) ?_
            refine g_nil ?_
            (repeat refine g_seq ?_)
            refine g_region ?_
            refine g_pu rfl rfl rfl (pu_assign rfl rfl) ?_
            refine g_nil ?_
            refine g_nilOwn 90 28 20 rfl ?_
            refine g_block (g_loop2 (fun (i : Nat) (y : Ow) => [(1, .slice q m d), (2, .pointer (some ⟨b2, 0, none⟩)), (7, y.sl i), (8, .int .i64 (i : Int))]) (fun i y => [(2, .pt b2 (.cells (cmdC x).toArray 28 (0, 0))), (90, y.ck 28 20 (cmdsC ((pcmds x hs).take i)))]) (fun i _ => i ≤ m ∧ ∀ c ∈ (pcmds x hs).take i, chkE c = 0) (fun i _ => m - i) 0 ⟨none, 0⟩ ⟨rfl, rfl, rfl, rfl, trivial⟩ ⟨rfl, rfl, trivial⟩ ⟨by omega, fun h hh => by simp at hh⟩ ?_)
            intro i y ⟨hi, hgood2⟩
            by_cases hlt : i < m
            · (repeat refine g_seq ?_)
              refine g_region ?_
              refine g_pu rfl rfl rfl (pu_move rfl rfl) ?_
              refine g_pu rfl rfl rfl (pu_move rfl rfl) ?_
              first | refine g_pu rfl rfl rfl (pu_len rfl rfl) ?_ | refine g_pu rfl rfl rfl (pu_lenS rfl rfl) ?_
              first | refine g_pu rfl rfl rfl (pu_lss_t rfl rfl rfl (by omega)) ?_ | refine g_pu rfl rfl rfl (pu_lss_f rfl rfl rfl (by omega)) ?_ | refine g_pu rfl rfl rfl (pu_lss rfl rfl rfl) ?_
              refine g_nil ?_
              (repeat refine g_seq ?_)
              refine g_cond_t rfl (g_skip ?_)
              have h1 : hs[i]? = some hs[i] := List.getElem?_eq_getElem (by omega)
              have hxo := ho hs[i] (List.getElem_mem (by omega))
              have hmem : hs[i] ∈ hs := List.getElem_mem (by omega)
              generalize hs[i] = h at h1 hxo hmem
              have hb := hgood h hmem
              have hc66 := hopsC_cell ho h1 (hop_cell66 hxo)
              have hc67 := hopsC_cell ho h1 (hop_cell67 hxo)
              have hpg := pcmds_get x h1
              have hpm : pcmd x h hs[i + 1]? ∈ pcmds x hs := List.mem_of_getElem? hpg
              have hpl16 := hp16 _ hpm
              have htl : (cmdsC ((pcmds x hs).take i)).length = i * 20 := cmdsC_take hp16 (by omega)
              have hA := cmdsC_at hpg
              (repeat refine g_seq ?_); refine g_block ?_
              (repeat refine g_seq ?_)
              refine g_any (14, []) ?_
              refine a_pu 0 rfl rfl rfl rfl (pu_move rfl rfl) rfl rfl (by kernel_rfl) ?_
              refine a_pu 1 rfl rfl rfl rfl (pu_move rfl rfl) rfl rfl (by kernel_rfl) ?_
              refine a_pu 2 rfl rfl rfl rfl (pu_atM i (s := 68) (L := hopsC hs) (fun w' hm => hq.mem0 hm) rfl rfl rfl rfl hlt (by omega)) rfl rfl (by kernel_rfl) ?_
              refine a_pu 3 rfl rfl rfl rfl (pu_fieldM (L := hopsC hs) (fun w' hm => hq.mem0 hm) (by omega) (by decide) rfl rfl) rfl rfl (by kernel_rfl) ?_
              refine a_pu 4 rfl rfl rfl rfl (pu_rdM (L := hopsC hs) (v := .int .i64 h.fl) (fun w' hm => hq.mem0 hm) rfl rfl hc67) rfl rfl (by kernel_rfl) ?_
              refine a_pu 5 rfl rfl rfl rfl (pu_convI_8 rfl rfl) rfl rfl (by kernel_rfl) ?_
              refine a_pu 6 rfl rfl rfl rfl (pu_move rfl rfl) rfl rfl (by kernel_rfl) ?_
              refine a_pu 7 rfl rfl rfl rfl (pu_move rfl rfl) rfl rfl (by kernel_rfl) ?_
              refine a_pu 8 rfl rfl rfl rfl (pu_atM i (s := 68) (L := hopsC hs) (fun w' hm => hq.mem0 hm) rfl rfl rfl rfl hlt (by omega)) rfl rfl (by kernel_rfl) ?_
              refine a_pu 9 rfl rfl rfl rfl (pu_fieldM (L := hopsC hs) (fun w' hm => hq.mem0 hm) (by omega) (by decide) rfl rfl) rfl rfl (by kernel_rfl) ?_
              refine a_pu 10 rfl rfl rfl rfl (pu_rdM (L := hopsC hs) (v := .int .i64 h.dl) (fun w' hm => hq.mem0 hm) rfl rfl hc66) rfl rfl (by kernel_rfl) ?_
              refine a_pu 11 rfl rfl rfl rfl (pu_convI_32 rfl rfl) rfl rfl (by kernel_rfl) ?_
              refine a_pu 12 rfl rfl rfl rfl (pu_buildS (cs := cmdC ⟨1#8, BitVec.ofInt 8 h.fl, BitVec.ofInt 32 h.dl, 0#64, zero16⟩) rfl rfl (fillHop _ _)) rfl rfl (by kernel_rfl) ?_
              refine a_pendA 13 9 9 28 ?_
              refine a_force _ (by kernel_rfl) rfl rfl rfl (by kernel_rfl) (by kernel_rfl) (by kernel_rfl) rfl (fun p hp => by simp only [List.mem_cons, List.not_mem_nil, or_false] at hp; subst hp; first | exact does_PA rfl rfl rfl rfl | exact does_PB rfl rfl rfl rfl rfl (by decide) (by decide) rfl rfl) ?_; rintro v_ cs_ ⟨b9, hb9, rfl, rfl⟩
              refine a_tail [14] (by kernel_rfl) rfl rfl (by kernel_rfl) ?_
              refine g_storeL 9 (s := 20) (C := cmdC ⟨1#8, BitVec.ofInt 8 h.fl, BitVec.ofInt 32 h.dl, 0#64, zero16⟩) rfl rfl rfl rfl rfl rfl (cmdC_length rfl) rfl (oneCell_cmd _) ?_
              refine g_nil ?_
              (repeat refine g_seq ?_)
              refine g_region ?_
              refine g_pu rfl rfl rfl (pu_move rfl rfl) ?_
              refine g_pu rfl rfl rfl (pu_move rfl rfl) ?_
              first | refine g_pu rfl rfl rfl (pu_len rfl rfl) ?_ | refine g_pu rfl rfl rfl (pu_lenS rfl rfl) ?_
              refine g_pu rfl rfl rfl (pu_subI rfl rfl rfl (by omega)) ?_
              first | (refine g_pu rfl rfl rfl (pu_eql rfl rfl rfl) ?_)
              refine g_nil ?_
              refine g_join (σ := Unit) (fun c => [(1, .slice q m d), (2, .pointer (some ⟨b2, 0, none⟩)), (7, y.sl i), (8, .int .i64 (i : Int)), (9, .pointer (some ⟨b9, 0, none⟩))]) (fun c => [(2, .pt b2 (.cells (cmdC x).toArray 28 (0, 0))), (90, y.ck 28 20 (cmdsC ((pcmds x hs).take i))), (9, .pt b9 (.cells (cmdC (pcmd x h hs[i + 1]?)).toArray 28 (0, 0)))]) (fun c => chkE (pcmd x h hs[i + 1]?) = 0) ?_ ?_
              · by_cases hlast : i + 1 < m
                · have h5 : hs[i + 1]? = some hs[i + 1] := List.getElem?_eq_getElem (by omega)
                  generalize hs[i + 1] = z at h5
                  have hz := hopsC_cell ho h5 (hop_cell1 z)
                  refine g_cond_f (by rw [← decide_eq_false (show ¬ ((i : Int) = (m : Int) - 1) by omega)]; rfl) ?_
                  (repeat refine g_seq ?_)
                  refine g_region ?_
                  refine g_pu rfl rfl rfl (pu_move rfl rfl) ?_
                  refine g_pu rfl rfl rfl (pu_move rfl rfl) ?_
                  refine g_pu rfl rfl rfl (pu_addI rfl rfl rfl (by omega)) ?_
                  refine g_pu rfl rfl rfl (pu_atM (i + 1) (s := 68) (L := hopsC hs) (fun w' hm => hq.mem0 hm) rfl rfl rfl (by omega) hlast (by omega)) ?_
                  refine g_pu rfl rfl rfl (pu_fieldM (L := hopsC hs) (fun w' hm => hq.mem0 hm) (by omega) (by decide) rfl rfl) ?_
                  refine g_pu rfl rfl rfl (pu_fieldM (L := hopsC hs) (fun w' hm => hq.mem0 hm) (by omega) (by decide) rfl rfl) ?_
                  refine g_pu rfl rfl rfl (pu_rdM (L := hopsC hs) (v := b64 z.id) (fun w' hm => hq.mem0 hm) rfl rfl hz) ?_
                  refine g_pu rfl rfl rfl (pu_fieldAddr (by decide) rfl rfl) ?_
                  refine g_store 9 (L := cmdC ⟨1#8, BitVec.ofInt 8 h.fl, BitVec.ofInt 32 h.dl, 0#64, zero16⟩) rfl rfl rfl rfl rfl rfl rfl (by simp [cmdC]) ?_
                  refine g_nil ?_
                  refine g_recast 9 (.pt b9 (.cells (cmdC ⟨1#8, BitVec.ofInt 8 h.fl, BitVec.ofInt 32 h.dl, z.id, zero16⟩).toArray 28 (0, 0))) (.pt b9 (.cells (cmdC (pcmd x h hs[i + 1]?)).toArray 28 (0, 0))) rfl (fun w' hw' => by rw [h5]; exact hw') trivial (fun j hj => hj) ?_
                  have hcn := chk_next (x := x) (g := z) hb
                  rw [← h5] at hcn
                  by_cases h0 : z.id.toNat = 0
                  · rw [if_pos h0] at hcn
                    have hE : pathE x hs = 3 := pathE_bad hk hgood hlen (y := pcmd x h hs[i + 1]?) hpm (by rw [hcn]; decide)
                    rw [pathL_ne hE (by decide), hE]
                    have h6 : (cmdC (pcmd x h hs[i + 1]?)).toArray[0 + 3]? = some (b64 z.id) := by rw [h5]; rfl
                    (repeat refine g_seq ?_)
                    refine g_region ?_
                    refine g_pu rfl rfl rfl (pu_fieldAddr (by decide) rfl rfl) ?_
                    refine g_pu rfl rfl rfl (pu_load 9 (v := b64 z.id) rfl rfl rfl h6) ?_
                    refine g_pu rfl rfl rfl (pu_eql_t rfl rfl rfl (by omega)) ?_
                    refine g_nil ?_
                    (repeat refine g_seq ?_)
                    refine g_cond_t rfl ?_
                    (repeat refine g_seq ?_)
                    refine g_region ?_
                    refine g_pu rfl rfl rfl (pu_assign rfl rfl) ?_
                    refine g_pu rfl rfl rfl (pu_assign rfl rfl) ?_
                    refine g_nil ?_
                    refine g_nilOwn 91 28 20 rfl ?_
                    exact g_ret2 rfl rfl rfl (fun w' hm => ⟨⟨none, 0⟩, trivial, rfl, hm.grows [91] ⟨rfl, trivial⟩ rfl⟩)
                  · rw [if_neg h0] at hcn
                    have h6 : (cmdC (pcmd x h hs[i + 1]?)).toArray[0 + 3]? = some (b64 z.id) := by rw [h5]; rfl
                    (repeat refine g_seq ?_)
                    refine g_region ?_
                    refine g_pu rfl rfl rfl (pu_fieldAddr (by decide) rfl rfl) ?_
                    refine g_pu rfl rfl rfl (pu_load 9 (v := b64 z.id) rfl rfl rfl h6) ?_
                    refine g_pu rfl rfl rfl (pu_eql_f rfl rfl rfl (by omega)) ?_
                    refine g_nil ?_
                    (repeat refine g_seq ?_)
                    refine g_cond_f rfl (g_skip ?_)
                    exact g_meet () hcn ⟨rfl, rfl, rfl, rfl, rfl, trivial⟩ ⟨rfl, rfl, rfl, trivial⟩
                · have h5 : hs[i + 1]? = none := List.getElem?_eq_none (by omega)
                  have e5 : i = m - 1 := by omega
                  have e6 : h = hl := by rw [e5, hhl1] at h1; exact (Option.some.inj h1).symm
                  subst e6
                  refine g_cond_t (by rw [← decide_eq_true (show ((i : Int) = (m : Int) - 1) by omega)]; rfl) ?_
                  (repeat refine g_seq ?_)
                  refine g_region ?_
                  refine g_pu rfl rfl rfl (pu_fieldAddr (by decide) rfl rfl) ?_
                  refine g_pu rfl rfl rfl (pu_load 2 (v := b8 x.k) rfl rfl rfl rfl) ?_
                  refine g_pu rfl rfl rfl (pu_fieldAddr (by decide) rfl rfl) ?_
                  refine g_store 9 (L := cmdC ⟨1#8, BitVec.ofInt 8 h.fl, BitVec.ofInt 32 h.dl, 0#64, zero16⟩) rfl rfl rfl rfl rfl rfl rfl (by simp [cmdC]) ?_
                  refine g_nil ?_
                  (repeat refine g_seq ?_)
                  refine g_region ?_
                  refine g_pu rfl rfl rfl (pu_fieldAddr (by decide) rfl rfl) ?_
                  refine g_pu rfl rfl rfl (pu_loadE 2 (bs x.m).toArray rfl rfl rfl (show 0 + 4 + 16 ≤ (cmdC x).toArray.size by rw [List.size_toArray]; omega) (ext_mark h16)) ?_
                  refine g_pu rfl rfl rfl (pu_fieldAddr (by decide) rfl rfl) ?_
                  refine g_storeA 9 (s := 16) (C := bs x.m) (L := cmdC ⟨x.k, BitVec.ofInt 8 h.fl, BitVec.ofInt 32 h.dl, 0#64, zero16⟩) rfl rfl rfl rfl rfl rfl (by rw [bs_length, h16]) (oneCell_bs _) (by rw [cmdC_length rfl]; omega) ?_
                  refine g_nil ?_
                  refine g_recast 9 (.pt b9 (.cells ((cmdC ⟨x.k, BitVec.ofInt 8 h.fl, BitVec.ofInt 32 h.dl, 0#64, zero16⟩).take (0 + 4) ++ bs x.m ++ (cmdC ⟨x.k, BitVec.ofInt 8 h.fl, BitVec.ofInt 32 h.dl, 0#64, zero16⟩).drop (0 + 4 + 16)).toArray 28 (0, 0))) (.pt b9 (.cells (cmdC (pcmd x h hs[i + 1]?)).toArray 28 (0, 0))) rfl (fun w' hw' => by rw [h5, show pcmd x h none = ⟨x.k, BitVec.ofInt 8 h.fl, BitVec.ofInt 32 h.dl, 0#64, x.m⟩ by rw [← h2']; rfl, ← cmd_mark_set (m := zero16) rfl]; exact hw') trivial (fun j hj => hj) ?_
                  exact g_meet () (by rw [h5]; exact hce) ⟨rfl, rfl, rfl, rfl, rfl, trivial⟩ ⟨rfl, rfl, rfl, trivial⟩
              · intro _ h0
                generalize pcmd x h hs[i + 1]? = P at hpg hpm hpl16 hA h0
                have hPl := cmdC_length hpl16
                have hsq : seqCells 20 0 [(0, Value.agg (cmdC P).toArray)] = some (cmdC P) := by simp [seqCells, Value.cells, hPl]
                (repeat refine g_seq ?_)
                refine g_region ?_
                refine g_pu rfl rfl rfl (pu_move rfl rfl) ?_
                refine g_pu rfl rfl rfl (pu_loadW 9 (L := cmdC P) rfl rfl rfl hPl) ?_
                refine g_lo [97] rfl rfl rfl rfl (lo_buildSlice rfl rfl (by decide) (by decide) rfl hsq) (fun b97 hb97 => ?_)
                refine g_append 90 (s := 20) (cmdC P) rfl rfl rfl (by omega) rfl rfl rfl rfl rfl htl (fun w' hm => hm.rowA 97 rfl) hPl (oneCell_cmd P) (by omega) (by omega) (fun p' c' => ?_)
                rw [← hA]
                refine g_pu rfl rfl rfl (pu_assign rfl rfl) ?_
                refine g_nil ?_
                refine g_blk ?_
                (repeat refine g_seq ?_)
                refine g_region ?_
                refine g_pu rfl rfl rfl (pu_move rfl rfl) ?_
                refine g_pu rfl rfl rfl (pu_addI rfl rfl rfl (by omega)) ?_
                refine g_pu rfl rfl rfl (pu_assign rfl rfl) ?_
                refine g_nil ?_
                refine g_round2 (i + 1) (⟨p', c'⟩ : Ow) ⟨by omega, fun u hu => ?_⟩ (by omega) ⟨rfl, rfl, rfl, rfl, trivial⟩ ⟨rfl, rfl, trivial⟩
                rw [List.take_add_one, hpg] at hu
                rcases List.mem_append.1 hu with hu | hu
                · exact hgood2 u hu
                · obtain rfl : u = P := by simpa using hu
                  exact h0
            · (repeat refine g_seq ?_)
              refine g_region ?_
              refine g_pu rfl rfl rfl (pu_move rfl rfl) ?_
              refine g_pu rfl rfl rfl (pu_move rfl rfl) ?_
              first | refine g_pu rfl rfl rfl (pu_len rfl rfl) ?_ | refine g_pu rfl rfl rfl (pu_lenS rfl rfl) ?_
              first | refine g_pu rfl rfl rfl (pu_lss_t rfl rfl rfl (by omega)) ?_ | refine g_pu rfl rfl rfl (pu_lss_f rfl rfl rfl (by omega)) ?_ | refine g_pu rfl rfl rfl (pu_lss rfl rfl rfl) ?_
              refine g_nil ?_
              (repeat refine g_seq ?_)
              refine g_cond_f rfl (g_exit rfl ?_)
              have e1 : m = i := by omega
              subst e1
              rw [List.take_of_length_le (by omega)] at hgood2 ⊢
              have hE : pathE x hs = 0 := pathE_ok hk hgood hlen hgood2
              have hL : pathL x hs = pcmds x hs := if_pos hE
              rw [hL, hE, hpl, hn]
              (repeat refine g_seq ?_)
              refine g_region ?_
              refine g_pu rfl rfl rfl (pu_move rfl rfl) ?_
              refine g_pu rfl rfl rfl (pu_assign rfl rfl) ?_
              refine g_pu rfl rfl rfl (pu_assign rfl rfl) ?_
              refine g_nil ?_
              exact g_ret2 rfl rfl rfl (fun w' hm => ⟨y, trivial, rfl, hm.grows [90] ⟨rfl, trivial⟩ rfl⟩))
end Go.Sx

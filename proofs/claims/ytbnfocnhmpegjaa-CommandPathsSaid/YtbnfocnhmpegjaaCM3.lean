/-
  Commands in rows, their equality, and what is told. Each mark has 16 bytes.
-/
import Derived.Test.YtbnfocnhmpegjaaCM2
import Derived.Test.YtbnfocnhmpegjaaSxStruct
set_option linter.unusedVariables false
set_option linter.unusedSimpArgs false
namespace Go.Sx
open Go Go.Proofs

theorem cmd_refl (x : Cmd) (h16 : x.m.length = 16) (w : World) : (Op.equal 28 (.agg (cmdC x).toArray) (.agg (cmdC x).toArray)).run Try.prog w = .ok true w := by
  obtain ⟨d, hd⟩ : ∃ d, Op.maxDepth = d + 3 := ⟨_, rfl⟩
  have hfs : (Try.prog.fieldsOf 28).toList.map (fun f => (f.type, f.offset)) = [(5, 0), (5, 1), (24, 2), (25, 3), (26, 4)] := by kernel_rfl
  have hu : Try.prog.underlying 28 = some (.struct (Try.prog.fieldsOf 28)) := by kernel_rfl
  rw [Op.equal, hd, run_equalIn_struct w (d + 2) _ _ _ hu (by kernel_rfl)]
  refine eqFields_refl _ _ w _ fun f hf => ?_
  have hmem : (f.type, f.offset) ∈ [((5 : Nat), 0), (5, 1), (24, 2), (25, 3), (26, 4)] := by
    rw [← hfs]; exact List.mem_map.2 ⟨f, hf, rfl⟩
  simp only [List.mem_cons, Prod.mk.injEq, List.not_mem_nil, or_false] at hmem
  rcases hmem with ⟨h1, h2⟩ | ⟨h1, h2⟩ | ⟨h1, h2⟩ | ⟨h1, h2⟩ | ⟨h1, h2⟩ <;> rw [h1, h2]
  · exact ⟨b8 x.k, by simp [part, run_isAgg (Agg.h (P := Try.prog) (t := 5)), cmdC], by unfold b8; rw [run_equalIn_int w _ _ _ _ _ _ (Und.h (P := Try.prog) (t := 5)), beq_self_eq_true]⟩
  · exact ⟨b8 x.f, by simp [part, run_isAgg (Agg.h (P := Try.prog) (t := 5)), cmdC], by unfold b8; rw [run_equalIn_int w _ _ _ _ _ _ (Und.h (P := Try.prog) (t := 5)), beq_self_eq_true]⟩
  · exact ⟨b32 x.d, by simp [part, run_isAgg (Agg.h (P := Try.prog) (t := 24)), cmdC], by unfold b32; rw [run_equalIn_int w _ _ _ _ _ _ (Und.h (P := Try.prog) (t := 24)), beq_self_eq_true]⟩
  · exact ⟨b64 x.n, by simp [part, run_isAgg (Agg.h (P := Try.prog) (t := 25)), cmdC], by unfold b64; rw [run_equalIn_int w _ _ _ _ _ _ (Und.h (P := Try.prog) (t := 25)), beq_self_eq_true]⟩
  · refine ⟨.agg (bs x.m).toArray, ?_, run_eqA_refl d w (Und.h (P := Try.prog) (t := 26)) (Und.h (P := Try.prog) (t := 5)) (One.h (P := Try.prog) (t := 5)) (bs x.m) (all_bs _) (by rw [bs_length, h16])⟩
    have := ext_mark h16
    rw [Nat.zero_add] at this
    simp [part, run_isAgg (Agg.h (P := Try.prog) (t := 26)), run_size (Siz.h (P := Try.prog) (t := 26)), this]
    rw [show (cmdC x).drop 4 = bs x.m from rfl, List.take_of_length_le (by rw [bs_length, h16]; omega)]

theorem fill_cmd {y : Cmd} (h16 : y.m.length = 16) (A : Array Value) (hA : A.size = 20) : Instr.fill (fun i => [(0, 20)][i]?) A [(0, Value.agg (cmdC y).toArray)] = some (cmdC y).toArray := by
  rw [fill_one (C := cmdC y) (off := 0) (s := 20) rfl (cmdC_length h16) (by omega), List.take_zero, List.nil_append, List.drop_of_length_le (by rw [Array.length_toList]; omega), List.append_nil]
def cmdsC (cs : List Cmd) : List Value := (cs.map cmdC).flatten
theorem cmdsC_length : ∀ {cs : List Cmd}, (∀ x ∈ cs, x.m.length = 16) → (cmdsC cs).length = cs.length * 20
  | [], _ => rfl
  | x :: r, h => by
    have ih := cmdsC_length (cs := r) (fun y hy => h y (List.mem_cons_of_mem _ hy))
    unfold cmdsC at ih ⊢
    rw [List.map_cons, List.flatten_cons, List.length_append, ih, cmdC_length (h x (by simp)), List.length_cons]; omega
theorem cmdsC_at {cs : List Cmd} {i : Nat} {x : Cmd} (h : cs[i]? = some x) : cmdsC (cs.take (i + 1)) = cmdsC (cs.take i) ++ cmdC x := by
  unfold cmdsC
  rw [List.take_add_one, h]; simp
theorem cmdsC_split {cs : List Cmd} {i : Nat} {x : Cmd} (h : cs[i]? = some x) : cmdsC cs = cmdsC (cs.take i) ++ (cmdC x ++ cmdsC (cs.drop (i + 1))) := by
  rw [← List.append_assoc, ← cmdsC_at h]
  unfold cmdsC
  rw [← List.flatten_append, ← List.map_append, List.take_append_drop]
theorem cmdsC_take {cs : List Cmd} {i : Nat} (hm : ∀ x ∈ cs, x.m.length = 16) (hi : i ≤ cs.length) : (cmdsC (cs.take i)).length = i * 20 := by
  rw [cmdsC_length (fun x hx => hm x (List.mem_of_mem_take hx)), List.length_take, Nat.min_eq_left hi]
theorem cmdsC_get {cs : List Cmd} {i : Nat} {x : Cmd} (hm : ∀ x ∈ cs, x.m.length = 16) (h : cs[i]? = some x) : ((cmdsC cs).drop (i * 20)).take 20 = cmdC x := by
  have hi := (List.getElem?_eq_some_iff.1 h).1
  rw [cmdsC_split h, List.drop_left' (cmdsC_take hm (by omega)), List.take_left' (cmdC_length (hm x (List.mem_of_getElem? h)))]
theorem cmdsC_ext {cs : List Cmd} {i : Nat} {x : Cmd} (J : List Value) (hm : ∀ x ∈ cs, x.m.length = 16) (h : cs[i]? = some x) : (cmdsC cs ++ J).toArray.extract (0 + i * 20) (0 + i * 20 + 20) = (cmdC x).toArray := by
  have hi := (List.getElem?_eq_some_iff.1 h).1
  apply Array.ext'
  simp only [Array.toList_extract, List.extract_eq_take_drop]
  rw [Nat.zero_add, Nat.add_sub_cancel_left, cmdsC_split h, List.append_assoc, List.drop_left' (cmdsC_take hm (by omega)), List.append_assoc, List.take_left' (cmdC_length (hm x (List.mem_of_getElem? h)))]
/-- A cell of a command in a row. -/
theorem cmdsC_cell {cs : List Cmd} {i j : Nat} {x : Cmd} {v : Value} (J : List Value) (hm : ∀ x ∈ cs, x.m.length = 16) (h : cs[i]? = some x) (hj : (cmdC x)[j]? = some v) : (cmdsC cs ++ J).toArray[0 + i * 20 + j]? = some v := by
  have hi := (List.getElem?_eq_some_iff.1 h).1
  have hl := cmdsC_take hm (show i ≤ cs.length by omega)
  have hlt := (List.getElem?_eq_some_iff.1 hj).1
  rw [List.getElem?_toArray, cmdsC_split h, List.append_assoc, List.getElem?_append_right (by omega), hl, show 0 + i * 20 + j - i * 20 = j by omega, List.append_assoc, List.getElem?_append_left hlt, hj]
theorem cmdsC_mark {cs : List Cmd} {i : Nat} {x : Cmd} (J : List Value) (hm : ∀ x ∈ cs, x.m.length = 16) (h : cs[i]? = some x) : (cmdsC cs ++ J).toArray.extract (0 + i * 20 + 4) (0 + i * 20 + 4 + 16) = (bs x.m).toArray := by
  have hi := (List.getElem?_eq_some_iff.1 h).1
  have hl := cmdsC_take hm (show i ≤ cs.length by omega)
  have h16 := hm x (List.mem_of_getElem? h)
  apply Array.ext'
  simp only [Array.toList_extract, List.extract_eq_take_drop]
  rw [show 0 + i * 20 + 4 + 16 - (0 + i * 20 + 4) = 16 by omega, show 0 + i * 20 + 4 = (cmdsC (cs.take i)).length + 4 by omega, cmdsC_split h, List.append_assoc, ← List.drop_drop, List.drop_left, List.append_assoc]
  show ((bs x.m) ++ (cmdsC (cs.drop (i + 1)) ++ J)).take 16 = bs x.m
  rw [List.take_left' (by rw [bs_length, h16])]
theorem oneCell_cmd (x : Cmd) : ∀ u ∈ cmdC x, u.oneCell' = true := fun u hu => by
  unfold cmdC at hu
  rcases List.mem_append.1 hu with h | h
  · simp only [List.mem_cons, List.not_mem_nil, or_false] at h
    rcases h with rfl | rfl | rfl | rfl <;> rfl
  · exact oneCell_bs _ u h
theorem oneCell_cmds (cs : List Cmd) : ∀ u ∈ cmdsC cs, u.oneCell' = true := fun u hu => by
  unfold cmdsC at hu
  obtain ⟨l, hl, hul⟩ := List.mem_flatten.1 hu
  obtain ⟨x, _, rfl⟩ := List.mem_map.1 hl
  exact oneCell_cmd x u hul

theorem Last_b (w : World) (x : Cmd) : Spec Try.prog 9 #[.agg (cmdC x).toArray] w (σ := Unit) (fun _ => True) (fun _ => .bool (decide (x.k ≠ 1#8))) Nob (fun _ => []) := by
  refine enter Try.func9 rfl rfl (Mem.start w) ?_
  (repeat refine g_seq ?_)
  refine g_region ?_
  refine g_lo [1] rfl rfl rfl rfl (lo_box rfl rfl) (fun b1 hb1 => ?_)
  refine g_pu rfl rfl rfl (pu_assign rfl rfl) ?_
  refine g_nil ?_
  (repeat refine g_seq ?_)
  refine g_region ?_
  refine g_pu rfl rfl rfl (pu_fieldAddr (by decide) rfl rfl) ?_
  refine g_pu rfl rfl rfl (pu_fieldAddr (by decide) rfl rfl) ?_
  refine g_pu rfl rfl rfl (pu_load 1 rfl rfl rfl rfl) ?_
  first | refine g_pu rfl rfl rfl (pu_neq8_t (b := 1#8) rfl rfl rfl (by first | assumption | decide)) ?_ | refine g_pu rfl rfl rfl (pu_neq8_f (b := 1#8) rfl rfl rfl (by first | rfl | assumption | decide)) ?_ | refine g_pu rfl rfl rfl (pu_neq8 (b := 1#8) rfl rfl rfl) ?_
  refine g_pu rfl rfl rfl (pu_assign rfl rfl) ?_
  refine g_nil ?_
  exact g_ret1 rfl rfl (fun w' hm => ⟨(), trivial, rfl, hm.grows [] trivial rfl⟩)

theorem Wait_b (w : World) (x : Cmd) : Spec Try.prog 11 #[.agg (cmdC x).toArray] w (σ := Unit) (fun _ => True) (fun _ => .int .i64 (x.d.toNat : Int)) Nob (fun _ => []) := by
  refine enter Try.func11 rfl rfl (Mem.start w) ?_
  (repeat refine g_seq ?_)
  refine g_region ?_
  refine g_lo [1] rfl rfl rfl rfl (lo_box rfl rfl) (fun b1 hb1 => ?_)
  refine g_pu rfl rfl rfl (pu_assign rfl rfl) ?_
  refine g_nil ?_
  (repeat refine g_seq ?_)
  refine g_region ?_
  refine g_pu rfl rfl rfl (pu_fieldAddr (by decide) rfl rfl) ?_
  refine g_pu rfl rfl rfl (pu_fieldAddr (by decide) rfl rfl) ?_
  refine g_pu rfl rfl rfl (pu_load 1 rfl rfl rfl rfl) ?_
  refine g_pu rfl rfl rfl (pu_conv32_I rfl rfl) ?_
  refine g_pu rfl rfl rfl (pu_assign rfl rfl) ?_
  refine g_nil ?_
  exact g_ret1 rfl rfl (fun w' hm => ⟨(), trivial, rfl, hm.grows [] trivial rfl⟩)

theorem Tell_b (w : World) {q : Option Addr} {m : Nat} (d : Nat) {cs : List Cmd} (hq : RdV w q (cmdsC cs)) (hn : cs.length = m) (h16 : ∀ x ∈ cs, x.m.length = 16) (hmb : m ≤ 4398046511104) :
    Spec Try.prog 10 #[.slice q m d] w (σ := Ow) (fun _ => True) (fun x => .slice x.p m x.c) Nob (fun x => [x.ck 30 20 (cmdsC cs)]) := by
  refine enter Try.func10 rfl rfl (Mem.start w) ?_
  have hcl := cmdsC_length h16
  (repeat refine g_seq ?_)
  refine g_region ?_
  refine g_pu rfl rfl rfl (pu_assign rfl rfl) ?_
  refine g_nil ?_
  (repeat refine g_seq ?_)
  refine g_region ?_
  refine g_pu rfl rfl rfl (pu_assign rfl rfl) ?_
  refine g_nil ?_
  (repeat refine g_seq ?_)
  refine g_region ?_
  refine g_pu rfl rfl rfl (pu_move rfl rfl) ?_
  first | refine g_pu rfl rfl rfl (pu_len rfl rfl) ?_ | refine g_pu rfl rfl rfl (pu_lenS rfl rfl) ?_
  refine g_pu rfl rfl rfl (pu_move rfl rfl) ?_
  refine g_nil ?_
  refine g_nilOwn 90 30 20 rfl ?_
  refine g_block (g_loop2 (fun (i : Nat) (x : Ow) => [(0, .slice q m d), (3, .slice x.p i x.c), (6, .slice q m d), (7, .int .i64 (m : Int)), (8, .int .i64 (i : Int))]) (fun i x => [(90, x.ck 30 20 (cmdsC (cs.take i)))]) (fun i _ => i ≤ m) (fun i _ => m - i) 0 ⟨none, 0⟩ ⟨rfl, rfl, rfl, rfl, rfl, trivial⟩ ⟨rfl, trivial⟩ (by omega) ?_)
  intro i x hi
  by_cases hlt : i < m
  · (repeat refine g_seq ?_)
    refine g_region ?_
    first | refine g_pu rfl rfl rfl (pu_lss_t rfl rfl rfl (by omega)) ?_ | refine g_pu rfl rfl rfl (pu_lss_f rfl rfl rfl (by omega)) ?_ | refine g_pu rfl rfl rfl (pu_lss rfl rfl rfl) ?_
    refine g_nil ?_
    (repeat refine g_seq ?_)
    refine g_cond_t rfl (g_skip ?_)
    have h1 : cs[i]? = some cs[i] := List.getElem?_eq_getElem (by omega)
    have hx16 := h16 cs[i] (List.getElem_mem (by omega))
    generalize cs[i] = y at h1 hx16
    have hyl := cmdC_length hx16
    have hg := cmdsC_get h16 h1
    have hA := cmdsC_at h1
    have htl := cmdsC_take (i := i) h16 (by omega)
    have hsq : seqCells 20 0 [(0, Value.agg (cmdC y).toArray)] = some (cmdC y) := by simp [seqCells, Value.cells, hyl]
    (repeat refine g_seq ?_); refine g_block ?_
    (repeat refine g_seq ?_)
    refine g_region ?_
    refine g_pu rfl rfl rfl (pu_atM i (s := 20) (L := cmdsC cs) (fun w' hm => hq.mem0 hm) rfl rfl rfl rfl hlt (by omega)) ?_
    refine g_pu rfl rfl rfl (pu_rdMA (L := cmdsC cs) (j := i * 20) (s := 20) (fun w' hm => hq.mem0 hm) rfl rfl (by omega) (by omega)) ?_
    rw [hg]
    refine g_lo [5] rfl rfl rfl rfl (lo_alloc rfl) (fun b5 hb5 => ?_)
    refine g_storeL 5 (s := 20) (C := cmdC y) rfl rfl rfl rfl rfl rfl hyl rfl (oneCell_cmd y) ?_
    refine g_nil ?_
    (repeat refine g_seq ?_)
    refine g_region ?_
    refine g_pu rfl rfl rfl (pu_move rfl rfl) ?_
    refine g_pu rfl rfl rfl (pu_loadW 5 (L := cmdC y) rfl rfl rfl hyl) ?_
    refine g_pu rfl rfl rfl (pu_buildS (cs := cmdC y) rfl rfl (fill_cmd hx16 _ rfl)) ?_
    refine g_lo [15] rfl rfl rfl rfl (lo_buildSlice rfl rfl (by decide) (by decide) rfl hsq) (fun q15 hq15 => ?_)
    refine g_append 90 (s := 20) (cmdC y) rfl rfl rfl (by omega) rfl rfl rfl rfl rfl htl (fun w' hm => hm.rowA 15 rfl) hyl (oneCell_cmd y) (by omega) (by omega) (fun p' c' => ?_)
    rw [← hA]
    refine g_pu rfl rfl rfl (pu_assign rfl rfl) ?_
    refine g_nil ?_
    refine g_blk ?_
    (repeat refine g_seq ?_)
    refine g_region ?_
    refine g_pu rfl rfl rfl (pu_addI rfl rfl rfl (by omega)) ?_
    refine g_pu rfl rfl rfl (pu_move rfl rfl) ?_
    refine g_nil ?_
    exact g_round2 (i + 1) (⟨p', c'⟩ : Ow) (by omega) (by omega) ⟨rfl, rfl, rfl, rfl, rfl, trivial⟩ ⟨rfl, trivial⟩
  · (repeat refine g_seq ?_)
    refine g_region ?_
    first | refine g_pu rfl rfl rfl (pu_lss_t rfl rfl rfl (by omega)) ?_ | refine g_pu rfl rfl rfl (pu_lss_f rfl rfl rfl (by omega)) ?_ | refine g_pu rfl rfl rfl (pu_lss rfl rfl rfl) ?_
    refine g_nil ?_
    (repeat refine g_seq ?_)
    refine g_cond_f rfl (g_exit rfl ?_)
    have e1 : i = m := by omega
    subst e1
    rw [List.take_of_length_le (by omega)]
    (repeat refine g_seq ?_)
    refine g_region ?_
    refine g_pu rfl rfl rfl (pu_move rfl rfl) ?_
    refine g_pu rfl rfl rfl (pu_assign rfl rfl) ?_
    refine g_nil ?_
    exact g_ret1 rfl rfl (fun w' hm => ⟨x, trivial, rfl, hm.grows [90] ⟨rfl, trivial⟩ rfl⟩)
end Go.Sx

/-
  Hops in rows, the program's hops of the document's, and lists of commands that are the same.
-/
import Derived.Test.YtbnfocnhmpegjaaCM3
set_option linter.unusedVariables false
set_option linter.unusedSimpArgs false
namespace Go.Sx
open Go Go.Proofs

theorem fill_step {pl : Nat → Option (Nat × Nat)} {A : Array Value} {C : List Value} {v : Value} {i off s : Nat} {r : List (Nat × Value)} (hv : v.cells = C.toArray) (hp : pl i = some (off, s)) (hC : C.length = s) (hA : off + s ≤ A.size) : Instr.fill pl A ((i, v) :: r) = Instr.fill pl (A.toList.take off ++ C ++ A.toList.drop (off + s)).toArray r := by
  have h1 := set_cells off C 0 A (by omega)
  simp only [Nat.add_zero, hC] at h1
  simp only [Instr.fill, hp, hv, List.size_toArray, hC]
  rw [if_neg (by simp; omega), ← h1]
  congr 1
  rw [← Array.foldl_toList, Array.toList_zipIdx]

structure Hop where
  name : ByteArray
  id : BitVec 64
  pv : List (BitVec 8)
  pb : List (BitVec 8)
  dl : Int
  fl : Int
def Hop.ok (h : Hop) : Prop := h.pv.length = 32 ∧ h.pb.length = 32
def nodeC (h : Hop) : List Value := [.string h.name, b64 h.id] ++ (bs h.pv ++ bs h.pb)
def hopC (h : Hop) : List Value := nodeC h ++ [.int .i64 h.dl, .int .i64 h.fl]
theorem nodeC_length {h : Hop} (ho : h.ok) : (nodeC h).length = 66 := by simp [nodeC, bs_length, ho.1, ho.2]
theorem hopC_length {h : Hop} (ho : h.ok) : (hopC h).length = 68 := by simp [hopC, nodeC_length ho]
theorem fill_node {h : Hop} (ho : h.ok) (A : Array Value) (hA : A.size = 66) : Instr.fill (fun i => [(0, 66)][i]?) A [(0, .agg (nodeC h).toArray)] = some (nodeC h).toArray := by
  rw [fill_one (C := nodeC h) (off := 0) (s := 66) rfl (nodeC_length ho) (by omega), List.take_zero, List.nil_append, List.drop_of_length_le (by rw [Array.length_toList]; omega), List.append_nil]
theorem fill_hop {h : Hop} (ho : h.ok) (A : Array Value) (hA : A.size = 68) : Instr.fill (fun i => [(0, 66), (66, 1), (67, 1)][i]?) A [(0, .agg (nodeC h).toArray), (1, .int .i64 h.dl), (2, .int .i64 h.fl)] = some (hopC h).toArray := by
  have hn := nodeC_length ho
  have hd : (A.toList.drop (0 + 66)).length = 2 := by rw [List.length_drop, Array.length_toList]; omega
  rw [fill_step (C := nodeC h) (off := 0) (s := 66) rfl rfl hn (by omega), List.take_zero, List.nil_append]
  generalize A.toList.drop (0 + 66) = D at hd
  match D, hd with
  | [z1, z2], _ =>
    rw [fill_step (C := [.int .i64 h.dl]) (off := 66) (s := 1) rfl rfl rfl (by simp [hn])]
    rw [show (nodeC h ++ [z1, z2]).toArray.toList.take 66 = nodeC h from List.take_left' hn, show (nodeC h ++ [z1, z2]).toArray.toList.drop (66 + 1) = [z2] by
      show (nodeC h ++ [z1, z2]).drop (66 + 1) = [z2]
      rw [← List.drop_drop, List.drop_left' hn]; rfl]
    rw [fill_step (C := [.int .i64 h.fl]) (off := 67) (s := 1) rfl rfl rfl (by simp [hn])]
    have h67 : (nodeC h ++ [Value.int .i64 h.dl]).length = 67 := by simp [hn]
    rw [show (nodeC h ++ [Value.int .i64 h.dl] ++ [z2]).toArray.toList.take 67 = nodeC h ++ [Value.int .i64 h.dl] from List.take_left' h67, show (nodeC h ++ [Value.int .i64 h.dl] ++ [z2]).toArray.toList.drop (67 + 1) = [] by
      show (nodeC h ++ [Value.int .i64 h.dl] ++ [z2]).drop (67 + 1) = []
      rw [← List.drop_drop, List.drop_left' h67]; rfl]
    simp [Instr.fill, hopC]
def hopsC (hs : List Hop) : List Value := (hs.map hopC).flatten
theorem hopsC_length : ∀ {hs : List Hop}, (∀ h ∈ hs, h.ok) → (hopsC hs).length = hs.length * 68
  | [], _ => rfl
  | x :: r, h => by
    have ih := hopsC_length (hs := r) (fun y hy => h y (List.mem_cons_of_mem _ hy))
    unfold hopsC at ih ⊢
    rw [List.map_cons, List.flatten_cons, List.length_append, ih, hopC_length (h x (by simp)), List.length_cons]; omega
theorem hopsC_at {hs : List Hop} {i : Nat} {x : Hop} (h : hs[i]? = some x) : hopsC (hs.take (i + 1)) = hopsC (hs.take i) ++ hopC x := by
  unfold hopsC
  rw [List.take_add_one, h]; simp
theorem hopsC_split {hs : List Hop} {i : Nat} {x : Hop} (h : hs[i]? = some x) : hopsC hs = hopsC (hs.take i) ++ (hopC x ++ hopsC (hs.drop (i + 1))) := by
  rw [← List.append_assoc, ← hopsC_at h]
  unfold hopsC
  rw [← List.flatten_append, ← List.map_append, List.take_append_drop]
theorem hopsC_take {hs : List Hop} {i : Nat} (hm : ∀ x ∈ hs, x.ok) (hi : i ≤ hs.length) : (hopsC (hs.take i)).length = i * 68 := by
  rw [hopsC_length (fun x hx => hm x (List.mem_of_mem_take hx)), List.length_take, Nat.min_eq_left hi]
theorem hopsC_get {hs : List Hop} {i : Nat} {x : Hop} (hm : ∀ x ∈ hs, x.ok) (h : hs[i]? = some x) : ((hopsC hs).drop (i * 68)).take 68 = hopC x := by
  have hi := (List.getElem?_eq_some_iff.1 h).1
  rw [hopsC_split h, List.drop_left' (hopsC_take hm (by omega)), List.take_left' (hopC_length (hm x (List.mem_of_getElem? h)))]
/-- A cell of a hop in a row. -/
theorem hopsC_cell {hs : List Hop} {i j : Nat} {x : Hop} {v : Value} (hm : ∀ x ∈ hs, x.ok) (h : hs[i]? = some x) (hj : (hopC x)[j]? = some v) : (hopsC hs)[i * 68 + j]? = some v := by
  have hi := (List.getElem?_eq_some_iff.1 h).1
  have hl := hopsC_take hm (show i ≤ hs.length by omega)
  have hlt := (List.getElem?_eq_some_iff.1 hj).1
  rw [hopsC_split h, List.getElem?_append_right (by omega), hl, show i * 68 + j - i * 68 = j by omega, List.getElem?_append_left hlt, hj]
theorem hop_cell1 (x : Hop) : (hopC x)[1]? = some (b64 x.id) := rfl
theorem hop_cell66 {x : Hop} (ho : x.ok) : (hopC x)[66]? = some (.int .i64 x.dl) := by
  have := nodeC_length ho
  unfold hopC
  rw [List.getElem?_append_right (by omega), show 66 - (nodeC x).length = 0 by omega]; rfl
theorem hop_cell67 {x : Hop} (ho : x.ok) : (hopC x)[67]? = some (.int .i64 x.fl) := by
  have := nodeC_length ho
  unfold hopC
  rw [List.getElem?_append_right (by omega), show 67 - (nodeC x).length = 1 by omega]; rfl
theorem oneCell_hop (h : Hop) : ∀ u ∈ hopC h, u.oneCell' = true := fun u hu => by
  unfold hopC nodeC at hu
  simp only [List.mem_append, List.mem_cons, List.not_mem_nil, or_false] at hu
  rcases hu with ((rfl | rfl) | hu | hu) | rfl | rfl
  · rfl
  · rfl
  · exact oneCell_bs _ u hu
  · exact oneCell_bs _ u hu
  · rfl
  · rfl

theorem Hops_b (w : World) {q : Option Addr} {m : Nat} (d : Nat) {hs : List Hop} (hq : RdV w q (hopsC hs)) (hn : hs.length = m) (ho : ∀ x ∈ hs, x.ok) (hmb : m ≤ 1353245080300) :
    Spec Try.prog 13 #[.slice q m d] w (σ := Ow) (fun _ => True) (fun x => .slice x.p m x.c) Nob (fun x => [x.ck 71 68 (hopsC hs)]) := by
  refine enter Try.func13 rfl rfl (Mem.start w) ?_
  have hcl := hopsC_length ho
  (repeat refine g_seq ?_)
  refine g_region ?_
  refine g_pu rfl rfl rfl (pu_assign rfl rfl) ?_
  refine g_nil ?_
  (repeat refine g_seq ?_)
  refine g_region ?_
  refine g_pu rfl rfl rfl (pu_assign rfl rfl) ?_
  refine g_nil ?_
  (repeat refine g_seq ?_)
  refine g_region ?_
  refine g_pu rfl rfl rfl (pu_move rfl rfl) ?_
  first | refine g_pu rfl rfl rfl (pu_len rfl rfl) ?_ | refine g_pu rfl rfl rfl (pu_lenS rfl rfl) ?_
  refine g_pu rfl rfl rfl (pu_move rfl rfl) ?_
  refine g_nil ?_
  refine g_nilOwn 90 71 68 rfl ?_
  refine g_block (g_loop2 (fun (i : Nat) (x : Ow) => [(0, .slice q m d), (3, .slice x.p i x.c), (6, .slice q m d), (7, .int .i64 (m : Int)), (8, .int .i64 (i : Int))]) (fun i x => [(90, x.ck 71 68 (hopsC (hs.take i)))]) (fun i _ => i ≤ m) (fun i _ => m - i) 0 ⟨none, 0⟩ ⟨rfl, rfl, rfl, rfl, rfl, trivial⟩ ⟨rfl, trivial⟩ (by omega) ?_)
  intro i x hi
  by_cases hlt : i < m
  · (repeat refine g_seq ?_)
    refine g_region ?_
    first | refine g_pu rfl rfl rfl (pu_lss_t rfl rfl rfl (by omega)) ?_ | refine g_pu rfl rfl rfl (pu_lss_f rfl rfl rfl (by omega)) ?_ | refine g_pu rfl rfl rfl (pu_lss rfl rfl rfl) ?_
    refine g_nil ?_
    (repeat refine g_seq ?_)
    refine g_cond_t rfl (g_skip ?_)
    have h1 : hs[i]? = some hs[i] := List.getElem?_eq_getElem (by omega)
    have hxo := ho hs[i] (List.getElem_mem (by omega))
    generalize hs[i] = y at h1 hxo
    have hyl := hopC_length hxo
    have hnl := nodeC_length hxo
    have hg := hopsC_get ho h1
    have hA := hopsC_at h1
    have htl := hopsC_take (i := i) ho (by omega)
    have hsq : seqCells 68 0 [(0, Value.agg (hopC y).toArray)] = some (hopC y) := by simp [seqCells, Value.cells, hyl]
    have hext : (hopC y).toArray.extract (0 + 0) (0 + 0 + 66) = (nodeC y).toArray := by
      apply Array.ext'
      simp only [Array.toList_extract, List.extract_eq_take_drop]
      show ((hopC y).drop 0).take 66 = nodeC y
      rw [List.drop_zero]
      exact List.take_left' hnl
    have hc66 : (hopC y).toArray[0 + 66]? = some (.int .i64 y.dl) := by
      rw [List.getElem?_toArray]
      unfold hopC
      rw [List.getElem?_append_right (by omega), show 0 + 66 - (nodeC y).length = 0 by omega]; rfl
    have hc67 : (hopC y).toArray[0 + 67]? = some (.int .i64 y.fl) := by
      rw [List.getElem?_toArray]
      unfold hopC
      rw [List.getElem?_append_right (by omega), show 0 + 67 - (nodeC y).length = 1 by omega]; rfl
    (repeat refine g_seq ?_); refine g_block ?_
    (repeat refine g_seq ?_)
    refine g_region ?_
    refine g_pu rfl rfl rfl (pu_atM i (s := 68) (L := hopsC hs) (fun w' hm => hq.mem0 hm) rfl rfl rfl rfl hlt (by omega)) ?_
    refine g_pu rfl rfl rfl (pu_rdMA (L := hopsC hs) (j := i * 68) (s := 68) (fun w' hm => hq.mem0 hm) rfl rfl (by omega) (by omega)) ?_
    rw [hg]
    refine g_lo [5] rfl rfl rfl rfl (lo_alloc rfl) (fun b5 hb5 => ?_)
    refine g_storeL 5 (s := 68) (C := hopC y) rfl rfl rfl rfl rfl rfl hyl rfl (oneCell_hop y) ?_
    refine g_nil ?_
    (repeat refine g_seq ?_)
    refine g_region ?_
    refine g_pu rfl rfl rfl (pu_move rfl rfl) ?_
    refine g_pu rfl rfl rfl (pu_fieldAddr (by decide) rfl rfl) ?_
    refine g_pu rfl rfl rfl (pu_loadE 5 (nodeC y).toArray rfl rfl rfl (show 0 + 0 + 66 ≤ (hopC y).toArray.size by rw [List.size_toArray]; omega) hext) ?_
    refine g_pu rfl rfl rfl (pu_buildS (cs := nodeC y) rfl rfl (fill_node hxo _ rfl)) ?_
    refine g_pu rfl rfl rfl (pu_fieldAddr (by decide) rfl rfl) ?_
    refine g_pu rfl rfl rfl (pu_load 5 (v := .int .i64 y.dl) rfl rfl rfl hc66) ?_
    refine g_pu rfl rfl rfl (pu_fieldAddr (by decide) rfl rfl) ?_
    refine g_pu rfl rfl rfl (pu_load 5 (v := .int .i64 y.fl) rfl rfl rfl hc67) ?_
    refine g_pu rfl rfl rfl (pu_buildS (cs := hopC y) rfl rfl (fill_hop hxo _ rfl)) ?_
    refine g_lo [21] rfl rfl rfl rfl (lo_buildSlice rfl rfl (by decide) (by decide) rfl hsq) (fun q21 hq21 => ?_)
    refine g_append 90 (s := 68) (hopC y) rfl rfl rfl (by omega) rfl rfl rfl rfl rfl htl (fun w' hm => hm.rowA 21 rfl) hyl (oneCell_hop y) (by omega) (by omega) (fun p' c' => ?_)
    rw [← hA]
    refine g_pu rfl rfl rfl (pu_assign rfl rfl) ?_
    refine g_nil ?_
    refine g_blk ?_
    (repeat refine g_seq ?_)
    refine g_region ?_
    refine g_pu rfl rfl rfl (pu_addI rfl rfl rfl (by omega)) ?_
    refine g_pu rfl rfl rfl (pu_move rfl rfl) ?_
    refine g_nil ?_
    exact g_round2 (i + 1) (⟨p', c'⟩ : Ow) (by omega) (by omega) ⟨rfl, rfl, rfl, rfl, rfl, trivial⟩ ⟨rfl, trivial⟩
  · (repeat refine g_seq ?_)
    refine g_region ?_
    first | refine g_pu rfl rfl rfl (pu_lss_t rfl rfl rfl (by omega)) ?_ | refine g_pu rfl rfl rfl (pu_lss_f rfl rfl rfl (by omega)) ?_ | refine g_pu rfl rfl rfl (pu_lss rfl rfl rfl) ?_
    refine g_nil ?_
    (repeat refine g_seq ?_)
    refine g_cond_f rfl (g_exit rfl ?_)
    have e1 : i = m := by omega
    subst e1
    rw [List.take_of_length_le (by omega)]
    (repeat refine g_seq ?_)
    refine g_region ?_
    refine g_pu rfl rfl rfl (pu_move rfl rfl) ?_
    refine g_pu rfl rfl rfl (pu_assign rfl rfl) ?_
    refine g_nil ?_
    exact g_ret1 rfl rfl (fun w' hm => ⟨x, trivial, rfl, hm.grows [90] ⟨rfl, trivial⟩ rfl⟩)

/-- Lists that are the same. -/
theorem CSame_b (w : World) {p q : Option Addr} {n : Nat} (c d : Nat) {cs : List Cmd} (hp : RdV w p (cmdsC cs)) (hq : RdV w q (cmdsC cs)) (hn : cs.length = n) (h16 : ∀ x ∈ cs, x.m.length = 16) (hnb : n ≤ 1353245080300) :
    Spec Try.prog 15 #[.slice p n c, .slice q n d] w (σ := Unit) (fun _ => True) (fun _ => .bool true) Nob (fun _ => []) := by
  refine enter Try.func15 rfl rfl (Mem.start w) ?_
  have hcl := cmdsC_length h16
  (repeat refine g_seq ?_)
  refine g_region ?_
  refine g_pu rfl rfl rfl (pu_assign rfl rfl) ?_
  refine g_nil ?_
  (repeat refine g_seq ?_)
  refine g_region ?_
  refine g_pu rfl rfl rfl (pu_move rfl rfl) ?_
  first | refine g_pu rfl rfl rfl (pu_len rfl rfl) ?_ | refine g_pu rfl rfl rfl (pu_lenS rfl rfl) ?_
  refine g_pu rfl rfl rfl (pu_move rfl rfl) ?_
  first | refine g_pu rfl rfl rfl (pu_len rfl rfl) ?_ | refine g_pu rfl rfl rfl (pu_lenS rfl rfl) ?_
  refine g_pu rfl rfl rfl (pu_neq_f rfl rfl rfl (by omega)) ?_
  refine g_nil ?_
  (repeat refine g_seq ?_)
  refine g_cond_f rfl (g_skip ?_)
  (repeat refine g_seq ?_)
  refine g_region ?_
  refine g_pu rfl rfl rfl (pu_assign rfl rfl) ?_
  refine g_nil ?_
  refine g_block (g_loop (σ := Nat) (fun (i : Nat) => [(0, .slice p n c), (1, .slice q n d), (5, .int .i64 (i : Int))]) (fun i => []) (fun i => i ≤ n) (fun i => n - i) 0 ⟨rfl, rfl, rfl, trivial⟩ trivial (by omega) ?_)
  intro i hi
  by_cases hlt : i < n
  · (repeat refine g_seq ?_)
    refine g_region ?_
    refine g_pu rfl rfl rfl (pu_move rfl rfl) ?_
    refine g_pu rfl rfl rfl (pu_move rfl rfl) ?_
    first | refine g_pu rfl rfl rfl (pu_len rfl rfl) ?_ | refine g_pu rfl rfl rfl (pu_lenS rfl rfl) ?_
    refine g_pu rfl rfl rfl (pu_lss_t rfl rfl rfl (by omega)) ?_
    refine g_nil ?_
    (repeat refine g_seq ?_)
    refine g_cond_t rfl (g_skip ?_)
    have h1 : cs[i]? = some cs[i] := List.getElem?_eq_getElem (by omega)
    have hx16 := h16 cs[i] (List.getElem_mem (by omega))
    generalize cs[i] = y at h1 hx16
    have hg := cmdsC_get h16 h1
    (repeat refine g_seq ?_); refine g_block ?_
    (repeat refine g_seq ?_)
    refine g_any (9, []) ?_
    refine a_pu 0 rfl rfl rfl rfl (pu_move rfl rfl) rfl rfl (by kernel_rfl) ?_
    refine a_pu 1 rfl rfl rfl rfl (pu_move rfl rfl) rfl rfl (by kernel_rfl) ?_
    refine a_pu 2 rfl rfl rfl rfl (pu_atM i (s := 20) (L := cmdsC cs) (fun w' hm => hp.mem0 hm) rfl rfl rfl rfl hlt (by omega)) rfl rfl (by kernel_rfl) ?_
    refine a_pu 3 rfl rfl rfl rfl (pu_rdMA (L := cmdsC cs) (j := i * 20) (s := 20) (fun w' hm => hp.mem0 hm) rfl rfl (by omega) (by omega)) rfl rfl (by kernel_rfl) ?_
    rw [hg]
    refine a_pu 4 rfl rfl rfl rfl (pu_move rfl rfl) rfl rfl (by kernel_rfl) ?_
    refine a_pu 5 rfl rfl rfl rfl (pu_move rfl rfl) rfl rfl (by kernel_rfl) ?_
    refine a_pu 6 rfl rfl rfl rfl (pu_atM i (s := 20) (L := cmdsC cs) (fun w' hm => hq.mem0 hm) rfl rfl rfl rfl hlt (by omega)) rfl rfl (by kernel_rfl) ?_
    refine a_pu 7 rfl rfl rfl rfl (pu_rdMA (L := cmdsC cs) (j := i * 20) (s := 20) (fun w' hm => hq.mem0 hm) rfl rfl (by omega) (by omega)) rfl rfl (by kernel_rfl) ?_
    rw [hg]
    refine a_pu 8 rfl rfl rfl rfl (pu_neqR (cmd_refl y hx16) rfl rfl rfl) rfl rfl (by kernel_rfl) ?_
    refine a_done (by kernel_rfl) ?_
    (repeat refine g_seq ?_)
    refine g_cond_f rfl (g_skip ?_)
    refine g_blk ?_
    (repeat refine g_seq ?_)
    refine g_region ?_
    refine g_pu rfl rfl rfl (pu_move rfl rfl) ?_
    refine g_pu rfl rfl rfl (pu_addI rfl rfl rfl (by omega)) ?_
    refine g_pu rfl rfl rfl (pu_assign rfl rfl) ?_
    refine g_nil ?_
    exact g_round (i + 1) (by omega) (by omega) ⟨rfl, rfl, rfl, trivial⟩ trivial
  · (repeat refine g_seq ?_)
    refine g_region ?_
    refine g_pu rfl rfl rfl (pu_move rfl rfl) ?_
    refine g_pu rfl rfl rfl (pu_move rfl rfl) ?_
    first | refine g_pu rfl rfl rfl (pu_len rfl rfl) ?_ | refine g_pu rfl rfl rfl (pu_lenS rfl rfl) ?_
    refine g_pu rfl rfl rfl (pu_lss_f rfl rfl rfl (by omega)) ?_
    refine g_nil ?_
    (repeat refine g_seq ?_)
    refine g_cond_f rfl (g_exit rfl ?_)
    (repeat refine g_seq ?_)
    refine g_region ?_
    refine g_pu rfl rfl rfl (pu_assign rfl rfl) ?_
    refine g_nil ?_
    exact g_ret1 rfl rfl (fun w' hm => ⟨(), trivial, rfl, hm.grows [] trivial rfl⟩)
end Go.Sx

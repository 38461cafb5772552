/-
  The keys of labels: the program's and the document's way come to the same.
-/
import Derived.Test.YtfnbedjnbofliaaM3
set_option linter.unusedVariables false
set_option linter.unusedSimpArgs false
namespace Go.Sx
open Go Go.Proofs

def saltB : List (BitVec 8) := [115#8, 104#8, 97#8, 108#8, 108#8, 111#8, 116#8]
def drvL (secret label : List (BitVec 8)) : List (BitVec 8) := expL (hmacL saltB secret) label 32
theorem drvL_length (secret label : List (BitVec 8)) : (drvL secret label).length = 32 := expL_length 32
def drvs (secret : List (BitVec 8)) (ss : List ByteArray) : List (BitVec 8) := (ss.map fun s => drvL secret (bytesOf s)).flatten
theorem drvs_length (secret : List (BitVec 8)) : ∀ ss, (drvs secret ss).length = ss.length * 32
  | [] => rfl
  | s :: r => by
    have := drvs_length secret r
    unfold drvs at this ⊢
    rw [List.map_cons, List.flatten_cons, List.length_append, this, drvL_length, List.length_cons]; omega
theorem drvs_at {secret : List (BitVec 8)} {ss : List ByteArray} {i : Nat} {s : ByteArray} (h : ss[i]? = some s) : drvs secret (ss.take (i + 1)) = drvs secret (ss.take i) ++ drvL secret (bytesOf s) := by
  unfold drvs
  rw [List.take_add_one, h]; simp
theorem drvs_get {secret : List (BitVec 8)} {ss : List ByteArray} {i : Nat} {s : ByteArray} (h : ss[i]? = some s) : ((drvs secret ss).drop (i * 32)).take 32 = drvL secret (bytesOf s) := by
  have hi := (List.getElem?_eq_some_iff.1 h).1
  have e : drvs secret ss = drvs secret (ss.take i) ++ (drvL secret (bytesOf s) ++ drvs secret (ss.drop (i + 1))) := by
    rw [← List.append_assoc, ← drvs_at h]
    unfold drvs
    rw [← List.flatten_append, ← List.map_append, List.take_append_drop]
  have hl : (drvs secret (ss.take i)).length = i * 32 := by rw [drvs_length, List.length_take, Nat.min_eq_left (by omega)]
  rw [e, List.drop_left' hl, List.take_left' (drvL_length _ _)]

theorem RDerive_b (w : World) {p : Option Addr} {n : Nat} (c : Nat) {secret : List (BitVec 8)} (label : ByteArray) (ha : By w p n secret) (hnb : n ≤ 140737488355072) (hlb : label.size ≤ 140737488355072) :
    Spec Try.prog 28 #[.slice p n c, .string label] w (σ := Unit) (fun _ => True) (fun _ => .agg (bs (drvL secret (bytesOf label))).toArray) Nob (fun _ => []) := by
  refine enter Try.func28 rfl rfl (Mem.start w) ?_
  have hhl := hmacL_length saltB secret
  have hdl := drvL_length secret (bytesOf label)
  have hbo := bytesOf_length label
  have hz : (bs (List.replicate 32 0#8)).take 0 ++ (bs (drvL secret (bytesOf label))).take (Nat.min 32 32) ++ (bs (List.replicate 32 0#8)).drop (0 + Nat.min 32 32) = bs (drvL secret (bytesOf label)) := by
    rw [List.take_zero, List.nil_append, List.take_of_length_le (by rw [bs_length, hdl]; exact Nat.le_refl _), List.drop_of_length_le (by rw [bs_length]; simp), List.append_nil]
  (repeat refine g_seq ?_)
  refine g_region ?_
  refine g_lo [4] rfl rfl rfl rfl (lo_alloc rfl) (fun b4 hb4 => ?_)
  refine g_nil ?_
  (repeat refine g_seq ?_)
  refine g_region ?_
  refine g_lo [9] rfl rfl rfl rfl (lo_buildSlice rfl rfl (by decide) (by decide) rfl rfl) (fun b9 hb9 => ?_)
  refine g_mark 9 rfl rfl rfl rfl rfl rfl ?_
  refine g_pu rfl rfl rfl (pu_move rfl rfl) ?_
  refine g_call [] rfl rfl rfl rfl rfl rfl (fun w' hm => RTag_b w' _ c (key := saltB) (By.full 9 rfl hm rfl (by omega)) (ha.m hm) (by omega) (by omega)) (fun _ _ => ?_)
  refine g_lo [5] rfl rfl rfl rfl (lo_alloc rfl) (fun b5 hb5 => ?_)
  refine g_storeL 5 (s := 32) (C := bs (hmacL saltB secret)) rfl rfl rfl rfl rfl rfl (by rw [bs_length, hhl]) rfl (oneCell_bs _) ?_
  refine g_nil ?_
  (repeat refine g_seq ?_)
  refine g_region ?_
  refine g_pu rfl rfl rfl (pu_sliceA rfl rfl) ?_
  refine g_pu rfl rfl rfl (pu_move rfl rfl) ?_
  refine g_lo [16] rfl rfl rfl rfl (lo_bytesOf rfl rfl (by omega)) (fun x16 hx16 => ?_)
  refine g_call [17] rfl rfl rfl rfl rfl rfl (fun w' hm => RExpand_b w' _ _ 32 (key := hmacL saltB secret) (W := bytesOf label) (By.full 5 rfl hm hhl (by omega)) ⟨hm.row 16 rfl, hbo, by omega⟩ (by omega) (by omega) (by omega)) (fun x17 _ => ?_)
  refine g_pu rfl rfl rfl (pu_move rfl rfl) ?_
  refine g_pu rfl rfl rfl (pu_extract rfl rfl rfl) ?_
  refine g_pu rfl rfl rfl (pu_extract rfl rfl rfl) ?_
  refine g_pu rfl rfl rfl (pu_assign rfl rfl) ?_
  refine g_pu rfl rfl rfl (pu_assign rfl rfl) ?_
  refine g_nil ?_
  (repeat refine g_seq ?_)
  refine g_region ?_
  refine g_lo [8] rfl rfl rfl rfl (lo_alloc rfl) (fun q8 hb8 => ?_)
  refine g_nil ?_
  (repeat refine g_seq ?_)
  refine g_region ?_
  refine g_pu rfl rfl rfl (pu_sliceA rfl rfl) ?_
  refine g_pu rfl rfl rfl (pu_move rfl rfl) ?_
  refine g_copyF 8 (L := bs (List.replicate 32 0#8)) (n := 32) (m := 32) (bs (drvL secret (bytesOf label))) rfl rfl rfl rfl rfl rfl rfl (fun w' hm => Ow.rd (t := 17) rfl hm) (by rw [bs_length, hdl]) (by rw [bs_length]; simp) (oneCell_bs _) ?_
  rw [hz]
  refine g_nil ?_
  (repeat refine g_seq ?_)
  refine g_region ?_
  refine g_pu rfl rfl rfl (pu_loadW 8 (L := bs (drvL secret (bytesOf label))) rfl rfl rfl (by rw [bs_length, hdl])) ?_
  refine g_storeL 4 (s := 32) (C := bs (drvL secret (bytesOf label))) rfl rfl rfl rfl rfl rfl (by rw [bs_length, hdl]) rfl (oneCell_bs _) ?_
  refine g_nil ?_
  exact g_retL 4 (L := bs (drvL secret (bytesOf label))) rfl (by rw [bs_length, hdl]) rfl rfl (fun w' hm => ⟨(), trivial, rfl, hm.grows [] trivial rfl⟩)

theorem flatOne {l : List (BitVec 8)} : [l].flatten = l := by simp

theorem Derive_b (w : World) {p q : Option Addr} {n m : Nat} (c d : Nat) {secret : List (BitVec 8)} {ss : List ByteArray} (ha : By w p n secret) (hq : RdV w q (ss.map Value.string)) (hm' : ss.length = m) (hnb : n ≤ 140737488355072) (hmb : m ≤ 4398046511104) (hlb : ∀ s ∈ ss, s.size ≤ 140737488355072) :
    Spec Try.prog 27 #[.slice p n c, .slice q m d] w (σ := Ow) (fun _ => True) (fun x => x.sl m) Nob (fun x => [x.ck 34 32 (bs (drvs secret ss))]) := by
  refine enter Try.func27 rfl rfl (Mem.start w) ?_
  have hhl := hmacL_length saltB secret
  (repeat refine g_seq ?_)
  refine g_region ?_
  refine g_pu rfl rfl rfl (pu_assign rfl rfl) ?_
  refine g_nil ?_
  (repeat refine g_seq ?_)
  refine g_region ?_
  refine g_lo [11] rfl rfl rfl rfl (lo_buildSlice rfl rfl (by decide) (by decide) rfl rfl) (fun b11 hb11 => ?_)
  refine g_mark 11 rfl rfl rfl rfl rfl rfl ?_
  refine g_pu rfl rfl rfl (pu_move rfl rfl) ?_
  refine g_call [] rfl rfl rfl rfl rfl rfl (fun w' hm => Extract_b w' _ c (key := saltB) (By.full 11 rfl hm rfl (by omega)) (ha.m hm) (by omega) (by omega)) (fun _ _ => ?_)
  refine g_lo [5] rfl rfl rfl rfl (lo_alloc rfl) (fun b5 hb5 => ?_)
  refine g_storeL 5 (s := 32) (C := bs (hmacL saltB secret)) rfl rfl rfl rfl rfl rfl (by rw [bs_length, hhl]) rfl (oneCell_bs _) ?_
  refine g_nil ?_
  (repeat refine g_seq ?_)
  refine g_region ?_
  refine g_pu rfl rfl rfl (pu_assign rfl rfl) ?_
  refine g_nil ?_
  (repeat refine g_seq ?_)
  refine g_region ?_
  refine g_pu rfl rfl rfl (pu_move rfl rfl) ?_
  first | refine g_pu rfl rfl rfl (pu_len rfl rfl) ?_ | refine g_pu rfl rfl rfl (pu_lenS rfl rfl) ?_
  refine g_pu rfl rfl rfl (pu_move rfl rfl) ?_
  refine g_nil ?_
  refine g_nilOwn 90 34 32 rfl ?_
  refine g_block (g_loop2 (fun (i : Nat) (x : Ow) => [(0, .slice p n c), (1, .slice q m d), (5, .pointer (some ⟨b5, 0, none⟩)), (6, x.sl i), (15, .slice q m d), (16, .int .i64 (m : Int)), (17, .int .i64 (i : Int))]) (fun i x => [(5, .pt b5 (.cells (bs (hmacL saltB secret)).toArray 34 (0, 0))), (90, x.ck 34 32 (bs (drvs secret (ss.take i))))]) (fun i _ => i ≤ m) (fun i _ => m - i) 0 ⟨none, 0⟩ ⟨rfl, rfl, rfl, rfl, rfl, rfl, rfl, trivial⟩ ⟨rfl, rfl, trivial⟩ (by omega) ?_)
  intro i x hi
  by_cases hlt : i < m
  · (repeat refine g_seq ?_)
    refine g_region ?_
    first | refine g_pu rfl rfl rfl (pu_lss_t rfl rfl rfl (by omega)) ?_ | refine g_pu rfl rfl rfl (pu_lss_f rfl rfl rfl (by omega)) ?_ | refine g_pu rfl rfl rfl (pu_lss rfl rfl rfl) ?_
    refine g_nil ?_
    (repeat refine g_seq ?_)
    refine g_cond_t rfl (g_skip ?_)
    have h1 : ss[i]? = some ss[i] := List.getElem?_eq_getElem (by omega)
    have hsz := hlb ss[i] (List.getElem_mem (by omega))
    generalize ss[i] = s at h1 hsz
    have h2 : (ss.map Value.string)[i]? = some (.string s) := by rw [List.getElem?_map, h1]; rfl
    have hbo := bytesOf_length s
    have hdl := drvL_length secret (bytesOf s)
    have hA := drvs_at (secret := secret) h1
    have hdrl : (drvs secret (ss.take i)).length = i * 32 := by rw [drvs_length, List.length_take, Nat.min_eq_left (by omega)]
    have hsq : seqCells 32 0 [(0, Value.agg (bs (drvL secret (bytesOf s))).toArray)] = some (bs (drvL secret (bytesOf s))) := by simp [seqCells, Value.cells, bs_length, hdl]
    have hml : (ss.map Value.string).length = m := by rw [List.length_map, hm']
    (repeat refine g_seq ?_); refine g_block ?_
    (repeat refine g_seq ?_)
    refine g_region ?_
    refine g_pu rfl rfl rfl (pu_atM1 i (fun w' hm => hq.mem0 hm) rfl rfl rfl rfl hlt (by omega)) ?_
    refine g_pu rfl rfl rfl (pu_rdM (fun w' hm => hq.mem0 hm) rfl rfl h2) ?_
    refine g_pu rfl rfl rfl (pu_assign rfl rfl) ?_
    refine g_nil ?_
    (repeat refine g_seq ?_)
    refine g_region ?_
    refine g_pu rfl rfl rfl (pu_sliceA rfl rfl) ?_
    refine g_pu rfl rfl rfl (pu_move rfl rfl) ?_
    refine g_lo [24] rfl rfl rfl rfl (lo_bytesOf rfl rfl (by omega)) (fun x24 hx24 => ?_)
    refine g_lo [25] rfl rfl rfl rfl (lo_buildSlice rfl rfl (by decide) (by decide) rfl rfl) (fun b25 hb25 => ?_)
    refine g_call [26] rfl rfl rfl rfl rfl rfl (fun w' hm => Expand_b w' _ 1 32 (key := hmacL saltB secret) (L := [.slice (some ⟨x24.1, 0, none⟩) s.size x24.2]) (ls := [bytesOf s]) (By.full 5 rfl hm hhl (by omega)) ⟨hm.rowA 25 rfl, rfl, All2.cons ⟨_, _, _, rfl, ⟨hm.row 24 rfl, hbo, by omega⟩, fun _ _ => trivial⟩ All2.nil, by omega⟩ (by omega) (by omega) (by omega) (by rw [flatOne]; omega)) (fun x26 _ => ?_)
    rw [flatOne, show expL (hmacL saltB secret) (bytesOf s) 32 = drvL secret (bytesOf s) from rfl]
    refine g_pu rfl rfl rfl (pu_move rfl rfl) ?_
    refine g_pu rfl rfl rfl (pu_extract rfl rfl rfl) ?_
    refine g_pu rfl rfl rfl (pu_extract rfl rfl rfl) ?_
    refine g_pu rfl rfl rfl (pu_assign rfl rfl) ?_
    refine g_pu rfl rfl rfl (pu_assign rfl rfl) ?_
    refine g_nil ?_
    (repeat refine g_seq ?_)
    refine g_region ?_
    refine g_pu rfl rfl rfl (pu_move rfl rfl) ?_
    refine g_pu rfl rfl rfl (pu_move rfl rfl) ?_
    refine g_pu rfl rfl rfl (pu_s2a (fun w' hm => By.ow 26 rfl hm hdl (by omega)) rfl rfl (by omega) (by omega)) ?_
    refine g_pu rfl rfl rfl (pu_rdMA (L := bs (drvL secret (bytesOf s))) (j := 0) (s := 32) (fun w' hm => Ow.rd (t := 26) rfl hm) rfl rfl (by omega) (by rw [bs_length, hdl]; omega)) ?_
    rw [List.drop_zero, List.take_of_length_le (show (bs (drvL secret (bytesOf s))).length ≤ 32 by rw [bs_length, hdl]; omega)]
    refine g_lo [33] rfl rfl rfl rfl (lo_buildSlice rfl rfl (by decide) (by decide) rfl hsq) (fun q33 hq33 => ?_)
    refine g_append 90 (s := 32) (bs (drvL secret (bytesOf s))) rfl rfl rfl (by omega) rfl rfl rfl rfl rfl (by rw [bs_length, hdrl]) (fun w' hm => hm.rowA 33 rfl) (by rw [bs_length, hdl]) (oneCell_bs _) (by omega) (by omega) (fun p' c' => ?_)
    rw [← bs_append, ← hA]
    refine g_pu rfl rfl rfl (pu_assign rfl rfl) ?_
    refine g_nil ?_
    refine g_blk ?_
    (repeat refine g_seq ?_)
    refine g_region ?_
    refine g_pu rfl rfl rfl (pu_addI rfl rfl rfl (by omega)) ?_
    refine g_pu rfl rfl rfl (pu_move rfl rfl) ?_
    refine g_nil ?_
    exact g_round2 (i + 1) (⟨p', c'⟩ : Ow) (by omega) (by omega) ⟨rfl, rfl, rfl, rfl, rfl, rfl, rfl, trivial⟩ ⟨rfl, rfl, trivial⟩
  · (repeat refine g_seq ?_)
    refine g_region ?_
    first | refine g_pu rfl rfl rfl (pu_lss_t rfl rfl rfl (by omega)) ?_ | refine g_pu rfl rfl rfl (pu_lss_f rfl rfl rfl (by omega)) ?_ | refine g_pu rfl rfl rfl (pu_lss rfl rfl rfl) ?_
    refine g_nil ?_
    (repeat refine g_seq ?_)
    refine g_cond_f rfl (g_exit rfl ?_)
    have e1 : i = m := by omega
    subst e1
    rw [List.take_of_length_le (by omega)]
    (repeat refine g_seq ?_)
    refine g_region ?_
    refine g_pu rfl rfl rfl (pu_move rfl rfl) ?_
    refine g_pu rfl rfl rfl (pu_assign rfl rfl) ?_
    refine g_nil ?_
    exact g_ret1 rfl rfl (fun w' hm => ⟨x, trivial, rfl, hm.grows [90] ⟨rfl, trivial⟩ rfl⟩)
end Go.Sx

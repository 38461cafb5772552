/-
  Clamp of the program and of the document; two arrays as an answer. The bytes fit memory.
-/
import Derived.Test.YtjmihjcahjpkmaaFieldForms
import Derived.Test.YtjmihjcahjpkmaaSxOff
set_option linter.unusedVariables false
set_option linter.unusedSimpArgs false
namespace Go.Sx
open Go Go.Proofs

section
variable {P : Program} {fn : Func} {R : Ending → World → Prop} {N : Nat} {w0 : World} {D : Blocks} {e : List (Nat × Value)} {M : List (Nat × Ck)} {k : List It}
theorem g_retLL (tag tag' : Nat) {t t' s s' : Nat} {ty ty' : TypeId} {b b' : Nat} {L L' : List Value} {E E' : TypeId} {fz fz' : Nat × Nat} (hf : fn.results = #[.cell t ty, .cell t' ty']) [hu : Agg P ty true] [hz : Siz P ty s] [hu' : Agg P ty' true] [hz' : Siz P ty' s'] (hl : L.length = s) (hl' : L'.length = s') (hv : get e t = some (.pointer (some ⟨b, 0, none⟩))) (hv' : get e t' = some (.pointer (some ⟨b', 0, none⟩))) (hM : mget M tag = some (.pt b (.cells L.toArray E fz))) (hM' : mget M tag' = some (.pt b' (.cells L'.toArray E' fz')))
    (hR : ∀ w, Mem w0 D M w → R (.returned (.tuple #[.agg L.toArray, .agg L'.toArray])) w) : G P fn R N w0 D e M (.code .ret :: k) :=
  g_ret_of (fun a w hs hm => by
    have h1 := hm.holds _ _ hM
    simp only [Ck.holds] at h1
    have h2 := run_loadVarL (P := P) (ty := ty) hl h1
    have h1' := hm.holds _ _ hM'
    simp only [Ck.holds] at h1'
    have h2' := run_loadVarL (P := P) (ty := ty') hl' h1'
    have h3 := getD_of hs hv
    have h3' := getD_of hs hv'
    simp only [Array.getD_eq_getD_getElem?] at h3 h3'
    simp [results, hf, h3, h3', asAddr, h2, h2']) hR
end

def zero32 : List (BitVec 8) := List.replicate 32 0#8
theorem zero32_leB : zero32 = leB 32 0 := by decide +kernel
def lowB (x : BitVec 8) : BitVec 8 := x &&& 248#8
def highB (x : BitVec 8) : BitVec 8 := x &&& 127#8 ||| 64#8
theorem lowB_eq (x : BitVec 8) : x / 8#8 * 8#8 = lowB x := by
  have h : ∀ n, n < 256 → BitVec.ofNat 8 n / 8#8 * 8#8 = lowB (BitVec.ofNat 8 n) := by decide +kernel
  have h2 := h x.toNat x.isLt
  rwa [BitVec.ofNat_toNat, BitVec.setWidth_eq] at h2
theorem highB_eq (x : BitVec 8) : x % 64#8 + 64#8 = highB x := by
  have h : ∀ n, n < 256 → BitVec.ofNat 8 n % 64#8 + 64#8 = highB (BitVec.ofNat 8 n) := by decide +kernel
  have h2 := h x.toNat x.isLt
  rwa [BitVec.ofNat_toNat, BitVec.setWidth_eq] at h2
/-- A scalar with its fixed bits. -/
def clampL (k : List (BitVec 8)) : List (BitVec 8) := (k.set 0 (lowB (k.getD 0 0#8))).set 31 (highB (k.getD 31 0#8))
theorem clampL_length (k : List (BitVec 8)) : (clampL k).length = k.length := by simp [clampL]
def clampV (k : List (BitVec 8)) : List (BitVec 8) := if k.length = 32 then clampL k else zero32
def clampE (k : List (BitVec 8)) : Int := if k.length = 32 then 0 else 2
theorem clampV_length (k : List (BitVec 8)) : (clampV k).length = 32 := by
  unfold clampV
  split
  · rw [clampL_length]; assumption
  · rfl
theorem getK {k : List (BitVec 8)} {i : Nat} (h : i < k.length) : (bs k).toArray[0 + i]? = some (b8 (k.getD i 0#8)) := by
  rw [Nat.zero_add, List.getElem?_toArray]; exact bs_get (getDb h)
theorem bs_full {l : List (BitVec 8)} (h : l.length = 32) : ((bs l).drop 0).take 32 = bs l := by rw [List.drop_zero, List.take_of_length_le (by rw [bs_length, h]; exact Nat.le_refl _)]

theorem Clamp_b (w : World) {p : Option Addr} {n : Nat} (c : Nat) {l : List (BitVec 8)} (ha : By w p n l) : Spec Try.prog 11 #[.slice p n c] w (σ := Unit) (fun _ => True) (fun _ => .tuple #[.agg (bs (clampV l)).toArray, .int .i64 (clampE l)]) Nob (fun _ => []) := by
  refine enter Try.func11 rfl rfl (Mem.start w) ?_
  have hl := ha.len
  (repeat refine g_seq ?_)
  refine g_region ?_
  refine g_lo [2] rfl rfl rfl rfl (lo_alloc rfl) (fun b2 hb2 => ?_)
  refine g_pu rfl rfl rfl (pu_assign rfl rfl) ?_
  refine g_nil ?_
  by_cases h32 : n = 32
  · have hE : clampE l = 0 := if_pos (by omega)
    have hN : clampV l = clampL l := if_pos (by omega)
    have hcl := clampL_length l
    rw [hE, hN]
    subst h32
    have hs0 : (l.set 0 (lowB (l.getD 0 0#8))).getD 31 0#8 = l.getD 31 0#8 := by
      rw [List.getD_eq_getElem?_getD, List.getElem?_set_ne (by decide), ← List.getD_eq_getElem?_getD]
    have hg0 := getK (k := l) (i := 0) (by omega)
    have hg1 := getK (k := l.set 0 (lowB (l.getD 0 0#8))) (i := 31) (by rw [List.length_set]; omega)
    rw [hs0] at hg1
    (repeat refine g_seq ?_)
    refine g_region ?_
    refine g_pu rfl rfl rfl (pu_move rfl rfl) ?_
    first | refine g_pu rfl rfl rfl (pu_len rfl rfl) ?_ | refine g_pu rfl rfl rfl (pu_lenS rfl rfl) ?_
    first | refine g_pu rfl rfl rfl (pu_neq_t rfl rfl rfl (by omega)) ?_ | refine g_pu rfl rfl rfl (pu_neq_f rfl rfl rfl (by omega)) ?_ | refine g_pu rfl rfl rfl (pu_neq rfl rfl rfl) ?_
    refine g_nil ?_
    (repeat refine g_seq ?_)
    refine g_cond_f rfl (g_skip ?_)
    (repeat refine g_seq ?_)
    refine g_region ?_
    refine g_pu rfl rfl rfl (pu_move rfl rfl) ?_
    refine g_pu rfl rfl rfl (pu_s2a (fun w' hm => ha.m hm) rfl rfl (by omega) (by omega)) ?_
    refine g_pu rfl rfl rfl (pu_rdMA (fun w' hm => (ha.m hm).rd) rfl rfl (by omega) (by rw [bs_length, hl]; omega)) ?_
    rw [bs_full hl]
    refine g_lo [4] rfl rfl rfl rfl (lo_alloc rfl) (fun b4 hb4 => ?_)
    refine g_storeL 4 (s := 32) (C := bs l) rfl rfl rfl rfl rfl rfl (by rw [bs_length, hl]) rfl (oneCell_bs _) ?_
    refine g_nil ?_
    (repeat refine g_seq ?_)
    refine g_region ?_
    refine g_pu rfl rfl rfl (pu_atA1 0 rfl rfl rfl rfl (by omega)) ?_
    refine g_pu rfl rfl rfl (pu_load 4 (v := b8 (l.getD 0 0#8)) rfl rfl rfl hg0) ?_
    refine g_pu rfl rfl rfl (pu_and8 (b := 248#8) rfl rfl rfl) ?_
    refine g_pu rfl rfl rfl (pu_atA1 0 rfl rfl rfl rfl (by omega)) ?_
    refine g_store 4 (v := b8 (lowB (l.getD 0 0#8))) rfl rfl rfl rfl rfl rfl rfl (by rw [bs_length, hl]; omega) ?_
    rw [bs_setW]
    refine g_nil ?_
    (repeat refine g_seq ?_)
    refine g_region ?_
    refine g_pu rfl rfl rfl (pu_atA1 31 rfl rfl rfl rfl (by omega)) ?_
    refine g_pu rfl rfl rfl (pu_load 4 (v := b8 (l.getD 31 0#8)) rfl rfl rfl hg1) ?_
    refine g_pu rfl rfl rfl (pu_and8 (b := 127#8) rfl rfl rfl) ?_
    refine g_pu rfl rfl rfl (pu_or8 (b := 64#8) rfl rfl rfl) ?_
    refine g_pu rfl rfl rfl (pu_atA1 31 rfl rfl rfl rfl (by omega)) ?_
    refine g_store 4 (v := b8 (highB (l.getD 31 0#8))) rfl rfl rfl rfl rfl rfl rfl (by rw [bs_length, List.length_set, hl]; omega) ?_
    rw [bs_setW, show (l.set 0 (lowB (l.getD 0 0#8))).set 31 (highB (l.getD 31 0#8)) = clampL l from rfl]
    refine g_nil ?_
    (repeat refine g_seq ?_)
    refine g_region ?_
    refine g_pu rfl rfl rfl (pu_loadW 4 (L := bs (clampL l)) rfl rfl rfl (by rw [bs_length, hcl, hl])) ?_
    refine g_storeL 2 (s := 32) (C := bs (clampL l)) rfl rfl rfl rfl rfl rfl (by rw [bs_length, hcl, hl]) rfl (oneCell_bs _) ?_
    refine g_pu rfl rfl rfl (pu_assign rfl rfl) ?_
    refine g_nil ?_
    exact g_retLT 2 (L := bs (clampL l)) rfl (by rw [bs_length, hcl, hl]) rfl rfl rfl (fun w' hm => ⟨(), trivial, rfl, hm.grows [] trivial rfl⟩)
  · have hE : clampE l = 2 := if_neg (by omega)
    have hN : clampV l = zero32 := if_neg (by omega)
    rw [hE, hN]
    (repeat refine g_seq ?_)
    refine g_region ?_
    refine g_pu rfl rfl rfl (pu_move rfl rfl) ?_
    first | refine g_pu rfl rfl rfl (pu_len rfl rfl) ?_ | refine g_pu rfl rfl rfl (pu_lenS rfl rfl) ?_
    first | refine g_pu rfl rfl rfl (pu_neq_t rfl rfl rfl (by omega)) ?_ | refine g_pu rfl rfl rfl (pu_neq_f rfl rfl rfl (by omega)) ?_ | refine g_pu rfl rfl rfl (pu_neq rfl rfl rfl) ?_
    refine g_nil ?_
    (repeat refine g_seq ?_)
    refine g_cond_t rfl ?_
    (repeat refine g_seq ?_)
    refine g_region ?_
    refine g_pu rfl rfl rfl (pu_buildA' (cs := bs zero32) rfl rfl rfl) ?_
    refine g_storeL 2 (s := 32) (C := bs zero32) rfl rfl rfl rfl rfl rfl rfl rfl (oneCell_bs _) ?_
    refine g_pu rfl rfl rfl (pu_assign rfl rfl) ?_
    refine g_nil ?_
    exact g_retLT 2 (L := bs zero32) rfl rfl rfl rfl rfl (fun w' hm => ⟨(), trivial, rfl, hm.grows [] trivial rfl⟩)

theorem RClamp_b (w : World) {p : Option Addr} {n : Nat} (c : Nat) {l : List (BitVec 8)} (ha : By w p n l) : Spec Try.prog 13 #[.slice p n c] w (σ := Unit) (fun _ => True) (fun _ => .tuple #[.agg (bs (clampV l)).toArray, .int .i64 (clampE l)]) Nob (fun _ => []) := by
  refine enter Try.func13 rfl rfl (Mem.start w) ?_
  have hl := ha.len
  (repeat refine g_seq ?_)
  refine g_region ?_
  refine g_lo [2] rfl rfl rfl rfl (lo_alloc rfl) (fun b2 hb2 => ?_)
  refine g_pu rfl rfl rfl (pu_assign rfl rfl) ?_
  refine g_nil ?_
  (repeat refine g_seq ?_)
  refine g_region ?_
  refine g_lo [4] rfl rfl rfl rfl (lo_alloc rfl) (fun b4 hb4 => ?_)
  refine g_nil ?_
  by_cases h32 : n = 32
  · have hE : clampE l = 0 := if_pos (by omega)
    have hN : clampV l = clampL l := if_pos (by omega)
    have hcl := clampL_length l
    rw [hE, hN]
    subst h32
    have hs0 : (l.set 0 (lowB (l.getD 0 0#8))).getD 31 0#8 = l.getD 31 0#8 := by
      rw [List.getD_eq_getElem?_getD, List.getElem?_set_ne (by decide), ← List.getD_eq_getElem?_getD]
    have hg0 := getK (k := l) (i := 0) (by omega)
    have hg1 := getK (k := l.set 0 (lowB (l.getD 0 0#8))) (i := 31) (by rw [List.length_set]; omega)
    rw [hs0] at hg1
    (repeat refine g_seq ?_)
    refine g_region ?_
    refine g_pu rfl rfl rfl (pu_move rfl rfl) ?_
    first | refine g_pu rfl rfl rfl (pu_len rfl rfl) ?_ | refine g_pu rfl rfl rfl (pu_lenS rfl rfl) ?_
    first | refine g_pu rfl rfl rfl (pu_neq_t rfl rfl rfl (by omega)) ?_ | refine g_pu rfl rfl rfl (pu_neq_f rfl rfl rfl (by omega)) ?_ | refine g_pu rfl rfl rfl (pu_neq rfl rfl rfl) ?_
    refine g_nil ?_
    (repeat refine g_seq ?_)
    refine g_cond_f rfl (g_skip ?_)
    (repeat refine g_seq ?_)
    refine g_region ?_
    refine g_pu rfl rfl rfl (pu_sliceA rfl rfl) ?_
    refine g_pu rfl rfl rfl (pu_move rfl rfl) ?_
    refine g_copyF 4 (L := bs zero32) (bs l) rfl rfl rfl rfl rfl rfl rfl (fun w' hm => (ha.m hm).rd) (by rw [bs_length, hl]) (by decide) (oneCell_bs l) ?_
    rw [show (bs zero32).take 0 ++ (bs l).take (Nat.min 32 32) ++ (bs zero32).drop (0 + Nat.min 32 32) = bs l by rw [List.take_zero, List.nil_append, List.take_of_length_le (by rw [bs_length, hl]; decide), show (bs zero32).drop (0 + Nat.min 32 32) = [] from rfl, List.append_nil]]
    refine g_nil ?_
    (repeat refine g_seq ?_)
    refine g_region ?_
    refine g_pu rfl rfl rfl (pu_atA1 0 rfl rfl rfl rfl (by omega)) ?_
    refine g_pu rfl rfl rfl (pu_load 4 (v := b8 (l.getD 0 0#8)) rfl rfl rfl hg0) ?_
    refine g_pu rfl rfl rfl (pu_quo8 (b := 8#8) rfl rfl rfl (by first | decide | assumption)) ?_
    refine g_pu rfl rfl rfl (pu_mul8 (b := 8#8) rfl rfl rfl) ?_
    rw [lowB_eq]
    refine g_pu rfl rfl rfl (pu_atA1 0 rfl rfl rfl rfl (by omega)) ?_
    refine g_store 4 (v := b8 (lowB (l.getD 0 0#8))) rfl rfl rfl rfl rfl rfl rfl (by rw [bs_length, hl]; omega) ?_
    rw [bs_setW]
    refine g_nil ?_
    (repeat refine g_seq ?_)
    refine g_region ?_
    refine g_pu rfl rfl rfl (pu_atA1 31 rfl rfl rfl rfl (by omega)) ?_
    refine g_pu rfl rfl rfl (pu_load 4 (v := b8 (l.getD 31 0#8)) rfl rfl rfl hg1) ?_
    refine g_pu rfl rfl rfl (pu_rem8 (b := 64#8) rfl rfl rfl (by first | decide | assumption)) ?_
    refine g_pu rfl rfl rfl (pu_add8 (b := 64#8) rfl rfl rfl) ?_
    rw [highB_eq]
    refine g_pu rfl rfl rfl (pu_atA1 31 rfl rfl rfl rfl (by omega)) ?_
    refine g_store 4 (v := b8 (highB (l.getD 31 0#8))) rfl rfl rfl rfl rfl rfl rfl (by rw [bs_length, List.length_set, hl]; omega) ?_
    rw [bs_setW, show (l.set 0 (lowB (l.getD 0 0#8))).set 31 (highB (l.getD 31 0#8)) = clampL l from rfl]
    refine g_nil ?_
    (repeat refine g_seq ?_)
    refine g_region ?_
    refine g_pu rfl rfl rfl (pu_loadW 4 (L := bs (clampL l)) rfl rfl rfl (by rw [bs_length, hcl, hl])) ?_
    refine g_storeL 2 (s := 32) (C := bs (clampL l)) rfl rfl rfl rfl rfl rfl (by rw [bs_length, hcl, hl]) rfl (oneCell_bs _) ?_
    refine g_pu rfl rfl rfl (pu_assign rfl rfl) ?_
    refine g_nil ?_
    exact g_retLT 2 (L := bs (clampL l)) rfl (by rw [bs_length, hcl, hl]) rfl rfl rfl (fun w' hm => ⟨(), trivial, rfl, hm.grows [] trivial rfl⟩)
  · have hE : clampE l = 2 := if_neg (by omega)
    have hN : clampV l = zero32 := if_neg (by omega)
    rw [hE, hN]
    (repeat refine g_seq ?_)
    refine g_region ?_
    refine g_pu rfl rfl rfl (pu_move rfl rfl) ?_
    first | refine g_pu rfl rfl rfl (pu_len rfl rfl) ?_ | refine g_pu rfl rfl rfl (pu_lenS rfl rfl) ?_
    first | refine g_pu rfl rfl rfl (pu_neq_t rfl rfl rfl (by omega)) ?_ | refine g_pu rfl rfl rfl (pu_neq_f rfl rfl rfl (by omega)) ?_ | refine g_pu rfl rfl rfl (pu_neq rfl rfl rfl) ?_
    refine g_nil ?_
    (repeat refine g_seq ?_)
    refine g_cond_t rfl ?_
    (repeat refine g_seq ?_)
    refine g_region ?_
    refine g_pu rfl rfl rfl (pu_loadW 4 (L := bs zero32) rfl rfl rfl rfl) ?_
    refine g_storeL 2 (s := 32) (C := bs zero32) rfl rfl rfl rfl rfl rfl rfl rfl (oneCell_bs _) ?_
    refine g_pu rfl rfl rfl (pu_assign rfl rfl) ?_
    refine g_nil ?_
    exact g_retLT 2 (L := bs zero32) rfl rfl rfl rfl rfl (fun w' hm => ⟨(), trivial, rfl, hm.grows [] trivial rfl⟩)
end Go.Sx

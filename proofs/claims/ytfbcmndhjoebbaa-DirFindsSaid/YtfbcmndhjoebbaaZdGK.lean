import Derived.Test.YtfbcmndhjoebbaaZdGFC
import Derived.Test.YtfbcmndhjoebbaaZdXE
import Derived.Test.YtfbcmndhjoebbaaZdXC
set_option linter.unusedVariables false
set_option linter.unusedSimpArgs false
/-
  Clamp of the program and of the document; two arrays as an answer. The bytes fit memory.
-/
namespace Go.Sx
open Go Go.Proofs

section
variable {P : Program} {fn : Func} {R : Ending → World → Prop} {N : Nat} {w0 : World} {D : Blocks} {e : List (Nat × Value)} {M : List (Nat × Ck)} {k : List It}
theorem g_retLL (tag tag' : Nat) {t t' s s' : Nat} {ty ty' : TypeId} {b b' : Nat} {L L' : List Value} {E E' : TypeId} {fz fz' : Nat × Nat} (hf : fn.results = #[.cell t ty, .cell t' ty']) [hu : Agg P ty true] [hz : Siz P ty s] [hu' : Agg P ty' true] [hz' : Siz P ty' s'] (hl : L.length = s) (hl' : L'.length = s') (hv : get e t = some (.pointer (some ⟨b, 0, none⟩))) (hv' : get e t' = some (.pointer (some ⟨b', 0, none⟩))) (hM : mget M tag = some (.pt b (.cells L.toArray E fz))) (hM' : mget M tag' = some (.pt b' (.cells L'.toArray E' fz')))
    (hR : ∀ w, Mem w0 D M w → R (.returned (.tuple #[.agg L.toArray, .agg L'.toArray])) w) : G P fn R N w0 D e M (.code .ret :: k) :=
  g_ret_of (fun a w hs hm => by
    have h1 := hm.holds _ _ hM
    simp only [Ck.holds] at h1
    have h2 := run_loadVarL (P := P) (ty := ty) hl h1
    have h1' := hm.holds _ _ hM'
    simp only [Ck.holds] at h1'
    have h2' := run_loadVarL (P := P) (ty := ty') hl' h1'
    have h3 := getD_of hs hv
    have h3' := getD_of hs hv'
    simp only [Array.getD_eq_getD_getElem?] at h3 h3'
    simp [results, hf, h3, h3', asAddr, h2, h2']) hR
end

def zero32 : List (BitVec 8) := List.replicate 32 0#8
theorem zero32_leB : zero32 = leB 32 0 := by decide +kernel
def lowB (x : BitVec 8) : BitVec 8 := x &&& 248#8
def highB (x : BitVec 8) : BitVec 8 := x &&& 127#8 ||| 64#8
theorem lowB_eq (x : BitVec 8) : x / 8#8 * 8#8 = lowB x := by
  have h : ∀ n, n < 256 → BitVec.ofNat 8 n / 8#8 * 8#8 = lowB (BitVec.ofNat 8 n) := by decide +kernel
  have h2 := h x.toNat x.isLt
  rwa [BitVec.ofNat_toNat, BitVec.setWidth_eq] at h2
theorem highB_eq (x : BitVec 8) : x % 64#8 + 64#8 = highB x := by
  have h : ∀ n, n < 256 → BitVec.ofNat 8 n % 64#8 + 64#8 = highB (BitVec.ofNat 8 n) := by decide +kernel
  have h2 := h x.toNat x.isLt
  rwa [BitVec.ofNat_toNat, BitVec.setWidth_eq] at h2
/-- A scalar with its fixed bits. -/
def clampL (k : List (BitVec 8)) : List (BitVec 8) := (k.set 0 (lowB (k.getD 0 0#8))).set 31 (highB (k.getD 31 0#8))
theorem clampL_length (k : List (BitVec 8)) : (clampL k).length = k.length := by simp [clampL]
def clampV (k : List (BitVec 8)) : List (BitVec 8) := if k.length = 32 then clampL k else zero32
def clampE (k : List (BitVec 8)) : Int := if k.length = 32 then 0 else 2
theorem clampV_length (k : List (BitVec 8)) : (clampV k).length = 32 := by
  unfold clampV
  split
  · rw [clampL_length]; assumption
  · rfl
theorem getK {k : List (BitVec 8)} {i : Nat} (h : i < k.length) : (bs k).toArray[0 + i]? = some (b8 (k.getD i 0#8)) := by
  rw [Nat.zero_add, List.getElem?_toArray]; exact bs_get (getDb h)
theorem bs_full {l : List (BitVec 8)} (h : l.length = 32) : ((bs l).drop 0).take 32 = bs l := by rw [List.drop_zero, List.take_of_length_le (by rw [bs_length, h]; exact Nat.le_refl _)]

theorem Clamp_b (w : World) {p : Option Addr} {n : Nat} (c : Nat) {l : List (BitVec 8)} (ha : By w p n l) : Spec Try.prog 57 #[.slice p n c] w (σ := Unit) (fun _ => True) (fun _ => .tuple #[.agg (bs (clampV l)).toArray, .int .i64 (clampE l)]) Nob (fun _ => []) := by
  refine enter Try.func57 rfl rfl (Mem.start w) ?_
  have hl := ha.len
  (repeat refine g_seq ?_)
  refine g_region ?_
  refine g_lo [2] rfl rfl rfl rfl (lo_alloc rfl) (fun b2 hb2 => ?_)
  refine g_pu rfl rfl rfl (pu_assign rfl rfl) ?_
  refine g_nil ?_
  by_cases h32 : n = 32
  · have hE : clampE l = 0 := if_pos (by omega)
    have hN : clampV l = clampL l := if_pos (by omega)
    have hcl := clampL_length l
    rw [hE, hN]
    subst h32
    have hs0 : (l.set 0 (lowB (l.getD 0 0#8))).getD 31 0#8 = l.getD 31 0#8 := by
      rw [List.getD_eq_getElem?_getD, List.getElem?_set_ne (by decide), ← List.getD_eq_getElem?_getD]
    have hg0 := getK (k := l) (i := 0) (by omega)
    have hg1 := getK (k := l.set 0 (lowB (l.getD 0 0#8))) (i := 31) (by rw [List.length_set]; omega)
    rw [hs0] at hg1
    (repeat refine g_seq ?_)
    refine g_region ?_
    refine g_pu rfl rfl rfl (pu_move rfl rfl) ?_
    first | refine g_pu rfl rfl rfl (pu_len rfl rfl) ?_ | refine g_pu rfl rfl rfl (pu_lenS rfl rfl) ?_
    first | refine g_pu rfl rfl rfl (pu_neq_t rfl rfl rfl (by omega)) ?_ | refine g_pu rfl rfl rfl (pu_neq_f rfl rfl rfl (by omega)) ?_ | refine g_pu rfl rfl rfl (pu_neq rfl rfl rfl) ?_
    refine g_nil ?_
    (repeat refine g_seq ?_)
    refine g_cond_f rfl (g_skip ?_)
    (repeat refine g_seq ?_)
    refine g_region ?_
    refine g_pu rfl rfl rfl (pu_move rfl rfl) ?_
    refine g_pu rfl rfl rfl (pu_s2a (fun w' hm => ha.m hm) rfl rfl (by omega) (by omega)) ?_
    refine g_pu rfl rfl rfl (pu_rdMA (fun w' hm => (ha.m hm).rd) rfl rfl (by omega) (by rw [bs_length, hl]; omega)) ?_
    rw [bs_full hl]
    refine g_lo [4] rfl rfl rfl rfl (lo_alloc rfl) (fun b4 hb4 => ?_)
    refine g_storeL 4 (s := 32) (C := bs l) rfl rfl rfl rfl rfl rfl (by rw [bs_length, hl]) rfl (oneCell_bs _) ?_
    refine g_nil ?_
    (repeat refine g_seq ?_)
    refine g_region ?_
    refine g_pu rfl rfl rfl (pu_atA1 0 rfl rfl rfl rfl (by omega)) ?_
    refine g_pu rfl rfl rfl (pu_load 4 (v := b8 (l.getD 0 0#8)) rfl rfl rfl hg0) ?_
    refine g_pu rfl rfl rfl (pu_and8 (b := 248#8) rfl rfl rfl) ?_
    refine g_pu rfl rfl rfl (pu_atA1 0 rfl rfl rfl rfl (by omega)) ?_
    refine g_store 4 (v := b8 (lowB (l.getD 0 0#8))) rfl rfl rfl rfl rfl rfl rfl (by rw [bs_length, hl]; omega) ?_
    rw [bs_setW]
    refine g_nil ?_
    (repeat refine g_seq ?_)
    refine g_region ?_
    refine g_pu rfl rfl rfl (pu_atA1 31 rfl rfl rfl rfl (by omega)) ?_
    refine g_pu rfl rfl rfl (pu_load 4 (v := b8 (l.getD 31 0#8)) rfl rfl rfl hg1) ?_
    refine g_pu rfl rfl rfl (pu_and8 (b := 127#8) rfl rfl rfl) ?_
    refine g_pu rfl rfl rfl (pu_or8 (b := 64#8) rfl rfl rfl) ?_
    refine g_pu rfl rfl rfl (pu_atA1 31 rfl rfl rfl rfl (by omega)) ?_
    refine g_store 4 (v := b8 (highB (l.getD 31 0#8))) rfl rfl rfl rfl rfl rfl rfl (by rw [bs_length, List.length_set, hl]; omega) ?_
    rw [bs_setW, show (l.set 0 (lowB (l.getD 0 0#8))).set 31 (highB (l.getD 31 0#8)) = clampL l from rfl]
    refine g_nil ?_
    (repeat refine g_seq ?_)
    refine g_region ?_
    refine g_pu rfl rfl rfl (pu_loadW 4 (L := bs (clampL l)) rfl rfl rfl (by rw [bs_length, hcl, hl])) ?_
    refine g_storeL 2 (s := 32) (C := bs (clampL l)) rfl rfl rfl rfl rfl rfl (by rw [bs_length, hcl, hl]) rfl (oneCell_bs _) ?_
    refine g_pu rfl rfl rfl (pu_assign rfl rfl) ?_
    refine g_nil ?_
    exact g_retLT 2 (L := bs (clampL l)) rfl (by rw [bs_length, hcl, hl]) rfl rfl rfl (fun w' hm => ⟨(), trivial, rfl, hm.grows [] trivial rfl⟩)
  · have hE : clampE l = 2 := if_neg (by omega)
    have hN : clampV l = zero32 := if_neg (by omega)
    rw [hE, hN]
    (repeat refine g_seq ?_)
    refine g_region ?_
    refine g_pu rfl rfl rfl (pu_move rfl rfl) ?_
    first | refine g_pu rfl rfl rfl (pu_len rfl rfl) ?_ | refine g_pu rfl rfl rfl (pu_lenS rfl rfl) ?_
    first | refine g_pu rfl rfl rfl (pu_neq_t rfl rfl rfl (by omega)) ?_ | refine g_pu rfl rfl rfl (pu_neq_f rfl rfl rfl (by omega)) ?_ | refine g_pu rfl rfl rfl (pu_neq rfl rfl rfl) ?_
    refine g_nil ?_
    (repeat refine g_seq ?_)
    refine g_cond_t rfl ?_
    (repeat refine g_seq ?_)
    refine g_region ?_
    refine g_pu rfl rfl rfl (pu_buildA' (cs := bs zero32) rfl rfl rfl) ?_
    refine g_storeL 2 (s := 32) (C := bs zero32) rfl rfl rfl rfl rfl rfl rfl rfl (oneCell_bs _) ?_
    refine g_pu rfl rfl rfl (pu_assign rfl rfl) ?_
    refine g_nil ?_
    exact g_retLT 2 (L := bs zero32) rfl rfl rfl rfl rfl (fun w' hm => ⟨(), trivial, rfl, hm.grows [] trivial rfl⟩)

theorem RClamp_b (w : World) {p : Option Addr} {n : Nat} (c : Nat) {l : List (BitVec 8)} (ha : By w p n l) : Spec Try.prog 63 #[.slice p n c] w (σ := Unit) (fun _ => True) (fun _ => .tuple #[.agg (bs (clampV l)).toArray, .int .i64 (clampE l)]) Nob (fun _ => []) := by
  refine enter Try.func63 rfl rfl (Mem.start w) ?_
  have hl := ha.len
  (repeat refine g_seq ?_)
  refine g_region ?_
  refine g_lo [2] rfl rfl rfl rfl (lo_alloc rfl) (fun b2 hb2 => ?_)
  refine g_pu rfl rfl rfl (pu_assign rfl rfl) ?_
  refine g_nil ?_
  (repeat refine g_seq ?_)
  refine g_region ?_
  refine g_lo [4] rfl rfl rfl rfl (lo_alloc rfl) (fun b4 hb4 => ?_)
  refine g_nil ?_
  by_cases h32 : n = 32
  · have hE : clampE l = 0 := if_pos (by omega)
    have hN : clampV l = clampL l := if_pos (by omega)
    have hcl := clampL_length l
    rw [hE, hN]
    subst h32
    have hs0 : (l.set 0 (lowB (l.getD 0 0#8))).getD 31 0#8 = l.getD 31 0#8 := by
      rw [List.getD_eq_getElem?_getD, List.getElem?_set_ne (by decide), ← List.getD_eq_getElem?_getD]
    have hg0 := getK (k := l) (i := 0) (by omega)
    have hg1 := getK (k := l.set 0 (lowB (l.getD 0 0#8))) (i := 31) (by rw [List.length_set]; omega)
    rw [hs0] at hg1
    (repeat refine g_seq ?_)
    refine g_region ?_
    refine g_pu rfl rfl rfl (pu_move rfl rfl) ?_
    first | refine g_pu rfl rfl rfl (pu_len rfl rfl) ?_ | refine g_pu rfl rfl rfl (pu_lenS rfl rfl) ?_
    first | refine g_pu rfl rfl rfl (pu_neq_t rfl rfl rfl (by omega)) ?_ | refine g_pu rfl rfl rfl (pu_neq_f rfl rfl rfl (by omega)) ?_ | refine g_pu rfl rfl rfl (pu_neq rfl rfl rfl) ?_
    refine g_nil ?_
    (repeat refine g_seq ?_)
    refine g_cond_f rfl (g_skip ?_)
    (repeat refine g_seq ?_)
    refine g_region ?_
    refine g_pu rfl rfl rfl (pu_sliceA rfl rfl) ?_
    refine g_pu rfl rfl rfl (pu_move rfl rfl) ?_
    refine g_copyF 4 (L := bs zero32) (bs l) rfl rfl rfl rfl rfl rfl rfl (fun w' hm => (ha.m hm).rd) (by rw [bs_length, hl]) (by decide) (oneCell_bs l) ?_
    rw [show (bs zero32).take 0 ++ (bs l).take (Nat.min 32 32) ++ (bs zero32).drop (0 + Nat.min 32 32) = bs l by rw [List.take_zero, List.nil_append, List.take_of_length_le (by rw [bs_length, hl]; decide), show (bs zero32).drop (0 + Nat.min 32 32) = [] from rfl, List.append_nil]]
    refine g_nil ?_
    (repeat refine g_seq ?_)
    refine g_region ?_
    refine g_pu rfl rfl rfl (pu_atA1 0 rfl rfl rfl rfl (by omega)) ?_
    refine g_pu rfl rfl rfl (pu_load 4 (v := b8 (l.getD 0 0#8)) rfl rfl rfl hg0) ?_
    refine g_pu rfl rfl rfl (pu_quo8 (b := 8#8) rfl rfl rfl (by first | decide | assumption)) ?_
    refine g_pu rfl rfl rfl (pu_mul8 (b := 8#8) rfl rfl rfl) ?_
    rw [lowB_eq]
    refine g_pu rfl rfl rfl (pu_atA1 0 rfl rfl rfl rfl (by omega)) ?_
    refine g_store 4 (v := b8 (lowB (l.getD 0 0#8))) rfl rfl rfl rfl rfl rfl rfl (by rw [bs_length, hl]; omega) ?_
    rw [bs_setW]
    refine g_nil ?_
    (repeat refine g_seq ?_)
    refine g_region ?_
    refine g_pu rfl rfl rfl (pu_atA1 31 rfl rfl rfl rfl (by omega)) ?_
    refine g_pu rfl rfl rfl (pu_load 4 (v := b8 (l.getD 31 0#8)) rfl rfl rfl hg1) ?_
    refine g_pu rfl rfl rfl (pu_rem8 (b := 64#8) rfl rfl rfl (by first | decide | assumption)) ?_
    refine g_pu rfl rfl rfl (pu_add8 (b := 64#8) rfl rfl rfl) ?_
    rw [highB_eq]
    refine g_pu rfl rfl rfl (pu_atA1 31 rfl rfl rfl rfl (by omega)) ?_
    refine g_store 4 (v := b8 (highB (l.getD 31 0#8))) rfl rfl rfl rfl rfl rfl rfl (by rw [bs_length, List.length_set, hl]; omega) ?_
    rw [bs_setW, show (l.set 0 (lowB (l.getD 0 0#8))).set 31 (highB (l.getD 31 0#8)) = clampL l from rfl]
    refine g_nil ?_
    (repeat refine g_seq ?_)
    refine g_region ?_
    refine g_pu rfl rfl rfl (pu_loadW 4 (L := bs (clampL l)) rfl rfl rfl (by rw [bs_length, hcl, hl])) ?_
    refine g_storeL 2 (s := 32) (C := bs (clampL l)) rfl rfl rfl rfl rfl rfl (by rw [bs_length, hcl, hl]) rfl (oneCell_bs _) ?_
    refine g_pu rfl rfl rfl (pu_assign rfl rfl) ?_
    refine g_nil ?_
    exact g_retLT 2 (L := bs (clampL l)) rfl (by rw [bs_length, hcl, hl]) rfl rfl rfl (fun w' hm => ⟨(), trivial, rfl, hm.grows [] trivial rfl⟩)
  · have hE : clampE l = 2 := if_neg (by omega)
    have hN : clampV l = zero32 := if_neg (by omega)
    rw [hE, hN]
    (repeat refine g_seq ?_)
    refine g_region ?_
    refine g_pu rfl rfl rfl (pu_move rfl rfl) ?_
    first | refine g_pu rfl rfl rfl (pu_len rfl rfl) ?_ | refine g_pu rfl rfl rfl (pu_lenS rfl rfl) ?_
    first | refine g_pu rfl rfl rfl (pu_neq_t rfl rfl rfl (by omega)) ?_ | refine g_pu rfl rfl rfl (pu_neq_f rfl rfl rfl (by omega)) ?_ | refine g_pu rfl rfl rfl (pu_neq rfl rfl rfl) ?_
    refine g_nil ?_
    (repeat refine g_seq ?_)
    refine g_cond_t rfl ?_
    (repeat refine g_seq ?_)
    refine g_region ?_
    refine g_pu rfl rfl rfl (pu_loadW 4 (L := bs zero32) rfl rfl rfl rfl) ?_
    refine g_storeL 2 (s := 32) (C := bs zero32) rfl rfl rfl rfl rfl rfl rfl rfl (oneCell_bs _) ?_
    refine g_pu rfl rfl rfl (pu_assign rfl rfl) ?_
    refine g_nil ?_
    exact g_retLT 2 (L := bs zero32) rfl rfl rfl rfl rfl (fun w' hm => ⟨(), trivial, rfl, hm.grows [] trivial rfl⟩)
end Go.Sx

/-
  The ladder's step of the program. The numbers are below 2^256.
-/
namespace Go.Sx
open Go Go.Proofs

def ad (a b : Nat) : Nat := (a + b) % 57896044618658097711785492504343953926634992332820282019728792003956564819949
def sb (a b : Nat) : Nat := (a + (57896044618658097711785492504343953926634992332820282019728792003956564819949 - b % 57896044618658097711785492504343953926634992332820282019728792003956564819949)) % 57896044618658097711785492504343953926634992332820282019728792003956564819949
def ml (a b : Nat) : Nat := a * b % 57896044618658097711785492504343953926634992332820282019728792003956564819949
theorem ad_lt (a b : Nat) : ad a b < 115792089237316195423570985008687907853269984665640564039457584007913129639936 := modp _
theorem sb_lt (a b : Nat) : sb a b < 115792089237316195423570985008687907853269984665640564039457584007913129639936 := modp _
theorem ml_lt (a b : Nat) : ml a b < 115792089237316195423570985008687907853269984665640564039457584007913129639936 := modp _
def eeN (x z : Nat) : Nat := sb (ml (ad x z) (ad x z)) (ml (sb x z) (sb x z))
def dX (x z : Nat) : Nat := ml (ml (ad x z) (ad x z)) (ml (sb x z) (sb x z))
def dZ (x z : Nat) : Nat := ml (eeN x z) (ad (ml (ad x z) (ad x z)) (ml 121665 (eeN x z)))
def cA (x z u v : Nat) : Nat := ml (sb u v) (ad x z)
def cB (x z u v : Nat) : Nat := ml (ad u v) (sb x z)
def sX (x z u v : Nat) : Nat := ml (ad (cA x z u v) (cB x z u v)) (ad (cA x z u v) (cB x z u v))
def sZ (t x z u v : Nat) : Nat := ml t (ml (sb (cA x z u v) (cB x z u v)) (sb (cA x z u v) (cB x z u v)))
theorem dX_lt (x z : Nat) : dX x z < 115792089237316195423570985008687907853269984665640564039457584007913129639936 := ml_lt _ _
theorem dZ_lt (x z : Nat) : dZ x z < 115792089237316195423570985008687907853269984665640564039457584007913129639936 := ml_lt _ _
theorem sX_lt (x z u v : Nat) : sX x z u v < 115792089237316195423570985008687907853269984665640564039457584007913129639936 := ml_lt _ _
theorem sZ_lt (t x z u v : Nat) : sZ t x z u v < 115792089237316195423570985008687907853269984665640564039457584007913129639936 := ml_lt _ _

theorem lt2k {a b : Nat} (ha : a < 115792089237316195423570985008687907853269984665640564039457584007913129639936) (hb : b < 115792089237316195423570985008687907853269984665640564039457584007913129639936) : ∀ n ∈ [a, b], n < 115792089237316195423570985008687907853269984665640564039457584007913129639936 := fun n hn => by
  rcases List.mem_cons.1 hn with h | h
  · rw [h]; exact ha
  · rw [List.mem_singleton.1 h]; exact hb
theorem sum2 (a b : Nat) : sumN [a, b] = a + b := by simp [sumN]
theorem fill_rtK (a b : Nat) {A : Array Value} (hA : A.size = 8) : Instr.fill (fun i => [(0, 4), (4, 4)][i]?) A [(0, .agg (el a).toArray), (1, .agg (el b).toArray)] = some (rt a b).toArray := by
  rw [fill_stp (C := el a) (off := 0) (s := 4) rfl rfl rfl (by omega), List.take_zero, List.nil_append]
  have hd : (A.toList.drop (0 + 4)).length = 4 := by rw [List.length_drop, Array.length_toList]; omega
  generalize A.toList.drop (0 + 4) = D at hd
  rw [fill_stp (C := el b) (off := 4) (s := 4) rfl rfl rfl (by rw [List.size_toArray, List.length_append, hd, el_length]; omega)]
  rw [show (el a ++ D).toArray.toList.take 4 = el a from List.take_left' (el_length a), show (el a ++ D).toArray.toList.drop (4 + 4) = [] from by
    show (el a ++ D).drop (4 + 4) = []
    exact List.drop_of_length_le (by rw [List.length_append, hd, el_length]; omega)]
  simp [Instr.fill, rt]

theorem SumK (w : World) {q : Option Addr} (d : Nat) {a b : Nat} (hq : RdV w q (elsC [a, b])) (ha : a < 115792089237316195423570985008687907853269984665640564039457584007913129639936) (hb : b < 115792089237316195423570985008687907853269984665640564039457584007913129639936) :
    Spec Try.prog 76 #[.slice q 2 d] w (σ := Unit) (fun _ => True) (fun _ => .agg (el (ad a b)).toArray) Nob (fun _ => []) := by
  have h := Sum_b w d hq rfl (lt2k ha hb) (show 2 ≤ 4398046511104 by omega)
  rwa [sum2] at h
theorem ProductK (w : World) {q : Option Addr} (d : Nat) {a b : Nat} (hq : RdV w q (elsC [a, b])) (ha : a < 115792089237316195423570985008687907853269984665640564039457584007913129639936) (hb : b < 115792089237316195423570985008687907853269984665640564039457584007913129639936) :
    Spec Try.prog 78 #[.slice q 2 d] w (σ := Unit) (fun _ => True) (fun _ => .agg (el (ml a b)).toArray) Nob (fun _ => []) := by
  have h := Product_b w d hq rfl (lt2k ha hb) (show 2 ≤ 4398046511104 by omega)
  rwa [prod2] at h
theorem SubK (w : World) {a b : Nat} (ha : a < 115792089237316195423570985008687907853269984665640564039457584007913129639936) (hb : b < 115792089237316195423570985008687907853269984665640564039457584007913129639936) : Spec Try.prog 77 #[.agg (el a).toArray, .agg (el b).toArray] w (σ := Unit) (fun _ => True) (fun _ => .agg (el (sb a b)).toArray) Nob (fun _ => []) := SubE_b w a b ha hb
theorem SquareK (w : World) {a : Nat} (ha : a < 115792089237316195423570985008687907853269984665640564039457584007913129639936) : Spec Try.prog 79 #[.agg (el a).toArray] w (σ := Unit) (fun _ => True) (fun _ => .agg (el (ml a a)).toArray) Nob (fun _ => []) := Square_b w a ha

theorem step_b (w : World) {x z u v t : Nat} (hx : x < 115792089237316195423570985008687907853269984665640564039457584007913129639936) (hz : z < 115792089237316195423570985008687907853269984665640564039457584007913129639936) (hu : u < 115792089237316195423570985008687907853269984665640564039457584007913129639936) (hv : v < 115792089237316195423570985008687907853269984665640564039457584007913129639936) (ht : t < 115792089237316195423570985008687907853269984665640564039457584007913129639936) :
    Spec Try.prog 59 #[.agg (rt x z).toArray, .agg (rt u v).toArray, .agg (el t).toArray] w (σ := Unit) (fun _ => True) (fun _ => .tuple #[.agg (rt (dX x z) (dZ x z)).toArray, .agg (rt (sX x z u v) (sZ t x z u v)).toArray]) Nob (fun _ => []) := by
  refine enter Try.func59 rfl rfl (Mem.start w) ?_
  have hA := ad_lt x z
  have hB := sb_lt x z
  have hC := ad_lt u v
  have hD := sb_lt u v
  have hAA := ml_lt (ad x z) (ad x z)
  have hBB := ml_lt (sb x z) (sb x z)
  have hEE : eeN x z < 115792089237316195423570985008687907853269984665640564039457584007913129639936 := sb_lt _ _
  have hDA : cA x z u v < 115792089237316195423570985008687907853269984665640564039457584007913129639936 := ml_lt _ _
  have hCB : cB x z u v < 115792089237316195423570985008687907853269984665640564039457584007913129639936 := ml_lt _ _
  (repeat refine g_seq ?_)
  refine g_region ?_
  refine g_lo [3] rfl rfl rfl rfl (lo_box rfl rfl) (fun b3 hb3 => ?_)
  refine g_lo [4] rfl rfl rfl rfl (lo_box rfl rfl) (fun b4 hb4 => ?_)
  refine g_lo [5] rfl rfl rfl rfl (lo_box rfl rfl) (fun b5 hb5 => ?_)
  refine g_lo [6] rfl rfl rfl rfl (lo_alloc rfl) (fun b6 hb6 => ?_)
  refine g_lo [7] rfl rfl rfl rfl (lo_alloc rfl) (fun b7 hb7 => ?_)
  refine g_nil ?_
  (repeat refine g_seq ?_)
  refine g_any (13, []) ?_
  refine a_pu 0 rfl rfl rfl rfl (pu_fieldAddr (by decide) rfl rfl) rfl rfl (by kernel_rfl) ?_
  refine a_pu 1 rfl rfl rfl rfl (pu_loadE 3 (el x).toArray rfl rfl rfl (show 0 + 0 + 4 ≤ (rt x z).toArray.size from (by decide : 4 ≤ 8)) (rt_fst x z)) rfl rfl (by kernel_rfl) ?_
  refine a_pu 2 rfl rfl rfl rfl (pu_fieldAddr (by decide) rfl rfl) rfl rfl (by kernel_rfl) ?_
  refine a_pu 3 rfl rfl rfl rfl (pu_loadE 3 (el z).toArray rfl rfl rfl (show 0 + 4 + 4 ≤ (rt x z).toArray.size from (by decide : 8 ≤ 8)) (rt_snd x z)) rfl rfl (by kernel_rfl) ?_
  refine a_pu 6 rfl rfl rfl rfl (pu_fieldAddr (by decide) rfl rfl) rfl rfl (by kernel_rfl) ?_
  refine a_pu 7 rfl rfl rfl rfl (pu_loadE 3 (el x).toArray rfl rfl rfl (show 0 + 0 + 4 ≤ (rt x z).toArray.size from (by decide : 4 ≤ 8)) (rt_fst x z)) rfl rfl (by kernel_rfl) ?_
  refine a_pu 8 rfl rfl rfl rfl (pu_fieldAddr (by decide) rfl rfl) rfl rfl (by kernel_rfl) ?_
  refine a_pu 9 rfl rfl rfl rfl (pu_loadE 3 (el z).toArray rfl rfl rfl (show 0 + 4 + 4 ≤ (rt x z).toArray.size from (by decide : 8 ≤ 8)) (rt_snd x z)) rfl rfl (by kernel_rfl) ?_
  refine a_pendA 11 8 8 98 ?_
  refine a_pendA 12 9 9 98 ?_
  refine a_do 4 23 [23] (does_lo rfl rfl rfl (lo_buildSlice rfl rfl (by decide) (by decide) rfl rfl)) rfl rfl (by kernel_rfl) rfl rfl (by kernel_rfl) (by kernel_rfl) (by kernel_rfl) rfl (fun p hp => by simp only [List.mem_cons, List.not_mem_nil, or_false] at hp; rcases hp with rfl | rfl <;> first | exact does_PA rfl rfl rfl rfl | exact does_PB rfl rfl rfl rfl rfl (by decide) (by decide) rfl rfl) ?_; rintro v_ cs_ ⟨b23, hb23, rfl, rfl⟩
  refine a_do 5 24 [] (does_call rfl rfl rfl rfl rfl (fun w' hm => SumK w' 2 (hm.rowA 23 (L := elsC [x, z]) rfl) hx hz)) rfl rfl (by kernel_rfl) rfl rfl (by kernel_rfl) (by kernel_rfl) (by kernel_rfl) rfl (fun p hp => by simp only [List.mem_cons, List.not_mem_nil, or_false] at hp; rcases hp with rfl | rfl <;> first | exact does_PA rfl rfl rfl rfl | exact does_PB rfl rfl rfl rfl rfl (by decide) (by decide) rfl rfl) ?_; rintro v_ cs_ ⟨_, _, rfl, rfl⟩
  refine a_do 10 29 [] (does_call rfl rfl rfl rfl rfl (fun w' hm => SubK w' hx hz)) rfl rfl (by kernel_rfl) rfl rfl (by kernel_rfl) (by kernel_rfl) (by kernel_rfl) rfl (fun p hp => by simp only [List.mem_cons, List.not_mem_nil, or_false] at hp; rcases hp with rfl | rfl <;> first | exact does_PA rfl rfl rfl rfl | exact does_PB rfl rfl rfl rfl rfl (by decide) (by decide) rfl rfl) ?_; rintro v_ cs_ ⟨_, _, rfl, rfl⟩
  refine a_force _ (by kernel_rfl) rfl rfl rfl (by kernel_rfl) (by kernel_rfl) (by kernel_rfl) rfl (fun p hp => by simp only [List.mem_cons, List.not_mem_nil, or_false] at hp; rcases hp with rfl | rfl <;> first | exact does_PA rfl rfl rfl rfl | exact does_PB rfl rfl rfl rfl rfl (by decide) (by decide) rfl rfl) ?_; rintro v_ cs_ ⟨b9, hb9, rfl, rfl⟩
  refine a_force _ (by kernel_rfl) rfl rfl rfl (by kernel_rfl) (by kernel_rfl) (by kernel_rfl) rfl (fun p hp => by simp only [List.mem_cons, List.not_mem_nil, or_false] at hp; subst hp; first | exact does_PA rfl rfl rfl rfl | exact does_PB rfl rfl rfl rfl rfl (by decide) (by decide) rfl rfl) ?_; rintro v_ cs_ ⟨q8, hb8, rfl, rfl⟩
  refine a_tail [13, 14] (by kernel_rfl) rfl rfl (by kernel_rfl) ?_
  refine g_storeL 8 (s := 4) (C := el (ad x z)) rfl rfl rfl rfl rfl rfl rfl rfl (oneCell_el _) ?_
  refine g_storeL 9 (s := 4) (C := el (sb x z)) rfl rfl rfl rfl rfl rfl rfl rfl (oneCell_el _) ?_
  refine g_nil ?_
  (repeat refine g_seq ?_)
  refine g_any (13, []) ?_
  refine a_pu 0 rfl rfl rfl rfl (pu_fieldAddr (by decide) rfl rfl) rfl rfl (by kernel_rfl) ?_
  refine a_pu 1 rfl rfl rfl rfl (pu_loadE 4 (el u).toArray rfl rfl rfl (show 0 + 0 + 4 ≤ (rt u v).toArray.size from (by decide : 4 ≤ 8)) (rt_fst u v)) rfl rfl (by kernel_rfl) ?_
  refine a_pu 2 rfl rfl rfl rfl (pu_fieldAddr (by decide) rfl rfl) rfl rfl (by kernel_rfl) ?_
  refine a_pu 3 rfl rfl rfl rfl (pu_loadE 4 (el v).toArray rfl rfl rfl (show 0 + 4 + 4 ≤ (rt u v).toArray.size from (by decide : 8 ≤ 8)) (rt_snd u v)) rfl rfl (by kernel_rfl) ?_
  refine a_pu 6 rfl rfl rfl rfl (pu_fieldAddr (by decide) rfl rfl) rfl rfl (by kernel_rfl) ?_
  refine a_pu 7 rfl rfl rfl rfl (pu_loadE 4 (el u).toArray rfl rfl rfl (show 0 + 0 + 4 ≤ (rt u v).toArray.size from (by decide : 4 ≤ 8)) (rt_fst u v)) rfl rfl (by kernel_rfl) ?_
  refine a_pu 8 rfl rfl rfl rfl (pu_fieldAddr (by decide) rfl rfl) rfl rfl (by kernel_rfl) ?_
  refine a_pu 9 rfl rfl rfl rfl (pu_loadE 4 (el v).toArray rfl rfl rfl (show 0 + 4 + 4 ≤ (rt u v).toArray.size from (by decide : 8 ≤ 8)) (rt_snd u v)) rfl rfl (by kernel_rfl) ?_
  refine a_pendA 11 10 10 98 ?_
  refine a_pendA 12 11 11 98 ?_
  refine a_do 4 34 [34] (does_lo rfl rfl rfl (lo_buildSlice rfl rfl (by decide) (by decide) rfl rfl)) rfl rfl (by kernel_rfl) rfl rfl (by kernel_rfl) (by kernel_rfl) (by kernel_rfl) rfl (fun p hp => by simp only [List.mem_cons, List.not_mem_nil, or_false] at hp; rcases hp with rfl | rfl <;> first | exact does_PA rfl rfl rfl rfl | exact does_PB rfl rfl rfl rfl rfl (by decide) (by decide) rfl rfl) ?_; rintro v_ cs_ ⟨b34, hb34, rfl, rfl⟩
  refine a_do 5 35 [] (does_call rfl rfl rfl rfl rfl (fun w' hm => SumK w' 2 (hm.rowA 34 (L := elsC [u, v]) rfl) hu hv)) rfl rfl (by kernel_rfl) rfl rfl (by kernel_rfl) (by kernel_rfl) (by kernel_rfl) rfl (fun p hp => by simp only [List.mem_cons, List.not_mem_nil, or_false] at hp; rcases hp with rfl | rfl <;> first | exact does_PA rfl rfl rfl rfl | exact does_PB rfl rfl rfl rfl rfl (by decide) (by decide) rfl rfl) ?_; rintro v_ cs_ ⟨_, _, rfl, rfl⟩
  refine a_do 10 40 [] (does_call rfl rfl rfl rfl rfl (fun w' hm => SubK w' hu hv)) rfl rfl (by kernel_rfl) rfl rfl (by kernel_rfl) (by kernel_rfl) (by kernel_rfl) rfl (fun p hp => by simp only [List.mem_cons, List.not_mem_nil, or_false] at hp; rcases hp with rfl | rfl <;> first | exact does_PA rfl rfl rfl rfl | exact does_PB rfl rfl rfl rfl rfl (by decide) (by decide) rfl rfl) ?_; rintro v_ cs_ ⟨_, _, rfl, rfl⟩
  refine a_force _ (by kernel_rfl) rfl rfl rfl (by kernel_rfl) (by kernel_rfl) (by kernel_rfl) rfl (fun p hp => by simp only [List.mem_cons, List.not_mem_nil, or_false] at hp; rcases hp with rfl | rfl <;> first | exact does_PA rfl rfl rfl rfl | exact does_PB rfl rfl rfl rfl rfl (by decide) (by decide) rfl rfl) ?_; rintro v_ cs_ ⟨b11, hb11, rfl, rfl⟩
  refine a_force _ (by kernel_rfl) rfl rfl rfl (by kernel_rfl) (by kernel_rfl) (by kernel_rfl) rfl (fun p hp => by simp only [List.mem_cons, List.not_mem_nil, or_false] at hp; subst hp; first | exact does_PA rfl rfl rfl rfl | exact does_PB rfl rfl rfl rfl rfl (by decide) (by decide) rfl rfl) ?_; rintro v_ cs_ ⟨b10, hb10, rfl, rfl⟩
  refine a_tail [13, 14] (by kernel_rfl) rfl rfl (by kernel_rfl) ?_
  refine g_storeL 10 (s := 4) (C := el (ad u v)) rfl rfl rfl rfl rfl rfl rfl rfl (oneCell_el _) ?_
  refine g_storeL 11 (s := 4) (C := el (sb u v)) rfl rfl rfl rfl rfl rfl rfl rfl (oneCell_el _) ?_
  refine g_nil ?_
  (repeat refine g_seq ?_)
  refine g_any (10, []) ?_
  refine a_pu 0 rfl rfl rfl rfl (pu_loadW 11 (L := el (sb u v)) rfl rfl rfl rfl) rfl rfl (by kernel_rfl) ?_
  refine a_pu 1 rfl rfl rfl rfl (pu_loadW 8 (L := el (ad x z)) rfl rfl rfl rfl) rfl rfl (by kernel_rfl) ?_
  refine a_pu 4 rfl rfl rfl rfl (pu_loadW 10 (L := el (ad u v)) rfl rfl rfl rfl) rfl rfl (by kernel_rfl) ?_
  refine a_pu 5 rfl rfl rfl rfl (pu_loadW 9 (L := el (sb x z)) rfl rfl rfl rfl) rfl rfl (by kernel_rfl) ?_
  refine a_pendA 8 12 12 98 ?_
  refine a_pendA 9 13 13 98 ?_
  refine a_pendB 6 47 47 2 98 (elsC [ad u v, sb x z]) ?_
  refine a_do 2 43 [43] (does_lo rfl rfl rfl (lo_buildSlice rfl rfl (by decide) (by decide) rfl rfl)) rfl rfl (by kernel_rfl) rfl rfl (by kernel_rfl) (by kernel_rfl) (by kernel_rfl) rfl (fun p hp => by simp only [List.mem_cons, List.not_mem_nil, or_false] at hp; rcases hp with rfl | rfl | rfl <;> first | exact does_PA rfl rfl rfl rfl | exact does_PB rfl rfl rfl rfl rfl (by decide) (by decide) rfl rfl) ?_; rintro v_ cs_ ⟨b43, hb43, rfl, rfl⟩
  refine a_do 3 44 [] (does_call rfl rfl rfl rfl rfl (fun w' hm => ProductK w' 2 (hm.rowA 43 (L := elsC [sb u v, ad x z]) rfl) hD hA)) rfl rfl (by kernel_rfl) rfl rfl (by kernel_rfl) (by kernel_rfl) (by kernel_rfl) rfl (fun p hp => by simp only [List.mem_cons, List.not_mem_nil, or_false] at hp; rcases hp with rfl | rfl | rfl <;> first | exact does_PA rfl rfl rfl rfl | exact does_PB rfl rfl rfl rfl rfl (by decide) (by decide) rfl rfl) ?_; rintro v_ cs_ ⟨_, _, rfl, rfl⟩
  refine a_force _ (by kernel_rfl) rfl rfl rfl (by kernel_rfl) (by kernel_rfl) (by kernel_rfl) rfl (fun p hp => by simp only [List.mem_cons, List.not_mem_nil, or_false] at hp; rcases hp with rfl | rfl | rfl <;> first | exact does_PA rfl rfl rfl rfl | exact does_PB rfl rfl rfl rfl rfl (by decide) (by decide) rfl rfl) ?_; rintro v_ cs_ ⟨b47, hb47, rfl, rfl⟩
  refine a_do 7 48 [] (does_call rfl rfl rfl rfl rfl (fun w' hm => ProductK w' 2 (hm.rowA 47 (L := elsC [ad u v, sb x z]) rfl) hC hB)) rfl rfl (by kernel_rfl) rfl rfl (by kernel_rfl) (by kernel_rfl) (by kernel_rfl) rfl (fun p hp => by simp only [List.mem_cons, List.not_mem_nil, or_false] at hp; rcases hp with rfl | rfl <;> first | exact does_PA rfl rfl rfl rfl | exact does_PB rfl rfl rfl rfl rfl (by decide) (by decide) rfl rfl) ?_; rintro v_ cs_ ⟨_, _, rfl, rfl⟩
  refine a_force _ (by kernel_rfl) rfl rfl rfl (by kernel_rfl) (by kernel_rfl) (by kernel_rfl) rfl (fun p hp => by simp only [List.mem_cons, List.not_mem_nil, or_false] at hp; rcases hp with rfl | rfl <;> first | exact does_PA rfl rfl rfl rfl | exact does_PB rfl rfl rfl rfl rfl (by decide) (by decide) rfl rfl) ?_; rintro v_ cs_ ⟨b13, hb13, rfl, rfl⟩
  refine a_force _ (by kernel_rfl) rfl rfl rfl (by kernel_rfl) (by kernel_rfl) (by kernel_rfl) rfl (fun p hp => by simp only [List.mem_cons, List.not_mem_nil, or_false] at hp; subst hp; first | exact does_PA rfl rfl rfl rfl | exact does_PB rfl rfl rfl rfl rfl (by decide) (by decide) rfl rfl) ?_; rintro v_ cs_ ⟨b12, hb12, rfl, rfl⟩
  refine a_tail [10, 11] (by kernel_rfl) rfl rfl (by kernel_rfl) ?_
  refine g_storeL 12 (s := 4) (C := el (cA x z u v)) rfl rfl rfl rfl rfl rfl rfl rfl (oneCell_el _) ?_
  refine g_storeL 13 (s := 4) (C := el (cB x z u v)) rfl rfl rfl rfl rfl rfl rfl rfl (oneCell_el _) ?_
  refine g_nil ?_
  (repeat refine g_seq ?_)
  refine g_any (6, []) ?_
  refine a_pu 0 rfl rfl rfl rfl (pu_loadW 8 (L := el (ad x z)) rfl rfl rfl rfl) rfl rfl (by kernel_rfl) ?_
  refine a_pu 2 rfl rfl rfl rfl (pu_loadW 9 (L := el (sb x z)) rfl rfl rfl rfl) rfl rfl (by kernel_rfl) ?_
  refine a_pendA 4 14 14 98 ?_
  refine a_pendA 5 15 15 98 ?_
  refine a_do 1 50 [] (does_call rfl rfl rfl rfl rfl (fun w' hm => SquareK w' hA)) rfl rfl (by kernel_rfl) rfl rfl (by kernel_rfl) (by kernel_rfl) (by kernel_rfl) rfl (fun p hp => by simp only [List.mem_cons, List.not_mem_nil, or_false] at hp; rcases hp with rfl | rfl <;> first | exact does_PA rfl rfl rfl rfl | exact does_PB rfl rfl rfl rfl rfl (by decide) (by decide) rfl rfl) ?_; rintro v_ cs_ ⟨_, _, rfl, rfl⟩
  refine a_do 3 52 [] (does_call rfl rfl rfl rfl rfl (fun w' hm => SquareK w' hB)) rfl rfl (by kernel_rfl) rfl rfl (by kernel_rfl) (by kernel_rfl) (by kernel_rfl) rfl (fun p hp => by simp only [List.mem_cons, List.not_mem_nil, or_false] at hp; rcases hp with rfl | rfl <;> first | exact does_PA rfl rfl rfl rfl | exact does_PB rfl rfl rfl rfl rfl (by decide) (by decide) rfl rfl) ?_; rintro v_ cs_ ⟨_, _, rfl, rfl⟩
  refine a_force _ (by kernel_rfl) rfl rfl rfl (by kernel_rfl) (by kernel_rfl) (by kernel_rfl) rfl (fun p hp => by simp only [List.mem_cons, List.not_mem_nil, or_false] at hp; rcases hp with rfl | rfl <;> first | exact does_PA rfl rfl rfl rfl | exact does_PB rfl rfl rfl rfl rfl (by decide) (by decide) rfl rfl) ?_; rintro v_ cs_ ⟨b15, hb15, rfl, rfl⟩
  refine a_force _ (by kernel_rfl) rfl rfl rfl (by kernel_rfl) (by kernel_rfl) (by kernel_rfl) rfl (fun p hp => by simp only [List.mem_cons, List.not_mem_nil, or_false] at hp; subst hp; first | exact does_PA rfl rfl rfl rfl | exact does_PB rfl rfl rfl rfl rfl (by decide) (by decide) rfl rfl) ?_; rintro v_ cs_ ⟨b14, hb14, rfl, rfl⟩
  refine a_tail [6, 7] (by kernel_rfl) rfl rfl (by kernel_rfl) ?_
  refine g_storeL 14 (s := 4) (C := el (ml (ad x z) (ad x z))) rfl rfl rfl rfl rfl rfl rfl rfl (oneCell_el _) ?_
  refine g_storeL 15 (s := 4) (C := el (ml (sb x z) (sb x z))) rfl rfl rfl rfl rfl rfl rfl rfl (oneCell_el _) ?_
  refine g_nil ?_
  (repeat refine g_seq ?_)
  refine g_region ?_
  refine g_pu rfl rfl rfl (pu_loadW 14 (L := el (ml (ad x z) (ad x z))) rfl rfl rfl rfl) ?_
  refine g_pu rfl rfl rfl (pu_loadW 15 (L := el (ml (sb x z) (sb x z))) rfl rfl rfl rfl) ?_
  refine g_call [] rfl rfl rfl rfl rfl rfl (fun w' hm => SubK w' hAA hBB) (fun _ _ => ?_)
  refine g_lo [16] rfl rfl rfl rfl (lo_alloc rfl) (fun b16 hb16 => ?_)
  refine g_storeL 16 (s := 4) (C := el (eeN x z)) rfl rfl rfl rfl rfl rfl rfl rfl (oneCell_el _) ?_
  refine g_nil ?_
  (repeat refine g_seq ?_)
  refine g_any (16, []) ?_
  refine a_pu 0 rfl rfl rfl rfl (pu_loadW 14 (L := el (ml (ad x z) (ad x z))) rfl rfl rfl rfl) rfl rfl (by kernel_rfl) ?_
  refine a_pu 1 rfl rfl rfl rfl (pu_loadW 15 (L := el (ml (sb x z) (sb x z))) rfl rfl rfl rfl) rfl rfl (by kernel_rfl) ?_
  refine a_pu 4 rfl rfl rfl rfl (pu_loadW 16 (L := el (eeN x z)) rfl rfl rfl rfl) rfl rfl (by kernel_rfl) ?_
  refine a_pu 5 rfl rfl rfl rfl (pu_loadW 14 (L := el (ml (ad x z) (ad x z))) rfl rfl rfl rfl) rfl rfl (by kernel_rfl) ?_
  refine a_pu 7 rfl rfl rfl rfl (pu_loadW 16 (L := el (eeN x z)) rfl rfl rfl rfl) rfl rfl (by kernel_rfl) ?_
  refine a_pendA 15 17 17 115 ?_
  refine a_do 2 58 [58] (does_lo rfl rfl rfl (lo_buildSlice rfl rfl (by decide) (by decide) rfl rfl)) rfl rfl (by kernel_rfl) rfl rfl (by kernel_rfl) (by kernel_rfl) (by kernel_rfl) rfl (fun p hp => by simp only [List.mem_cons, List.not_mem_nil, or_false] at hp; subst hp; first | exact does_PA rfl rfl rfl rfl | exact does_PB rfl rfl rfl rfl rfl (by decide) (by decide) rfl rfl) ?_; rintro v_ cs_ ⟨b58, hb58, rfl, rfl⟩
  refine a_do 3 59 [] (does_call rfl rfl rfl rfl rfl (fun w' hm => ProductK w' 2 (hm.rowA 58 (L := elsC [ml (ad x z) (ad x z), ml (sb x z) (sb x z)]) rfl) hAA hBB)) rfl rfl (by kernel_rfl) rfl rfl (by kernel_rfl) (by kernel_rfl) (by kernel_rfl) rfl (fun p hp => by simp only [List.mem_cons, List.not_mem_nil, or_false] at hp; subst hp; first | exact does_PA rfl rfl rfl rfl | exact does_PB rfl rfl rfl rfl rfl (by decide) (by decide) rfl rfl) ?_; rintro v_ cs_ ⟨_, _, rfl, rfl⟩
  refine a_do 6 62 [] (does_call rfl rfl rfl rfl rfl (fun w' hm => Of_b w' 121665#64)) rfl rfl (by kernel_rfl) rfl rfl (by kernel_rfl) (by kernel_rfl) (by kernel_rfl) rfl (fun p hp => by simp only [List.mem_cons, List.not_mem_nil, or_false] at hp; subst hp; first | exact does_PA rfl rfl rfl rfl | exact does_PB rfl rfl rfl rfl rfl (by decide) (by decide) rfl rfl) ?_; rintro v_ cs_ ⟨_, _, rfl, rfl⟩
  refine a_do 8 64 [64] (does_lo rfl rfl rfl (lo_buildSlice rfl rfl (by decide) (by decide) rfl rfl)) rfl rfl (by kernel_rfl) rfl rfl (by kernel_rfl) (by kernel_rfl) (by kernel_rfl) rfl (fun p hp => by simp only [List.mem_cons, List.not_mem_nil, or_false] at hp; subst hp; first | exact does_PA rfl rfl rfl rfl | exact does_PB rfl rfl rfl rfl rfl (by decide) (by decide) rfl rfl) ?_; rintro v_ cs_ ⟨q64, hb64, rfl, rfl⟩
  refine a_do 9 65 [] (does_call rfl rfl rfl rfl rfl (fun w' hm => ProductK w' 2 (hm.rowA 64 (L := elsC [121665, eeN x z]) rfl) (by decide) hEE)) rfl rfl (by kernel_rfl) rfl rfl (by kernel_rfl) (by kernel_rfl) (by kernel_rfl) rfl (fun p hp => by simp only [List.mem_cons, List.not_mem_nil, or_false] at hp; subst hp; first | exact does_PA rfl rfl rfl rfl | exact does_PB rfl rfl rfl rfl rfl (by decide) (by decide) rfl rfl) ?_; rintro v_ cs_ ⟨_, _, rfl, rfl⟩
  refine a_do 10 66 [66] (does_lo rfl rfl rfl (lo_buildSlice rfl rfl (by decide) (by decide) rfl rfl)) rfl rfl (by kernel_rfl) rfl rfl (by kernel_rfl) (by kernel_rfl) (by kernel_rfl) rfl (fun p hp => by simp only [List.mem_cons, List.not_mem_nil, or_false] at hp; subst hp; first | exact does_PA rfl rfl rfl rfl | exact does_PB rfl rfl rfl rfl rfl (by decide) (by decide) rfl rfl) ?_; rintro v_ cs_ ⟨b66, hb66, rfl, rfl⟩
  refine a_do 11 67 [] (does_call rfl rfl rfl rfl rfl (fun w' hm => SumK w' 2 (hm.rowA 66 (L := elsC [ml (ad x z) (ad x z), ml 121665 (eeN x z)]) rfl) hAA (ml_lt _ _))) rfl rfl (by kernel_rfl) rfl rfl (by kernel_rfl) (by kernel_rfl) (by kernel_rfl) rfl (fun p hp => by simp only [List.mem_cons, List.not_mem_nil, or_false] at hp; subst hp; first | exact does_PA rfl rfl rfl rfl | exact does_PB rfl rfl rfl rfl rfl (by decide) (by decide) rfl rfl) ?_; rintro v_ cs_ ⟨_, _, rfl, rfl⟩
  refine a_do 12 68 [68] (does_lo rfl rfl rfl (lo_buildSlice rfl rfl (by decide) (by decide) rfl rfl)) rfl rfl (by kernel_rfl) rfl rfl (by kernel_rfl) (by kernel_rfl) (by kernel_rfl) rfl (fun p hp => by simp only [List.mem_cons, List.not_mem_nil, or_false] at hp; subst hp; first | exact does_PA rfl rfl rfl rfl | exact does_PB rfl rfl rfl rfl rfl (by decide) (by decide) rfl rfl) ?_; rintro v_ cs_ ⟨b68, hb68, rfl, rfl⟩
  refine a_do 13 69 [] (does_call rfl rfl rfl rfl rfl (fun w' hm => ProductK w' 2 (hm.rowA 68 (L := elsC [eeN x z, ad (ml (ad x z) (ad x z)) (ml 121665 (eeN x z))]) rfl) hEE (ad_lt _ _))) rfl rfl (by kernel_rfl) rfl rfl (by kernel_rfl) (by kernel_rfl) (by kernel_rfl) rfl (fun p hp => by simp only [List.mem_cons, List.not_mem_nil, or_false] at hp; subst hp; first | exact does_PA rfl rfl rfl rfl | exact does_PB rfl rfl rfl rfl rfl (by decide) (by decide) rfl rfl) ?_; rintro v_ cs_ ⟨_, _, rfl, rfl⟩
  refine a_pu 14 rfl rfl rfl rfl (pu_buildS (cs := rt (dX x z) (dZ x z)) rfl rfl (fill_rtK _ _ rfl)) rfl rfl (by kernel_rfl) ?_
  refine a_force _ (by kernel_rfl) rfl rfl rfl (by kernel_rfl) (by kernel_rfl) (by kernel_rfl) rfl (fun p hp => by simp only [List.mem_cons, List.not_mem_nil, or_false] at hp; subst hp; first | exact does_PA rfl rfl rfl rfl | exact does_PB rfl rfl rfl rfl rfl (by decide) (by decide) rfl rfl) ?_; rintro v_ cs_ ⟨b17, hb17, rfl, rfl⟩
  refine a_tail [16] (by kernel_rfl) rfl rfl (by kernel_rfl) ?_
  refine g_storeL 17 (s := 8) (C := rt (dX x z) (dZ x z)) rfl rfl rfl rfl rfl rfl rfl rfl (oneCell_rt _ _) ?_
  refine g_nil ?_
  (repeat refine g_seq ?_)
  refine g_any (14, []) ?_
  refine a_pu 0 rfl rfl rfl rfl (pu_loadW 12 (L := el (cA x z u v)) rfl rfl rfl rfl) rfl rfl (by kernel_rfl) ?_
  refine a_pu 1 rfl rfl rfl rfl (pu_loadW 13 (L := el (cB x z u v)) rfl rfl rfl rfl) rfl rfl (by kernel_rfl) ?_
  refine a_pu 5 rfl rfl rfl rfl (pu_loadW 5 (L := el t) rfl rfl rfl rfl) rfl rfl (by kernel_rfl) ?_
  refine a_pu 6 rfl rfl rfl rfl (pu_loadW 12 (L := el (cA x z u v)) rfl rfl rfl rfl) rfl rfl (by kernel_rfl) ?_
  refine a_pu 7 rfl rfl rfl rfl (pu_loadW 13 (L := el (cB x z u v)) rfl rfl rfl rfl) rfl rfl (by kernel_rfl) ?_
  refine a_pendA 13 18 18 115 ?_
  refine a_do 2 73 [73] (does_lo rfl rfl rfl (lo_buildSlice rfl rfl (by decide) (by decide) rfl rfl)) rfl rfl (by kernel_rfl) rfl rfl (by kernel_rfl) (by kernel_rfl) (by kernel_rfl) rfl (fun p hp => by simp only [List.mem_cons, List.not_mem_nil, or_false] at hp; subst hp; first | exact does_PA rfl rfl rfl rfl | exact does_PB rfl rfl rfl rfl rfl (by decide) (by decide) rfl rfl) ?_; rintro v_ cs_ ⟨b73, hb73, rfl, rfl⟩
  refine a_do 3 74 [] (does_call rfl rfl rfl rfl rfl (fun w' hm => SumK w' 2 (hm.rowA 73 (L := elsC [cA x z u v, cB x z u v]) rfl) hDA hCB)) rfl rfl (by kernel_rfl) rfl rfl (by kernel_rfl) (by kernel_rfl) (by kernel_rfl) rfl (fun p hp => by simp only [List.mem_cons, List.not_mem_nil, or_false] at hp; subst hp; first | exact does_PA rfl rfl rfl rfl | exact does_PB rfl rfl rfl rfl rfl (by decide) (by decide) rfl rfl) ?_; rintro v_ cs_ ⟨_, _, rfl, rfl⟩
  refine a_do 4 75 [] (does_call rfl rfl rfl rfl rfl (fun w' hm => SquareK w' (ad_lt _ _))) rfl rfl (by kernel_rfl) rfl rfl (by kernel_rfl) (by kernel_rfl) (by kernel_rfl) rfl (fun p hp => by simp only [List.mem_cons, List.not_mem_nil, or_false] at hp; subst hp; first | exact does_PA rfl rfl rfl rfl | exact does_PB rfl rfl rfl rfl rfl (by decide) (by decide) rfl rfl) ?_; rintro v_ cs_ ⟨_, _, rfl, rfl⟩
  refine a_do 8 79 [] (does_call rfl rfl rfl rfl rfl (fun w' hm => SubK w' hDA hCB)) rfl rfl (by kernel_rfl) rfl rfl (by kernel_rfl) (by kernel_rfl) (by kernel_rfl) rfl (fun p hp => by simp only [List.mem_cons, List.not_mem_nil, or_false] at hp; subst hp; first | exact does_PA rfl rfl rfl rfl | exact does_PB rfl rfl rfl rfl rfl (by decide) (by decide) rfl rfl) ?_; rintro v_ cs_ ⟨_, _, rfl, rfl⟩
  refine a_do 9 80 [] (does_call rfl rfl rfl rfl rfl (fun w' hm => SquareK w' (sb_lt _ _))) rfl rfl (by kernel_rfl) rfl rfl (by kernel_rfl) (by kernel_rfl) (by kernel_rfl) rfl (fun p hp => by simp only [List.mem_cons, List.not_mem_nil, or_false] at hp; subst hp; first | exact does_PA rfl rfl rfl rfl | exact does_PB rfl rfl rfl rfl rfl (by decide) (by decide) rfl rfl) ?_; rintro v_ cs_ ⟨_, _, rfl, rfl⟩
  refine a_do 10 81 [81] (does_lo rfl rfl rfl (lo_buildSlice rfl rfl (by decide) (by decide) rfl rfl)) rfl rfl (by kernel_rfl) rfl rfl (by kernel_rfl) (by kernel_rfl) (by kernel_rfl) rfl (fun p hp => by simp only [List.mem_cons, List.not_mem_nil, or_false] at hp; subst hp; first | exact does_PA rfl rfl rfl rfl | exact does_PB rfl rfl rfl rfl rfl (by decide) (by decide) rfl rfl) ?_; rintro v_ cs_ ⟨b81, hb81, rfl, rfl⟩
  refine a_do 11 82 [] (does_call rfl rfl rfl rfl rfl (fun w' hm => ProductK w' 2 (hm.rowA 81 (L := elsC [t, ml (sb (cA x z u v) (cB x z u v)) (sb (cA x z u v) (cB x z u v))]) rfl) ht (ml_lt _ _))) rfl rfl (by kernel_rfl) rfl rfl (by kernel_rfl) (by kernel_rfl) (by kernel_rfl) rfl (fun p hp => by simp only [List.mem_cons, List.not_mem_nil, or_false] at hp; subst hp; first | exact does_PA rfl rfl rfl rfl | exact does_PB rfl rfl rfl rfl rfl (by decide) (by decide) rfl rfl) ?_; rintro v_ cs_ ⟨_, _, rfl, rfl⟩
  refine a_pu 12 rfl rfl rfl rfl (pu_buildS (cs := rt (sX x z u v) (sZ t x z u v)) rfl rfl (fill_rtK _ _ rfl)) rfl rfl (by kernel_rfl) ?_
  refine a_force _ (by kernel_rfl) rfl rfl rfl (by kernel_rfl) (by kernel_rfl) (by kernel_rfl) rfl (fun p hp => by simp only [List.mem_cons, List.not_mem_nil, or_false] at hp; subst hp; first | exact does_PA rfl rfl rfl rfl | exact does_PB rfl rfl rfl rfl rfl (by decide) (by decide) rfl rfl) ?_; rintro v_ cs_ ⟨b18, hb18, rfl, rfl⟩
  refine a_tail [14] (by kernel_rfl) rfl rfl (by kernel_rfl) ?_
  refine g_storeL 18 (s := 8) (C := rt (sX x z u v) (sZ t x z u v)) rfl rfl rfl rfl rfl rfl rfl rfl (oneCell_rt _ _) ?_
  refine g_nil ?_
  (repeat refine g_seq ?_)
  refine g_anyK [(17, .pt b17 (.cells (rt (dX x z) (dZ x z)).toArray 115 (0, 0))), (18, .pt b18 (.cells (rt (sX x z u v) (sZ t x z u v)).toArray 115 (0, 0)))] ?_
  refine a_puK 0 rfl rfl rfl rfl ⟨rfl, rfl, trivial⟩ (pu_loadW 17 (L := rt (dX x z) (dZ x z)) rfl rfl rfl rfl) (by kernel_rfl) ?_
  refine a_puK 1 rfl rfl rfl rfl ⟨rfl, rfl, trivial⟩ (pu_loadW 18 (L := rt (sX x z u v) (sZ t x z u v)) rfl rfl rfl rfl) (by kernel_rfl) ?_
  refine a_stK 2 rfl rfl rfl (st_rowF 6 (s := 8) (C := rt (dX x z) (dZ x z)) rfl rfl rfl rfl rfl rfl (oneCell_rt _ _)) ⟨rfl, rfl, trivial⟩ (by kernel_rfl) ?_
  refine a_stK 3 rfl rfl rfl (st_rowF 7 (s := 8) (C := rt (sX x z u v) (sZ t x z u v)) rfl rfl rfl rfl rfl rfl (oneCell_rt _ _)) ⟨rfl, rfl, trivial⟩ (by kernel_rfl) ?_
  refine a_doneK (by kernel_rfl) ?_
  exact g_retLL 6 7 (L := rt (dX x z) (dZ x z)) (L' := rt (sX x z u v) (sZ t x z u v)) rfl rfl rfl rfl rfl rfl rfl (fun w' hm => ⟨(), trivial, rfl, hm.grows [] trivial rfl⟩)
end Go.Sx

/-
  X25519 of the program: the ladder as a law of its own, and Mult. The bytes fit memory.
-/
namespace Go.Sx
open Go Go.Proofs

/-- The two points of the ladder: x, z, and x, z of the next. -/
abbrev Lad := Nat × Nat × Nat × Nat
def stepL (t b : Nat) (S : Lad) : Lad :=
  if b = 1 then (sX S.2.2.1 S.2.2.2 S.1 S.2.1, sZ t S.2.2.1 S.2.2.2 S.1 S.2.1, dX S.2.2.1 S.2.2.2, dZ S.2.2.1 S.2.2.2)
  else (dX S.1 S.2.1, dZ S.1 S.2.1, sX S.1 S.2.1 S.2.2.1 S.2.2.2, sZ t S.1 S.2.1 S.2.2.1 S.2.2.2)
/-- After j of the 255 bits. -/
def lad (t n : Nat) : Nat → Lad
  | 0 => (1, 0, t, 1)
  | j + 1 => stepL t (n / 2 ^ (254 - j) % 2) (lad t n j)
def okL (S : Lad) : Prop := S.1 < 115792089237316195423570985008687907853269984665640564039457584007913129639936 ∧ S.2.1 < 115792089237316195423570985008687907853269984665640564039457584007913129639936 ∧ S.2.2.1 < 115792089237316195423570985008687907853269984665640564039457584007913129639936 ∧ S.2.2.2 < 115792089237316195423570985008687907853269984665640564039457584007913129639936
theorem stepL_ok (t b : Nat) (S : Lad) : okL (stepL t b S) := by
  unfold stepL
  split
  · exact ⟨sX_lt _ _ _ _, sZ_lt _ _ _ _ _, dX_lt _ _, dZ_lt _ _⟩
  · exact ⟨dX_lt _ _, dZ_lt _ _, sX_lt _ _ _ _, sZ_lt _ _ _ _ _⟩
theorem lad_ok {t : Nat} (ht : t < 115792089237316195423570985008687907853269984665640564039457584007913129639936) (n : Nat) : ∀ j, okL (lad t n j)
  | 0 => ⟨by show 1 < 115792089237316195423570985008687907853269984665640564039457584007913129639936; omega, by show 0 < 115792089237316195423570985008687907853269984665640564039457584007913129639936; omega, ht, by show 1 < 115792089237316195423570985008687907853269984665640564039457584007913129639936; omega⟩
  | j + 1 => stepL_ok _ _ _
theorem lad_t {t n s : Nat} (hs : 0 < s) (h255 : s ≤ 255) (hb : n / 2 ^ (s - 1) % 2 = 1) : lad t n (255 - (s - 1)) = stepL t 1 (lad t n (255 - s)) := by
  rw [show 255 - (s - 1) = (255 - s) + 1 by omega]
  show stepL t (n / 2 ^ (254 - (255 - s)) % 2) _ = _
  rw [show 254 - (255 - s) = s - 1 by omega, hb]
theorem lad_f {t n s : Nat} (hs : 0 < s) (h255 : s ≤ 255) (hb : ¬ n / 2 ^ (s - 1) % 2 = 1) : lad t n (255 - (s - 1)) = stepL t 0 (lad t n (255 - s)) := by
  rw [show 255 - (s - 1) = (255 - s) + 1 by omega]
  show stepL t (n / 2 ^ (254 - (255 - s)) % 2) _ = _
  rw [show 254 - (255 - s) = s - 1 by omega, show n / 2 ^ (s - 1) % 2 = 0 by omega]
/-- What the ladder comes to: of the number n and the point t. -/
def ladV (t n : Nat) : Nat := ml (lad t n 255).1 (invN (lad t n 255).2.1)
def xmN (k u : List (BitVec 8)) : Nat := if k.length = 32 ∧ u.length = 32 then ladV (readN u) (numB (clampL k)) else 0
def xmE (k u : List (BitVec 8)) : Int := if k.length = 32 ∧ u.length = 32 then (if xmN k u = 0 then 5 else 0) else 2
def xmV (k u : List (BitVec 8)) : List (BitVec 8) := leB 32 (xmN k u)
theorem ladV_lt (t n : Nat) : ladV t n < 57896044618658097711785492504343953926634992332820282019728792003956564819949 := Nat.mod_lt _ (by decide)
theorem xmV_length (k u : List (BitVec 8)) : (xmV k u).length = 32 := leB_length 32 _
theorem bitAnd0 (x : BitVec 8) (s : Nat) : ((x >>> s) &&& 1#8 = 0#8) ↔ x.toNat / 2 ^ s % 2 = 0 := by
  have e1 : ((x >>> s) &&& 1#8).toNat = x.toNat / 2 ^ s % 2 := by
    rw [BitVec.toNat_and, BitVec.toNat_ushiftRight, Nat.shiftRight_eq_div_pow, show (1#8).toNat = 2 ^ 1 - 1 from rfl, Nat.and_two_pow_sub_one_eq_mod]
  constructor
  · intro h; rw [← e1, h]; rfl
  · intro h; apply BitVec.eq_of_toNat_eq; rw [e1, h]; rfl

theorem ValueK (w : World) {a b : Nat} (ha : a < 115792089237316195423570985008687907853269984665640564039457584007913129639936) (hb : b < 115792089237316195423570985008687907853269984665640564039457584007913129639936) : Spec Try.prog 60 #[.agg (rt a b).toArray] w (σ := Unit) (fun _ => True) (fun _ => .agg (el (ml a (invN b))).toArray) Nob (fun _ => []) := Value_b w a b ha hb

theorem Mult_b (w : World) {p q : Option Addr} {n m : Nat} (c d : Nat) {k u : List (BitVec 8)} (hk : By w p n k) (hu : By w q m u) : Spec Try.prog 47 #[.slice p n c, .slice q m d] w (σ := Unit) (fun _ => True) (fun _ => .tuple #[.agg (bs (xmV k u)).toArray, .int .i64 (xmE k u)]) Nob (fun _ => []) := by
  refine enter Try.func47 rfl rfl (Mem.start w) ?_
  have hkl := hk.len
  have hul := hu.len
  have hcv := clampV_length k
  have hbz : bs (leB 32 0) = bs zero32 := by rw [zero32_leB]
  have h0 : el 0 = qs [0#64, 0#64, 0#64, 0#64] := el_small (by decide)
  (repeat refine g_seq ?_)
  refine g_region ?_
  refine g_lo [4] rfl rfl rfl rfl (lo_alloc rfl) (fun b4 hb4 => ?_)
  refine g_pu rfl rfl rfl (pu_assign rfl rfl) ?_
  refine g_nil ?_
  (repeat refine g_seq ?_)
  refine g_region ?_
  refine g_pu rfl rfl rfl (pu_move rfl rfl) ?_
  refine g_call [] rfl rfl rfl rfl rfl rfl (fun w' hm => Clamp_b w' c (hk.m hm)) (fun _ _ => ?_)
  refine g_pu rfl rfl rfl (pu_move rfl rfl) ?_
  refine g_pu rfl rfl rfl (pu_extract rfl rfl rfl) ?_
  refine g_pu rfl rfl rfl (pu_extract rfl rfl rfl) ?_
  refine g_lo [6] rfl rfl rfl rfl (lo_alloc rfl) (fun b6 hb6 => ?_)
  refine g_storeL 6 (s := 32) (C := bs (clampV k)) rfl rfl rfl rfl rfl rfl (by rw [bs_length, hcv]) rfl (oneCell_bs _) ?_
  refine g_pu rfl rfl rfl (pu_assign rfl rfl) ?_
  refine g_nil ?_
  by_cases hk32 : k.length = 32
  · have hcE : clampE k = 0 := if_pos hk32
    have hcV : clampV k = clampL k := if_pos hk32
    have hcl : (clampL k).length = 32 := by rw [clampL_length, hk32]
    rw [hcE, hcV]
    (repeat refine g_seq ?_)
    refine g_region ?_
    refine g_pu rfl rfl rfl (pu_move rfl rfl) ?_
    first | refine g_pu rfl rfl rfl (pu_neq_t rfl rfl rfl (by omega)) ?_ | refine g_pu rfl rfl rfl (pu_neq_f rfl rfl rfl (by omega)) ?_ | refine g_pu rfl rfl rfl (pu_neq rfl rfl rfl) ?_
    refine g_nil ?_
    (repeat refine g_seq ?_)
    refine g_cond_f rfl (g_skip ?_)
    (repeat refine g_seq ?_)
    refine g_region ?_
    refine g_pu rfl rfl rfl (pu_move rfl rfl) ?_
    refine g_call [] rfl rfl rfl rfl rfl rfl (fun w' hm => Read_b w' d (hu.m hm)) (fun _ _ => ?_)
    refine g_pu rfl rfl rfl (pu_move rfl rfl) ?_
    refine g_pu rfl rfl rfl (pu_extract rfl rfl rfl) ?_
    refine g_pu rfl rfl rfl (pu_extract rfl rfl rfl) ?_
    refine g_lo [8] rfl rfl rfl rfl (lo_alloc rfl) (fun q8 hb8 => ?_)
    refine g_storeL 8 (s := 4) (C := el (readN u)) rfl rfl rfl rfl rfl rfl rfl rfl (oneCell_el _) ?_
    refine g_pu rfl rfl rfl (pu_assign rfl rfl) ?_
    refine g_nil ?_
    by_cases hu32 : u.length = 32
    · have hrE : readE u = 0 := if_pos hu32
      have hmE : xmE k u = if xmN k u = 0 then 5 else 0 := if_pos ⟨hk32, hu32⟩
      have hmN : xmN k u = ladV (readN u) (numB (clampL k)) := if_pos ⟨hk32, hu32⟩
      have hrl : readN u < 115792089237316195423570985008687907853269984665640564039457584007913129639936 := by
        unfold readN
        rw [if_pos hu32]
        exact modp _
      unfold xmV
      rw [hrE, hmE, hmN]
      have hdg := fun i (hi : i < 255) => getDb (l := clampL k) (i := i / 8) (by omega)
      have hbt := fun i (hi : i < 255) => numB_bit (l := clampL k) (i := i) (by omega)
      generalize hC : clampL k = C at *
      generalize hT : readN u = t at *
      (repeat refine g_seq ?_)
      refine g_region ?_
      refine g_pu rfl rfl rfl (pu_move rfl rfl) ?_
      first | refine g_pu rfl rfl rfl (pu_neq_t rfl rfl rfl (by omega)) ?_ | refine g_pu rfl rfl rfl (pu_neq_f rfl rfl rfl (by omega)) ?_ | refine g_pu rfl rfl rfl (pu_neq rfl rfl rfl) ?_
      refine g_nil ?_
      (repeat refine g_seq ?_)
      refine g_cond_f rfl (g_skip ?_)
      (repeat refine g_seq ?_)
      refine g_any (9, []) ?_
      refine a_pu 2 rfl rfl rfl rfl (pu_loadW 8 (L := el t) rfl rfl rfl rfl) rfl rfl (by kernel_rfl) ?_
      refine a_pendR 5 9 9 115 8 ?_
      refine a_pendR 6 10 10 115 8 ?_
      refine a_do 0 31 [] (does_call rfl rfl rfl rfl rfl (fun w' hm => Of_b w' 1#64)) rfl rfl (by kernel_rfl) rfl rfl (by kernel_rfl) (by kernel_rfl) (by kernel_rfl) rfl (fun p hp => by simp only [List.mem_cons, List.not_mem_nil, or_false] at hp; rcases hp with rfl | rfl <;> exact does_PR rfl rfl rfl rfl rfl) ?_; rintro v_ cs_ ⟨_, _, rfl, rfl⟩
      refine a_pu 1 rfl rfl rfl rfl (pu_buildS (cs := rt 1 0) rfl rfl rfl) rfl rfl (by kernel_rfl) ?_
      refine a_do 3 34 [] (does_call rfl rfl rfl rfl rfl (fun w' hm => Of_b w' 1#64)) rfl rfl (by kernel_rfl) rfl rfl (by kernel_rfl) (by kernel_rfl) (by kernel_rfl) rfl (fun p hp => by simp only [List.mem_cons, List.not_mem_nil, or_false] at hp; rcases hp with rfl | rfl <;> exact does_PR rfl rfl rfl rfl rfl) ?_; rintro v_ cs_ ⟨_, _, rfl, rfl⟩
      refine a_pu 4 rfl rfl rfl rfl (pu_buildS (cs := rt t 1) rfl rfl (fill_rtK _ _ rfl)) rfl rfl (by kernel_rfl) ?_
      refine a_force _ (by kernel_rfl) rfl rfl rfl (by kernel_rfl) (by kernel_rfl) (by kernel_rfl) rfl (fun p hp => by simp only [List.mem_cons, List.not_mem_nil, or_false] at hp; rcases hp with rfl | rfl <;> exact does_PR rfl rfl rfl rfl rfl) ?_; rintro v_ cs_ ⟨b10, hb10, rfl, rfl⟩
      refine a_force _ (by kernel_rfl) rfl rfl rfl (by kernel_rfl) (by kernel_rfl) (by kernel_rfl) rfl (fun p hp => by simp only [List.mem_cons, List.not_mem_nil, or_false] at hp; subst hp; exact does_PR rfl rfl rfl rfl rfl) ?_; rintro v_ cs_ ⟨b9, hb9, rfl, rfl⟩
      refine a_stR 7 9 (s := 8) (C := rt 1 0) rfl rfl rfl rfl (by kernel_rfl) rfl rfl rfl rfl rfl (oneCell_rt _ _) ?_
      refine a_stR 8 10 (s := 8) (C := rt t 1) rfl rfl rfl rfl (by kernel_rfl) rfl rfl rfl rfl rfl (oneCell_rt _ _) ?_
      refine a_done (by kernel_rfl) ?_
      (repeat refine g_seq ?_)
      refine g_region ?_
      refine g_pu rfl rfl rfl (pu_assign rfl rfl) ?_
      refine g_nil ?_
      (repeat refine g_seq ?_)
      refine g_block (g_loop2 (fun (s : Nat) (S : Lad) => [(4, .pointer (some ⟨b4, 0, none⟩)), (6, .pointer (some ⟨b6, 0, none⟩)), (8, .pointer (some ⟨q8, 0, none⟩)), (9, .pointer (some ⟨b9, 0, none⟩)), (10, .pointer (some ⟨b10, 0, none⟩)), (11, .int .i64 ((s : Int) - 1))])
        (fun s S => [(4, .pt b4 (.cells (bs zero32).toArray 43 (0, 0))), (6, .pt b6 (.cells (bs C).toArray 43 (0, 0))), (8, .pt q8 (.cells (el t).toArray 98 (0, 0))), (9, .pt b9 (.cells (rt S.1 S.2.1).toArray 115 (0, 0))), (10, .pt b10 (.cells (rt S.2.2.1 S.2.2.2).toArray 115 (0, 0)))])
        (fun s S => s ≤ 255 ∧ S = lad t (numB C) (255 - s)) (fun s _ => s) 255 (1, 0, t, 1) ⟨rfl, rfl, rfl, rfl, rfl, rfl, trivial⟩ ⟨rfl, rfl, rfl, rfl, rfl, trivial⟩ ⟨by omega, rfl⟩ ?_)
      intro s S ⟨hs, hS⟩
      have hok := lad_ok hrl (numB C) (255 - s)
      rw [← hS] at hok
      by_cases hlt : 0 < s
      · (repeat refine g_seq ?_)
        refine g_region ?_
        refine g_pu rfl rfl rfl (pu_move rfl rfl) ?_
        first | refine g_pu rfl rfl rfl (pu_geq_t rfl rfl rfl (by omega)) ?_ | refine g_pu rfl rfl rfl (pu_geq_f rfl rfl rfl (by omega)) ?_ | refine g_pu rfl rfl rfl (pu_geq rfl rfl rfl) ?_
        refine g_nil ?_
        (repeat refine g_seq ?_)
        refine g_cond_t rfl (g_skip ?_)
        have hb := hdg (s - 1) (by omega)
        have hnb := hbt (s - 1) (by omega)
        generalize C.getD ((s - 1) / 8) 0#8 = x at hb hnb
        have hba := bitAnd0 x ((s - 1) % 8)
        obtain ⟨x1, z1, x2, z2⟩ := S
        obtain ⟨o1, o2, o3, o4⟩ := hok
        dsimp only at o1 o2 o3 o4
        (repeat refine g_seq ?_); refine g_block ?_
        by_cases hbit : numB C / 2 ^ (s - 1) % 2 = 1
        · have hst := lad_t (t := t) hlt hs hbit
          rw [← hS] at hst
          (repeat refine g_seq ?_)
          refine g_region ?_
          refine g_pu rfl rfl rfl (pu_move rfl rfl) ?_
          refine g_pu rfl rfl rfl (pu_quoI rfl rfl rfl (by omega)) ?_
          refine g_pu rfl rfl rfl (pu_atA1 ((s - 1) / 8) rfl rfl rfl (by omega) (by omega)) ?_
          refine g_pu rfl rfl rfl (pu_load 6 (v := b8 x) rfl rfl rfl (by rw [Nat.zero_add, List.getElem?_toArray]; exact bs_get hb)) ?_
          refine g_pu rfl rfl rfl (pu_move rfl rfl) ?_
          refine g_pu rfl rfl rfl (pu_remI rfl rfl rfl (by omega)) ?_
          refine g_pu rfl rfl rfl (pu_shr8 rfl rfl rfl (by omega)) ?_
          rw [show (((s : Int) - 1) % 8).toNat = (s - 1) % 8 by omega]
          refine g_pu rfl rfl rfl (pu_and8 (b := 1#8) rfl rfl rfl) ?_
          refine g_pu rfl rfl rfl (pu_eql8_f (b := 0#8) rfl rfl rfl (fun h => by have := hba.1 h; omega)) ?_
          refine g_nil ?_
          (repeat refine g_seq ?_)
          refine g_cond_f rfl ?_
          (repeat refine g_seq ?_)
          refine g_region ?_
          refine g_pu rfl rfl rfl (pu_loadW 10 (L := rt x2 z2) rfl rfl rfl rfl) ?_
          refine g_pu rfl rfl rfl (pu_loadW 9 (L := rt x1 z1) rfl rfl rfl rfl) ?_
          refine g_pu rfl rfl rfl (pu_loadW 8 (L := el t) rfl rfl rfl rfl) ?_
          refine g_call [] rfl rfl rfl rfl rfl rfl (fun w' hm => step_b w' o3 o4 o1 o2 hrl) (fun _ _ => ?_)
          refine g_pu rfl rfl rfl (pu_move rfl rfl) ?_
          refine g_pu rfl rfl rfl (pu_extract rfl rfl rfl) ?_
          refine g_pu rfl rfl rfl (pu_extract rfl rfl rfl) ?_
          refine g_storeL 10 (s := 8) (C := rt (dX x2 z2) (dZ x2 z2)) rfl rfl rfl rfl rfl rfl rfl rfl (oneCell_rt _ _) ?_
          refine g_storeL 9 (s := 8) (C := rt (sX x2 z2 x1 z1) (sZ t x2 z2 x1 z1)) rfl rfl rfl rfl rfl rfl rfl rfl (oneCell_rt _ _) ?_
          refine g_nil ?_
          refine g_blk ?_
          (repeat refine g_seq ?_)
          refine g_region ?_
          refine g_pu rfl rfl rfl (pu_move rfl rfl) ?_
          refine g_pu rfl rfl rfl (pu_subI rfl rfl rfl (by omega)) ?_
          refine g_pu rfl rfl rfl (pu_assign rfl rfl) ?_
          refine g_nil ?_
          exact g_round2 (s - 1) (stepL t 1 (x1, z1, x2, z2)) ⟨by omega, hst.symm⟩ (by omega) ⟨rfl, rfl, rfl, rfl, rfl, by rw [show (((s - 1 : Nat) : Int) - 1) = (s : Int) - 1 - 1 by omega]; rfl, trivial⟩ ⟨rfl, rfl, rfl, rfl, rfl, trivial⟩
        · have hst := lad_f (t := t) hlt hs hbit
          rw [← hS] at hst
          (repeat refine g_seq ?_)
          refine g_region ?_
          refine g_pu rfl rfl rfl (pu_move rfl rfl) ?_
          refine g_pu rfl rfl rfl (pu_quoI rfl rfl rfl (by omega)) ?_
          refine g_pu rfl rfl rfl (pu_atA1 ((s - 1) / 8) rfl rfl rfl (by omega) (by omega)) ?_
          refine g_pu rfl rfl rfl (pu_load 6 (v := b8 x) rfl rfl rfl (by rw [Nat.zero_add, List.getElem?_toArray]; exact bs_get hb)) ?_
          refine g_pu rfl rfl rfl (pu_move rfl rfl) ?_
          refine g_pu rfl rfl rfl (pu_remI rfl rfl rfl (by omega)) ?_
          refine g_pu rfl rfl rfl (pu_shr8 rfl rfl rfl (by omega)) ?_
          rw [show (((s : Int) - 1) % 8).toNat = (s - 1) % 8 by omega]
          refine g_pu rfl rfl rfl (pu_and8 (b := 1#8) rfl rfl rfl) ?_
          refine g_pu rfl rfl rfl (pu_eql8_t (b := 0#8) rfl rfl rfl (hba.2 (by omega))) ?_
          refine g_nil ?_
          (repeat refine g_seq ?_)
          refine g_cond_t rfl ?_
          (repeat refine g_seq ?_)
          refine g_region ?_
          refine g_pu rfl rfl rfl (pu_loadW 9 (L := rt x1 z1) rfl rfl rfl rfl) ?_
          refine g_pu rfl rfl rfl (pu_loadW 10 (L := rt x2 z2) rfl rfl rfl rfl) ?_
          refine g_pu rfl rfl rfl (pu_loadW 8 (L := el t) rfl rfl rfl rfl) ?_
          refine g_call [] rfl rfl rfl rfl rfl rfl (fun w' hm => step_b w' o1 o2 o3 o4 hrl) (fun _ _ => ?_)
          refine g_pu rfl rfl rfl (pu_move rfl rfl) ?_
          refine g_pu rfl rfl rfl (pu_extract rfl rfl rfl) ?_
          refine g_pu rfl rfl rfl (pu_extract rfl rfl rfl) ?_
          refine g_storeL 9 (s := 8) (C := rt (dX x1 z1) (dZ x1 z1)) rfl rfl rfl rfl rfl rfl rfl rfl (oneCell_rt _ _) ?_
          refine g_storeL 10 (s := 8) (C := rt (sX x1 z1 x2 z2) (sZ t x1 z1 x2 z2)) rfl rfl rfl rfl rfl rfl rfl rfl (oneCell_rt _ _) ?_
          refine g_nil ?_
          refine g_blk ?_
          (repeat refine g_seq ?_)
          refine g_region ?_
          refine g_pu rfl rfl rfl (pu_move rfl rfl) ?_
          refine g_pu rfl rfl rfl (pu_subI rfl rfl rfl (by omega)) ?_
          refine g_pu rfl rfl rfl (pu_assign rfl rfl) ?_
          refine g_nil ?_
          exact g_round2 (s - 1) (stepL t 0 (x1, z1, x2, z2)) ⟨by omega, hst.symm⟩ (by omega) ⟨rfl, rfl, rfl, rfl, rfl, by rw [show (((s - 1 : Nat) : Int) - 1) = (s : Int) - 1 - 1 by omega]; rfl, trivial⟩ ⟨rfl, rfl, rfl, rfl, rfl, trivial⟩
      · (repeat refine g_seq ?_)
        refine g_region ?_
        refine g_pu rfl rfl rfl (pu_move rfl rfl) ?_
        first | refine g_pu rfl rfl rfl (pu_geq_t rfl rfl rfl (by omega)) ?_ | refine g_pu rfl rfl rfl (pu_geq_f rfl rfl rfl (by omega)) ?_ | refine g_pu rfl rfl rfl (pu_geq rfl rfl rfl) ?_
        refine g_nil ?_
        (repeat refine g_seq ?_)
        refine g_cond_f rfl (g_exit rfl ?_)
        have e1 : s = 0 := by omega
        subst e1
        have hV : ml S.1 (invN S.2.1) = ladV t (numB C) := by rw [hS]; rfl
        obtain ⟨x1, z1, x2, z2⟩ := S
        obtain ⟨o1, o2, o3, o4⟩ := hok
        dsimp only at o1 o2 o3 o4 hV
        have hvl : ladV t (numB C) < 115792089237316195423570985008687907853269984665640564039457584007913129639936 := by have := ladV_lt t (numB C); omega
        have hvm : ladV t (numB C) % 57896044618658097711785492504343953926634992332820282019728792003956564819949 = ladV t (numB C) := Nat.mod_eq_of_lt (ladV_lt _ _)
        (repeat refine g_seq ?_)
        refine g_region ?_
        refine g_pu rfl rfl rfl (pu_loadW 9 (L := rt x1 z1) rfl rfl rfl rfl) ?_
        refine g_call [] rfl rfl rfl rfl rfl rfl (fun w' hm => ValueK w' o1 o2) (fun _ _ => ?_)
        rw [hV]
        refine g_lo [12] rfl rfl rfl rfl (lo_alloc rfl) (fun b12 hb12 => ?_)
        refine g_storeL 12 (s := 4) (C := el (ladV t (numB C))) rfl rfl rfl rfl rfl rfl rfl rfl (oneCell_el _) ?_
        refine g_nil ?_
        generalize ladV t (numB C) = V at hV hvl hvm
        by_cases hz : V = 0
        · subst hz
          rw [if_pos rfl, hbz]
          (repeat refine g_seq ?_)
          refine g_region ?_
          refine g_pu rfl rfl rfl (pu_loadW 12 (L := el 0) rfl rfl rfl rfl) ?_
          refine g_pu rfl rfl rfl (pu_buildA' (cs := el 0) rfl rfl (by rw [h0]; rfl)) ?_
          refine g_call [] rfl rfl rfl rfl rfl rfl (fun w' hm => Is_t w' 0 0 (by decide) (by decide) rfl) (fun _ _ => ?_)
          refine g_nil ?_
          (repeat refine g_seq ?_)
          refine g_cond_t rfl ?_
          (repeat refine g_seq ?_)
          refine g_region ?_
          refine g_pu rfl rfl rfl (pu_buildA' (cs := bs zero32) rfl rfl rfl) ?_
          refine g_storeL 4 (s := 32) (C := bs zero32) rfl rfl rfl rfl rfl rfl rfl rfl (oneCell_bs _) ?_
          refine g_pu rfl rfl rfl (pu_assign rfl rfl) ?_
          refine g_nil ?_
          exact g_retLT 4 (L := bs zero32) rfl rfl rfl rfl rfl (fun w' hm => ⟨(), trivial, rfl, hm.grows [] trivial rfl⟩)
        · rw [if_neg hz]
          have hbl : (bs (leB 32 V)).length = 32 := by rw [bs_length, leB_length]
          (repeat refine g_seq ?_)
          refine g_region ?_
          refine g_pu rfl rfl rfl (pu_loadW 12 (L := el V) rfl rfl rfl rfl) ?_
          refine g_pu rfl rfl rfl (pu_buildA' (cs := el 0) rfl rfl (by rw [h0]; rfl)) ?_
          refine g_call [] rfl rfl rfl rfl rfl rfl (fun w' hm => Is_f w' V 0 hvl (by decide) (by rw [hvm]; exact hz)) (fun _ _ => ?_)
          refine g_nil ?_
          (repeat refine g_seq ?_)
          refine g_cond_f rfl (g_skip ?_)
          (repeat refine g_seq ?_)
          refine g_region ?_
          refine g_pu rfl rfl rfl (pu_loadW 12 (L := el V) rfl rfl rfl rfl) ?_
          refine g_call [] rfl rfl rfl rfl rfl rfl (fun w' hm => Bytes_n w' V (by rw [← hvm]; exact Nat.mod_lt _ (by decide))) (fun _ _ => ?_)
          refine g_storeL 4 (s := 32) (C := bs (leB 32 V)) rfl rfl rfl rfl rfl rfl hbl rfl (oneCell_bs _) ?_
          refine g_pu rfl rfl rfl (pu_assign rfl rfl) ?_
          refine g_nil ?_
          exact g_retLT 4 (L := bs (leB 32 V)) rfl hbl rfl rfl rfl (fun w' hm => ⟨(), trivial, rfl, hm.grows [] trivial rfl⟩)
    · have hrE : readE u = 2 := if_neg hu32
      have hmE : xmE k u = 2 := if_neg (fun h => hu32 h.2)
      have hmN : xmN k u = 0 := if_neg (fun h => hu32 h.2)
      unfold xmV
      rw [hrE, hmE, hmN, hbz]
      (repeat refine g_seq ?_)
      refine g_region ?_
      refine g_pu rfl rfl rfl (pu_move rfl rfl) ?_
      first | refine g_pu rfl rfl rfl (pu_neq_t rfl rfl rfl (by omega)) ?_ | refine g_pu rfl rfl rfl (pu_neq_f rfl rfl rfl (by omega)) ?_ | refine g_pu rfl rfl rfl (pu_neq rfl rfl rfl) ?_
      refine g_nil ?_
      (repeat refine g_seq ?_)
      refine g_cond_t rfl ?_
      (repeat refine g_seq ?_)
      refine g_region ?_
      refine g_pu rfl rfl rfl (pu_buildA' (cs := bs zero32) rfl rfl rfl) ?_
      refine g_pu rfl rfl rfl (pu_move rfl rfl) ?_
      refine g_storeL 4 (s := 32) (C := bs zero32) rfl rfl rfl rfl rfl rfl rfl rfl (oneCell_bs _) ?_
      refine g_pu rfl rfl rfl (pu_assign rfl rfl) ?_
      refine g_nil ?_
      exact g_retLT 4 (L := bs zero32) rfl rfl rfl rfl rfl (fun w' hm => ⟨(), trivial, rfl, hm.grows [] trivial rfl⟩)
  · have hcE : clampE k = 2 := if_neg hk32
    have hmE : xmE k u = 2 := if_neg (fun h => hk32 h.1)
    have hmN : xmN k u = 0 := if_neg (fun h => hk32 h.1)
    unfold xmV
    rw [hcE, hmE, hmN, hbz]
    (repeat refine g_seq ?_)
    refine g_region ?_
    refine g_pu rfl rfl rfl (pu_move rfl rfl) ?_
    first | refine g_pu rfl rfl rfl (pu_neq_t rfl rfl rfl (by omega)) ?_ | refine g_pu rfl rfl rfl (pu_neq_f rfl rfl rfl (by omega)) ?_ | refine g_pu rfl rfl rfl (pu_neq rfl rfl rfl) ?_
    refine g_nil ?_
    (repeat refine g_seq ?_)
    refine g_cond_t rfl ?_
    (repeat refine g_seq ?_)
    refine g_region ?_
    refine g_pu rfl rfl rfl (pu_buildA' (cs := bs zero32) rfl rfl rfl) ?_
    refine g_pu rfl rfl rfl (pu_move rfl rfl) ?_
    refine g_storeL 4 (s := 32) (C := bs zero32) rfl rfl rfl rfl rfl rfl rfl rfl (oneCell_bs _) ?_
    refine g_pu rfl rfl rfl (pu_assign rfl rfl) ?_
    refine g_nil ?_
    exact g_retLT 4 (L := bs zero32) rfl rfl rfl rfl rfl (fun w' hm => ⟨(), trivial, rfl, hm.grows [] trivial rfl⟩)
end Go.Sx

/-
  X25519 of the document: the ladder with exchanges. The bytes fit memory.
-/
namespace Go.Sx
open Go Go.Proofs

theorem RAddK (w : World) {a b : Nat} (ha : a < 115792089237316195423570985008687907853269984665640564039457584007913129639936) (hb : b < 115792089237316195423570985008687907853269984665640564039457584007913129639936) : Spec Try.prog 65 #[.agg (dg a).toArray, .agg (dg b).toArray] w (σ := Unit) (fun _ => True) (fun _ => .agg (dg (ad a b)).toArray) Nob (fun _ => []) := by
  rw [show ad a b = (a + b) % 57896044618658097711785492504343953926634992332820282019728792003956564819949 from rfl]; exact RAdd_b w a b ha hb
theorem RSubK (w : World) {a b : Nat} (ha : a < 115792089237316195423570985008687907853269984665640564039457584007913129639936) (hb : b < 115792089237316195423570985008687907853269984665640564039457584007913129639936) : Spec Try.prog 66 #[.agg (dg a).toArray, .agg (dg b).toArray] w (σ := Unit) (fun _ => True) (fun _ => .agg (dg (sb a b)).toArray) Nob (fun _ => []) := by
  rw [show sb a b = (a + (57896044618658097711785492504343953926634992332820282019728792003956564819949 - b % 57896044618658097711785492504343953926634992332820282019728792003956564819949)) % 57896044618658097711785492504343953926634992332820282019728792003956564819949 from rfl]; exact RSub_b w a b ha hb
theorem RMulK (w : World) {a b : Nat} (ha : a < 115792089237316195423570985008687907853269984665640564039457584007913129639936) (hb : b < 115792089237316195423570985008687907853269984665640564039457584007913129639936) : Spec Try.prog 67 #[.agg (dg a).toArray, .agg (dg b).toArray] w (σ := Unit) (fun _ => True) (fun _ => .agg (dg (ml a b)).toArray) Nob (fun _ => []) := by
  rw [show ml a b = a * b % 57896044618658097711785492504343953926634992332820282019728792003956564819949 from rfl]; exact RMul_b w a b ha hb

theorem RMult_b (w : World) {p q : Option Addr} {n m : Nat} (c d : Nat) {k u : List (BitVec 8)} (hk : By w p n k) (hu : By w q m u) : Spec Try.prog 49 #[.slice p n c, .slice q m d] w (σ := Unit) (fun _ => True) (fun _ => .tuple #[.agg (bs (xmV k u)).toArray, .int .i64 (xmE k u)]) Nob (fun _ => []) := by
  refine enter Try.func49 rfl rfl (Mem.start w) ?_
  have hkl := hk.len
  have hul := hu.len
  have hcv := clampV_length k
  have hbz : bs (leB 32 0) = bs zero32 := by rw [zero32_leB]
  have h0 : dg 0 = ws [0#32, 0#32, 0#32, 0#32, 0#32, 0#32, 0#32, 0#32] := dg_small (by decide)
  have h1 : dg 1 = ws [1#32, 0#32, 0#32, 0#32, 0#32, 0#32, 0#32, 0#32] := dg_small (by decide)
  have hK : dg 121665 = ws [121665#32, 0#32, 0#32, 0#32, 0#32, 0#32, 0#32, 0#32] := dg_small (by decide)
  (repeat refine g_seq ?_)
  refine g_region ?_
  refine g_lo [4] rfl rfl rfl rfl (lo_alloc rfl) (fun b4 hb4 => ?_)
  refine g_pu rfl rfl rfl (pu_assign rfl rfl) ?_
  refine g_nil ?_
  (repeat refine g_seq ?_)
  refine g_region ?_
  refine g_pu rfl rfl rfl (pu_move rfl rfl) ?_
  refine g_call [] rfl rfl rfl rfl rfl rfl (fun w' hm => RClamp_b w' c (hk.m hm)) (fun _ _ => ?_)
  refine g_pu rfl rfl rfl (pu_move rfl rfl) ?_
  refine g_pu rfl rfl rfl (pu_extract rfl rfl rfl) ?_
  refine g_pu rfl rfl rfl (pu_extract rfl rfl rfl) ?_
  refine g_lo [6] rfl rfl rfl rfl (lo_alloc rfl) (fun b6 hb6 => ?_)
  refine g_storeL 6 (s := 32) (C := bs (clampV k)) rfl rfl rfl rfl rfl rfl (by rw [bs_length, hcv]) rfl (oneCell_bs _) ?_
  refine g_pu rfl rfl rfl (pu_assign rfl rfl) ?_
  refine g_nil ?_
  by_cases hk32 : k.length = 32
  · have hcE : clampE k = 0 := if_pos hk32
    have hcV : clampV k = clampL k := if_pos hk32
    have hcl : (clampL k).length = 32 := by rw [clampL_length, hk32]
    rw [hcE, hcV]
    (repeat refine g_seq ?_)
    refine g_region ?_
    refine g_pu rfl rfl rfl (pu_move rfl rfl) ?_
    first | refine g_pu rfl rfl rfl (pu_neq_t rfl rfl rfl (by omega)) ?_ | refine g_pu rfl rfl rfl (pu_neq_f rfl rfl rfl (by omega)) ?_ | refine g_pu rfl rfl rfl (pu_neq rfl rfl rfl) ?_
    refine g_nil ?_
    (repeat refine g_seq ?_)
    refine g_cond_f rfl (g_skip ?_)
    (repeat refine g_seq ?_)
    refine g_region ?_
    refine g_pu rfl rfl rfl (pu_move rfl rfl) ?_
    refine g_call [] rfl rfl rfl rfl rfl rfl (fun w' hm => RRead_b w' d (hu.m hm)) (fun _ _ => ?_)
    refine g_pu rfl rfl rfl (pu_move rfl rfl) ?_
    refine g_pu rfl rfl rfl (pu_extract rfl rfl rfl) ?_
    refine g_pu rfl rfl rfl (pu_extract rfl rfl rfl) ?_
    refine g_lo [8] rfl rfl rfl rfl (lo_alloc rfl) (fun q8 hb8 => ?_)
    refine g_storeL 8 (s := 8) (C := dg (readN u)) rfl rfl rfl rfl rfl rfl rfl rfl (oneCell_dg _) ?_
    refine g_pu rfl rfl rfl (pu_assign rfl rfl) ?_
    refine g_nil ?_
    by_cases hu32 : u.length = 32
    · have hrE : readE u = 0 := if_pos hu32
      have hmE : xmE k u = if xmN k u = 0 then 5 else 0 := if_pos ⟨hk32, hu32⟩
      have hmN : xmN k u = ladV (readN u) (numB (clampL k)) := if_pos ⟨hk32, hu32⟩
      have hrl : readN u < 115792089237316195423570985008687907853269984665640564039457584007913129639936 := by
        unfold readN
        rw [if_pos hu32]
        exact modp _
      unfold xmV
      rw [hrE, hmE, hmN]
      have hdg := fun i (hi : i < 255) => getDb (l := clampL k) (i := i / 8) (by omega)
      have hbt := fun i (hi : i < 255) => numB_bit (l := clampL k) (i := i) (by omega)
      generalize hC : clampL k = C at *
      generalize hT : readN u = t at *
      (repeat refine g_seq ?_)
      refine g_region ?_
      refine g_pu rfl rfl rfl (pu_move rfl rfl) ?_
      first | refine g_pu rfl rfl rfl (pu_neq_t rfl rfl rfl (by omega)) ?_ | refine g_pu rfl rfl rfl (pu_neq_f rfl rfl rfl (by omega)) ?_ | refine g_pu rfl rfl rfl (pu_neq rfl rfl rfl) ?_
      refine g_nil ?_
      (repeat refine g_seq ?_)
      refine g_cond_f rfl (g_skip ?_)
      (repeat refine g_seq ?_)
      refine g_any (12, []) ?_
      refine a_pu 0 rfl rfl rfl rfl (pu_buildA' (cs := dg 1) rfl rfl (by rw [h1]; rfl)) rfl rfl (by kernel_rfl) ?_
      refine a_pu 1 rfl rfl rfl rfl (pu_buildA' (cs := dg 0) rfl rfl (by rw [h0]; rfl)) rfl rfl (by kernel_rfl) ?_
      refine a_pu 2 rfl rfl rfl rfl (pu_loadW 8 (L := dg t) rfl rfl rfl rfl) rfl rfl (by kernel_rfl) ?_
      refine a_pu 3 rfl rfl rfl rfl (pu_buildA' (cs := dg 1) rfl rfl (by rw [h1]; rfl)) rfl rfl (by kernel_rfl) ?_
      refine a_pendR 4 9 9 104 8 ?_
      refine a_pendR 5 10 10 104 8 ?_
      refine a_pendR 6 11 11 104 8 ?_
      refine a_pendR 7 12 12 104 8 ?_
      refine a_force _ (by kernel_rfl) rfl rfl rfl (by kernel_rfl) (by kernel_rfl) (by kernel_rfl) rfl (fun p hp => by simp only [List.mem_cons, List.not_mem_nil, or_false] at hp; rcases hp with rfl | rfl | rfl | rfl <;> exact does_PR rfl rfl rfl rfl rfl) ?_; rintro v_ cs_ ⟨b12, hb12, rfl, rfl⟩
      refine a_force _ (by kernel_rfl) rfl rfl rfl (by kernel_rfl) (by kernel_rfl) (by kernel_rfl) rfl (fun p hp => by simp only [List.mem_cons, List.not_mem_nil, or_false] at hp; rcases hp with rfl | rfl | rfl <;> exact does_PR rfl rfl rfl rfl rfl) ?_; rintro v_ cs_ ⟨b11, hb11, rfl, rfl⟩
      refine a_force _ (by kernel_rfl) rfl rfl rfl (by kernel_rfl) (by kernel_rfl) (by kernel_rfl) rfl (fun p hp => by simp only [List.mem_cons, List.not_mem_nil, or_false] at hp; rcases hp with rfl | rfl <;> exact does_PR rfl rfl rfl rfl rfl) ?_; rintro v_ cs_ ⟨b10, hb10, rfl, rfl⟩
      refine a_force _ (by kernel_rfl) rfl rfl rfl (by kernel_rfl) (by kernel_rfl) (by kernel_rfl) rfl (fun p hp => by simp only [List.mem_cons, List.not_mem_nil, or_false] at hp; subst hp; exact does_PR rfl rfl rfl rfl rfl) ?_; rintro v_ cs_ ⟨b9, hb9, rfl, rfl⟩
      refine a_stR 8 9 (s := 8) (C := dg 1) rfl rfl rfl rfl (by kernel_rfl) rfl rfl rfl rfl rfl (oneCell_dg _) ?_
      refine a_stR 9 10 (s := 8) (C := dg 0) rfl rfl rfl rfl (by kernel_rfl) rfl rfl rfl rfl rfl (oneCell_dg _) ?_
      refine a_stR 10 11 (s := 8) (C := dg t) rfl rfl rfl rfl (by kernel_rfl) rfl rfl rfl rfl rfl (oneCell_dg _) ?_
      refine a_stR 11 12 (s := 8) (C := dg 1) rfl rfl rfl rfl (by kernel_rfl) rfl rfl rfl rfl rfl (oneCell_dg _) ?_
      refine a_done (by kernel_rfl) ?_
      (repeat refine g_seq ?_)
      refine g_region ?_
      refine g_pu rfl rfl rfl (pu_assign rfl rfl) ?_
      refine g_nil ?_
      (repeat refine g_seq ?_)
      refine g_block (g_loop2 (fun (s : Nat) (S : Lad) => [(4, .pointer (some ⟨b4, 0, none⟩)), (6, .pointer (some ⟨b6, 0, none⟩)), (8, .pointer (some ⟨q8, 0, none⟩)), (9, .pointer (some ⟨b9, 0, none⟩)), (10, .pointer (some ⟨b10, 0, none⟩)), (11, .pointer (some ⟨b11, 0, none⟩)), (12, .pointer (some ⟨b12, 0, none⟩)), (13, .int .i64 ((s : Int) - 1))])
        (fun s S => [(4, .pt b4 (.cells (bs zero32).toArray 43 (0, 0))), (6, .pt b6 (.cells (bs C).toArray 43 (0, 0))), (8, .pt q8 (.cells (dg t).toArray 104 (0, 0))), (9, .pt b9 (.cells (dg (S.1)).toArray 104 (0, 0))), (10, .pt b10 (.cells (dg (S.2.1)).toArray 104 (0, 0))), (11, .pt b11 (.cells (dg (S.2.2.1)).toArray 104 (0, 0))), (12, .pt b12 (.cells (dg (S.2.2.2)).toArray 104 (0, 0)))])
        (fun s S => s ≤ 255 ∧ S = lad t (numB C) (255 - s)) (fun s _ => s) 255 (1, 0, t, 1) ⟨rfl, rfl, rfl, rfl, rfl, rfl, rfl, rfl, trivial⟩ ⟨rfl, rfl, rfl, rfl, rfl, rfl, rfl, trivial⟩ ⟨by omega, rfl⟩ ?_)
      intro s S ⟨hs, hS⟩
      have hok := lad_ok hrl (numB C) (255 - s)
      rw [← hS] at hok
      by_cases hlt : 0 < s
      · (repeat refine g_seq ?_)
        refine g_region ?_
        refine g_pu rfl rfl rfl (pu_move rfl rfl) ?_
        first | refine g_pu rfl rfl rfl (pu_geq_t rfl rfl rfl (by omega)) ?_ | refine g_pu rfl rfl rfl (pu_geq_f rfl rfl rfl (by omega)) ?_ | refine g_pu rfl rfl rfl (pu_geq rfl rfl rfl) ?_
        refine g_nil ?_
        (repeat refine g_seq ?_)
        refine g_cond_t rfl (g_skip ?_)
        have hb := hdg (s - 1) (by omega)
        have hnb := hbt (s - 1) (by omega)
        generalize C.getD ((s - 1) / 8) 0#8 = x at hb hnb
        have hba := bit_rem x ((s - 1) % 8)
        obtain ⟨x1, z1, x2, z2⟩ := S
        obtain ⟨o1, o2, o3, o4⟩ := hok
        dsimp only at o1 o2 o3 o4
        (repeat refine g_seq ?_); refine g_block ?_
        (repeat refine g_seq ?_)
        refine g_region ?_
        refine g_pu rfl rfl rfl (pu_move rfl rfl) ?_
        refine g_pu rfl rfl rfl (pu_quoI rfl rfl rfl (by omega)) ?_
        refine g_pu rfl rfl rfl (pu_atA1 ((s - 1) / 8) rfl rfl rfl (by omega) (by omega)) ?_
        refine g_pu rfl rfl rfl (pu_load 6 (v := b8 x) rfl rfl rfl (by rw [Nat.zero_add, List.getElem?_toArray]; exact bs_get hb)) ?_
        refine g_pu rfl rfl rfl (pu_move rfl rfl) ?_
        refine g_pu rfl rfl rfl (pu_remI rfl rfl rfl (by omega)) ?_
        refine g_pu rfl rfl rfl (pu_shr8 rfl rfl rfl (by omega)) ?_
        rw [show (((s : Int) - 1) % 8).toNat = (s - 1) % 8 by omega]
        refine g_pu rfl rfl rfl (pu_rem8 (b := 2#8) rfl rfl rfl (by decide)) ?_
        refine g_pu rfl rfl rfl (pu_assign rfl rfl) ?_
        refine g_nil ?_
        rw [hnb] at hba
        generalize (x >>> ((s - 1) % 8)) % 2#8 = bb at hba
        refine g_seq ?_
        refine g_join (σ := Lad) (fun S => [(4, .pointer (some ⟨b4, 0, none⟩)), (6, .pointer (some ⟨b6, 0, none⟩)), (8, .pointer (some ⟨q8, 0, none⟩)), (9, .pointer (some ⟨b9, 0, none⟩)), (10, .pointer (some ⟨b10, 0, none⟩)), (11, .pointer (some ⟨b11, 0, none⟩)), (12, .pointer (some ⟨b12, 0, none⟩)), (13, .int .i64 ((s : Int) - 1)), (14, b8 bb)]) (fun S => [(4, .pt b4 (.cells (bs zero32).toArray 43 (0, 0))), (6, .pt b6 (.cells (bs C).toArray 43 (0, 0))), (8, .pt q8 (.cells (dg t).toArray 104 (0, 0))), (9, .pt b9 (.cells (dg (S.1)).toArray 104 (0, 0))), (10, .pt b10 (.cells (dg (S.2.1)).toArray 104 (0, 0))), (11, .pt b11 (.cells (dg (S.2.2.1)).toArray 104 (0, 0))), (12, .pt b12 (.cells (dg (S.2.2.2)).toArray 104 (0, 0)))]) (fun S => S = if bb = 1#8 then (x2, z2, x1, z1) else (x1, z1, x2, z2)) ?_ (fun S hS2 => ?_)
        · by_cases hbit : bb = 1#8
          · (repeat refine g_seq ?_)
            refine g_region ?_
            refine g_pu rfl rfl rfl (pu_move rfl rfl) ?_
            refine g_pu rfl rfl rfl (pu_eql8_t (b := 1#8) rfl rfl rfl hbit) ?_
            refine g_nil ?_
            (repeat refine g_seq ?_)
            refine g_cond_t rfl ?_
            (repeat refine g_seq ?_)
            refine g_any (4, [1]) ?_
            refine a_pu 0 rfl rfl rfl rfl (pu_loadW 11 (L := dg x2) rfl rfl rfl rfl) rfl rfl (by kernel_rfl) ?_
            refine a_pu 2 rfl rfl rfl rfl (pu_loadW 9 (L := dg x1) rfl rfl rfl rfl) rfl rfl (by kernel_rfl) ?_
            refine a_pu 3 rfl rfl rfl rfl (pu_loadW 10 (L := dg z1) rfl rfl rfl rfl) rfl rfl (by kernel_rfl) ?_
            refine a_fork 1 4 [5, 6, 7] rfl rfl rfl rfl rfl rfl rfl rfl rfl rfl rfl (pu_loadW 12 (L := dg z2) rfl rfl rfl rfl) (st_rowF 9 (s := 8) (C := dg x2) rfl rfl rfl rfl rfl rfl (oneCell_dg _)) (pu_loadW 12 (L := dg z2) rfl rfl rfl rfl) (st_rowF 9 (s := 8) (C := dg x2) rfl rfl rfl rfl rfl rfl (oneCell_dg _)) (by kernel_rfl) (by kernel_rfl) (by kernel_rfl) (by decide) rfl rfl (by kernel_rfl) ?_
            refine g_storeL 10 (s := 8) (C := dg z2) rfl rfl rfl rfl rfl rfl rfl rfl (oneCell_dg _) ?_
            refine g_storeL 11 (s := 8) (C := dg x1) rfl rfl rfl rfl rfl rfl rfl rfl (oneCell_dg _) ?_
            refine g_storeL 12 (s := 8) (C := dg z1) rfl rfl rfl rfl rfl rfl rfl rfl (oneCell_dg _) ?_
            refine g_nil ?_
            exact g_meet (x2, z2, x1, z1) (by rw [if_pos hbit]) ⟨rfl, rfl, rfl, rfl, rfl, rfl, rfl, rfl, rfl, trivial⟩ ⟨rfl, rfl, rfl, rfl, rfl, rfl, rfl, trivial⟩
          · (repeat refine g_seq ?_)
            refine g_region ?_
            refine g_pu rfl rfl rfl (pu_move rfl rfl) ?_
            refine g_pu rfl rfl rfl (pu_eql8_f (b := 1#8) rfl rfl rfl hbit) ?_
            refine g_nil ?_
            (repeat refine g_seq ?_)
            refine g_cond_f rfl (g_skip ?_)
            exact g_meet (x1, z1, x2, z2) (by rw [if_neg hbit]) ⟨rfl, rfl, rfl, rfl, rfl, rfl, rfl, rfl, rfl, trivial⟩ ⟨rfl, rfl, rfl, rfl, rfl, rfl, rfl, trivial⟩
        have hok2 : okL S := by
          rw [hS2]
          split
          · exact ⟨o3, o4, o1, o2⟩
          · exact ⟨o1, o2, o3, o4⟩
        obtain ⟨a, b, e, f⟩ := S
        obtain ⟨ha, hb', he, hf⟩ := hok2
        dsimp only at ha hb' he hf ⊢
        have hA := ad_lt a b
        have hB := sb_lt a b
        have hCC := ad_lt e f
        have hD := sb_lt e f
        have hAA := ml_lt (ad a b) (ad a b)
        have hBB := ml_lt (sb a b) (sb a b)
        have hEE : eeN a b < 115792089237316195423570985008687907853269984665640564039457584007913129639936 := sb_lt _ _
        have hDA : cA a b e f < 115792089237316195423570985008687907853269984665640564039457584007913129639936 := ml_lt _ _
        have hCB : cB a b e f < 115792089237316195423570985008687907853269984665640564039457584007913129639936 := ml_lt _ _
        (repeat refine g_seq ?_)
        refine g_region ?_
        refine g_pu rfl rfl rfl (pu_loadW 9 (L := dg a) rfl rfl rfl rfl) ?_
        refine g_pu rfl rfl rfl (pu_loadW 10 (L := dg b) rfl rfl rfl rfl) ?_
        refine g_call [] rfl rfl rfl rfl rfl rfl (fun w' hm => RAddK w' ha hb') (fun _ _ => ?_)
        refine g_lo [15] rfl rfl rfl rfl (lo_alloc rfl) (fun b15 hb15 => ?_)
        refine g_storeL 15 (s := 8) (C := dg (ad a b)) rfl rfl rfl rfl rfl rfl rfl rfl (oneCell_dg _) ?_
        refine g_nil ?_
        (repeat refine g_seq ?_)
        refine g_region ?_
        refine g_pu rfl rfl rfl (pu_loadW 9 (L := dg a) rfl rfl rfl rfl) ?_
        refine g_pu rfl rfl rfl (pu_loadW 10 (L := dg b) rfl rfl rfl rfl) ?_
        refine g_call [] rfl rfl rfl rfl rfl rfl (fun w' hm => RSubK w' ha hb') (fun _ _ => ?_)
        refine g_lo [16] rfl rfl rfl rfl (lo_alloc rfl) (fun b16 hb16 => ?_)
        refine g_storeL 16 (s := 8) (C := dg (sb a b)) rfl rfl rfl rfl rfl rfl rfl rfl (oneCell_dg _) ?_
        refine g_nil ?_
        (repeat refine g_seq ?_)
        refine g_any (6, []) ?_
        refine a_pu 0 rfl rfl rfl rfl (pu_loadW 11 (L := dg e) rfl rfl rfl rfl) rfl rfl (by kernel_rfl) ?_
        refine a_pu 1 rfl rfl rfl rfl (pu_loadW 12 (L := dg f) rfl rfl rfl rfl) rfl rfl (by kernel_rfl) ?_
        refine a_pu 3 rfl rfl rfl rfl (pu_loadW 15 (L := dg (ad a b)) rfl rfl rfl rfl) rfl rfl (by kernel_rfl) ?_
        refine a_pendA 5 17 17 104 ?_
        refine a_do 2 73 [] (does_call rfl rfl rfl rfl rfl (fun w' hm => RSubK w' he hf)) rfl rfl (by kernel_rfl) rfl rfl (by kernel_rfl) (by kernel_rfl) (by kernel_rfl) rfl (fun p hp => by simp only [List.mem_cons, List.not_mem_nil, or_false] at hp; subst hp; first | exact does_PA rfl rfl rfl rfl | exact does_PB rfl rfl rfl rfl rfl (by decide) (by decide) rfl rfl) ?_; rintro v_ cs_ ⟨_, _, rfl, rfl⟩
        refine a_do 4 75 [] (does_call rfl rfl rfl rfl rfl (fun w' hm => RMulK w' hD hA)) rfl rfl (by kernel_rfl) rfl rfl (by kernel_rfl) (by kernel_rfl) (by kernel_rfl) rfl (fun p hp => by simp only [List.mem_cons, List.not_mem_nil, or_false] at hp; subst hp; first | exact does_PA rfl rfl rfl rfl | exact does_PB rfl rfl rfl rfl rfl (by decide) (by decide) rfl rfl) ?_; rintro v_ cs_ ⟨_, _, rfl, rfl⟩
        refine a_force _ (by kernel_rfl) rfl rfl rfl (by kernel_rfl) (by kernel_rfl) (by kernel_rfl) rfl (fun p hp => by simp only [List.mem_cons, List.not_mem_nil, or_false] at hp; subst hp; first | exact does_PA rfl rfl rfl rfl | exact does_PB rfl rfl rfl rfl rfl (by decide) (by decide) rfl rfl) ?_; rintro v_ cs_ ⟨b17, hb17, rfl, rfl⟩
        refine a_tail [6] (by kernel_rfl) rfl rfl (by kernel_rfl) ?_
        refine g_storeL 17 (s := 8) (C := dg (cA a b e f)) rfl rfl rfl rfl rfl rfl rfl rfl (oneCell_dg _) ?_
        refine g_nil ?_
        (repeat refine g_seq ?_)
        refine g_any (6, []) ?_
        refine a_pu 0 rfl rfl rfl rfl (pu_loadW 11 (L := dg e) rfl rfl rfl rfl) rfl rfl (by kernel_rfl) ?_
        refine a_pu 1 rfl rfl rfl rfl (pu_loadW 12 (L := dg f) rfl rfl rfl rfl) rfl rfl (by kernel_rfl) ?_
        refine a_pu 3 rfl rfl rfl rfl (pu_loadW 16 (L := dg (sb a b)) rfl rfl rfl rfl) rfl rfl (by kernel_rfl) ?_
        refine a_pendA 5 18 18 104 ?_
        refine a_do 2 78 [] (does_call rfl rfl rfl rfl rfl (fun w' hm => RAddK w' he hf)) rfl rfl (by kernel_rfl) rfl rfl (by kernel_rfl) (by kernel_rfl) (by kernel_rfl) rfl (fun p hp => by simp only [List.mem_cons, List.not_mem_nil, or_false] at hp; subst hp; first | exact does_PA rfl rfl rfl rfl | exact does_PB rfl rfl rfl rfl rfl (by decide) (by decide) rfl rfl) ?_; rintro v_ cs_ ⟨_, _, rfl, rfl⟩
        refine a_do 4 80 [] (does_call rfl rfl rfl rfl rfl (fun w' hm => RMulK w' hCC hB)) rfl rfl (by kernel_rfl) rfl rfl (by kernel_rfl) (by kernel_rfl) (by kernel_rfl) rfl (fun p hp => by simp only [List.mem_cons, List.not_mem_nil, or_false] at hp; subst hp; first | exact does_PA rfl rfl rfl rfl | exact does_PB rfl rfl rfl rfl rfl (by decide) (by decide) rfl rfl) ?_; rintro v_ cs_ ⟨_, _, rfl, rfl⟩
        refine a_force _ (by kernel_rfl) rfl rfl rfl (by kernel_rfl) (by kernel_rfl) (by kernel_rfl) rfl (fun p hp => by simp only [List.mem_cons, List.not_mem_nil, or_false] at hp; subst hp; first | exact does_PA rfl rfl rfl rfl | exact does_PB rfl rfl rfl rfl rfl (by decide) (by decide) rfl rfl) ?_; rintro v_ cs_ ⟨b18, hb18, rfl, rfl⟩
        refine a_tail [6] (by kernel_rfl) rfl rfl (by kernel_rfl) ?_
        refine g_storeL 18 (s := 8) (C := dg (cB a b e f)) rfl rfl rfl rfl rfl rfl rfl rfl (oneCell_dg _) ?_
        refine g_nil ?_
        (repeat refine g_seq ?_)
        refine g_region ?_
        refine g_pu rfl rfl rfl (pu_loadW 15 (L := dg (ad a b)) rfl rfl rfl rfl) ?_
        refine g_pu rfl rfl rfl (pu_loadW 15 (L := dg (ad a b)) rfl rfl rfl rfl) ?_
        refine g_call [] rfl rfl rfl rfl rfl rfl (fun w' hm => RMulK w' hA hA) (fun _ _ => ?_)
        refine g_lo [19] rfl rfl rfl rfl (lo_alloc rfl) (fun b19 hb19 => ?_)
        refine g_storeL 19 (s := 8) (C := dg (ml (ad a b) (ad a b))) rfl rfl rfl rfl rfl rfl rfl rfl (oneCell_dg _) ?_
        refine g_nil ?_
        (repeat refine g_seq ?_)
        refine g_region ?_
        refine g_pu rfl rfl rfl (pu_loadW 16 (L := dg (sb a b)) rfl rfl rfl rfl) ?_
        refine g_pu rfl rfl rfl (pu_loadW 16 (L := dg (sb a b)) rfl rfl rfl rfl) ?_
        refine g_call [] rfl rfl rfl rfl rfl rfl (fun w' hm => RMulK w' hB hB) (fun _ _ => ?_)
        refine g_lo [20] rfl rfl rfl rfl (lo_alloc rfl) (fun b20 hb20 => ?_)
        refine g_storeL 20 (s := 8) (C := dg (ml (sb a b) (sb a b))) rfl rfl rfl rfl rfl rfl rfl rfl (oneCell_dg _) ?_
        refine g_nil ?_
        (repeat refine g_seq ?_)
        refine g_region ?_
        refine g_pu rfl rfl rfl (pu_loadW 19 (L := dg (ml (ad a b) (ad a b))) rfl rfl rfl rfl) ?_
        refine g_pu rfl rfl rfl (pu_loadW 20 (L := dg (ml (sb a b) (sb a b))) rfl rfl rfl rfl) ?_
        refine g_call [] rfl rfl rfl rfl rfl rfl (fun w' hm => RSubK w' hAA hBB) (fun _ _ => ?_)
        refine g_lo [21] rfl rfl rfl rfl (lo_alloc rfl) (fun b21 hb21 => ?_)
        refine g_storeL 21 (s := 8) (C := dg (eeN a b)) rfl rfl rfl rfl rfl rfl rfl rfl (oneCell_dg _) ?_
        refine g_nil ?_
        (repeat refine g_seq ?_)
        refine g_region ?_
        refine g_pu rfl rfl rfl (pu_loadW 17 (L := dg (cA a b e f)) rfl rfl rfl rfl) ?_
        refine g_pu rfl rfl rfl (pu_loadW 18 (L := dg (cB a b e f)) rfl rfl rfl rfl) ?_
        refine g_call [] rfl rfl rfl rfl rfl rfl (fun w' hm => RAddK w' hDA hCB) (fun _ _ => ?_)
        refine g_lo [22] rfl rfl rfl rfl (lo_alloc rfl) (fun b22 hb22 => ?_)
        refine g_storeL 22 (s := 8) (C := dg (ad (cA a b e f) (cB a b e f))) rfl rfl rfl rfl rfl rfl rfl rfl (oneCell_dg _) ?_
        refine g_nil ?_
        (repeat refine g_seq ?_)
        refine g_region ?_
        refine g_pu rfl rfl rfl (pu_loadW 17 (L := dg (cA a b e f)) rfl rfl rfl rfl) ?_
        refine g_pu rfl rfl rfl (pu_loadW 18 (L := dg (cB a b e f)) rfl rfl rfl rfl) ?_
        refine g_call [] rfl rfl rfl rfl rfl rfl (fun w' hm => RSubK w' hDA hCB) (fun _ _ => ?_)
        refine g_lo [23] rfl rfl rfl rfl (lo_alloc rfl) (fun b23 hb23 => ?_)
        refine g_storeL 23 (s := 8) (C := dg (sb (cA a b e f) (cB a b e f))) rfl rfl rfl rfl rfl rfl rfl rfl (oneCell_dg _) ?_
        refine g_nil ?_
        (repeat refine g_seq ?_)
        refine g_region ?_
        refine g_pu rfl rfl rfl (pu_loadW 22 (L := dg (ad (cA a b e f) (cB a b e f))) rfl rfl rfl rfl) ?_
        refine g_pu rfl rfl rfl (pu_loadW 22 (L := dg (ad (cA a b e f) (cB a b e f))) rfl rfl rfl rfl) ?_
        refine g_call [] rfl rfl rfl rfl rfl rfl (fun w' hm => RMulK w' (ad_lt _ _) (ad_lt _ _)) (fun _ _ => ?_)
        refine g_storeL 11 (s := 8) (C := dg (sX a b e f)) rfl rfl rfl rfl rfl rfl rfl rfl (oneCell_dg _) ?_
        refine g_nil ?_
        (repeat refine g_seq ?_)
        refine g_any (4, []) ?_
        refine a_pu 0 rfl rfl rfl rfl (pu_loadW 8 (L := dg t) rfl rfl rfl rfl) rfl rfl (by kernel_rfl) ?_
        refine a_pu 1 rfl rfl rfl rfl (pu_loadW 23 (L := dg (sb (cA a b e f) (cB a b e f))) rfl rfl rfl rfl) rfl rfl (by kernel_rfl) ?_
        refine a_pu 2 rfl rfl rfl rfl (pu_loadW 23 (L := dg (sb (cA a b e f) (cB a b e f))) rfl rfl rfl rfl) rfl rfl (by kernel_rfl) ?_
        refine a_do 3 102 [] (does_call rfl rfl rfl rfl rfl (fun w' hm => RMulK w' (sb_lt _ _) (sb_lt _ _))) rfl rfl (by kernel_rfl) rfl rfl (by kernel_rfl) (by kernel_rfl) (by kernel_rfl) rfl (fun p hp => by cases hp) ?_; rintro v_ cs_ ⟨_, _, rfl, rfl⟩
        refine a_tail [4, 5] (by kernel_rfl) rfl rfl (by kernel_rfl) ?_
        refine g_call [] rfl rfl rfl rfl rfl rfl (fun w' hm => RMulK w' hrl (ml_lt _ _)) (fun _ _ => ?_)
        refine g_storeL 12 (s := 8) (C := dg (sZ t a b e f)) rfl rfl rfl rfl rfl rfl rfl rfl (oneCell_dg _) ?_
        refine g_nil ?_
        (repeat refine g_seq ?_)
        refine g_region ?_
        refine g_pu rfl rfl rfl (pu_loadW 19 (L := dg (ml (ad a b) (ad a b))) rfl rfl rfl rfl) ?_
        refine g_pu rfl rfl rfl (pu_loadW 20 (L := dg (ml (sb a b) (sb a b))) rfl rfl rfl rfl) ?_
        refine g_call [] rfl rfl rfl rfl rfl rfl (fun w' hm => RMulK w' hAA hBB) (fun _ _ => ?_)
        refine g_storeL 9 (s := 8) (C := dg (dX a b)) rfl rfl rfl rfl rfl rfl rfl rfl (oneCell_dg _) ?_
        refine g_nil ?_
        (repeat refine g_seq ?_)
        refine g_any (6, []) ?_
        refine a_pu 0 rfl rfl rfl rfl (pu_loadW 21 (L := dg (eeN a b)) rfl rfl rfl rfl) rfl rfl (by kernel_rfl) ?_
        refine a_pu 1 rfl rfl rfl rfl (pu_loadW 19 (L := dg (ml (ad a b) (ad a b))) rfl rfl rfl rfl) rfl rfl (by kernel_rfl) ?_
        refine a_pu 2 rfl rfl rfl rfl (pu_buildA' (cs := dg 121665) rfl rfl (by rw [hK]; rfl)) rfl rfl (by kernel_rfl) ?_
        refine a_pu 3 rfl rfl rfl rfl (pu_loadW 21 (L := dg (eeN a b)) rfl rfl rfl rfl) rfl rfl (by kernel_rfl) ?_
        refine a_do 4 111 [] (does_call rfl rfl rfl rfl rfl (fun w' hm => RMulK w' (a := 121665) (by decide) hEE)) rfl rfl (by kernel_rfl) rfl rfl (by kernel_rfl) (by kernel_rfl) (by kernel_rfl) rfl (fun p hp => by cases hp) ?_; rintro v_ cs_ ⟨_, _, rfl, rfl⟩
        refine a_do 5 112 [] (does_call rfl rfl rfl rfl rfl (fun w' hm => RAddK w' hAA (ml_lt _ _))) rfl rfl (by kernel_rfl) rfl rfl (by kernel_rfl) (by kernel_rfl) (by kernel_rfl) rfl (fun p hp => by cases hp) ?_; rintro v_ cs_ ⟨_, _, rfl, rfl⟩
        refine a_tail [6, 7] (by kernel_rfl) rfl rfl (by kernel_rfl) ?_
        refine g_call [] rfl rfl rfl rfl rfl rfl (fun w' hm => RMulK w' hEE (ad_lt _ _)) (fun _ _ => ?_)
        refine g_storeL 10 (s := 8) (C := dg (dZ a b)) rfl rfl rfl rfl rfl rfl rfl rfl (oneCell_dg _) ?_
        refine g_nil ?_
        by_cases hbit : bb = 1#8
        · have hst := lad_t (t := t) hlt hs (hba.1 hbit)
          rw [← hS] at hst
          rw [if_pos hbit] at hS2
          obtain ⟨rfl, rfl, rfl, rfl⟩ : a = x2 ∧ b = z2 ∧ e = x1 ∧ f = z1 := by
            simp only [Prod.mk.injEq] at hS2
            exact hS2
          (repeat refine g_seq ?_)
          refine g_region ?_
          refine g_pu rfl rfl rfl (pu_move rfl rfl) ?_
          refine g_pu rfl rfl rfl (pu_eql8_t (b := 1#8) rfl rfl rfl hbit) ?_
          refine g_nil ?_
          (repeat refine g_seq ?_)
          refine g_cond_t rfl ?_
          (repeat refine g_seq ?_)
          refine g_any (4, [1]) ?_
          refine a_pu 0 rfl rfl rfl rfl (pu_loadW 11 (L := dg (sX a b e f)) rfl rfl rfl rfl) rfl rfl (by kernel_rfl) ?_
          refine a_pu 2 rfl rfl rfl rfl (pu_loadW 9 (L := dg (dX a b)) rfl rfl rfl rfl) rfl rfl (by kernel_rfl) ?_
          refine a_pu 3 rfl rfl rfl rfl (pu_loadW 10 (L := dg (dZ a b)) rfl rfl rfl rfl) rfl rfl (by kernel_rfl) ?_
          refine a_fork 1 4 [5, 6, 7] rfl rfl rfl rfl rfl rfl rfl rfl rfl rfl rfl (pu_loadW 12 (L := dg (sZ t a b e f)) rfl rfl rfl rfl) (st_rowF 9 (s := 8) (C := dg (sX a b e f)) rfl rfl rfl rfl rfl rfl (oneCell_dg _)) (pu_loadW 12 (L := dg (sZ t a b e f)) rfl rfl rfl rfl) (st_rowF 9 (s := 8) (C := dg (sX a b e f)) rfl rfl rfl rfl rfl rfl (oneCell_dg _)) (by kernel_rfl) (by kernel_rfl) (by kernel_rfl) (by decide) rfl rfl (by kernel_rfl) ?_
          refine g_storeL 10 (s := 8) (C := dg (sZ t a b e f)) rfl rfl rfl rfl rfl rfl rfl rfl (oneCell_dg _) ?_
          refine g_storeL 11 (s := 8) (C := dg (dX a b)) rfl rfl rfl rfl rfl rfl rfl rfl (oneCell_dg _) ?_
          refine g_storeL 12 (s := 8) (C := dg (dZ a b)) rfl rfl rfl rfl rfl rfl rfl rfl (oneCell_dg _) ?_
          refine g_nil ?_
          refine g_blk ?_
          (repeat refine g_seq ?_)
          refine g_region ?_
          refine g_pu rfl rfl rfl (pu_move rfl rfl) ?_
          refine g_pu rfl rfl rfl (pu_subI rfl rfl rfl (by omega)) ?_
          refine g_pu rfl rfl rfl (pu_assign rfl rfl) ?_
          refine g_nil ?_
          exact g_round2 (s - 1) (stepL t 1 (e, f, a, b)) ⟨by omega, hst.symm⟩ (by omega) ⟨rfl, rfl, rfl, rfl, rfl, rfl, rfl, by rw [show (((s - 1 : Nat) : Int) - 1) = (s : Int) - 1 - 1 by omega]; rfl, trivial⟩ ⟨rfl, rfl, rfl, rfl, rfl, rfl, rfl, trivial⟩
        · have hst := lad_f (t := t) hlt hs (fun h => hbit (hba.2 h))
          rw [← hS] at hst
          rw [if_neg hbit] at hS2
          obtain ⟨rfl, rfl, rfl, rfl⟩ : a = x1 ∧ b = z1 ∧ e = x2 ∧ f = z2 := by
            simp only [Prod.mk.injEq] at hS2
            exact hS2
          (repeat refine g_seq ?_)
          refine g_region ?_
          refine g_pu rfl rfl rfl (pu_move rfl rfl) ?_
          refine g_pu rfl rfl rfl (pu_eql8_f (b := 1#8) rfl rfl rfl hbit) ?_
          refine g_nil ?_
          (repeat refine g_seq ?_)
          refine g_cond_f rfl (g_skip ?_)
          refine g_blk ?_
          (repeat refine g_seq ?_)
          refine g_region ?_
          refine g_pu rfl rfl rfl (pu_move rfl rfl) ?_
          refine g_pu rfl rfl rfl (pu_subI rfl rfl rfl (by omega)) ?_
          refine g_pu rfl rfl rfl (pu_assign rfl rfl) ?_
          refine g_nil ?_
          exact g_round2 (s - 1) (stepL t 0 (a, b, e, f)) ⟨by omega, hst.symm⟩ (by omega) ⟨rfl, rfl, rfl, rfl, rfl, rfl, rfl, by rw [show (((s - 1 : Nat) : Int) - 1) = (s : Int) - 1 - 1 by omega]; rfl, trivial⟩ ⟨rfl, rfl, rfl, rfl, rfl, rfl, rfl, trivial⟩
      · (repeat refine g_seq ?_)
        refine g_region ?_
        refine g_pu rfl rfl rfl (pu_move rfl rfl) ?_
        first | refine g_pu rfl rfl rfl (pu_geq_t rfl rfl rfl (by omega)) ?_ | refine g_pu rfl rfl rfl (pu_geq_f rfl rfl rfl (by omega)) ?_ | refine g_pu rfl rfl rfl (pu_geq rfl rfl rfl) ?_
        refine g_nil ?_
        (repeat refine g_seq ?_)
        refine g_cond_f rfl (g_exit rfl ?_)
        have e1 : s = 0 := by omega
        subst e1
        have hV : ml S.1 (invN S.2.1) = ladV t (numB C) := by rw [hS]; rfl
        obtain ⟨x1, z1, x2, z2⟩ := S
        obtain ⟨o1, o2, o3, o4⟩ := hok
        dsimp only at o1 o2 o3 o4 hV
        have hvl : ladV t (numB C) < 57896044618658097711785492504343953926634992332820282019728792003956564819949 := ladV_lt _ _
        (repeat refine g_seq ?_)
        refine g_any (5, []) ?_
        refine a_pu 0 rfl rfl rfl rfl (pu_loadW 9 (L := dg x1) rfl rfl rfl rfl) rfl rfl (by kernel_rfl) ?_
        refine a_pu 1 rfl rfl rfl rfl (pu_loadW 10 (L := dg z1) rfl rfl rfl rfl) rfl rfl (by kernel_rfl) ?_
        refine a_pendA 4 24 24 104 ?_
        refine a_do 2 122 [] (does_call rfl rfl rfl rfl rfl (fun w' hm => RInv_b w' z1 o2)) rfl rfl (by kernel_rfl) rfl rfl (by kernel_rfl) (by kernel_rfl) (by kernel_rfl) rfl (fun p hp => by simp only [List.mem_cons, List.not_mem_nil, or_false] at hp; subst hp; first | exact does_PA rfl rfl rfl rfl | exact does_PB rfl rfl rfl rfl rfl (by decide) (by decide) rfl rfl) ?_; rintro v_ cs_ ⟨_, _, rfl, rfl⟩
        refine a_do 3 123 [] (does_call rfl rfl rfl rfl rfl (fun w' hm => RMulK w' o1 (invN_lt z1))) rfl rfl (by kernel_rfl) rfl rfl (by kernel_rfl) (by kernel_rfl) (by kernel_rfl) rfl (fun p hp => by simp only [List.mem_cons, List.not_mem_nil, or_false] at hp; subst hp; first | exact does_PA rfl rfl rfl rfl | exact does_PB rfl rfl rfl rfl rfl (by decide) (by decide) rfl rfl) ?_; rintro v_ cs_ ⟨_, _, rfl, rfl⟩
        rw [hV]
        refine a_force _ (by kernel_rfl) rfl rfl rfl (by kernel_rfl) (by kernel_rfl) (by kernel_rfl) rfl (fun p hp => by simp only [List.mem_cons, List.not_mem_nil, or_false] at hp; subst hp; first | exact does_PA rfl rfl rfl rfl | exact does_PB rfl rfl rfl rfl rfl (by decide) (by decide) rfl rfl) ?_; rintro v_ cs_ ⟨b24, hb24, rfl, rfl⟩
        refine a_tail [5] (by kernel_rfl) rfl rfl (by kernel_rfl) ?_
        refine g_storeL 24 (s := 8) (C := dg (ladV t (numB C))) rfl rfl rfl rfl rfl rfl rfl rfl (oneCell_dg _) ?_
        refine g_nil ?_
        generalize ladV t (numB C) = V at hV hvl
        by_cases hz : V = 0
        · subst hz
          rw [if_pos rfl, hbz]
          (repeat refine g_seq ?_)
          refine g_region ?_
          refine g_pu rfl rfl rfl (pu_loadW 24 (L := dg 0) rfl rfl rfl rfl) ?_
          refine g_pu rfl rfl rfl (pu_buildA' (cs := dg 0) rfl rfl (by rw [h0]; rfl)) ?_
          refine g_pu rfl rfl rfl (pu_eqlA_t (a := dg 0) (b := dg 0) rfl rfl rfl rfl (all_dg _) (dg_length _)) ?_
          refine g_nil ?_
          (repeat refine g_seq ?_)
          refine g_cond_t rfl ?_
          (repeat refine g_seq ?_)
          refine g_region ?_
          refine g_pu rfl rfl rfl (pu_buildA' (cs := bs zero32) rfl rfl rfl) ?_
          refine g_storeL 4 (s := 32) (C := bs zero32) rfl rfl rfl rfl rfl rfl rfl rfl (oneCell_bs _) ?_
          refine g_pu rfl rfl rfl (pu_assign rfl rfl) ?_
          refine g_nil ?_
          exact g_retLT 4 (L := bs zero32) rfl rfl rfl rfl rfl (fun w' hm => ⟨(), trivial, rfl, hm.grows [] trivial rfl⟩)
        · rw [if_neg hz]
          have hbl : (bs (leB 32 V)).length = 32 := by rw [bs_length, leB_length]
          (repeat refine g_seq ?_)
          refine g_region ?_
          refine g_pu rfl rfl rfl (pu_loadW 24 (L := dg V) rfl rfl rfl rfl) ?_
          refine g_pu rfl rfl rfl (pu_buildA' (cs := dg 0) rfl rfl (by rw [h0]; rfl)) ?_
          refine g_pu rfl rfl rfl (pu_eqlA_f (a := dg V) (b := dg 0) rfl rfl rfl (fun h => hz (dg_inj (by omega) (by decide) h)) (all_dg _) (all_dg _) (dg_length _) (dg_length _)) ?_
          refine g_nil ?_
          (repeat refine g_seq ?_)
          refine g_cond_f rfl (g_skip ?_)
          (repeat refine g_seq ?_)
          refine g_region ?_
          refine g_pu rfl rfl rfl (pu_loadW 24 (L := dg V) rfl rfl rfl rfl) ?_
          refine g_call [] rfl rfl rfl rfl rfl rfl (fun w' hm => RBytes_n w' V hvl) (fun _ _ => ?_)
          refine g_storeL 4 (s := 32) (C := bs (leB 32 V)) rfl rfl rfl rfl rfl rfl hbl rfl (oneCell_bs _) ?_
          refine g_pu rfl rfl rfl (pu_assign rfl rfl) ?_
          refine g_nil ?_
          exact g_retLT 4 (L := bs (leB 32 V)) rfl hbl rfl rfl rfl (fun w' hm => ⟨(), trivial, rfl, hm.grows [] trivial rfl⟩)
    · have hrE : readE u = 2 := if_neg hu32
      have hmE : xmE k u = 2 := if_neg (fun h => hu32 h.2)
      have hmN : xmN k u = 0 := if_neg (fun h => hu32 h.2)
      unfold xmV
      rw [hrE, hmE, hmN, hbz]
      (repeat refine g_seq ?_)
      refine g_region ?_
      refine g_pu rfl rfl rfl (pu_move rfl rfl) ?_
      first | refine g_pu rfl rfl rfl (pu_neq_t rfl rfl rfl (by omega)) ?_ | refine g_pu rfl rfl rfl (pu_neq_f rfl rfl rfl (by omega)) ?_ | refine g_pu rfl rfl rfl (pu_neq rfl rfl rfl) ?_
      refine g_nil ?_
      (repeat refine g_seq ?_)
      refine g_cond_t rfl ?_
      (repeat refine g_seq ?_)
      refine g_region ?_
      refine g_pu rfl rfl rfl (pu_buildA' (cs := bs zero32) rfl rfl rfl) ?_
      refine g_pu rfl rfl rfl (pu_move rfl rfl) ?_
      refine g_storeL 4 (s := 32) (C := bs zero32) rfl rfl rfl rfl rfl rfl rfl rfl (oneCell_bs _) ?_
      refine g_pu rfl rfl rfl (pu_assign rfl rfl) ?_
      refine g_nil ?_
      exact g_retLT 4 (L := bs zero32) rfl rfl rfl rfl rfl (fun w' hm => ⟨(), trivial, rfl, hm.grows [] trivial rfl⟩)
  · have hcE : clampE k = 2 := if_neg hk32
    have hmE : xmE k u = 2 := if_neg (fun h => hk32 h.1)
    have hmN : xmN k u = 0 := if_neg (fun h => hk32 h.1)
    unfold xmV
    rw [hcE, hmE, hmN, hbz]
    (repeat refine g_seq ?_)
    refine g_region ?_
    refine g_pu rfl rfl rfl (pu_move rfl rfl) ?_
    first | refine g_pu rfl rfl rfl (pu_neq_t rfl rfl rfl (by omega)) ?_ | refine g_pu rfl rfl rfl (pu_neq_f rfl rfl rfl (by omega)) ?_ | refine g_pu rfl rfl rfl (pu_neq rfl rfl rfl) ?_
    refine g_nil ?_
    (repeat refine g_seq ?_)
    refine g_cond_t rfl ?_
    (repeat refine g_seq ?_)
    refine g_region ?_
    refine g_pu rfl rfl rfl (pu_buildA' (cs := bs zero32) rfl rfl rfl) ?_
    refine g_pu rfl rfl rfl (pu_move rfl rfl) ?_
    refine g_storeL 4 (s := 32) (C := bs zero32) rfl rfl rfl rfl rfl rfl rfl rfl (oneCell_bs _) ?_
    refine g_pu rfl rfl rfl (pu_assign rfl rfl) ?_
    refine g_nil ?_
    exact g_retLT 4 (L := bs zero32) rfl rfl rfl rfl rfl (fun w' hm => ⟨(), trivial, rfl, hm.grows [] trivial rfl⟩)
end Go.Sx

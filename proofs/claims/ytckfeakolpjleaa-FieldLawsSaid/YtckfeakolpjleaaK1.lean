/-
  Clamp of the program and of the document; two arrays as an answer. The bytes fit memory.
-/
import Derived.Test.YtckfeakolpjleaaFieldForms
import Derived.Test.YtckfeakolpjleaaSxOff
set_option linter.unusedVariables false
set_option linter.unusedSimpArgs false
namespace Go.Sx
open Go Go.Proofs

section
variable {P : Program} {fn : Func} {R : Ending → World → Prop} {N : Nat} {w0 : World} {D : Blocks} {e : List (Nat × Value)} {M : List (Nat × Ck)} {k : List It}
theorem g_retLL (tag tag' : Nat) {t t' s s' : Nat} {ty ty' : TypeId} {b b' : Nat} {L L' : List Value} {E E' : TypeId} {fz fz' : Nat × Nat} (hf : fn.results = #[.cell t ty, .cell t' ty']) [hu : Agg P ty true] [hz : Siz P ty s] [hu' : Agg P ty' true] [hz' : Siz P ty' s'] (hl : L.length = s) (hl' : L'.length = s') (hv : get e t = some (.pointer (some ⟨b, 0, none⟩))) (hv' : get e t' = some (.pointer (some ⟨b', 0, none⟩))) (hM : mget M tag = some (.pt b (.cells L.toArray E fz))) (hM' : mget M tag' = some (.pt b' (.cells L'.toArray E' fz')))
    (hR : ∀ w, Mem w0 D M w → R (.returned (.tuple #[.agg L.toArray, .agg L'.toArray])) w) : G P fn R N w0 D e M (.code .ret :: k) :=
  g_ret_of (fun a w hs hm => by
    have h1 := hm.holds _ _ hM
    simp only [Ck.holds] at h1
    have h2 := run_loadVarL (P := P) (ty := ty) hl h1
    have h1' := hm.holds _ _ hM'
    simp only [Ck.holds] at h1'
    have h2' := run_loadVarL (P := P) (ty := ty') hl' h1'
    have h3 := getD_of hs hv
    have h3' := getD_of hs hv'
    simp only [Array.getD_eq_getD_getElem?] at h3 h3'
    simp [results, hf, h3, h3', asAddr, h2, h2']) hR
end

def zero32 : List (BitVec 8) := List.replicate 32 0#8
theorem zero32_leB : zero32 = leB 32 0 := by decide +kernel
def lowB (x : BitVec 8) : BitVec 8 := x &&& 248#8
def highB (x : BitVec 8) : BitVec 8 := x &&& 127#8 ||| 64#8
theorem lowB_eq (x : BitVec 8) : x / 8#8 * 8#8 = lowB x := by
  have h : ∀ n, n < 256 → BitVec.ofNat 8 n / 8#8 * 8#8 = lowB (BitVec.ofNat 8 n) := by decide +kernel
  have h2 := h x.toNat x.isLt
  rwa [BitVec.ofNat_toNat, BitVec.setWidth_eq] at h2
theorem highB_eq (x : BitVec 8) : x % 64#8 + 64#8 = highB x := by
  have h : ∀ n, n < 256 → BitVec.ofNat 8 n % 64#8 + 64#8 = highB (BitVec.ofNat 8 n) := by decide +kernel
  have h2 := h x.toNat x.isLt
  rwa [BitVec.ofNat_toNat, BitVec.setWidth_eq] at h2
/-- A scalar with its fixed bits. -/
def clampL (k : List (BitVec 8)) : List (BitVec 8) := (k.set 0 (lowB (k.getD 0 0#8))).set 31 (highB (k.getD 31 0#8))
theorem clampL_length (k : List (BitVec 8)) : (clampL k).length = k.length := by simp [clampL]
def clampV (k : List (BitVec 8)) : List (BitVec 8) := if k.length = 32 then clampL k else zero32
def clampE (k : List (BitVec 8)) : Int := if k.length = 32 then 0 else 2
theorem clampV_length (k : List (BitVec 8)) : (clampV k).length = 32 := by
  unfold clampV
  split
  · rw [clampL_length]; assumption
  · rfl
theorem getK {k : List (BitVec 8)} {i : Nat} (h : i < k.length) : (bs k).toArray[0 + i]? = some (b8 (k.getD i 0#8)) := by
  rw [Nat.zero_add, List.getElem?_toArray]; exact bs_get (getDb h)
theorem bs_full {l : List (BitVec 8)} (h : l.length = 32) : ((bs l).drop 0).take 32 = bs l := by rw [List.drop_zero, List.take_of_length_le (by rw [bs_length, h]; exact Nat.le_refl _)]


end Go.Sx

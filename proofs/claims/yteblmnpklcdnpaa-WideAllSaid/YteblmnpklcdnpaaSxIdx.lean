/-
  Elements of array values, and results that are a cell and a value. No condition: they speak of any program.
-/
import Derived.Test.YteblmnpklcdnpaaSxArr
set_option linter.unusedVariables false
set_option linter.unusedSimpArgs false
namespace Go.Sx
open Go

section
variable {P : Program} {fn : Func} {R : Ending → World → Prop} {N : Nat} {w0 : World} {D : Blocks} {e : List (Nat × Value)} {M : List (Nat × Ck)} {k : List It} {o : Oper} {all : Array Oper} {rest : List Oper}

theorem run_part1 {E : TypeId} [ha : Agg P E false] {xs : Array Value} {off : Nat} {v : Value} (w : World) (hx : xs[off]? = some v) : (part E xs off).run P w = .ok v w := by
  simp [part, run_isAgg ha.h, hx]
theorem run_partA {E : TypeId} {s : Nat} [ha : Agg P E true] [hz : Siz P E s] {xs : Array Value} {off : Nat} (w : World) : (part E xs off).run P w = .ok (.agg (xs.extract off (off + s))) w := by
  simp [part, run_isAgg ha.h, run_size hz.h]

/-- An element of an array value. -/
theorem pu_indexA {t E : TypeId} {x ix : Operand} {n : Nat} {kd : IntKind} {i : Int} {cs : Array Value} {v : Value} (j : Nat) [hu : Und P t (.array n E)] [hz : Siz P E 1] [ha : Agg P E false] (ho : o.op = .index t x ix) (hx : ev e x = some (.agg cs)) (hi : ev e ix = some (.int kd i)) (hj : i = (j : Int)) (hlt : j < n) (hv : cs[j]? = some v) : Pu P N w0 D e M o v := fun ac w hs hm => by
  subst hj
  have hp := run_part1 (P := P) (E := E) w hv
  simp [execOp, ho, hs.eval hx, hs.eval hi, Instr.index, asIntOf, run_und hu.h, run_size hz.h, hlt, hp]
theorem pu_indexAA {t E : TypeId} {x ix : Operand} {n s : Nat} {kd : IntKind} {i : Int} {cs : Array Value} (j : Nat) [hu : Und P t (.array n E)] [hz : Siz P E s] [ha : Agg P E true] (ho : o.op = .index t x ix) (hx : ev e x = some (.agg cs)) (hi : ev e ix = some (.int kd i)) (hj : i = (j : Int)) (hlt : j < n) : Pu P N w0 D e M o (.agg (cs.extract (j * s) (j * s + s))) := fun ac w hs hm => by
  subst hj
  have hp := run_partA (P := P) (E := E) (s := s) (xs := cs) (off := j * s) w
  simp [execOp, ho, hs.eval hx, hs.eval hi, Instr.index, asIntOf, run_und hu.h, run_size hz.h, hlt, hp]

theorem run_loadVarL {ty : TypeId} {s : Nat} {L : List Value} {b : Nat} {E : TypeId} {fz : Nat × Nat} [hu : Agg P ty true] [hz : Siz P ty s] (hl : L.length = s) {w : World} (h1 : w.heap[b]? = some (.cells L.toArray E fz)) : (loadVar ty ⟨b, 0, none⟩).run P w = .ok (.agg L.toArray) w := by
  subst hl
  have h2 : (loadCells ⟨b, 0, none⟩ L.length).run P w = .ok L.toArray w := by
    refine run_loadCells_list (P := P) w ⟨b, 0, none⟩ L (fun j v hj => ?_)
    rw [Addr.add_lit, cell_pt h1]
    simpa using hj
  simp [loadVar, run_isAgg hu.h, run_size hz.h, h2]
theorem g_retLT (tag : Nat) {t u s : Nat} {x : Value} {ty : TypeId} {b : Nat} {L : List Value} {E : TypeId} {fz : Nat × Nat} (hf : fn.results = #[.cell t ty, .tmp u]) [hu : Agg P ty true] [hz : Siz P ty s] (hl : L.length = s) (hv : get e t = some (.pointer (some ⟨b, 0, none⟩))) (hx : get e u = some x) (hM : mget M tag = some (.pt b (.cells L.toArray E fz)))
    (hR : ∀ w, Mem w0 D M w → R (.returned (.tuple #[.agg L.toArray, x])) w) : G P fn R N w0 D e M (.code .ret :: k) :=
  g_ret_of (fun a w hs hm => by
    have h1 := hm.holds _ _ hM
    simp only [Ck.holds] at h1
    have h2 := run_loadVarL (P := P) (ty := ty) hl h1
    have h3 := getD_of hs hv
    have h4 := getD_of hs hx
    simp only [Array.getD_eq_getD_getElem?] at h3 h4
    simp [results, hf, h3, h4, asAddr, h2]) hR
theorem g_retLTT (tag : Nat) {t u u' s : Nat} {x x' : Value} {ty : TypeId} {b : Nat} {L : List Value} {E : TypeId} {fz : Nat × Nat} (hf : fn.results = #[.cell t ty, .tmp u, .tmp u']) [hu : Agg P ty true] [hz : Siz P ty s] (hl : L.length = s) (hv : get e t = some (.pointer (some ⟨b, 0, none⟩))) (hx : get e u = some x) (hx' : get e u' = some x') (hM : mget M tag = some (.pt b (.cells L.toArray E fz)))
    (hR : ∀ w, Mem w0 D M w → R (.returned (.tuple #[.agg L.toArray, x, x'])) w) : G P fn R N w0 D e M (.code .ret :: k) :=
  g_ret_of (fun a w hs hm => by
    have h1 := hm.holds _ _ hM
    simp only [Ck.holds] at h1
    have h2 := run_loadVarL (P := P) (ty := ty) hl h1
    have h3 := getD_of hs hv
    have h4 := getD_of hs hx
    have h5 := getD_of hs hx'
    simp only [Array.getD_eq_getD_getElem?] at h3 h4 h5
    simp [results, hf, h3, h4, h5, asAddr, h2]) hR
theorem g_retLLT (tag tag' : Nat) {t t' u s s' : Nat} {x : Value} {ty ty' : TypeId} {b b' : Nat} {L L' : List Value} {E E' : TypeId} {fz fz' : Nat × Nat} (hf : fn.results = #[.cell t ty, .cell t' ty', .tmp u]) [hu : Agg P ty true] [hz : Siz P ty s] [hu' : Agg P ty' true] [hz' : Siz P ty' s'] (hl : L.length = s) (hl' : L'.length = s') (hv : get e t = some (.pointer (some ⟨b, 0, none⟩))) (hv' : get e t' = some (.pointer (some ⟨b', 0, none⟩))) (hx : get e u = some x) (hM : mget M tag = some (.pt b (.cells L.toArray E fz))) (hM' : mget M tag' = some (.pt b' (.cells L'.toArray E' fz')))
    (hR : ∀ w, Mem w0 D M w → R (.returned (.tuple #[.agg L.toArray, .agg L'.toArray, x])) w) : G P fn R N w0 D e M (.code .ret :: k) :=
  g_ret_of (fun a w hs hm => by
    have h1 := hm.holds _ _ hM
    simp only [Ck.holds] at h1
    have h2 := run_loadVarL (P := P) (ty := ty) hl h1
    have h1' := hm.holds _ _ hM'
    simp only [Ck.holds] at h1'
    have h2' := run_loadVarL (P := P) (ty := ty') hl' h1'
    have h3 := getD_of hs hv
    have h3' := getD_of hs hv'
    have h4 := getD_of hs hx
    simp only [Array.getD_eq_getD_getElem?] at h3 h3' h4
    simp [results, hf, h3, h3', h4, asAddr, h2, h2']) hR

end

end Go.Sx

import Derived.Test.YtfbcmndhjoebbaaZdXC
import Derived.WalkKit
import Derived.ProofKit
import Derived.OpenShut
import Derived.ShutString
import Derived.ChangeOld
import Derived.Below
import Derived.SizedLaws
import Derived.Deep.Slices
set_option linter.unusedVariables false
set_option linter.unusedSimpArgs false
/-
  From a row's reading of its arguments to the contracts of this seat: what a slice of bytes, a slice of slices, .. that came in reads as. No condition: they speak of any program.
-/
namespace Go.Sx
open Go Go.ChangeShapes Go.WideShapes Go.RowKit

theorem RdV.of {w : World} {a : Addr} {L : List Value} (h : ∀ i v, L[i]? = some v → w.cell? (a.add i) = some v) : RdV w (some a) L := by
  cases L with
  | nil => exact .inl rfl
  | cons v r =>
    right
    obtain ⟨b, o, s⟩ := a
    have h0 := h 0 v rfl
    have hs : s = none := by
      cases s with
      | none => rfl
      | some q =>
        rw [Addr.add_zero'] at h0
        unfold World.cell? at h0
        split at h0
        · simp at h0
        · cases h0
    subst hs
    exact ⟨b, o, rfl, fun i v hi => by have := h i v hi; rwa [Addr.add_lit] at this⟩

theorem Grows.belowAll {w w' : World} {cs : List Ck} (h : Grows w Nob cs w') : Below w.heap.size w w' :=
  ⟨h.os, h.tape, h.output, h.size, fun k hk => h.keep k hk (fun h => h)⟩

/-- No string, slice or map in it is above the reach. -/
def Light {H : Type} (P : Program) (t : TypeId) (d : DataW H) : Prop := ∀ n ∈ d.weights P t, n ≤ reachBytes
theorem light_of {H : Type} {P : Program} {ts : List TypeId} {ds : List (DataW H)} {j : Nat} {t : TypeId} {d : DataW H} (h : (DataW.weightsEach P ts ds).all (· ≤ reachBytes) = true) (ht : ts[j]? = some t) (hd : ds[j]? = some d) : Light P t d := fun n hn => by
  have := List.all_eq_true.1 h _ (DataW.weights_mem_each ht hd n hn)
  simpa using this
theorem reach_le {n : Nat} (h : n ≤ reachBytes) : n ≤ 140737488351232 := h

section
variable {H : Type} {enc : TypeId × Value → H} {P : Program} {W : World} {base : Nat} {held : Bool}

/-- Cells that come in at a type, in a word of their own. -/
def Came (enc : TypeId × Value → H) (P : Program) (W : World) (base : Nat) (held : Bool) (t : TypeId) (cs : List Value) : Prop :=
  ∃ fuel x, DataW.trod enc P W base (fun _ => true) held fuel t cs = some x ∧ Light P t x.1

theorem came {t : TypeId} {v : Value} {d : DataW H} {ps : List MemPlace} (h : DataW.Trod enc P W base (fun _ => true) held t v d ps) (hl : Light P t d) : Came enc P W base held t v.cells.toList := by
  obtain ⟨f, hf⟩ := h
  exact ⟨f, _, hf, hl⟩

theorem wf_u8 {z : Int} (h : (Lit.int .u8 z).wf = true) : 0 ≤ z ∧ z < 256 := by
  simp only [Lit.wf, Bool.and_eq_true, decide_eq_true_eq] at h
  have h1 : IntKind.u8.min = 0 := by decide
  have h2 : IntKind.u8.max = 255 := by decide
  omega

theorem wf_u64 {z : Int} (h : (Lit.int .u64 z).wf = true) : 0 ≤ z ∧ z < 18446744073709551616 := by
  simp only [Lit.wf, Bool.and_eq_true, decide_eq_true_eq] at h
  have h1 : IntKind.u64.min = 0 := by decide
  have h2 : IntKind.u64.max = 18446744073709551615 := by decide
  omega
theorem came_bytes' {t e : TypeId} {cs : List Value} (ht : P.underlying t = some (.slice e)) (he : P.underlying e = some (.int .u8)) (hc : P.cellsOf e = 1) (hb : P.bytesOf e = 1) (h : Came enc P W base held t cs) :
    ∃ p n c l, cs = [.slice p n c] ∧ RdV W p (bs l) ∧ l.length = n ∧ n ≤ 140737488351232 ∧ n ≤ c := by
  obtain ⟨f, x, hf, hl⟩ := h
  rcases open_ints ht he hc hf with ⟨rfl, _⟩ | ⟨a, len, cap, zs, rfl, _, hlc, _, hz, hx, hcell, hwf⟩
  · exact ⟨none, 0, 0, [], rfl, RdV.nil .., rfl, by omega, by omega⟩
  · refine ⟨some a, len, cap, (zs.take len).map (BitVec.ofInt 8), rfl, RdV.of fun i v hi => ?_, ?_, ?_, hlc⟩
    · simp only [bs, List.map_map, List.getElem?_map, Option.map_eq_some_iff] at hi
      obtain ⟨z, hz1, rfl⟩ := hi
      have hi2 : zs[i]? = some z := by
        rw [List.getElem?_take] at hz1
        split at hz1
        · exact hz1
        · cases hz1
      have hlt := (List.getElem?_eq_some_iff.1 hi2).1
      rw [hcell i hlt]
      have hm : z ∈ zs := List.mem_of_getElem? hi2
      have hw := hwf z hm
      simp only [List.getD, hi2, Option.getD_some, Function.comp]
      rw [b8_of z (wf_u8 hw)]
    · simp only [if_true] at hz
      simp; omega
    · subst hx
      simp only [if_true] at hz
      have := hl ((lits (H := H) .u8 (zs.take len)).length + (lits (H := H) .u8 (zs.drop len)).length |>.mul (P.bytesOf e)) (by simp [DataW.weights, ht])
      rw [hb] at this
      have := reach_le this
      simp only [lits, List.length_map, List.length_take, List.length_drop] at this
      have : min len zs.length + (zs.length - len) ≤ 140737488351232 := by
        have e : ((min len zs.length + (zs.length - len)).mul 1) = min len zs.length + (zs.length - len) := Nat.mul_one _
        rwa [e] at this
      omega

theorem slice_cells {v : Value} {p : Option Addr} {n c : Nat} {t e : TypeId} {r : Reach} {b0 : Nat} (ht : P.underlying t = some (.slice e)) (hv : Value.okWide P W r b0 t v) (h : v.cells.toList = [.slice p n c]) : v = .slice p n c := by
  obtain ⟨a, l, k, rfl⟩ := okWide_slice ht hv
  simpa [Value.cells] using h

theorem weightsAll_mem {e : TypeId} : ∀ {l : List (DataW H)} {d : DataW H}, d ∈ l → ∀ {n}, n ∈ d.weights P e → n ∈ DataW.weightsAll P e l
  | _ :: _, _, .head _, _, h => by simp only [DataW.weightsAll]; exact List.mem_append_left _ h
  | _ :: _, _, .tail _ hd, _, h => by simp only [DataW.weightsAll]; exact List.mem_append_right _ (weightsAll_mem hd h)

/-- A slice whose elements take several cells each. -/
theorem came_slice' {t e : TypeId} {cs : List Value} (ht : P.underlying t = some (.slice e)) (h0 : 0 < P.cellsOf e) (h : Came enc P W base held t cs) :
    ∃ (p : Option Addr) (n c : Nat) (css : List (List Value)), cs = [.slice p n c] ∧ RdV W p css.flatten ∧ css.length = n ∧ n * P.bytesOf e ≤ 140737488351232 ∧ n ≤ 9223372036854775807 ∧ n ≤ c ∧ ∀ v ∈ css, v.length = P.cellsOf e ∧ Came enc P W base held e v := by
  obtain ⟨f, x, hf, hl⟩ := h
  rcases Go.Deep.open_slice ht hf with ⟨rfl, _⟩ | ⟨a, len, cap, m, n, D, Pl, rfl, _, hlc, hm, hmm, rfl, hV⟩
  · exact ⟨none, 0, 0, [], rfl, RdV.nil .., rfl, by omega, by omega, by omega, fun v hv => by simp at hv⟩
  · simp only [if_true] at hmm
    subst hmm
    have hch : ∃ g : Nat → List Value, ∀ i, i < m → W.cells? base (a.add (i * P.cellsOf e)) (P.cellsOf e) = some (g i) ∧ DataW.trod enc P W base (fun _ => true) held n e (g i) = some (D i, Pl i) := by
      classical
      refine ⟨fun i => if h : i < m then Classical.choose (hV i h) else [], fun i hi => ?_⟩
      simp only [dif_pos hi]
      exact Classical.choose_spec (hV i hi)
    obtain ⟨g, hg⟩ := hch
    have hlen : ∀ c ∈ (List.range len).map g, c.length = P.cellsOf e := fun c hc => by
      obtain ⟨i, hi, rfl⟩ := List.mem_map.1 hc
      have hi := List.mem_range.1 hi
      exact (World.cells?_some (hg i (by omega)).1).2.1
    refine ⟨some a, len, m, (List.range len).map g, rfl, RdV.of fun i v hi => ?_, by simp, ?_, ?_, hlc, fun v hv => ⟨hlen v hv, ?_⟩⟩
    · have hd := Nat.div_add_mod i (P.cellsOf e)
      have hr := Nat.mod_lt i h0
      rw [← hd, Nat.mul_comm (P.cellsOf e), flat_getE _ hlen _ _ hr, Option.bind_eq_some_iff] at hi
      obtain ⟨c, h1, h2⟩ := hi
      rw [List.getElem?_map, Option.map_eq_some_iff] at h1
      obtain ⟨j, hj, rfl⟩ := h1
      obtain ⟨hlt, e1⟩ := List.getElem?_eq_some_iff.1 hj
      simp only [List.getElem_range] at e1
      simp only [List.length_range] at hlt
      subst e1
      have h3 := (World.cells?_some (hg _ (show i / P.cellsOf e < m by omega)).1).2.2 _ hr
      rw [h2, Addr.add_add, Nat.mul_comm (i / P.cellsOf e), hd] at h3
      exact h3
    · have := hl _ (by simp only [DataW.weights, ht]; exact List.mem_cons_self ..)
      simp only [List.length_map, List.length_range] at this
      exact reach_le (Nat.le_trans (Nat.mul_le_mul_right _ (by omega)) this)
    · unfold maxLen at hm; omega
    · obtain ⟨i, hi, rfl⟩ := List.mem_map.1 hv
      have hi := List.mem_range.1 hi
      refine ⟨n, _, (hg i (by omega)).2, fun q hq => hl q ?_⟩
      simp only [DataW.weights, ht]
      refine List.mem_cons_of_mem _ (List.mem_append_left _ ?_)
      exact weightsAll_mem (List.mem_map.2 ⟨i, List.mem_range.2 hi, rfl⟩) hq

theorem came_slice {t e : TypeId} {v : Value} {r : Reach} {b0 : Nat} (ht : P.underlying t = some (.slice e)) (h0 : 0 < P.cellsOf e) (hv : Value.okWide P W r b0 t v) (h : Came enc P W base held t v.cells.toList) :
    ∃ (p : Option Addr) (n c : Nat) (css : List (List Value)), v = .slice p n c ∧ RdV W p css.flatten ∧ css.length = n ∧ n * P.bytesOf e ≤ 140737488351232 ∧ n ≤ 9223372036854775807 ∧ n ≤ c ∧ ∀ v ∈ css, v.length = P.cellsOf e ∧ Came enc P W base held e v := by
  obtain ⟨p, n, c, L, h1, h2⟩ := came_slice' ht h0 h
  exact ⟨p, n, c, L, slice_cells ht hv h1, h2⟩

theorem came_int {t : TypeId} {k : IntKind} {cs : List Value} (ht : P.underlying t = some (.int k)) (h : Came enc P W base held t cs) : ∃ z, cs = [.int k z] ∧ (Lit.int k z).wf = true := by
  obtain ⟨f, x, hf, _⟩ := h
  obtain ⟨m, rfl, _, hw⟩ := DataW.trod_int ht hf
  exact ⟨m, rfl, hw⟩

theorem came_struct {t : TypeId} {fs : Array Field} {cs : List Value} (ht : P.underlying t = some (.struct fs)) (h : Came enc P W base held t cs) :
    cs.length = P.cellsOf t ∧ ∀ (j : Nat) (f : Field), fs[j]? = some f → Came enc P W base held f.type ((cs.drop f.offset).take (P.cellsOf f.type)) := by
  obtain ⟨fu, x, hf, hl⟩ := h
  obtain ⟨xs, n, _, rfl, hlen, hln, hfs⟩ := DataW.trod_struct ht hf
  refine ⟨hlen, fun j f hj => ?_⟩
  have h1 := hfs j f hj
  have hj' : j < xs.length := by
    have := (Array.getElem?_eq_some_iff.1 hj).1
    omega
  rw [List.getElem?_eq_getElem hj'] at h1
  refine ⟨n, _, h1, fun q hq => hl q ?_⟩
  simp only [DataW.weights, ht]
  exact DataW.weights_mem_each (j := j) (t := f.type) (d := (xs[j]).1) (by simp [hj]) (by simp [hj']) q hq

/-- An array: its elements' cells. -/
theorem came_array {t e : TypeId} {n : Nat} {cs : List Value} (ht : P.underlying t = some (.array n e)) (h : Came enc P W base held t cs) :
    cs.length = P.cellsOf t ∧ ∀ j, j < n → Came enc P W base held e ((cs.drop (j * P.cellsOf e)).take (P.cellsOf e)) := by
  obtain ⟨fu, x, hf, hl⟩ := h
  obtain ⟨xs, m, _, rfl, hlen, hln, hfs⟩ := DataW.trod_array ht hf
  refine ⟨hlen, fun j hj => ?_⟩
  have h1 := hfs j hj
  rw [List.getElem?_eq_getElem (by omega)] at h1
  refine ⟨m, _, h1, fun q hq => hl q ?_⟩
  simp only [DataW.weights, ht]
  exact weightsAll_mem (List.mem_map.2 ⟨_, List.getElem_mem (by omega), rfl⟩) hq
/-- An array of numbers. -/
theorem came_nums {t e : TypeId} {n : Nat} {k : IntKind} {cs : List Value} (ht : P.underlying t = some (.array n e)) (he : P.underlying e = some (.int k)) (hc : P.cellsOf e = 1) (hc' : P.cellsOf t = n) (h : Came enc P W base held t cs) :
    ∃ zs : List Int, zs.length = n ∧ cs = zs.map (.int k) ∧ ∀ z ∈ zs, (Lit.int k z).wf = true := by
  obtain ⟨h1, h2⟩ := came_array ht h
  have each : ∀ x ∈ cs, ∃ z, x = .int k z ∧ (Lit.int k z).wf = true := by
    intro x hx
    obtain ⟨j, hj⟩ := List.getElem?_of_mem hx
    have hlt := (List.getElem?_eq_some_iff.1 hj).1
    have h3 := h2 j (by omega)
    rw [hc, Nat.mul_one] at h3
    obtain ⟨z, hz, hw⟩ := came_int he h3
    refine ⟨z, ?_, hw⟩
    have := congrArg (·[0]?) hz
    simp only [List.getElem?_take, List.getElem?_drop, Nat.add_zero, hj] at this
    simpa using this
  obtain ⟨zs, rfl, hw⟩ := list_map each
  exact ⟨zs, by simpa [hc'] using h1, rfl, hw⟩
end
end Go.Sx

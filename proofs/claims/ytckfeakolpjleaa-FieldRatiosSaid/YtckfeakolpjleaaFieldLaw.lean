/-
  Elements and fractions that come in. No condition.
-/
import Derived.Test.YtckfeakolpjleaaSxLaw
import Derived.Test.YtckfeakolpjleaaFieldRatios
set_option linter.unusedVariables false
set_option linter.unusedSimpArgs false
namespace Go.Sx
open Go Go.ChangeShapes Go.WideShapes Go.RowKit Go.Proofs
section
variable {H : Type} {enc : TypeId × Value → H} {W : World} {base : Nat} {held : Bool}
theorem came_four {cs : List Value} (h : Came enc Try.prog W base held 24 cs) : ∃ n : Nat, cs = el n ∧ n < 115792089237316195423570985008687907853269984665640564039457584007913129639936 := by
  obtain ⟨zs, hz, e4, w4⟩ := came_nums (Try.underlying24) (Try.underlying22) (by kernel_rfl) (by kernel_rfl) h
  have hl : (zs.map (BitVec.ofInt 64)).length = 4 := by simpa using hz
  refine ⟨_, ?_, numL4_lt hl⟩
  rw [← el_of hl, e4]
  unfold qs
  rw [List.map_map]
  exact List.map_congr_left fun z hz => b64_of z (wf_u64 (w4 z hz))
theorem came_rt {cs : List Value} (h : Came enc Try.prog W base held 45 cs) : ∃ x : Nat × Nat, cs = rtC x ∧ okR x := by
  obtain ⟨h1, h2⟩ := came_array (Try.underlying45) h
  rw [show Try.prog.cellsOf 45 = 8 from by kernel_rfl] at h1
  have a0 := h2 0 (by omega)
  have a1 := h2 1 (by omega)
  rw [show Try.prog.cellsOf 24 = 4 from by kernel_rfl] at a0 a1
  obtain ⟨a, e0, l0⟩ := came_four a0
  obtain ⟨b, e1, l1⟩ := came_four a1
  refine ⟨(a, b), ?_, l0, l1⟩
  have e2 : cs = (cs.drop (0 * 4)).take 4 ++ (cs.drop (1 * 4)).take 4 := by
    match cs, h1 with
    | [_, _, _, _, _, _, _, _], _ => rfl
  rw [e2, e0, e1]
  rfl
theorem fours_of {css : List (List Value)} (hc : ∀ v ∈ css, v.length = Try.prog.cellsOf 24 ∧ Came enc Try.prog W base held 24 v) : ∃ ns : List Nat, css = ns.map el ∧ ∀ n ∈ ns, n < 115792089237316195423570985008687907853269984665640564039457584007913129639936 := by
  induction css with
  | nil => exact ⟨[], rfl, fun _ h => by simp at h⟩
  | cons v r ih =>
    obtain ⟨cs, rfl, h⟩ := ih (fun u hu => hc u (List.mem_cons_of_mem _ hu))
    obtain ⟨h1, h2⟩ := hc v (by simp)
    obtain ⟨x, rfl, hx⟩ := came_four h2
    exact ⟨x :: cs, rfl, fun y hy => (List.mem_cons.1 hy).elim (fun e => by rw [e]; exact hx) (h y)⟩
theorem rts_of {css : List (List Value)} (hc : ∀ v ∈ css, v.length = Try.prog.cellsOf 45 ∧ Came enc Try.prog W base held 45 v) : ∃ xs : List (Nat × Nat), css = xs.map rtC ∧ ∀ x ∈ xs, okR x := by
  induction css with
  | nil => exact ⟨[], rfl, fun _ h => by simp at h⟩
  | cons v r ih =>
    obtain ⟨cs, rfl, h⟩ := ih (fun u hu => hc u (List.mem_cons_of_mem _ hu))
    obtain ⟨h1, h2⟩ := hc v (by simp)
    obtain ⟨x, rfl, hx⟩ := came_rt h2
    exact ⟨x :: cs, rfl, fun y hy => (List.mem_cons.1 hy).elim (fun e => by rw [e]; exact hx) (h y)⟩
end
end Go.Sx

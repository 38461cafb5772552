import Derived.Test.YtfbcmndhjoebbaaZdSxLaw
import Derived.Test.YtfbcmndhjoebbaaZdCM7a
import Derived.Test.YtfbcmndhjoebbaaZdYA
set_option linter.unusedVariables false
set_option linter.unusedSimpArgs false
/-
  Nodes and stops that come in. No condition.
-/
namespace Go.Sx
open Go Go.ChangeShapes Go.WideShapes Go.RowKit Go.Proofs
section
variable {H : Type} {enc : TypeId × Value → H} {W : World} {base : Nat} {held : Bool}
theorem sd_field {T : TypeId} {fl : List (TypeId × Nat)} (hu : Try.prog.underlying T = some (.struct (Try.prog.fieldsOf T))) (hfs : (Try.prog.fieldsOf T).toList.map (fun f => (f.type, f.offset)) = fl) {cs : List Value} (h : Came enc Try.prog W base held T cs) {j : Nat} {t : TypeId} {o : Nat} (hj : fl[j]? = some (t, o)) : Came enc Try.prog W base held t ((cs.drop o).take (Try.prog.cellsOf t)) := by
  obtain ⟨_, h2⟩ := came_struct hu h
  rw [← hfs, List.getElem?_map, Option.map_eq_some_iff] at hj
  obtain ⟨f, hf, he⟩ := hj
  rw [Array.getElem?_toList] at hf
  have h3 := h2 j f hf
  cases he
  exact h3
theorem came_strD {P : Program} {t : TypeId} {cs : List Value} (ht : P.underlying t = some .string) (h : Came enc P W base held t cs) : ∃ s : ByteArray, cs = [.string s] := by
  obtain ⟨f, x, hf, _⟩ := h
  obtain ⟨s, hs, _⟩ := DataW.trod_string ht hf
  exact ⟨s, hs⟩
theorem came_bsD {cs : List Value} (h : Came enc Try.prog W base held 43 cs) : ∃ l : List (BitVec 8), cs = bs l ∧ l.length = 32 := by
  obtain ⟨zs, hz, e4, w4⟩ := came_nums (Try.underlying43) (Try.underlying5) (by kernel_rfl) (by kernel_rfl) h
  refine ⟨zs.map (BitVec.ofInt 8), ?_, by simpa using hz⟩
  rw [e4]
  unfold bs
  rw [List.map_map]
  exact List.map_congr_left fun z hz => b8_of z (wf_u8 (w4 z hz))
theorem came_node {cs : List Value} (h : Came enc Try.prog W base held 45 cs) (hl : cs.length = 66) : ∃ x : Hop, cs = nodeC x ∧ x.ok := by
  have hu2 : Try.prog.underlying 45 = some (.struct (Try.prog.fieldsOf 45)) := by kernel_rfl
  have hf2 : (Try.prog.fieldsOf 45).toList.map (fun f => (f.type, f.offset)) = [(9, 0), (42, 1), (43, 2), (43, 34)] := by kernel_rfl
  have m0 := sd_field hu2 hf2 h (j := 0) rfl
  have m1 := sd_field hu2 hf2 h (j := 1) rfl
  have m2 := sd_field hu2 hf2 h (j := 2) rfl
  have m3 := sd_field hu2 hf2 h (j := 3) rfl
  rw [show Try.prog.cellsOf 9 = 1 from by kernel_rfl] at m0
  rw [show Try.prog.cellsOf 42 = 1 from by kernel_rfl] at m1
  rw [show Try.prog.cellsOf 43 = 32 from by kernel_rfl] at m2 m3
  obtain ⟨s, e0⟩ := came_strD (Try.underlying9) m0
  obtain ⟨z1, e1, w1⟩ := came_int (Try.underlying42) m1
  obtain ⟨pv, e2, l2⟩ := came_bsD m2
  obtain ⟨pb, e3, l3⟩ := came_bsD m3
  have hN : cs = (cs.drop 0).take 1 ++ ((cs.drop 1).take 1 ++ ((cs.drop 2).take 32 ++ (cs.drop 34).take 32)) := by
    generalize cs = D at hl
    have a1 : D = (D.drop 0).take 1 ++ D.drop 1 := by rw [List.drop_zero, List.take_append_drop]
    have a2 : D.drop 1 = (D.drop 1).take 1 ++ D.drop 2 := by rw [show D.drop 2 = (D.drop 1).drop 1 by rw [List.drop_drop], List.take_append_drop]
    have a3 : D.drop 2 = (D.drop 2).take 32 ++ D.drop 34 := by rw [show D.drop 34 = (D.drop 2).drop 32 by rw [List.drop_drop], List.take_append_drop]
    have a4 : D.drop 34 = (D.drop 34).take 32 := by rw [List.take_of_length_le (by rw [List.length_drop]; omega)]
    rw [← a4, ← a3, ← a2]
    exact a1
  refine ⟨⟨s, BitVec.ofInt 64 z1, pv, pb, 0, 0⟩, ?_, l2, l3⟩
  rw [hN, e0, e1, e2, e3, b64_of z1 (wf_u64 w1)]
  rfl
theorem nodes_of {css : List (List Value)} (hc : ∀ v ∈ css, v.length = Try.prog.cellsOf 45 ∧ Came enc Try.prog W base held 45 v) : ∃ hs : List Hop, css = hs.map nodeC ∧ ∀ x ∈ hs, x.ok := by
  induction css with
  | nil => exact ⟨[], rfl, fun _ h => by simp at h⟩
  | cons v r ih =>
    obtain ⟨hs, rfl, h⟩ := ih (fun u hu => hc u (List.mem_cons_of_mem _ hu))
    obtain ⟨h1, h2⟩ := hc v (by simp)
    obtain ⟨x, rfl, hx⟩ := came_node h2 (by rw [h1]; kernel_rfl)
    exact ⟨x :: hs, rfl, fun y hy => (List.mem_cons.1 hy).elim (fun e => by rw [e]; exact hx) (h y)⟩
end
end Go.Sx

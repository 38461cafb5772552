/-
  Commands that come in. No condition.
-/
import Derived.Test.YtbnfocnhmpegjaaSxLaw
import Derived.Test.YtbnfocnhmpegjaaCM3
set_option linter.unusedVariables false
set_option linter.unusedSimpArgs false
namespace Go.Sx
open Go Go.ChangeShapes Go.WideShapes Go.RowKit Go.Proofs
section
variable {H : Type} {enc : TypeId × Value → H} {W : World} {base : Nat} {held : Bool}
theorem cmd_field {cs : List Value} (h : Came enc Try.prog W base held 28 cs) {j : Nat} {t : TypeId} {o : Nat} (hj : [((5 : TypeId), 0), (5, 1), (24, 2), (25, 3), (26, 4)][j]? = some (t, o)) : Came enc Try.prog W base held t ((cs.drop o).take (Try.prog.cellsOf t)) := by
  have hu : Try.prog.underlying 28 = some (.struct (Try.prog.fieldsOf 28)) := by kernel_rfl
  have hfs : (Try.prog.fieldsOf 28).toList.map (fun f => (f.type, f.offset)) = [(5, 0), (5, 1), (24, 2), (25, 3), (26, 4)] := by kernel_rfl
  obtain ⟨_, h2⟩ := came_struct hu h
  rw [← hfs, List.getElem?_map, Option.map_eq_some_iff] at hj
  obtain ⟨f, hf, he⟩ := hj
  rw [Array.getElem?_toList] at hf
  have h3 := h2 j f hf
  cases he
  exact h3
theorem came_cmd {cs : List Value} (h : Came enc Try.prog W base held 28 cs) (hl : cs.length = 20) : ∃ x : Cmd, cs = cmdC x ∧ x.m.length = 16 := by
  have f0 := cmd_field h (j := 0) rfl
  have f1 := cmd_field h (j := 1) rfl
  have f2 := cmd_field h (j := 2) rfl
  have f3 := cmd_field h (j := 3) rfl
  have f4 := cmd_field h (j := 4) rfl
  rw [show Try.prog.cellsOf 5 = 1 from by kernel_rfl] at f0 f1
  rw [show Try.prog.cellsOf 24 = 1 from by kernel_rfl] at f2
  rw [show Try.prog.cellsOf 25 = 1 from by kernel_rfl] at f3
  rw [show Try.prog.cellsOf 26 = 16 from by kernel_rfl] at f4
  obtain ⟨z0, e0, w0⟩ := came_int (Try.underlying5) f0
  obtain ⟨z1, e1, w1⟩ := came_int (Try.underlying5) f1
  obtain ⟨z2, e2, w2⟩ := came_int (Try.underlying24) f2
  obtain ⟨z3, e3, w3⟩ := came_int (Try.underlying25) f3
  obtain ⟨zs, hz, e4, w4⟩ := came_nums (Try.underlying26) (Try.underlying5) (by kernel_rfl) (by kernel_rfl) f4
  have e5 : zs.map (Value.int .u8) = bs (zs.map (BitVec.ofInt 8)) := by
    unfold bs
    rw [List.map_map]
    exact List.map_congr_left fun z hz => b8_of z (wf_u8 (w4 z hz))
  have hc : cs = (cs.drop 0).take 1 ++ ((cs.drop 1).take 1 ++ ((cs.drop 2).take 1 ++ ((cs.drop 3).take 1 ++ (cs.drop 4).take 16))) := by
    match cs, hl with
    | [a0, a1, a2, a3, a4, a5, a6, a7, a8, a9, a10, a11, a12, a13, a14, a15, a16, a17, a18, a19], _ => rfl
  refine ⟨⟨BitVec.ofInt 8 z0, BitVec.ofInt 8 z1, BitVec.ofInt 32 z2, BitVec.ofInt 64 z3, zs.map (BitVec.ofInt 8)⟩, ?_, by simpa using hz⟩
  rw [hc, e0, e1, e2, e3, e4, e5, b8_of z0 (wf_u8 w0), b8_of z1 (wf_u8 w1), b32_of z2 (wf_u32 w2), b64_of z3 (wf_u64 w3)]
  rfl
theorem cmds_of {css : List (List Value)} (hc : ∀ v ∈ css, v.length = Try.prog.cellsOf 28 ∧ Came enc Try.prog W base held 28 v) : ∃ cs : List Cmd, css = cs.map cmdC ∧ ∀ x ∈ cs, x.m.length = 16 := by
  induction css with
  | nil => exact ⟨[], rfl, fun _ h => by simp at h⟩
  | cons v r ih =>
    obtain ⟨cs, rfl, h⟩ := ih (fun u hu => hc u (List.mem_cons_of_mem _ hu))
    obtain ⟨h1, h2⟩ := hc v (by simp)
    obtain ⟨x, rfl, hx⟩ := came_cmd h2 (by rw [h1]; kernel_rfl)
    exact ⟨x :: cs, rfl, fun y hy => (List.mem_cons.1 hy).elim (fun e => by rw [e]; exact hx) (h y)⟩
end
end Go.Sx

/-
  CommandPaths: the statement, joined from the contract and the row's frame. No condition.
-/
import Derived.Test.YtbnfocnhmpegjaaRows
import Derived.Test.YtbnfocnhmpegjaaCmdLawHops
import Derived.Test.YtbnfocnhmpegjaaCommandPaths
set_option linter.unusedVariables false
set_option linter.unusedSimpArgs false
namespace Go.Proofs.Ytbnfocnhmpegjaa.commandPaths
open Go Go.Sx Go.ChangeShapes Go.WideShapes Go.ChangeAt Go.RowKit
open Go.ChangeMaps (open_string shut_string)
theorem own : ownKnob Try.prog.godebug = none := by kernel_rfl
theorem laidOut : laidOutB Try.prog = true := by kernel_rfl
set_option maxRecDepth 100000 in
theorem lifted (os : Os) (started : os.Started) (H : Type) (enc : TypeId × Value → H) :
    ReturnsInHanded {} Try.checked os 4 .any (Rows.commandPathsSpec.pre6 enc Try.prog Try.f4 Rows.commandPathsRow.domain false) (Rows.commandPathsSpec.post enc Try.prog Try.f4 false true false false) := by
  refine returnsInHanded_of_change_sized (C := Try.checked) own started (by kernel_rfl) Try.func4
    (ChangeSpec.witness6 (enc := enc) (C := Try.checked) false ⟨#[], #[.agg #[.int .u8 0, .int .u8 0, .int .u32 0, .int .u64 0, .int .u8 0, .int .u8 0, .int .u8 0, .int .u8 0, .int .u8 0, .int .u8 0, .int .u8 0, .int .u8 0, .int .u8 0, .int .u8 0, .int .u8 0, .int .u8 0, .int .u8 0, .int .u8 0, .int .u8 0, .int .u8 0], .slice none 0 0], []⟩ 8 (by kernel_rfl) (by kernel_rfl) (by kernel_rfl) (by kernel_rfl)) ?_
  intro W base args ds gs before hval0 hW hcnd hsz _
  have hval : ∀ (j : Nat) t v, Try.f4.params[j]? = some t → args[j]? = some v → Value.okWide Try.prog W .any base t v := hval0
  have hW' := hW
  obtain ⟨p, q, hA0, hV, rfl, hfz, hnd⟩ := hW
  have hA : DataW.TrodAll enc Try.prog W 0 (fun _ => true) true Try.f4.params.toList args.toList ds p := hA0
  rw [Try.params4] at hA hval
  obtain ⟨v0, vs0, d0, ds0, pp0, qq0, hargs, rfl, rfl, k0, r0⟩ := trodAll_cons hA
  obtain ⟨v1, vs1, d1, ds1, pp1, qq1, rfl, rfl, rfl, k1, r1⟩ := trodAll_cons r0
  obtain ⟨rfl, rfl, rfl⟩ := trodAll_nil r1
  obtain rfl : args = #[v0, v1] := by cases args; simp_all
  obtain ⟨rfl, rfl⟩ := trodVars_none hV
  have lt0 : ∀ x ∈ pp0, x.block < W.heap.size := by obtain ⟨m, hm⟩ := k0; exact DataW.trod_lt m _ _ _ hm
  have li0 : Light Try.prog 28 d0 := light_of (j := 0) hsz rfl rfl
  have ok0 := hval 0 28 v0 rfl rfl
  obtain ⟨cs0, rfl, hsz0⟩ := okWide_struct (show Try.prog.underlying 28 = some (.struct (Try.prog.fieldsOf 28)) from by kernel_rfl) ok0
  rw [show Try.prog.cellsOf 28 = 20 from by kernel_rfl] at hsz0
  obtain ⟨x0, hx0, h16_0⟩ := came_cmd (came k0 li0) (show cs0.toList.length = 20 by rw [Array.length_toList]; exact hsz0)
  have hq0 : Value.agg cs0 = .agg (cmdC x0).toArray := by
    congr 1
    apply Array.ext'
    exact hx0
  have lt1 : ∀ x ∈ pp1, x.block < W.heap.size := by obtain ⟨m, hm⟩ := k1; exact DataW.trod_lt m _ _ _ hm
  have li1 : Light Try.prog 35 d1 := light_of (j := 1) hsz rfl rfl
  have ok1 := hval 1 35 v1 rfl rfl
  obtain ⟨p1, n1, c1, css1, rfl, hr1, hlen1, hbig1, hmax1, hle1, hc1⟩ := came_slice Try.underlying35 (by rw [show Try.prog.cellsOf 73 = 68 from by kernel_rfl]; omega) ok1 (came k1 li1)
  obtain ⟨hs1, rfl, hok1⟩ := hops_of hc1
  rw [List.length_map] at hlen1
  rw [show Try.prog.bytesOf 73 = 104 from by kernel_rfl] at hbig1
  have hc0 := CommandPaths_spec W x0 h16_0 c1 hr1 hlen1 hok1 (by omega)
  rw [← hq0] at hc0
  refine Calls.mono hc0 fun e W' ⟨_, _, he, hg⟩ => ?_
  subst he
  have bel := Grows.belowAll hg
  exact ⟨_, rfl, _, _, _, [], _, [], hW', trodAll_mk1 (shut_bool Try.underlying4 _), (trodAll_cons_mk (Below.trod laidOut (by kernel_rfl) (of_decide_eq_true (by kernel_rfl)) k0 bel lt0) (trodAll_cons_mk (Below.trod laidOut (by kernel_rfl) (of_decide_eq_true (by kernel_rfl)) k1 bel lt1) trodAll_mk0)), rfl, bel.frame _, fun h => by cases h⟩

theorem over : Rows.commandPathsRow.holds Try.pinned (OpenSpec.ofChange Rows.commandPathsSpec) :=
  OpenClaim.holds_of_wide 4 Try.f4 rfl rfl rfl rfl rfl rfl rfl ⟨rfl, rfl, rfl, rfl, rfl⟩ rfl rfl rfl rfl rfl (by kernel_rfl) Try.func4 (by kernel_rfl)
    (of_decide_eq_true (by kernel_rfl)) (by unfold Func.isWrapper; first | (rw [if_pos (by decide +kernel)]; kernel_rfl) | (rw [if_neg (by decide +kernel)]; exact ⟨rfl, rfl⟩))
    (fun os started H enc _ => lifted os started H enc)

/-- The statement. -/
theorem proved : Rows.CommandPathsSaid := over
#print axioms proved
end Go.Proofs.Ytbnfocnhmpegjaa.commandPaths

/-
  FieldLaws: the statement, joined from the contract and the row's frame. No condition.
-/
import Derived.Test.YtckfeakolpjleaaRows
import Derived.Test.YtckfeakolpjleaaSxLaw
import Derived.Test.YtckfeakolpjleaaFieldLaws
set_option linter.unusedVariables false
set_option linter.unusedSimpArgs false
namespace Go.Proofs.Ytckfeakolpjleaa.fieldLaws
open Go Go.Sx Go.ChangeShapes Go.WideShapes Go.ChangeAt Go.RowKit
open Go.ChangeMaps (open_string shut_string)
theorem own : ownKnob Try.prog.godebug = none := by kernel_rfl
theorem laidOut : laidOutB Try.prog = true := by kernel_rfl
set_option maxRecDepth 100000 in
theorem lifted (os : Os) (started : os.Started) (H : Type) (enc : TypeId × Value → H) :
    ReturnsInHanded {} Try.checked os 9 .any (Rows.fieldLawsSpec.pre6 enc Try.prog Try.f9 Rows.fieldLawsRow.domain false) (Rows.fieldLawsSpec.post enc Try.prog Try.f9 false true false false) := by
  refine returnsInHanded_of_change_sized (C := Try.checked) own started (by kernel_rfl) Try.func9
    (ChangeSpec.witness6 (enc := enc) (C := Try.checked) false ⟨#[], #[.agg (List.replicate 4 (.int .u64 0)).toArray, .agg (List.replicate 4 (.int .u64 0)).toArray, .agg (List.replicate 4 (.int .u64 0)).toArray], []⟩ 8 (by kernel_rfl) (by kernel_rfl) (by kernel_rfl) (by kernel_rfl)) ?_
  intro W base args ds gs before hval0 hW hcnd hsz _
  have hval : ∀ (j : Nat) t v, Try.f9.params[j]? = some t → args[j]? = some v → Value.okWide Try.prog W .any base t v := hval0
  have hW' := hW
  obtain ⟨p, q, hA0, hV, rfl, hfz, hnd⟩ := hW
  have hA : DataW.TrodAll enc Try.prog W 0 (fun _ => true) true Try.f9.params.toList args.toList ds p := hA0
  rw [Try.params9] at hA hval
  obtain ⟨v0, vs0, d0, ds0, pp0, qq0, hargs, rfl, rfl, k0, r0⟩ := trodAll_cons hA
  obtain ⟨v1, vs1, d1, ds1, pp1, qq1, rfl, rfl, rfl, k1, r1⟩ := trodAll_cons r0
  obtain ⟨v2, vs2, d2, ds2, pp2, qq2, rfl, rfl, rfl, k2, r2⟩ := trodAll_cons r1
  obtain ⟨rfl, rfl, rfl⟩ := trodAll_nil r2
  obtain rfl : args = #[v0, v1, v2] := by cases args; simp_all
  obtain ⟨rfl, rfl⟩ := trodVars_none hV
  have lt0 : ∀ x ∈ pp0, x.block < W.heap.size := by obtain ⟨m, hm⟩ := k0; exact DataW.trod_lt m _ _ _ hm
  have li0 : Light Try.prog 24 d0 := light_of (j := 0) hsz rfl rfl
  have ok0 := hval 0 24 v0 rfl rfl
  obtain ⟨cs0, rfl⟩ := okWide_arr Try.underlying24 ok0
  obtain ⟨zs0, hz0, hcs0, hw0⟩ := came_nums Try.underlying24 Try.underlying22 (by kernel_rfl) (by kernel_rfl) (came k0 li0)
  have hq0 : Value.agg cs0 = .agg ((zs0.map (BitVec.ofInt 64)).map b64).toArray := by
    congr 1
    apply Array.ext'
    rw [show cs0.toList = zs0.map (Value.int .u64) from hcs0, List.map_map]
    exact List.map_congr_left fun z hz => b64_of z (wf_u64 (hw0 z hz))
  have hql0 : (zs0.map (BitVec.ofInt 64)).length = 4 := by simpa using hz0
  generalize zs0.map (BitVec.ofInt 64) = q0 at hq0 hql0
  have lt1 : ∀ x ∈ pp1, x.block < W.heap.size := by obtain ⟨m, hm⟩ := k1; exact DataW.trod_lt m _ _ _ hm
  have li1 : Light Try.prog 24 d1 := light_of (j := 1) hsz rfl rfl
  have ok1 := hval 1 24 v1 rfl rfl
  obtain ⟨cs1, rfl⟩ := okWide_arr Try.underlying24 ok1
  obtain ⟨zs1, hz1, hcs1, hw1⟩ := came_nums Try.underlying24 Try.underlying22 (by kernel_rfl) (by kernel_rfl) (came k1 li1)
  have hq1 : Value.agg cs1 = .agg ((zs1.map (BitVec.ofInt 64)).map b64).toArray := by
    congr 1
    apply Array.ext'
    rw [show cs1.toList = zs1.map (Value.int .u64) from hcs1, List.map_map]
    exact List.map_congr_left fun z hz => b64_of z (wf_u64 (hw1 z hz))
  have hql1 : (zs1.map (BitVec.ofInt 64)).length = 4 := by simpa using hz1
  generalize zs1.map (BitVec.ofInt 64) = q1 at hq1 hql1
  have lt2 : ∀ x ∈ pp2, x.block < W.heap.size := by obtain ⟨m, hm⟩ := k2; exact DataW.trod_lt m _ _ _ hm
  have li2 : Light Try.prog 24 d2 := light_of (j := 2) hsz rfl rfl
  have ok2 := hval 2 24 v2 rfl rfl
  obtain ⟨cs2, rfl⟩ := okWide_arr Try.underlying24 ok2
  obtain ⟨zs2, hz2, hcs2, hw2⟩ := came_nums Try.underlying24 Try.underlying22 (by kernel_rfl) (by kernel_rfl) (came k2 li2)
  have hq2 : Value.agg cs2 = .agg ((zs2.map (BitVec.ofInt 64)).map b64).toArray := by
    congr 1
    apply Array.ext'
    rw [show cs2.toList = zs2.map (Value.int .u64) from hcs2, List.map_map]
    exact List.map_congr_left fun z hz => b64_of z (wf_u64 (hw2 z hz))
  have hql2 : (zs2.map (BitVec.ofInt 64)).length = 4 := by simpa using hz2
  generalize zs2.map (BitVec.ofInt 64) = q2 at hq2 hql2
  have hc0 := FieldLaws_spec W hql0 hql1 hql2
  try unfold ws at hc0
  try unfold bs at hc0
  try unfold qs at hc0
  rw [← hq0, ← hq1, ← hq2] at hc0
  refine Calls.mono hc0 fun e W' ⟨_, _, he, hg⟩ => ?_
  subst he
  have bel := Grows.belowAll hg
  exact ⟨_, rfl, _, _, _, [], _, [], hW', trodAll_mk1 (shut_bool Try.underlying4 _), (trodAll_cons_mk (Below.trod laidOut (by kernel_rfl) (of_decide_eq_true (by kernel_rfl)) k0 bel lt0) (trodAll_cons_mk (Below.trod laidOut (by kernel_rfl) (of_decide_eq_true (by kernel_rfl)) k1 bel lt1) (trodAll_cons_mk (Below.trod laidOut (by kernel_rfl) (of_decide_eq_true (by kernel_rfl)) k2 bel lt2) trodAll_mk0))), rfl, bel.frame _, fun h => by cases h⟩

theorem over : Rows.fieldLawsRow.holds Try.pinned (OpenSpec.ofChange Rows.fieldLawsSpec) :=
  OpenClaim.holds_of_wide 9 Try.f9 rfl rfl rfl rfl rfl rfl rfl ⟨rfl, rfl, rfl, rfl, rfl⟩ rfl rfl rfl rfl rfl (by kernel_rfl) Try.func9 (by kernel_rfl)
    (of_decide_eq_true (by kernel_rfl)) (by unfold Func.isWrapper; first | (rw [if_pos (by decide +kernel)]; kernel_rfl) | (rw [if_neg (by decide +kernel)]; exact ⟨rfl, rfl⟩))
    (fun os started H enc _ => lifted os started H enc)

/-- The statement. -/
theorem proved : Rows.FieldLawsSaid := over
#print axioms proved
end Go.Proofs.Ytckfeakolpjleaa.fieldLaws

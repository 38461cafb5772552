import Derived.Test.YtigcogjilfnpcaaRows
import Derived.Test.YtigcogjilfnpcaaSxLaw
import Derived.Test.YtigcogjilfnpcaaShallotTags
set_option linter.unusedVariables false
set_option linter.unusedSimpArgs false
/-
  ShallotTags: the statement, joined from the contract and the row's frame. No condition.
-/
namespace Go.Proofs.Ytigcogjilfnpcaa.shallotTags
open Go Go.Sx Go.ChangeShapes Go.WideShapes Go.ChangeAt Go.RowKit
open Go.ChangeMaps (open_string shut_string)
theorem own : ownKnob Try.prog.godebug = none := by kernel_rfl
theorem laidOut : laidOutB Try.prog = true := by kernel_rfl
set_option maxRecDepth 100000 in
theorem lifted (os : Os) (started : os.Started) (H : Type) (enc : TypeId × Value → H) :
    ReturnsInHanded {} Try.checked os 4 .any (Rows.shallotTagsSpec.pre6 enc Try.prog Try.f4 Rows.shallotTagsRow.domain false) (Rows.shallotTagsSpec.post enc Try.prog Try.f4 false true false false) := by
  refine returnsInHanded_of_change_sized (C := Try.checked) own started (by kernel_rfl) Try.func4
    (ChangeSpec.witness6 (enc := enc) (C := Try.checked) false ⟨#[], #[.slice none 0 0, .slice none 0 0, .int .i64 0], []⟩ 8 (by kernel_rfl) (by kernel_rfl) (by kernel_rfl) (by kernel_rfl)) ?_
  intro W base args ds gs before hval0 hW hcnd hsz _
  have hval : ∀ (j : Nat) t v, Try.f4.params[j]? = some t → args[j]? = some v → Value.okWide Try.prog W .any base t v := hval0
  have hW' := hW
  obtain ⟨p, q, hA0, hV, rfl, hfz, hnd⟩ := hW
  have hA : DataW.TrodAll enc Try.prog W 0 (fun _ => true) true Try.f4.params.toList args.toList ds p := hA0
  rw [Try.params4] at hA hval
  obtain ⟨v0, vs0, d0, ds0, pp0, qq0, hargs, rfl, rfl, k0, r0⟩ := trodAll_cons hA
  obtain ⟨v1, vs1, d1, ds1, pp1, qq1, rfl, rfl, rfl, k1, r1⟩ := trodAll_cons r0
  obtain ⟨v2, vs2, d2, ds2, pp2, qq2, rfl, rfl, rfl, k2, r2⟩ := trodAll_cons r1
  obtain ⟨rfl, rfl, rfl⟩ := trodAll_nil r2
  obtain rfl : args = #[v0, v1, v2] := by cases args; simp_all
  obtain ⟨rfl, rfl⟩ := trodVars_none hV
  have lt0 : ∀ x ∈ pp0, x.block < W.heap.size := by obtain ⟨m, hm⟩ := k0; exact DataW.trod_lt m _ _ _ hm
  have li0 : Light Try.prog 26 d0 := light_of (j := 0) hsz rfl rfl
  have ok0 := hval 0 26 v0 rfl rfl
  obtain ⟨p0, n0, c0, l0, rfl, hr0, hn0, hbig0, hle0⟩ := came_bytes Try.underlying26 Try.underlying5 (by kernel_rfl) (by kernel_rfl) ok0 (came k0 li0)
  have lt1 : ∀ x ∈ pp1, x.block < W.heap.size := by obtain ⟨m, hm⟩ := k1; exact DataW.trod_lt m _ _ _ hm
  have li1 : Light Try.prog 26 d1 := light_of (j := 1) hsz rfl rfl
  have ok1 := hval 1 26 v1 rfl rfl
  obtain ⟨p1, n1, c1, l1, rfl, hr1, hn1, hbig1, hle1⟩ := came_bytes Try.underlying26 Try.underlying5 (by kernel_rfl) (by kernel_rfl) ok1 (came k1 li1)
  have lt2 : ∀ x ∈ pp2, x.block < W.heap.size := by obtain ⟨m, hm⟩ := k2; exact DataW.trod_lt m _ _ _ hm
  have li2 : Light Try.prog 3 d2 := light_of (j := 2) hsz rfl rfl
  have ok2 := hval 2 3 v2 rfl rfl
  have op2 := open_int Try.underlying3 ok2 k2
  obtain ⟨a2, rfl, _, _, wf2⟩ := op2
  have hc0 := ShallotTags_spec W c0 c1 a2 ⟨hr0, hn0, by omega⟩ ⟨hr1, hn1, by omega⟩ (by omega) hle1
  refine Calls.mono hc0 fun e W' ⟨_, _, he, hg⟩ => ?_
  subst he
  have bel := Grows.belowAll hg
  exact ⟨_, rfl, _, _, _, [], _, [], hW', trodAll_mk1 (shut_bool Try.underlying4 _), (trodAll_cons_mk (Below.trod laidOut (by kernel_rfl) (of_decide_eq_true (by kernel_rfl)) k0 bel lt0) (trodAll_cons_mk (Below.trod laidOut (by kernel_rfl) (of_decide_eq_true (by kernel_rfl)) k1 bel lt1) (trodAll_cons_mk (Below.trod laidOut (by kernel_rfl) (of_decide_eq_true (by kernel_rfl)) k2 bel lt2) trodAll_mk0))), rfl, bel.frame _, fun h => by cases h⟩

theorem over : Rows.shallotTagsRow.holds Try.pinned (OpenSpec.ofChange Rows.shallotTagsSpec) :=
  OpenClaim.holds_of_wide 4 Try.f4 rfl rfl rfl rfl rfl rfl rfl ⟨rfl, rfl, rfl, rfl, rfl⟩ rfl rfl rfl rfl rfl (by kernel_rfl) Try.func4 (by kernel_rfl)
    (of_decide_eq_true (by kernel_rfl)) (by unfold Func.isWrapper; first | (rw [if_pos (by decide +kernel)]; kernel_rfl) | (rw [if_neg (by decide +kernel)]; exact ⟨rfl, rfl⟩))
    (fun os started H enc _ => lifted os started H enc)

/-- The statement. -/
theorem proved : Rows.ShallotTagsSaid := over
#print axioms proved
end Go.Proofs.Ytigcogjilfnpcaa.shallotTags

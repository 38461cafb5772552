import Derived.Test.YtfbcmndhjoebbaaRows
import Derived.Test.YtfbcmndhjoebbaaZdXU
import Derived.Test.YtfbcmndhjoebbaaZdDirMakes
set_option linter.unusedVariables false
set_option linter.unusedSimpArgs false
/-
  DirMakes: the statement with the bulk bound, joined from the contract and the row's frame. No condition but the bound.
-/
namespace Go.Proofs.Ytfbcmndhjoebbaa.dirMakes
open Go Go.Sx Go.ChangeShapes Go.WideShapes Go.ChangeAt Go.RowKit
open Go.ChangeMaps (open_string shut_string)
theorem own : ownKnob Try.prog.godebug = none := by kernel_rfl
theorem laidOut : laidOutB Try.prog = true := by kernel_rfl
set_option maxRecDepth 100000 in
theorem lifted (os : Os) (started : os.Started) (H : Type) (enc : TypeId × Value → H) (F : Stop.Interp) :
    ReturnsInHanded {} Try.checked os 4 .any ((Rows.OpenSpec.upto Rows.dirMakesSpec).pre6 enc Try.prog Try.f4 Rows.dirMakesUptoRow.domain false) (((Rows.OpenSpec.upto Rows.dirMakesSpec).at F).post enc Try.prog Try.f4 false true false false) := by
  refine returnsInHanded_of_cond_sized (C := Try.checked) (s := Rows.OpenSpec.upto Rows.dirMakesSpec) (k := Rows.uptoSmall) rfl own started (by kernel_rfl) Try.func4
    (OpenSpec.witness (enc := enc) (C := Try.checked) (s := Rows.OpenSpec.upto Rows.dirMakesSpec) (k := Rows.uptoSmall) rfl false ⟨#[], #[.slice none 0 0, .slice none 0 0], []⟩ 8 (by kernel_rfl) (by kernel_rfl) (by kernel_rfl)
      (x := ([.nil, .nil], [], [])) (by kernel_rfl) rfl (by kernel_rfl)) ?_
  intro W base args ds gs before hval0 hW hcnd hk hsz _
  have hval : ∀ (j : Nat) t v, Try.f4.params[j]? = some t → args[j]? = some v → Value.okWide Try.prog W .any base t v := hval0
  have hW' := hW
  obtain ⟨p, q, hA0, hV, rfl, hfz, hnd⟩ := hW
  have hA : DataW.TrodAll enc Try.prog W 0 (fun _ => true) true Try.f4.params.toList args.toList ds p := hA0
  rw [Try.params4] at hA hval
  obtain ⟨v0, vs0, d0, ds0, pp0, qq0, hargs, rfl, rfl, k0, r0⟩ := trodAll_cons hA
  obtain ⟨v1, vs1, d1, ds1, pp1, qq1, rfl, rfl, rfl, k1, r1⟩ := trodAll_cons r0
  obtain ⟨rfl, rfl, rfl⟩ := trodAll_nil r1
  obtain rfl : args = #[v0, v1] := by cases args; simp_all
  obtain ⟨rfl, rfl⟩ := trodVars_none hV
  have lt0 : ∀ x ∈ pp0, x.block < W.heap.size := by obtain ⟨m, hm⟩ := k0; exact DataW.trod_lt m _ _ _ hm
  have li0 : Light Try.prog 33 d0 := light_of (j := 0) hsz rfl rfl
  have ok0 := hval 0 33 v0 rfl rfl
  have cb0 := cameB k0 li0 (bulk_of hk (by simp))
  obtain ⟨p0, n0, c0, l0, rfl, hr0, hn0, hbig0, hle0, hup0⟩ := cameB_bytes Try.underlying33 Try.underlying5 (by kernel_rfl) (by kernel_rfl) ok0 cb0
  have lt1 : ∀ x ∈ pp1, x.block < W.heap.size := by obtain ⟨m, hm⟩ := k1; exact DataW.trod_lt m _ _ _ hm
  have li1 : Light Try.prog 34 d1 := light_of (j := 1) hsz rfl rfl
  have ok1 := hval 1 34 v1 rfl rfl
  have cb1 := cameB k1 li1 (bulk_of hk (by simp))
  obtain ⟨p1, n1, c1, ss1, rfl, hr1, hn1, hle1, hup1, hsz1⟩ := cameB_strs Try.underlying34 Try.underlying9 (by kernel_rfl) ok1 cb1
  have hc0 := DirMakes_spec W c0 c1 ⟨hr0, hn0, by omega⟩ hr1 hn1 (by omega) (by omega) hle1
  refine Calls.mono hc0 fun e W' ⟨_, _, he, hg⟩ => ?_
  subst he
  have bel := Grows.belowAll hg
  exact ⟨_, rfl, _, _, _, [], _, [], hW', trodAll_mk1 (shut_bool Try.underlying4 _), (trodAll_cons_mk (Below.trod laidOut (by kernel_rfl) (of_decide_eq_true (by kernel_rfl)) k0 bel lt0) (trodAll_cons_mk (Below.trod laidOut (by kernel_rfl) (of_decide_eq_true (by kernel_rfl)) k1 bel lt1) trodAll_mk0)), rfl, bel.frame _, fun h => by cases h⟩

theorem over : Rows.dirMakesUptoRow.holds Try.pinned (Rows.OpenSpec.upto Rows.dirMakesSpec) :=
  OpenClaim.holds_of_cond 4 Try.f4 rfl rfl rfl rfl rfl rfl rfl ⟨rfl, rfl, rfl, rfl, rfl⟩ rfl rfl rfl rfl rfl (by kernel_rfl) Try.func4 (by kernel_rfl)
    (of_decide_eq_true (by kernel_rfl)) (by unfold Func.isWrapper; first | (rw [if_pos (by decide +kernel)]; kernel_rfl) | (rw [if_neg (by decide +kernel)]; exact ⟨rfl, rfl⟩))
    (fun os started H enc _ F => lifted os started H enc F)

/-- The statement. -/
theorem proved : Rows.DirMakesUptoSaid := over
#print axioms proved
end Go.Proofs.Ytfbcmndhjoebbaa.dirMakes

import Derived.Test.YtfbcmndhjoebbaaRows
import Derived.Test.YtfbcmndhjoebbaaZdDirLaw
import Derived.Test.YtfbcmndhjoebbaaZdDirFinds
set_option linter.unusedVariables false
set_option linter.unusedSimpArgs false
/-
  DirFinds: the statement, joined from the contract and the row's frame. No condition.
-/
namespace Go.Proofs.Ytfbcmndhjoebbaa.dirFinds
open Go Go.Sx Go.ChangeShapes Go.WideShapes Go.ChangeAt Go.RowKit
open Go.ChangeMaps (open_string shut_string)
theorem own : ownKnob Try.prog.godebug = none := by kernel_rfl
theorem laidOut : laidOutB Try.prog = true := by kernel_rfl
set_option maxRecDepth 100000 in
theorem lifted (os : Os) (started : os.Started) (H : Type) (enc : TypeId × Value → H) :
    ReturnsInHanded {} Try.checked os 5 .any (Rows.dirFindsSpec.pre6 enc Try.prog Try.f5 Rows.dirFindsRow.domain false) (Rows.dirFindsSpec.post enc Try.prog Try.f5 false true false false) := by
  refine returnsInHanded_of_change_sized (C := Try.checked) own started (by kernel_rfl) Try.func5
    (ChangeSpec.witness6 (enc := enc) (C := Try.checked) false ⟨#[], #[.slice none 0 0, .string (ByteArray.mk #[]), .int .u64 0], []⟩ 8 (by kernel_rfl) (by kernel_rfl) (by kernel_rfl) (by kernel_rfl)) ?_
  intro W base args ds gs before hval0 hW hcnd hsz _
  have hval : ∀ (j : Nat) t v, Try.f5.params[j]? = some t → args[j]? = some v → Value.okWide Try.prog W .any base t v := hval0
  have hW' := hW
  obtain ⟨p, q, hA0, hV, rfl, hfz, hnd⟩ := hW
  have hA : DataW.TrodAll enc Try.prog W 0 (fun _ => true) true Try.f5.params.toList args.toList ds p := hA0
  rw [Try.params5] at hA hval
  obtain ⟨v0, vs0, d0, ds0, pp0, qq0, hargs, rfl, rfl, k0, r0⟩ := trodAll_cons hA
  obtain ⟨v1, vs1, d1, ds1, pp1, qq1, rfl, rfl, rfl, k1, r1⟩ := trodAll_cons r0
  obtain ⟨v2, vs2, d2, ds2, pp2, qq2, rfl, rfl, rfl, k2, r2⟩ := trodAll_cons r1
  obtain ⟨rfl, rfl, rfl⟩ := trodAll_nil r2
  obtain rfl : args = #[v0, v1, v2] := by cases args; simp_all
  obtain ⟨rfl, rfl⟩ := trodVars_none hV
  have lt0 : ∀ x ∈ pp0, x.block < W.heap.size := by obtain ⟨m, hm⟩ := k0; exact DataW.trod_lt m _ _ _ hm
  have li0 : Light Try.prog 22 d0 := light_of (j := 0) hsz rfl rfl
  have ok0 := hval 0 22 v0 rfl rfl
  obtain ⟨p0, n0, c0, css0, rfl, hr0, hlen0, hbig0, hmax0, hle0, hc0⟩ := came_slice Try.underlying22 (by rw [show Try.prog.cellsOf 45 = 66 from by kernel_rfl]; omega) ok0 (came k0 li0)
  obtain ⟨hs0, rfl, hok0⟩ := nodes_of hc0
  rw [List.length_map] at hlen0
  rw [show Try.prog.bytesOf 45 = 88 from by kernel_rfl] at hbig0
  have lt1 : ∀ x ∈ pp1, x.block < W.heap.size := by obtain ⟨m, hm⟩ := k1; exact DataW.trod_lt m _ _ _ hm
  have li1 : Light Try.prog 9 d1 := light_of (j := 1) hsz rfl rfl
  have ok1 := hval 1 9 v1 rfl rfl
  obtain ⟨s1, rfl, _, _, wf1⟩ := open_string Try.underlying9 ok1 k1
  have lt2 : ∀ x ∈ pp2, x.block < W.heap.size := by obtain ⟨m, hm⟩ := k2; exact DataW.trod_lt m _ _ _ hm
  have li2 : Light Try.prog 42 d2 := light_of (j := 2) hsz rfl rfl
  have ok2 := hval 2 42 v2 rfl rfl
  have op2 := open_int Try.underlying42 ok2 k2
  obtain ⟨a2, rfl, _, _, wf2⟩ := op2
  have e2 : Value.int .u64 a2 = b64 (BitVec.ofInt 64 a2) := b64_of a2 (wf_u64 wf2)
  have hc0 := DirFinds_spec W c0 s1 (BitVec.ofInt 64 a2) hr0 hlen0 hok0 (by omega)
  rw [← e2] at hc0
  refine Calls.mono hc0 fun e W' ⟨_, _, he, hg⟩ => ?_
  subst he
  have bel := Grows.belowAll hg
  exact ⟨_, rfl, _, _, _, [], _, [], hW', trodAll_mk1 (shut_bool Try.underlying4 _), (trodAll_cons_mk (Below.trod laidOut (by kernel_rfl) (of_decide_eq_true (by kernel_rfl)) k0 bel lt0) (trodAll_cons_mk (Below.trod laidOut (by kernel_rfl) (of_decide_eq_true (by kernel_rfl)) k1 bel lt1) (trodAll_cons_mk (Below.trod laidOut (by kernel_rfl) (of_decide_eq_true (by kernel_rfl)) k2 bel lt2) trodAll_mk0))), rfl, bel.frame _, fun h => by cases h⟩

theorem over : Rows.dirFindsRow.holds Try.pinned (OpenSpec.ofChange Rows.dirFindsSpec) :=
  OpenClaim.holds_of_wide 5 Try.f5 rfl rfl rfl rfl rfl rfl rfl ⟨rfl, rfl, rfl, rfl, rfl⟩ rfl rfl rfl rfl rfl (by kernel_rfl) Try.func5 (by kernel_rfl)
    (of_decide_eq_true (by kernel_rfl)) (by unfold Func.isWrapper; first | (rw [if_pos (by decide +kernel)]; kernel_rfl) | (rw [if_neg (by decide +kernel)]; exact ⟨rfl, rfl⟩))
    (fun os started H enc _ => lifted os started H enc)

/-- The statement. -/
theorem proved : Rows.DirFindsSaid := over
#print axioms proved
end Go.Proofs.Ytfbcmndhjoebbaa.dirFinds

import Derived.Test.YtkonbclggbcffaaGreatRows
import Derived.Test.YtkonbclggbcffaaGreatZcSxLaw
import Derived.Test.YtkonbclggbcffaaGreatZcKeysKeeps
set_option linter.unusedVariables false
set_option linter.unusedSimpArgs false
/-
  KeysKeeps: the statement, joined from the contract and the row's frame. No condition.
-/
namespace Go.Proofs.YtkonbclggbcffaaGreat.keysKeeps
open Go Go.Sx Go.ChangeShapes Go.WideShapes Go.ChangeAt Go.RowKit
open Go.ChangeMaps (open_string shut_string)
theorem own : ownKnob Tryz.prog.godebug = none := by kernel_rfl
theorem laidOut : laidOutB Tryz.prog = true := by kernel_rfl
set_option maxRecDepth 100000 in
theorem lifted (os : Os) (started : os.Started) (H : Type) (enc : TypeId × Value → H) :
    ReturnsInHanded {} Tryz.checked os 5 .any (Rows.keysKeepsSpec.pre6 enc Tryz.prog Tryz.f5 Rows.keysKeepsRow.domain false) (Rows.keysKeepsSpec.post enc Tryz.prog Tryz.f5 false true false false) := by
  refine returnsInHanded_of_change_sized (C := Tryz.checked) own started (by kernel_rfl) Tryz.func5
    (ChangeSpec.witness6 (enc := enc) (C := Tryz.checked) false ⟨#[], #[.slice none 0 0, .slice none 0 0], []⟩ 8 (by kernel_rfl) (by kernel_rfl) (by kernel_rfl) (by kernel_rfl)) ?_
  intro W base args ds gs before hval0 hW hcnd hsz _
  have hval : ∀ (j : Nat) t v, Tryz.f5.params[j]? = some t → args[j]? = some v → Value.okWide Tryz.prog W .any base t v := hval0
  have hW' := hW
  obtain ⟨p, q, hA0, hV, rfl, hfz, hnd⟩ := hW
  have hA : DataW.TrodAll enc Tryz.prog W 0 (fun _ => true) true Tryz.f5.params.toList args.toList ds p := hA0
  rw [Tryz.params5] at hA hval
  obtain ⟨v0, vs0, d0, ds0, pp0, qq0, hargs, rfl, rfl, k0, r0⟩ := trodAll_cons hA
  obtain ⟨v1, vs1, d1, ds1, pp1, qq1, rfl, rfl, rfl, k1, r1⟩ := trodAll_cons r0
  obtain ⟨rfl, rfl, rfl⟩ := trodAll_nil r1
  obtain rfl : args = #[v0, v1] := by cases args; simp_all
  obtain ⟨rfl, rfl⟩ := trodVars_none hV
  have lt0 : ∀ x ∈ pp0, x.block < W.heap.size := by obtain ⟨m, hm⟩ := k0; exact DataW.trod_lt m _ _ _ hm
  have li0 : Light Tryz.prog 22 d0 := light_of (j := 0) hsz rfl rfl
  have ok0 := hval 0 22 v0 rfl rfl
  obtain ⟨p0, n0, c0, l0, rfl, hr0, hn0, hbig0, hle0⟩ := came_bytes Tryz.underlying22 Tryz.underlying5 (by kernel_rfl) (by kernel_rfl) ok0 (came k0 li0)
  have lt1 : ∀ x ∈ pp1, x.block < W.heap.size := by obtain ⟨m, hm⟩ := k1; exact DataW.trod_lt m _ _ _ hm
  have li1 : Light Tryz.prog 22 d1 := light_of (j := 1) hsz rfl rfl
  have ok1 := hval 1 22 v1 rfl rfl
  obtain ⟨p1, n1, c1, l1, rfl, hr1, hn1, hbig1, hle1⟩ := came_bytes Tryz.underlying22 Tryz.underlying5 (by kernel_rfl) (by kernel_rfl) ok1 (came k1 li1)
  have hc0 := KeysKeeps_spec W c0 c1 ⟨hr0, hn0, by omega⟩ ⟨hr1, hn1, by omega⟩ hbig0 hbig1
  refine Calls.mono hc0 fun e W' ⟨_, _, he, hg⟩ => ?_
  subst he
  have bel := Grows.belowAll hg
  exact ⟨_, rfl, _, _, _, [], _, [], hW', trodAll_mk1 (shut_bool Tryz.underlying4 _), (trodAll_cons_mk (Below.trod laidOut (by kernel_rfl) (of_decide_eq_true (by kernel_rfl)) k0 bel lt0) (trodAll_cons_mk (Below.trod laidOut (by kernel_rfl) (of_decide_eq_true (by kernel_rfl)) k1 bel lt1) trodAll_mk0)), rfl, bel.frame _, fun h => by cases h⟩

theorem over : Rows.keysKeepsRow.holds Tryz.pinned (OpenSpec.ofChange Rows.keysKeepsSpec) :=
  OpenClaim.holds_of_wide 5 Tryz.f5 rfl rfl rfl rfl rfl rfl rfl ⟨rfl, rfl, rfl, rfl, rfl⟩ rfl rfl rfl rfl rfl (by kernel_rfl) Tryz.func5 (by kernel_rfl)
    (of_decide_eq_true (by kernel_rfl)) (by unfold Func.isWrapper; first | (rw [if_pos (by decide +kernel)]; kernel_rfl) | (rw [if_neg (by decide +kernel)]; exact ⟨rfl, rfl⟩))
    (fun os started H enc _ => lifted os started H enc)

/-- The statement. -/
theorem proved : Rows.KeysKeepsSaid := over
#print axioms proved
end Go.Proofs.YtkonbclggbcffaaGreat.keysKeeps

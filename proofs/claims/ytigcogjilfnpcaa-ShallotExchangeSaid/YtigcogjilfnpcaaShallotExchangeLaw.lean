import Derived.Test.YtigcogjilfnpcaaRows
import Derived.Test.YtigcogjilfnpcaaSxLaw
import Derived.Test.YtigcogjilfnpcaaShallotExchange
set_option linter.unusedVariables false
set_option linter.unusedSimpArgs false
/-
  ShallotExchange: the statement, joined from the contract and the row's frame. No condition.
-/
namespace Go.Proofs.Ytigcogjilfnpcaa.shallotExchange
open Go Go.Sx Go.ChangeShapes Go.WideShapes Go.ChangeAt Go.RowKit
open Go.ChangeMaps (open_string shut_string)
theorem own : ownKnob Try.prog.godebug = none := by kernel_rfl
theorem laidOut : laidOutB Try.prog = true := by kernel_rfl
set_option maxRecDepth 100000 in
theorem lifted (os : Os) (started : os.Started) (H : Type) (enc : TypeId × Value → H) :
    ReturnsInHanded {} Try.checked os 8 .any (Rows.shallotExchangeSpec.pre6 enc Try.prog Try.f8 Rows.shallotExchangeRow.domain false) (Rows.shallotExchangeSpec.post enc Try.prog Try.f8 false true false false) := by
  refine returnsInHanded_of_change_sized (C := Try.checked) own started (by kernel_rfl) Try.func8
    (ChangeSpec.witness6 (enc := enc) (C := Try.checked) false ⟨#[], #[.slice none 0 0, .slice none 0 0, .slice none 0 0], []⟩ 8 (by kernel_rfl) (by kernel_rfl) (by kernel_rfl) (by kernel_rfl)) ?_
  intro W base args ds gs before hval0 hW hcnd hsz _
  have hval : ∀ (j : Nat) t v, Try.f8.params[j]? = some t → args[j]? = some v → Value.okWide Try.prog W .any base t v := hval0
  have hW' := hW
  obtain ⟨p, q, hA0, hV, rfl, hfz, hnd⟩ := hW
  have hA : DataW.TrodAll enc Try.prog W 0 (fun _ => true) true Try.f8.params.toList args.toList ds p := hA0
  rw [Try.params8] at hA hval
  obtain ⟨v0, vs0, d0, ds0, pp0, qq0, hargs, rfl, rfl, k0, r0⟩ := trodAll_cons hA
  obtain ⟨v1, vs1, d1, ds1, pp1, qq1, rfl, rfl, rfl, k1, r1⟩ := trodAll_cons r0
  obtain ⟨v2, vs2, d2, ds2, pp2, qq2, rfl, rfl, rfl, k2, r2⟩ := trodAll_cons r1
  obtain ⟨rfl, rfl, rfl⟩ := trodAll_nil r2
  obtain rfl : args = #[v0, v1, v2] := by cases args; simp_all
  obtain ⟨rfl, rfl⟩ := trodVars_none hV
  have lt0 : ∀ x ∈ pp0, x.block < W.heap.size := by obtain ⟨m, hm⟩ := k0; exact DataW.trod_lt m _ _ _ hm
  have li0 : Light Try.prog 26 d0 := light_of (j := 0) hsz rfl rfl
  have ok0 := hval 0 26 v0 rfl rfl
  obtain ⟨p0, n0, c0, l0, rfl, hr0, hn0, hbig0, hle0⟩ := came_bytes Try.underlying26 Try.underlying5 (by kernel_rfl) (by kernel_rfl) ok0 (came k0 li0)
  have lt1 : ∀ x ∈ pp1, x.block < W.heap.size := by obtain ⟨m, hm⟩ := k1; exact DataW.trod_lt m _ _ _ hm
  have li1 : Light Try.prog 22 d1 := light_of (j := 1) hsz rfl rfl
  have ok1 := hval 1 22 v1 rfl rfl
  obtain ⟨p1, n1, c1, L1, ls1, rfl, hL1, hbig1, hle1, hsl1⟩ := came_bytess Try.underlying22 Try.underlying26 Try.underlying5 (by kernel_rfl) (by kernel_rfl) (by kernel_rfl) (by kernel_rfl) ok1 (came k1 li1)
  have lt2 : ∀ x ∈ pp2, x.block < W.heap.size := by obtain ⟨m, hm⟩ := k2; exact DataW.trod_lt m _ _ _ hm
  have li2 : Light Try.prog 23 d2 := light_of (j := 2) hsz rfl rfl
  have ok2 := hval 2 23 v2 rfl rfl
  obtain ⟨p2, n2, c2, L2, rfl, hr2, hn2, hbig2, hlen2, hle2, he2⟩ := came_slice1 Try.underlying23 (by kernel_rfl) ok2 (came k2 li2)
  obtain ⟨ns2, rfl, hwf2⟩ : ∃ ns : List Int, L2 = ns.map (Value.int .i64) ∧ ∀ z ∈ ns, (Lit.int .i64 z).wf = true := list_map (fun x hx => by
    obtain ⟨z, hz, hw⟩ := came_int Try.underlying3 (he2 x hx)
    exact ⟨z, by simpa using hz, hw⟩)
  rw [List.length_map] at hn2
  rw [show Try.prog.bytesOf 3 = 8 from by kernel_rfl] at hbig2
  have hc0 := ShallotExchange_spec W c0 c1 c2 ⟨hr0, hn0, by omega⟩ hL1 hr2 hn2 (by omega) hle1
  refine Calls.mono hc0 fun e W' ⟨_, _, he, hg⟩ => ?_
  subst he
  have bel := Grows.belowAll hg
  exact ⟨_, rfl, _, _, _, [], _, [], hW', trodAll_mk1 (shut_bool Try.underlying4 _), (trodAll_cons_mk (Below.trod laidOut (by kernel_rfl) (of_decide_eq_true (by kernel_rfl)) k0 bel lt0) (trodAll_cons_mk (Below.trod laidOut (by kernel_rfl) (of_decide_eq_true (by kernel_rfl)) k1 bel lt1) (trodAll_cons_mk (Below.trod laidOut (by kernel_rfl) (of_decide_eq_true (by kernel_rfl)) k2 bel lt2) trodAll_mk0))), rfl, bel.frame _, fun h => by cases h⟩

theorem over : Rows.shallotExchangeRow.holds Try.pinned (OpenSpec.ofChange Rows.shallotExchangeSpec) :=
  OpenClaim.holds_of_wide 8 Try.f8 rfl rfl rfl rfl rfl rfl rfl ⟨rfl, rfl, rfl, rfl, rfl⟩ rfl rfl rfl rfl rfl (by kernel_rfl) Try.func8 (by kernel_rfl)
    (of_decide_eq_true (by kernel_rfl)) (by unfold Func.isWrapper; first | (rw [if_pos (by decide +kernel)]; kernel_rfl) | (rw [if_neg (by decide +kernel)]; exact ⟨rfl, rfl⟩))
    (fun os started H enc _ => lifted os started H enc)

/-- The statement. -/
theorem proved : Rows.ShallotExchangeSaid := over
#print axioms proved
end Go.Proofs.Ytigcogjilfnpcaa.shallotExchange

import Derived.Test.YtigcogjilfnpcaaXC
set_option linter.unusedVariables false
set_option linter.unusedSimpArgs false
/-
  A statement whose order Go leaves open, with calls that write while a load of another block is left. No condition: it speaks of any program.
-/
namespace Go.Sx
open Go

section
variable {P : Program} {fn : Func} {R : Ending → World → Prop} {N : Nat} {w0 : World} {D : Blocks} {e : List (Nat × Value)} {M : List (Nat × Ck)} {k : List It} {ops : Array Oper} {f : Nat} {L : Array Bool}
theorem a_doK {M0 : List (Nat × Ck)} (i d : Nat) (T : List Nat) {out : Value → List Ck → Prop} (hD : Does P ops (ext P fn R k) N w0 D e M i d out) (hdN : Nat.blt d N = true) (hT : fresh M T = true) (hM : ∀ v cs, out v cs → SubM (tags T cs ++ M) M0) (hr : Region.ready .any ops L = [i])
    (h : ∀ v cs, out v cs → GPK P fn R N w0 D M0 ((d, v) :: e) (tags T cs ++ M) k ops f (L.setIfInBounds i true)) : GPK P fn R N w0 D M0 e M k ops (f + 1) L := by
  intro a w hs hm
  refine ⟨fun h0 => (by rw [hr] at h0; cases h0), fun j hj => ?_⟩
  rw [hr] at hj
  obtain rfl := List.mem_singleton.1 hj
  refine hD a w hs hm _ (fun v cs w' ho hg => ?_)
  have hm' := hm.grow hg T hT
  exact ⟨⟨fun _ _ => hm'.sub (hM v cs ho).all, fun hx => (by cases hx)⟩, h v cs ho _ w' (hs.put (by simpa [Nat.blt_eq] using hdN) v) hm'⟩
theorem a_callK {M0 : List (Nat × Ck)} (i : Nat) {o : Oper} {σ : Type} {pr : σ → Prop} {val : σ → Value} {new : σ → List Ck} {ch : Blocks} {d fi : Nat} {xs : List Operand} {tys : Array TypeId} {vs : List Value} (us ts : List Nat) (hi : ops[i]? = some o) (hd : o.dst = some d) (hN : Nat.blt d N = true) (hw : wantE ops e o = some true) (hf : fresh (gone us M) ts = true)
    [hc : Cal P fi] (ho : o.op = .call ⟨.value (.func fi), xs.toArray, tys⟩) (hx : evs e xs = some vs) (hch : ∀ j, ch j → ∃ u ∈ us, ∃ c, mget M u = some c ∧ c.has j) (hS : ∀ w, Mem w0 D M w → Spec P fi vs.toArray w pr val ch new)
    (hM : ∀ x, SubM (tags ts (new x) ++ gone us M) M0) (hr : Region.ready .any ops L = [i])
    (h : ∀ x, pr x → GPK P fn R N w0 D M0 ((d, val x) :: e) (tags ts (new x) ++ gone us M) k ops f (L.setIfInBounds i true)) : GPK P fn R N w0 D M0 e M k ops (f + 1) L := by
  intro a w hs hm
  refine ⟨fun h0 => (by rw [hr] at h0; cases h0), fun j hj => ?_⟩
  rw [hr] at hj
  obtain rfl := List.mem_singleton.1 hj
  unfold wpOp
  simp only [hi, wantE_spec hs hw, if_true]
  refine .inl ?_
  unfold Oper.wp
  rw [run_call hc.h ho hs hx]
  simp only [Oper.upon]
  refine (hS w hm).mono ?_
  rintro en w' ⟨x, hp, rfl, hgr⟩
  rw [hd]
  have hm' := hm.growS hgr us hch ts hf
  exact ⟨⟨fun _ _ => hm'.sub (hM x).all, fun hx => (by cases hx)⟩, h x hp _ w' (hs.put (by simpa [Nat.blt_eq] using hN) _) hm'⟩
end
end Go.Sx

import Derived.Test.YteblmnpklcdnpaaSxMem
set_option linter.unusedVariables false
set_option linter.unusedSimpArgs false
/-
  A call of a function value that is known. No condition: it speaks of any program.
-/
namespace Go.Sx
open Go

section
variable {P : Program} {fn : Func} {R : Ending → World → Prop} {N : Nat} {w0 : World} {D : Blocks} {e : List (Nat × Value)} {M : List (Nat × Ck)} {k : List It} {o : Oper} {all : Array Oper} {rest : List Oper}
/-- A function as a value. -/
def fv (f : FuncId) : Value := .func (.func f) #[] #[]
theorem run_callV {a : Act} {w : World} {f : FuncId} {x : Operand} {xs : List Operand} {ts : Array TypeId} {vs : List Value} (hf : Callable P f) (ho : o.op = .call ⟨.value x, xs.toArray, ts⟩) (hs : Sat N e a) (hv : ev e x = some (fv f)) (hx : evs e xs = some vs) :
    (execOp a.eval o).run P w = .ok (.enter f vs.toArray) w := by
  obtain ⟨g, h1, h2, h3⟩ := hf
  have h4 := hs.evals hx
  have h5 : xs.toArray.map a.eval = vs.toArray := by rw [List.map_toArray, h4]
  have h6 := hs.eval hv
  unfold fv at h6
  simp only [execOp, ho, resolve, h5, h6, Deferred.ofValue, Sem.run_bind, Sem.run_pure, Result.andThen_ok, invoke, callFunc, run_program, h1, h2, h3, Bool.false_eq_true, if_false]
  simp
theorem g_callV {σ : Type} {pr : σ → Prop} {val : σ → Value} {new : σ → List Ck} {d : Option Nat} {f : FuncId} {x : Operand} {xs : List Operand} {tys : Array TypeId} {vs : List Value} (ts : List Nat) (hg : wantE all e o = some true) (hd : o.dst = d) (hN : inN d N = true) (hf : fresh M ts = true)
    (hc : Callable P f) (ho : o.op = .call ⟨.value x, xs.toArray, tys⟩) (hv : ev e x = some (fv f)) (hx : evs e xs = some vs) (hS : ∀ w, Mem w0 D M w → Spec P f vs.toArray w pr val Nob new)
    (h : ∀ x, pr x → G P fn R N w0 D (putD d (val x) e) (tags ts (new x) ++ M) (.ops all rest :: k)) : G P fn R N w0 D e M (.ops all (o :: rest) :: k) :=
  fun a w hs hm => by
    simp only [ext]
    refine wpList_want (wantE_spec hs hg) fun K hK => ?_
    unfold Oper.wp
    rw [run_callV hc ho hs hv hx]
    simp only [Oper.upon]
    refine (hS w hm).mono ?_
    rintro en w' ⟨x, hp, rfl, hgr⟩
    refine hK _ _ ?_
    rw [hd]
    have := h x hp _ w' (hs.putD hN (val x)) (hm.grow hgr ts hf)
    simpa only [ext] using this
end
end Go.Sx

/-
  Sums and differences with carry (math/bits.Add64, Sub64), functions of the library that the model answers. No condition but a carry of at most 1.
-/
import Derived.Test.YtckfeakolpjleaaSxExt
import Derived.Shelf.Spec.BitsCarry
set_option linter.unusedVariables false
set_option linter.unusedSimpArgs false
namespace Go.Sx
open Go Go.Proofs

/-- The function is answered by the model's entry F. -/
class Ext (P : Program) (f : FuncId) (F : Array Value → Sem Value) : Prop where
  h : ∃ fn, P.funcs[f]? = some fn ∧ (fn.name == "runtime.NumGoroutine") = false ∧ fn.body.isNone = true ∧ Extern.findNext fn = none ∧ Extern.find fn = some F
section
variable {P : Program} {fn : Func} {R : Ending → World → Prop} {N : Nat} {w0 : World} {D : Blocks} {e : List (Nat × Value)} {M : List (Nat × Ck)} {k : List It} {o : Oper}
theorem pu_ext3 {f : FuncId} {F : Array Value → Sem Value} {x y z : Operand} {u v t r : Value} {tys : Array TypeId} [hc : Ext P f F] (ho : o.op = .call ⟨.value (.func f), #[x, y, z], tys⟩) (hx : ev e x = some u) (hy : ev e y = some v) (hz : ev e z = some t) (hr : ∀ w, (F #[u, v, t]).run P w = .ok r w) :
    Pu P N w0 D e M o r := fun a w hs hm => by
  obtain ⟨fn, h1, h2, h3, h4, h5⟩ := hc.h
  have he : (#[x, y, z] : Array Operand).map a.eval = #[u, v, t] := by simp [hs.eval hx, hs.eval hy, hs.eval hz]
  simp only [execOp, ho, resolve, he, Act.eval, Deferred.ofValue, Sem.run_bind, Sem.run_pure, Result.andThen_ok, invoke]
  rw [run_callFunc_extern h1 h2 h3 h4 h5]
  have e0 : (#[] : Array Value) ++ #[u, v, t] = #[u, v, t] := rfl
  simp only [Array.append_empty, e0, hr w, Result.andThen_ok]
theorem pu_add64c {f : FuncId} {x y z : Operand} {a b c : Nat} {tys : Array TypeId} [hc : Ext P f add64Entry] (ho : o.op = .call ⟨.value (.func f), #[x, y, z], tys⟩) (hx : ev e x = some (.int .u64 (a : Int))) (hy : ev e y = some (.int .u64 (b : Int))) (hz : ev e z = some (.int .u64 (c : Int))) (h1 : c ≤ 1) :
    Pu P N w0 D e M o (.tuple #[.int .u64 (((a + b + c) % 18446744073709551616 : Nat) : Int), .int .u64 (((a + b + c) / 18446744073709551616 : Nat) : Int)]) :=
  pu_ext3 ho hx hy hz fun w => by
    rw [run_add64 a b c (by omega) (by omega) (by omega) (by omega)]
    congr 5 <;> omega
theorem pu_sub64c {f : FuncId} {x y z : Operand} {a b c : Nat} {tys : Array TypeId} [hc : Ext P f sub64Entry] (ho : o.op = .call ⟨.value (.func f), #[x, y, z], tys⟩) (hx : ev e x = some (.int .u64 (a : Int))) (hy : ev e y = some (.int .u64 (b : Int))) (hz : ev e z = some (.int .u64 (c : Int))) (h1 : c ≤ 1) :
    Pu P N w0 D e M o (.tuple #[.int .u64 (((a + 18446744073709551616 - b - c) % 18446744073709551616 : Nat) : Int), .int .u64 ((if a < b + c then 1 else 0 : Nat) : Int)]) :=
  pu_ext3 ho hx hy hz fun w => run_sub64 a b c h1 w
end
end Go.Sx

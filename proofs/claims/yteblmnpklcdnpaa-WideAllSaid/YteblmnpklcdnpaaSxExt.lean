/-
  A function of the library without a body (internal/bytealg.MakeNoZero), and a slice with all three bounds, for the judgement of Sx. No condition: they speak of any program.
-/
import Derived.Test.YteblmnpklcdnpaaSxList
import Derived.Lib.MakeNoZero
import Derived.Laws.Externs
set_option linter.unusedVariables false
set_option linter.unusedSimpArgs false
namespace Go.Sx
open Go

/-- The function is internal/bytealg.MakeNoZero. -/
class Mnz (P : Program) (f : FuncId) (E : outParam TypeId) : Prop where
  h : ∃ fn t, P.funcs[f]? = some fn ∧ (fn.name == "runtime.NumGoroutine") = false ∧ fn.body.isNone = true ∧ Extern.findNext fn = none ∧ Extern.find fn = some (Extern.BytealgMakeNoZero.makeNoZero fn.params #[t]) ∧ P.underlying t = some (.slice E)

section
variable {P : Program} {fn : Func} {R : Ending → World → Prop} {N : Nat} {w0 : World} {D : Blocks} {e : List (Nat × Value)} {M : List (Nat × Ck)} {k : List It} {o : Oper} {all : Array Oper} {rest : List Oper}

theorem lo_mnz {f : FuncId} {E : TypeId} {x : Operand} {tys : Array TypeId} {n : Nat} {i : Int} [hc : Mnz P f E] (ho : o.op = .call ⟨.value (.func f), #[x], tys⟩) (hx : ev e x = some (.int .i64 i)) (hi : i = (n : Int)) (hn : n ≤ 281474976710656) :
    Lo P N w0 D e M o (σ := Nat × List Value) (fun r => w0.heap.size ≤ r.1 ∧ n ≤ r.2.length ∧ r.2.length ≤ 9223372036854775807) (fun r => .slice (some ⟨r.1, 0, none⟩) n r.2.length) (fun r => [.pt r.1 (.cells r.2.toArray E (0, 0))]) := fun a w hs hm => by
  obtain ⟨fn, t, h1, h2, h3, h4, h5, h6⟩ := hc.h
  obtain ⟨cs, hr, hc1, hc2⟩ := Lib.run_makeNoZero (P := P) w fn.params t E h6 n hn
  refine ⟨(w.heap.size, cs.toList), w.drew.drew.alloc (.cells cs E), ⟨hm.size, by simpa using hc1, ?_⟩, ?_, ?_⟩
  · have := hc2 (by unfold maxLen; omega)
    unfold maxLen at this
    simpa using this
  · subst hi
    have he : (#[x] : Array Operand).map a.eval = #[.int .i64 (n : Int)] := by simp [hs.eval hx]
    simp only [execOp, ho, resolve, he, Act.eval, Deferred.ofValue, Sem.run_bind, Sem.run_pure, Result.andThen_ok, invoke]
    rw [run_callFunc_extern h1 h2 h3 h4 h5]
    have e0 : (#[] : Array Value) ++ #[Value.int IntKind.i64 (n : Int)] = #[.int .i64 (n : Int)] := rfl
    simp only [Array.append_empty, e0, hr, Result.andThen_ok, Array.length_toList]
  · have hg := Grows.new w (.cells cs E (0, 0))
    refine ⟨hg.os, hg.tape, hg.output, hg.size, fun j hj hn => ?_, ?_, hg.stable, hg.above, hg.below, hg.apart⟩
    · exact hg.keep j hj hn
    · intro c hc'
      have hc2 : c ∈ [Ck.pt w.heap.size (.cells cs E (0, 0))] := by simpa using hc'
      exact Ck.keep (w := { w with heap := w.heap.push (.cells cs E (0, 0)) }) (hg.stable c hc2) (fun _ _ => rfl) (hg.holds c hc2)

theorem pu_slice_hm {t E : TypeId} {x z y : Operand} {p : Option Addr} {n c s : Nat} {kh km : IntKind} {hi mi : Int} (h m : Nat) [hu : Und P t (.slice E)] [hz : Siz P E s] (ho : o.op = .slice t x none (some z) (some y)) (hx : ev e x = some (.slice p n c)) (hz' : ev e z = some (.int kh hi)) (hy : ev e y = some (.int km mi)) (hh : hi = (h : Int)) (hm' : mi = (m : Int)) (h1 : h ≤ m) (h2 : m ≤ c) :
    Pu P N w0 D e M o (.slice p h m) := fun a w hs hm => by
  subst hh hm'
  have := cutp_zero p m s
  unfold cutp at this
  simp only [execOp, ho, hs.eval hx, hs.eval hz', hs.eval hy, Instr.sliceAt, Instr.slice, run_und hu.h, Instr.sliceBounds, Instr.sliceBound, asIntOf, run_size hz.h, Option.map_some, Option.map_none, Sem.run_bind, Result.andThen_ok, Sem.run_pure]
  rw [if_pos (by omega)]
  simp only [Sem.run_pure, Result.andThen_ok, Int.toNat_natCast]
  rw [if_pos (by omega)]
  simp only [Sem.run_pure, Result.andThen_ok, Int.toNat_natCast]
  cases p <;> simp [Addr.add]
end
end Go.Sx

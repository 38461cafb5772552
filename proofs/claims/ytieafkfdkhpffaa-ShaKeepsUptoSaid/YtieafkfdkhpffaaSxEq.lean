/-
  Pointers held against nil. No condition: it speaks of any program.
-/
import Derived.Test.YtieafkfdkhpffaaSxList
import Derived.Test.YtieafkfdkhpffaaSxIdx
set_option linter.unusedVariables false
set_option linter.unusedSimpArgs false
namespace Go.Sx
open Go

section
variable {P : Program} {fn : Func} {R : Ending → World → Prop} {N : Nat} {w0 : World} {D : Blocks} {e : List (Nat × Value)} {M : List (Nat × Ck)} {k : List It} {o : Oper} {all : Array Oper} {rest : List Oper}

theorem run_eqNilP {t E : TypeId} (w : World) (hu : P.underlying t = some (.pointer E)) (p : Option Addr) : (Op.equal t (.pointer p) (.pointer none)).run P w = .ok p.isNone w := by
  obtain ⟨d, hd⟩ : ∃ d, Op.maxDepth = d + 1 := ⟨_, rfl⟩
  cases p <;> simp [Op.equal, hd, Op.equalIn, run_und hu]
theorem run_guardP {op : BinOp} {t : TypeId} {x y : Operand} {p q : Option Addr} (w : World) : (eqGuard op t x y (.pointer p) (.pointer q)).run P w = .ok () w := by
  unfold eqGuard
  split <;> simp
theorem pu_eqlP {t u E : TypeId} {x y : Operand} {p : Option Addr} [hu : Und P t (.pointer E)] (ho : o.op = .binOp .eql t x y u) (hx : ev e x = some (.pointer p)) (hy : ev e y = some (.pointer none)) : Pu P N w0 D e M o (.bool p.isNone) := fun ac w hs hm => by
  simp [execOp, ho, hs.eval hx, hs.eval hy, run_guardP, binOp, run_eqNilP _ hu.h]
theorem pu_neqP {t u E : TypeId} {x y : Operand} {p : Option Addr} [hu : Und P t (.pointer E)] (ho : o.op = .binOp .neq t x y u) (hx : ev e x = some (.pointer p)) (hy : ev e y = some (.pointer none)) : Pu P N w0 D e M o (.bool (!p.isNone)) := fun ac w hs hm => by
  simp [execOp, ho, hs.eval hx, hs.eval hy, run_guardP, binOp, run_eqNilP _ hu.h]
theorem pu_eqlS_t {t u : TypeId} {x y : Operand} {a b : ByteArray} (ho : o.op = .binOp .eql t x y u) (hx : ev e x = some (.string a)) (hy : ev e y = some (.string b)) (h : a = b) : Pu P N w0 D e M o (.bool true) := by
  have := pu_eqlS (P := P) (N := N) (w0 := w0) (D := D) (M := M) ho hx hy
  rwa [decide_eq_true h] at this
theorem pu_neqS_f {t u : TypeId} {x y : Operand} {a b : ByteArray} (ho : o.op = .binOp .neq t x y u) (hx : ev e x = some (.string a)) (hy : ev e y = some (.string b)) (h : a = b) : Pu P N w0 D e M o (.bool false) := by
  have := pu_neqS (P := P) (N := N) (w0 := w0) (D := D) (M := M) ho hx hy
  rwa [decide_eq_false (fun h' => h' h)] at this

/-- A list's slices lie in its set of blocks. -/
theorem elsS {S : Blocks} {w : World} {L : List Value} {ls : List (List (BitVec 8))} (h : All2 (IsB S w) L ls) {q : Option Addr} {m c : Nat} (hv : Value.slice q m c ∈ L) {j : Nat} (hj : At q j) : S j := by
  obtain ⟨i, hi⟩ := List.mem_iff_getElem?.1 hv
  obtain ⟨l, hl⟩ : ∃ l, ls[i]? = some l := ⟨_, List.getElem?_eq_getElem (by have := (List.getElem?_eq_some_iff.1 hi).1; have := h.1; omega)⟩
  obtain ⟨q', m', c', he, _, hS⟩ := h.2 i _ l hi hl
  cases he
  exact hS j hj
end
end Go.Sx

/-
  Pointers held against nil. No condition: it speaks of any program.
-/
import Derived.Test.YteblmnpklcdnpaaSxList
import Derived.Test.YteblmnpklcdnpaaSxIdx
set_option linter.unusedVariables false
set_option linter.unusedSimpArgs false
namespace Go.Sx
open Go

section
variable {P : Program} {fn : Func} {R : Ending → World → Prop} {N : Nat} {w0 : World} {D : Blocks} {e : List (Nat × Value)} {M : List (Nat × Ck)} {k : List It} {o : Oper} {all : Array Oper} {rest : List Oper}

theorem run_eqNilP {t E : TypeId} (w : World) (hu : P.underlying t = some (.pointer E)) (p : Option Addr) : (Op.equal t (.pointer p) (.pointer none)).run P w = .ok p.isNone w := by
  obtain ⟨d, hd⟩ : ∃ d, Op.maxDepth = d + 1 := ⟨_, rfl⟩
  cases p <;> simp [Op.equal, hd, Op.equalIn, run_und hu]
theorem run_guardP {op : BinOp} {t : TypeId} {x y : Operand} {p q : Option Addr} (w : World) : (eqGuard op t x y (.pointer p) (.pointer q)).run P w = .ok () w := by
  unfold eqGuard
  split <;> simp
theorem pu_eqlP {t u E : TypeId} {x y : Operand} {p : Option Addr} [hu : Und P t (.pointer E)] (ho : o.op = .binOp .eql t x y u) (hx : ev e x = some (.pointer p)) (hy : ev e y = some (.pointer none)) : Pu P N w0 D e M o (.bool p.isNone) := fun ac w hs hm => by
  simp [execOp, ho, hs.eval hx, hs.eval hy, run_guardP, binOp, run_eqNilP _ hu.h]
theorem pu_neqP {t u E : TypeId} {x y : Operand} {p : Option Addr} [hu : Und P t (.pointer E)] (ho : o.op = .binOp .neq t x y u) (hx : ev e x = some (.pointer p)) (hy : ev e y = some (.pointer none)) : Pu P N w0 D e M o (.bool (!p.isNone)) := fun ac w hs hm => by
  simp [execOp, ho, hs.eval hx, hs.eval hy, run_guardP, binOp, run_eqNilP _ hu.h]
theorem pu_eqlS_t {t u : TypeId} {x y : Operand} {a b : ByteArray} (ho : o.op = .binOp .eql t x y u) (hx : ev e x = some (.string a)) (hy : ev e y = some (.string b)) (h : a = b) : Pu P N w0 D e M o (.bool true) := by
  have := pu_eqlS (P := P) (N := N) (w0 := w0) (D := D) (M := M) ho hx hy
  rwa [decide_eq_true h] at this
theorem pu_neqS_f {t u : TypeId} {x y : Operand} {a b : ByteArray} (ho : o.op = .binOp .neq t x y u) (hx : ev e x = some (.string a)) (hy : ev e y = some (.string b)) (h : a = b) : Pu P N w0 D e M o (.bool false) := by
  have := pu_neqS (P := P) (N := N) (w0 := w0) (D := D) (M := M) ho hx hy
  rwa [decide_eq_false (fun h' => h' h)] at this

/-- A list's slices lie in its set of blocks. -/
theorem elsS {S : Blocks} {w : World} {L : List Value} {ls : List (List (BitVec 8))} (h : All2 (IsB S w) L ls) {q : Option Addr} {m c : Nat} (hv : Value.slice q m c ∈ L) {j : Nat} (hj : At q j) : S j := by
  obtain ⟨i, hi⟩ := List.mem_iff_getElem?.1 hv
  obtain ⟨l, hl⟩ : ∃ l, ls[i]? = some l := ⟨_, List.getElem?_eq_getElem (by have := (List.getElem?_eq_some_iff.1 hi).1; have := h.1; omega)⟩
  obtain ⟨q', m', c', he, _, hS⟩ := h.2 i _ l hi hl
  cases he
  exact hS j hj
/-- Slices of slices behind a piece that turns blocks of its own. -/
theorem ByL.mD {w : World} {p : Option Addr} {n : Nat} {L : List Value} {ls : List (List (BitVec 8))} (h : ByL w0 p n L ls) (hm : Mem w0 D M w) (hD : 0 < n → ∀ b o, p = some ⟨b, o, none⟩ → ¬ D b) (hE : ∀ q m c, Value.slice q m c ∈ L → 0 < m → ∀ j, At q j → ¬ D j) : ByL w p n L ls := by
  refine ⟨?_, h.len, ⟨h.els.1, fun i x y hx hy => ?_⟩, h.big⟩
  · rcases Nat.eq_zero_or_pos n with h0 | h0
    · have : L = [] := List.eq_nil_of_length_eq_zero (by rw [h.len, h0])
      rw [this]; exact RdV.nil _ _
    · exact h.rd.mem hm (hD h0)
  · obtain ⟨q, m, c, rfl, hb, _⟩ := h.els.2 i x y hx hy
    refine ⟨q, m, c, rfl, ?_, fun _ _ => trivial⟩
    rcases Nat.eq_zero_or_pos m with h0 | h0
    · subst h0
      have : y = [] := List.eq_nil_of_length_eq_zero hb.len
      rw [this]; exact By.nil _ _
    · exact hb.mD hm (fun b o e => hE q m c (List.mem_of_getElem? hx) h0 b (by rw [e]; exact At.some.2 rfl))
theorem ByL.lt1 {w : World} {p : Option Addr} {n : Nat} {L : List Value} {ls : List (List (BitVec 8))} (ha : ByL w p n L ls) : 0 < n → ∀ b o, p = some ⟨b, o, none⟩ → b < w.heap.size := fun h0 b o e => by
  have h1 := ha.rd
  rw [e] at h1
  exact h1.lt (fun h => by have h2 := ha.len; rw [h] at h2; simp at h2; omega)
theorem By.lt {w : World} {p : Option Addr} {n : Nat} {l : List (BitVec 8)} (hby : By w p n l) (h0 : 0 < n) {j : Nat} (hj : At p j) : j < w.heap.size := by
  obtain ⟨b, o, e, _⟩ := hby.rd.place (by rw [bs_length, hby.len]; exact h0)
  rw [e] at hj
  obtain rfl := At.some.1 hj
  have h1 := hby.rd
  rw [e] at h1
  refine h1.lt (fun h => ?_)
  have h4 : (bs l).length = 0 := by rw [h]; rfl
  rw [bs_length, hby.len] at h4; omega
theorem ByL.lt2 {w : World} {p : Option Addr} {n : Nat} {L : List Value} {ls : List (List (BitVec 8))} (ha : ByL w p n L ls) : ∀ q m c, Value.slice q m c ∈ L → 0 < m → ∀ j, At q j → j < w.heap.size := fun q m c hv h0 j hj => by
  obtain ⟨i, hi⟩ := List.mem_iff_getElem?.1 hv
  obtain ⟨l, hl⟩ : ∃ l, ls[i]? = some l := ⟨_, List.getElem?_eq_getElem (by have := (List.getElem?_eq_some_iff.1 hi).1; have := ha.els.1; omega)⟩
  obtain ⟨q', m', c', he, hby, _⟩ := ha.els.2 i _ l hi hl
  cases he
  exact hby.lt h0 hj
end
end Go.Sx

/-
  A struct's value equals itself; reading a struct out of a row. No condition.
-/
import Derived.Test.YtckfeakolpjleaaSxPend
set_option linter.unusedVariables false
set_option linter.unusedSimpArgs false
namespace Go.Sx
open Go Go.Proofs
section
variable {P : Program}
theorem eqFields_refl (d : Nat) (xs : Array Value) (w : World) : ∀ fs : List Field, (∀ f ∈ fs, ∃ v, (part f.type xs f.offset).run P w = .ok v w ∧ (Op.equalIn d f.type v v).run P w = .ok true w) → (Op.eqFields d xs xs fs).run P w = .ok true w
  | [], _ => by simp [Op.eqFields]
  | f :: fs, h => by
    obtain ⟨v, h1, h2⟩ := h f (by simp)
    have ih := eqFields_refl d xs w fs (fun g hg => h g (List.mem_cons_of_mem _ hg))
    simp only [Op.eqFields, Sem.run_ite, Sem.run_bind, h1, h2, Result.andThen_ok, Bool.not_true, Bool.false_eq_true, if_false, ih]
    split <;> rfl
theorem run_eqA_refl (d : Nat) {t E : TypeId} {n : Nat} {kd : IntKind} (w : World) (hu : P.underlying t = some (.array n E)) (he : P.underlying E = some (.int kd)) (h1 : P.cellsOf E = 1) (xs : List Value) (hx : xs.all (kindIs kd) = true) (hn : xs.length = n) : (Op.equalIn (d + 2) t (.agg xs.toArray) (.agg xs.toArray)).run P w = .ok true w := by
  have hi : ∃ i, P.info? E = some i := by
    cases h : P.info? E with
    | some i => exact ⟨i, rfl⟩
    | none => simp [Program.cellsOf, h] at h1
  obtain ⟨i, hi⟩ := hi
  obtain ⟨r, h2, hr⟩ := run_eqItems_int d he w xs xs hx hx rfl n 0 (by omega)
  have : r = true := hr.2 rfl
  subst this
  rw [run_equalIn_array w (d + 1) xs.toArray xs.toArray hu hi, h1, List.range_eq_range', h2]
end
section
variable {P : Program} {fn : Func} {R : Ending → World → Prop} {N : Nat} {w0 : World} {D : Blocks} {e : List (Nat × Value)} {M : List (Nat × Ck)} {k : List It} {o : Oper}
theorem pu_neqR {t u : TypeId} {x y : Operand} {a : Array Value} (hr : ∀ w, (Op.equal t (.agg a) (.agg a)).run P w = .ok true w) [hg : Ngd P t] (ho : o.op = .binOp .neq t x y u) (hx : ev e x = some (.agg a)) (hy : ev e y = some (.agg a)) : Pu P N w0 D e M o (.bool false) := fun ac w hs hm => by
  simp [execOp, ho, hs.eval hx, hs.eval hy, run_eqGuard_agg _ _ _ _ _ _ _ hg.h, binOp, hr w]
theorem pu_eqlR {t u : TypeId} {x y : Operand} {a : Array Value} (hr : ∀ w, (Op.equal t (.agg a) (.agg a)).run P w = .ok true w) [hg : Ngd P t] (ho : o.op = .binOp .eql t x y u) (hx : ev e x = some (.agg a)) (hy : ev e y = some (.agg a)) : Pu P N w0 D e M o (.bool true) := fun ac w hs hm => by
  simp [execOp, ho, hs.eval hx, hs.eval hy, run_eqGuard_agg _ _ _ _ _ _ _ hg.h, binOp, hr w]
/-- The address of a field behind an address in a row that may lie anywhere. -/
theorem pu_fieldM {t : TypeId} {x : Operand} {f off s : Nat} {b : Bool} {p : Option Addr} {j : Nat} {L : List Value} (hr : ∀ w, Mem w0 D M w → RdV w p L) (hL : 0 < L.length) [hf : Fld P t f off s b] (h0 : s ≠ 0) (ho : o.op = .fieldAddr t x f) (hx : ev e x = some (.pointer (adr p j))) : Pu P N w0 D e M o (.pointer (adr p (j + off))) := fun ac w hs hm => by
  obtain ⟨bl, o1, rfl, _⟩ := (hr w hm).place hL
  have hx' : ev e x = some (.pointer (some ⟨bl, o1 + j, none⟩)) := hx
  have h := pu_fieldAddr (P := P) (N := N) (w0 := w0) (D := D) (M := M) h0 ho hx' ac w hs hm
  rw [Nat.add_assoc] at h
  exact h
/-- A load whose cells are known by another name. -/
theorem pu_loadE (tag : Nat) {t : TypeId} {x : Operand} {b off s : Nat} {c : Array Value} {E : TypeId} {fz : Nat × Nat} (a : Array Value) [hu : Agg P t true] [hz : Siz P t s] (ho : o.op = .load t x) (hx : ev e x = some (.pointer (some ⟨b, off, none⟩)))
    (hM : mget M tag = some (.pt b (.cells c E fz))) (hl : off + s ≤ c.size) (ha : c.extract off (off + s) = a) : Pu P N w0 D e M o (.agg a) := by
  have := pu_loadA (P := P) (N := N) (w0 := w0) (D := D) tag ho hx hM hl
  rwa [ha] at this
end
end Go.Sx

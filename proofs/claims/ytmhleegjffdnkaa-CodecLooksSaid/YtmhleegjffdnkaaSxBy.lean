/-
  Slices of bytes as one fact, equality of bools, for the judgement of Sx. No condition: they speak of any program.
-/
import Derived.Test.YtmhleegjffdnkaaSxZ
set_option linter.unusedVariables false
set_option linter.unusedSimpArgs false
namespace Go.Sx
open Go

/-- A slice of bytes of length n reads as l. -/
structure By (w : World) (p : Option Addr) (n : Nat) (l : List (BitVec 8)) : Prop where
  rd : RdV w p (bs l)
  len : l.length = n
  big : n ≤ 140737488355328

section
variable {P : Program} {fn : Func} {R : Ending → World → Prop} {N : Nat} {w0 : World} {D : List Nat} {e : List (Nat × Value)} {M : List (Nat × Ck)} {k : List It} {o : Oper} {all : Array Oper} {rest : List Oper}

theorem By.m {w : World} {p : Option Addr} {n : Nat} {l : List (BitVec 8)} (h : By w0 p n l) (hm : Mem w0 [] M w) : By w p n l := ⟨h.rd.mem0 hm, h.len, h.big⟩
theorem By.mD {w : World} {p : Option Addr} {n : Nat} {l : List (BitVec 8)} (h : By w0 p n l) (hm : Mem w0 D M w) (hD : ∀ b o, p = some ⟨b, o, none⟩ → b ∉ D) : By w p n l := ⟨h.rd.mem hm hD, h.len, h.big⟩
theorem By.nil (w : World) (p : Option Addr) : By w p 0 [] := ⟨RdV.nil .., rfl, by omega⟩
/-- An own slice of bytes. -/
theorem By.ow (t : Nat) {w : World} {E : TypeId} {x : Ow} {n : Nat} {l : List (BitVec 8)} (hM : mget M t = some (x.ck E 1 (bs l))) (hm : Mem w0 D M w) (hn : l.length = n) (hb : n ≤ 140737488355328) : By w x.p n l := ⟨Ow.rd hM hm, hn, hb⟩
theorem By.own (t : Nat) {w : World} {E : TypeId} {lo hi c : Nat} {p : Option Addr} {n : Nat} {l : List (BitVec 8)} (hM : mget M t = some (.fact lo hi (Own E 1 lo hi p c (bs l)))) (hm : Mem w0 D M w) (hn : l.length = n) (hb : n ≤ 140737488355328) : By w p n l := ⟨Own.rd (hm.holds _ _ hM), hn, hb⟩
/-- A known row. -/
theorem By.row (t : Nat) {w : World} {b : Nat} {n : Nat} {J : List Value} {E : TypeId} {fz : Nat × Nat} {l : List (BitVec 8)} (hM : mget M t = some (.pt b (.cells (bs l ++ J).toArray E fz))) (hm : Mem w0 D M w) (hn : l.length = n) (hb : n ≤ 140737488355328) : By w (some ⟨b, 0, none⟩) n l := ⟨hm.row t hM, hn, hb⟩
/-- A known row, whole. -/
theorem By.full (t : Nat) {w : World} {b : Nat} {n : Nat} {E : TypeId} {fz : Nat × Nat} {l : List (BitVec 8)} (hM : mget M t = some (.pt b (.cells (bs l).toArray E fz))) (hm : Mem w0 D M w) (hn : l.length = n) (hb : n ≤ 140737488355328) : By w (some ⟨b, 0, none⟩) n l := ⟨hm.row (J := []) t (by rw [List.append_nil]; exact hM), hn, hb⟩

theorem run_guardB {op : BinOp} {t : TypeId} {x y : Operand} {a b : Bool} (w : World) : (eqGuard op t x y (.bool a) (.bool b)).run P w = .ok () w := by
  unfold eqGuard
  split <;> simp
theorem run_equalB {t : TypeId} (w : World) (hu : P.underlying t = some .bool) (a b : Bool) : (Op.equal t (.bool a) (.bool b)).run P w = .ok (a == b) w := by
  obtain ⟨d, hd⟩ : ∃ d, Op.maxDepth = d + 1 := ⟨_, rfl⟩
  simp only [Op.equal, hd, Op.equalIn, Sem.run_bind, run_und hu, Result.andThen_ok, Sem.run_pure]
theorem pu_eqlB {t u : TypeId} {x y : Operand} {a b : Bool} [hu : Und P t .bool] (ho : o.op = .binOp .eql t x y u) (hx : ev e x = some (.bool a)) (hy : ev e y = some (.bool b)) : Pu P N w0 D e M o (.bool (decide (a = b))) := fun ac w hs hm => by
  simp [execOp, ho, hs.eval hx, hs.eval hy, run_guardB, binOp, run_equalB _ hu.h] <;> cases a <;> cases b <;> rfl
theorem pu_neqB {t u : TypeId} {x y : Operand} {a b : Bool} [hu : Und P t .bool] (ho : o.op = .binOp .neq t x y u) (hx : ev e x = some (.bool a)) (hy : ev e y = some (.bool b)) : Pu P N w0 D e M o (.bool (decide (a ≠ b))) := fun ac w hs hm => by
  simp [execOp, ho, hs.eval hx, hs.eval hy, run_guardB, binOp, run_equalB _ hu.h] <;> cases a <;> cases b <;> rfl
theorem pu_eqlB_t {t u : TypeId} {x y : Operand} {a b : Bool} [hu : Und P t .bool] (ho : o.op = .binOp .eql t x y u) (hx : ev e x = some (.bool a)) (hy : ev e y = some (.bool b)) (h : a = b) : Pu P N w0 D e M o (.bool true) := by
  have := pu_eqlB (P := P) (N := N) (w0 := w0) (D := D) (M := M) ho hx hy
  rwa [decide_eq_true h] at this
end
end Go.Sx

/-
  The laws of single operations for the judgement of Sx: what each hands back, in a state whose slots and memory are written out. No condition: they speak of any program.
-/
import Derived.Test.YteblmnpklcdnpaaSx
set_option linter.unusedVariables false
set_option linter.unusedSimpArgs false
namespace Go.Sx
open Go

section
variable {P : Program} {fn : Func} {R : Ending → World → Prop} {N : Nat} {w0 : World} {D : Blocks} {e : List (Nat × Value)} {M : List (Nat × Ck)} {k : List It} {o : Oper}

/-! ## Types, by closed facts -/
def agg? (P : Program) (t : TypeId) : Option Bool :=
  match P.underlying t with
  | some (.struct _) => some true
  | some (.array _ _) => some true
  | some _ => some false
  | none => none
def size? (P : Program) (t : TypeId) : Option Nat := (P.info? t).map (·.size)
def zero? (P : Program) (t : TypeId) : Option Value := (P.info? t).bind (·.zero)
def bytes? (P : Program) (t : TypeId) : Option Nat := (P.info? t).map (·.bytes)

class Und (P : Program) (t : TypeId) (d : outParam TypeDesc) : Prop where
  h : P.underlying t = some d
class Siz (P : Program) (t : TypeId) (n : outParam Nat) : Prop where
  h : size? P t = some n
class Zer (P : Program) (t : TypeId) (v : outParam Value) : Prop where
  h : zero? P t = some v
class Byt (P : Program) (t : TypeId) (n : outParam Nat) : Prop where
  h : bytes? P t = some n
class Agg (P : Program) (t : TypeId) (b : outParam Bool) : Prop where
  h : agg? P t = some b

theorem run_und {t : TypeId} {d : TypeDesc} (h : P.underlying t = some d) (w : World) : (underlying t).run P w = .ok d w := by simp [underlying, h]
theorem run_isAgg {t : TypeId} {b : Bool} (h : agg? P t = some b) (w : World) : (isAgg t).run P w = .ok b w := by
  unfold agg? at h
  simp only [isAgg, Sem.run_bind]
  split at h
  · rename_i hu; cases h; simp [run_und hu]
  · rename_i hu; cases h; simp [run_und hu]
  · rename_i d h1 h2 hu
    cases h
    simp only [run_und hu, Result.andThen_ok]
    cases d <;> simp_all
  · cases h
theorem run_size {t : TypeId} {n : Nat} (h : size? P t = some n) (w : World) : (Go.sizeOf t).run P w = .ok n w := by
  obtain ⟨i, hi, rfl⟩ := Option.map_eq_some_iff.1 h
  simp [Go.sizeOf, typeInfo, hi]
theorem run_zero {t : TypeId} {v : Value} (h : zero? P t = some v) (w : World) : (zeroValue t).run P w = .ok v w := by
  unfold zero? at h
  obtain ⟨i, hi, hz⟩ := Option.bind_eq_some_iff.1 h
  simp [zeroValue, typeInfo, hi, hz]

/-! ## Moves -/
theorem pu_move {x : Operand} {v : Value} (ho : o.op = .move x) (hx : ev e x = some v) : Pu P N w0 D e M o v := fun a w hs hm => by simp [execOp, ho, hs.eval hx]
theorem pu_assign {x : Operand} {v : Value} (ho : o.op = .assign x) (hx : ev e x = some v) : Pu P N w0 D e M o v := fun a w hs hm => by simp [execOp, ho, hs.eval hx]
theorem pu_pick {c x y : Operand} {b : Bool} {u v : Value} (ho : o.op = .pick c x y) (hc : ev e c = some (.bool b)) (hx : b = true → ev e x = some v) (hy : b = false → ev e y = some v) : Pu P N w0 D e M o v := fun a w hs hm => by
  cases b with
  | true => simp [execOp, ho, hs.eval hc, asBool, hs.eval (hx rfl)]
  | false => simp [execOp, ho, hs.eval hc, asBool, hs.eval (hy rfl)]
theorem pu_pick_t {c x y : Operand} {v : Value} (ho : o.op = .pick c x y) (hc : ev e c = some (.bool true)) (hx : ev e x = some v) : Pu P N w0 D e M o v :=
  pu_pick (u := v) ho hc (fun _ => hx) (fun h => by cases h)
theorem pu_pick_f {c x y : Operand} {v : Value} (ho : o.op = .pick c x y) (hc : ev e c = some (.bool false)) (hy : ev e y = some v) : Pu P N w0 D e M o v :=
  pu_pick (u := v) ho hc (fun h => by cases h) (fun _ => hy)
theorem pu_extract {x : Operand} {i : Nat} {vs : Array Value} {v : Value} (ho : o.op = .extract x i) (hx : ev e x = some (.tuple vs)) (hi : vs[i]? = some v) : Pu P N w0 D e M o v := fun a w hs hm => by
  simp [execOp, ho, hs.eval hx, Instr.extract, hi]
theorem pu_not {t : TypeId} {x : Operand} {b : Bool} (ho : o.op = .unOp .not t x) (hx : ev e x = some (.bool b)) : Pu P N w0 D e M o (.bool (!b)) := fun a w hs hm => by
  simp [execOp, ho, hs.eval hx, Op.unary]
theorem pu_nil {x : Operand} {ad : Addr} (ho : o.op = .nilCheck x) (hx : ev e x = some (.pointer (some ad))) : Pu P N w0 D e M o (.pointer (some ad)) := fun a w hs hm => by
  simp [execOp, ho, hs.eval hx]

/-! ## Numbers -/
theorem run_guard {op : BinOp} {t : TypeId} {x y : Operand} {k k' : IntKind} {a b : Int} (w : World) : (eqGuard op t x y (.int k a) (.int k' b)).run P w = .ok () w := by
  unfold eqGuard
  split <;> simp
theorem pu_arith {op : BinOp} {t u : TypeId} {x y : Operand} {k : IntKind} {a b z : Int} (ho : o.op = .binOp op t x y u) (hx : ev e x = some (.int k a)) (hy : ev e y = some (.int k b))
    (hz : match op with | .add => k.wrap (a + b) = z | .sub => k.wrap (a - b) = z | .mul => k.wrap (a * b) = z | _ => False) : Pu P N w0 D e M o (.int k z) := fun ac w hs hm => by
  cases op <;> simp only at hz <;> first | exact hz.elim | (subst hz; simp [execOp, ho, hs.eval hx, hs.eval hy, run_guard, binOp, Op.intArith])

theorem pu_addI {t u : TypeId} {x y : Operand} {a b : Int} (ho : o.op = .binOp .add t x y u) (hx : ev e x = some (.int .i64 a)) (hy : ev e y = some (.int .i64 b))
    (h : -9223372036854775808 ≤ a + b ∧ a + b ≤ 9223372036854775807) : Pu P N w0 D e M o (.int .i64 (a + b)) := pu_arith ho hx hy (IntWalk.i64_in _ h)
theorem pu_addW {t u : TypeId} {x y : Operand} {k : IntKind} {a b : Int} (ho : o.op = .binOp .add t x y u) (hx : ev e x = some (.int k a)) (hy : ev e y = some (.int k b)) : Pu P N w0 D e M o (.int k (k.wrap (a + b))) := pu_arith ho hx hy rfl

theorem pu_subI {t u : TypeId} {x y : Operand} {a b : Int} (ho : o.op = .binOp .sub t x y u) (hx : ev e x = some (.int .i64 a)) (hy : ev e y = some (.int .i64 b))
    (h : -9223372036854775808 ≤ a - b ∧ a - b ≤ 9223372036854775807) : Pu P N w0 D e M o (.int .i64 (a - b)) := pu_arith ho hx hy (IntWalk.i64_in _ h)
theorem pu_subW {t u : TypeId} {x y : Operand} {k : IntKind} {a b : Int} (ho : o.op = .binOp .sub t x y u) (hx : ev e x = some (.int k a)) (hy : ev e y = some (.int k b)) : Pu P N w0 D e M o (.int k (k.wrap (a - b))) := pu_arith ho hx hy rfl

theorem pu_mulI {t u : TypeId} {x y : Operand} {a b : Int} (ho : o.op = .binOp .mul t x y u) (hx : ev e x = some (.int .i64 a)) (hy : ev e y = some (.int .i64 b))
    (h : -9223372036854775808 ≤ a * b ∧ a * b ≤ 9223372036854775807) : Pu P N w0 D e M o (.int .i64 (a * b)) := pu_arith ho hx hy (IntWalk.i64_in _ h)
theorem pu_mulW {t u : TypeId} {x y : Operand} {k : IntKind} {a b : Int} (ho : o.op = .binOp .mul t x y u) (hx : ev e x = some (.int k a)) (hy : ev e y = some (.int k b)) : Pu P N w0 D e M o (.int k (k.wrap (a * b))) := pu_arith ho hx hy rfl

theorem pu_quoI {t u : TypeId} {x y : Operand} {a b : Int} (ho : o.op = .binOp .quo t x y u) (hx : ev e x = some (.int .i64 a)) (hy : ev e y = some (.int .i64 b))
    (h : 0 ≤ a ∧ a ≤ 9223372036854775807 ∧ 1 ≤ b) : Pu P N w0 D e M o (.int .i64 (a / b)) := fun ac w hs hm => by
  have hb : ¬ b = 0 := by omega
  simp [execOp, ho, hs.eval hx, hs.eval hy, run_guard, binOp, Op.intDiv, hb, IntWalk.i64_quo a b h]
theorem pu_remI {t u : TypeId} {x y : Operand} {k : IntKind} {a b : Int} (ho : o.op = .binOp .rem t x y u) (hx : ev e x = some (.int k a)) (hy : ev e y = some (.int k b))
    (h : 0 ≤ a ∧ 1 ≤ b) : Pu P N w0 D e M o (.int k (a % b)) := fun ac w hs hm => by
  have hb : ¬ b = 0 := by omega
  simp [execOp, ho, hs.eval hx, hs.eval hy, run_guard, binOp, Op.intDiv, hb, Int.tmod_eq_emod_of_nonneg h.1]

theorem pu_lss {t u : TypeId} {x y : Operand} {k : IntKind} {a b : Int} (ho : o.op = .binOp .lss t x y u) (hx : ev e x = some (.int k a)) (hy : ev e y = some (.int k b)) : Pu P N w0 D e M o (.bool (decide (a < b))) := fun ac w hs hm => by
  simp [execOp, ho, hs.eval hx, hs.eval hy, run_guard, binOp, Op.intCmp] 
theorem pu_lss_t {t u : TypeId} {x y : Operand} {k : IntKind} {a b : Int} (ho : o.op = .binOp .lss t x y u) (hx : ev e x = some (.int k a)) (hy : ev e y = some (.int k b)) (h : a < b) : Pu P N w0 D e M o (.bool true) := by
  have := pu_lss (P := P) (N := N) (w0 := w0) (D := D) (M := M) ho hx hy
  rwa [decide_eq_true h] at this
theorem pu_lss_f {t u : TypeId} {x y : Operand} {k : IntKind} {a b : Int} (ho : o.op = .binOp .lss t x y u) (hx : ev e x = some (.int k a)) (hy : ev e y = some (.int k b)) (h : ¬ (a < b)) : Pu P N w0 D e M o (.bool false) := by
  have := pu_lss (P := P) (N := N) (w0 := w0) (D := D) (M := M) ho hx hy
  rwa [decide_eq_false h] at this

theorem pu_leq {t u : TypeId} {x y : Operand} {k : IntKind} {a b : Int} (ho : o.op = .binOp .leq t x y u) (hx : ev e x = some (.int k a)) (hy : ev e y = some (.int k b)) : Pu P N w0 D e M o (.bool (decide (a ≤ b))) := fun ac w hs hm => by
  simp [execOp, ho, hs.eval hx, hs.eval hy, run_guard, binOp, Op.intCmp] 
theorem pu_leq_t {t u : TypeId} {x y : Operand} {k : IntKind} {a b : Int} (ho : o.op = .binOp .leq t x y u) (hx : ev e x = some (.int k a)) (hy : ev e y = some (.int k b)) (h : a ≤ b) : Pu P N w0 D e M o (.bool true) := by
  have := pu_leq (P := P) (N := N) (w0 := w0) (D := D) (M := M) ho hx hy
  rwa [decide_eq_true h] at this
theorem pu_leq_f {t u : TypeId} {x y : Operand} {k : IntKind} {a b : Int} (ho : o.op = .binOp .leq t x y u) (hx : ev e x = some (.int k a)) (hy : ev e y = some (.int k b)) (h : ¬ (a ≤ b)) : Pu P N w0 D e M o (.bool false) := by
  have := pu_leq (P := P) (N := N) (w0 := w0) (D := D) (M := M) ho hx hy
  rwa [decide_eq_false h] at this

theorem pu_gtr {t u : TypeId} {x y : Operand} {k : IntKind} {a b : Int} (ho : o.op = .binOp .gtr t x y u) (hx : ev e x = some (.int k a)) (hy : ev e y = some (.int k b)) : Pu P N w0 D e M o (.bool (decide (b < a))) := fun ac w hs hm => by
  simp [execOp, ho, hs.eval hx, hs.eval hy, run_guard, binOp, Op.intCmp] 
theorem pu_gtr_t {t u : TypeId} {x y : Operand} {k : IntKind} {a b : Int} (ho : o.op = .binOp .gtr t x y u) (hx : ev e x = some (.int k a)) (hy : ev e y = some (.int k b)) (h : b < a) : Pu P N w0 D e M o (.bool true) := by
  have := pu_gtr (P := P) (N := N) (w0 := w0) (D := D) (M := M) ho hx hy
  rwa [decide_eq_true h] at this
theorem pu_gtr_f {t u : TypeId} {x y : Operand} {k : IntKind} {a b : Int} (ho : o.op = .binOp .gtr t x y u) (hx : ev e x = some (.int k a)) (hy : ev e y = some (.int k b)) (h : ¬ (b < a)) : Pu P N w0 D e M o (.bool false) := by
  have := pu_gtr (P := P) (N := N) (w0 := w0) (D := D) (M := M) ho hx hy
  rwa [decide_eq_false h] at this

theorem pu_geq {t u : TypeId} {x y : Operand} {k : IntKind} {a b : Int} (ho : o.op = .binOp .geq t x y u) (hx : ev e x = some (.int k a)) (hy : ev e y = some (.int k b)) : Pu P N w0 D e M o (.bool (decide (b ≤ a))) := fun ac w hs hm => by
  simp [execOp, ho, hs.eval hx, hs.eval hy, run_guard, binOp, Op.intCmp] 
theorem pu_geq_t {t u : TypeId} {x y : Operand} {k : IntKind} {a b : Int} (ho : o.op = .binOp .geq t x y u) (hx : ev e x = some (.int k a)) (hy : ev e y = some (.int k b)) (h : b ≤ a) : Pu P N w0 D e M o (.bool true) := by
  have := pu_geq (P := P) (N := N) (w0 := w0) (D := D) (M := M) ho hx hy
  rwa [decide_eq_true h] at this
theorem pu_geq_f {t u : TypeId} {x y : Operand} {k : IntKind} {a b : Int} (ho : o.op = .binOp .geq t x y u) (hx : ev e x = some (.int k a)) (hy : ev e y = some (.int k b)) (h : ¬ (b ≤ a)) : Pu P N w0 D e M o (.bool false) := by
  have := pu_geq (P := P) (N := N) (w0 := w0) (D := D) (M := M) ho hx hy
  rwa [decide_eq_false h] at this

theorem pu_eql {t u : TypeId} {x y : Operand} {k : IntKind} {a b : Int} (ho : o.op = .binOp .eql t x y u) (hx : ev e x = some (.int k a)) (hy : ev e y = some (.int k b)) : Pu P N w0 D e M o (.bool (decide (a = b))) := fun ac w hs hm => by
  simp [execOp, ho, hs.eval hx, hs.eval hy, run_guard, binOp, Op.intCmp] <;> (try rw [Bool.eq_iff_iff]) <;> simp
theorem pu_eql_t {t u : TypeId} {x y : Operand} {k : IntKind} {a b : Int} (ho : o.op = .binOp .eql t x y u) (hx : ev e x = some (.int k a)) (hy : ev e y = some (.int k b)) (h : a = b) : Pu P N w0 D e M o (.bool true) := by
  have := pu_eql (P := P) (N := N) (w0 := w0) (D := D) (M := M) ho hx hy
  rwa [decide_eq_true h] at this
theorem pu_eql_f {t u : TypeId} {x y : Operand} {k : IntKind} {a b : Int} (ho : o.op = .binOp .eql t x y u) (hx : ev e x = some (.int k a)) (hy : ev e y = some (.int k b)) (h : ¬ (a = b)) : Pu P N w0 D e M o (.bool false) := by
  have := pu_eql (P := P) (N := N) (w0 := w0) (D := D) (M := M) ho hx hy
  rwa [decide_eq_false h] at this

theorem pu_neq {t u : TypeId} {x y : Operand} {k : IntKind} {a b : Int} (ho : o.op = .binOp .neq t x y u) (hx : ev e x = some (.int k a)) (hy : ev e y = some (.int k b)) : Pu P N w0 D e M o (.bool (decide (a ≠ b))) := fun ac w hs hm => by
  simp [execOp, ho, hs.eval hx, hs.eval hy, run_guard, binOp, Op.intCmp] <;> (try rw [Bool.eq_iff_iff]) <;> simp
theorem pu_neq_t {t u : TypeId} {x y : Operand} {k : IntKind} {a b : Int} (ho : o.op = .binOp .neq t x y u) (hx : ev e x = some (.int k a)) (hy : ev e y = some (.int k b)) (h : a ≠ b) : Pu P N w0 D e M o (.bool true) := by
  have := pu_neq (P := P) (N := N) (w0 := w0) (D := D) (M := M) ho hx hy
  rwa [decide_eq_true h] at this
theorem pu_neq_f {t u : TypeId} {x y : Operand} {k : IntKind} {a b : Int} (ho : o.op = .binOp .neq t x y u) (hx : ev e x = some (.int k a)) (hy : ev e y = some (.int k b)) (h : ¬ (a ≠ b)) : Pu P N w0 D e M o (.bool false) := by
  have := pu_neq (P := P) (N := N) (w0 := w0) (D := D) (M := M) ho hx hy
  rwa [decide_eq_false h] at this

/-! ## Words -/
def b8 (x : BitVec 8) : Value := .int .u8 (x.toNat : Int)
theorem b8_of (z : Int) (h : 0 ≤ z ∧ z < 256) : Value.int .u8 z = b8 (BitVec.ofInt 8 z) := by
  unfold b8
  rw [BitVec.toNat_ofInt]
  congr 1
  omega
theorem b8_inj {x y : BitVec 8} (h : b8 x = b8 y) : x = y := by
  unfold b8 at h
  simp only [Value.int.injEq, true_and] at h
  exact BitVec.eq_of_toNat_eq (by omega)
theorem wrap8 (z : Int) : IntKind.u8.wrap z = ((BitVec.ofInt 8 z).toNat : Int) := by
  simp only [IntKind.wrap, IntKind.bits, IntKind.signed, Bool.false_and, BitVec.toNat_ofInt]
  simp
  omega
theorem ofInt8 (x : BitVec 8) : BitVec.ofInt 8 (x.toNat : Int) = x := by
  apply BitVec.eq_of_toNat_eq
  rw [BitVec.toNat_ofInt]
  have := x.isLt
  omega

theorem pu_add8 {t u : TypeId} {x y : Operand} {a b : BitVec 8} (ho : o.op = .binOp .add t x y u) (hx : ev e x = some (b8 a)) (hy : ev e y = some (b8 b)) : Pu P N w0 D e M o (b8 (a + b)) :=
  pu_arith ho hx hy (by
    simp only []
    rw [wrap8]
    have h5 : (BitVec.ofInt 8 ((a.toNat : Int) + (b.toNat : Int))).toNat = (a + b).toNat := by
      rw [BitVec.toNat_ofInt]
      rw [BitVec.toNat_add]; omega
    rw [h5])

theorem pu_sub8 {t u : TypeId} {x y : Operand} {a b : BitVec 8} (ho : o.op = .binOp .sub t x y u) (hx : ev e x = some (b8 a)) (hy : ev e y = some (b8 b)) : Pu P N w0 D e M o (b8 (a - b)) :=
  pu_arith ho hx hy (by
    simp only []
    rw [wrap8]
    have h5 : (BitVec.ofInt 8 ((a.toNat : Int) - (b.toNat : Int))).toNat = (a - b).toNat := by
      rw [BitVec.toNat_ofInt]
      rw [BitVec.toNat_sub]; have := a.isLt; have := b.isLt; omega
    rw [h5])

theorem pu_mul8 {t u : TypeId} {x y : Operand} {a b : BitVec 8} (ho : o.op = .binOp .mul t x y u) (hx : ev e x = some (b8 a)) (hy : ev e y = some (b8 b)) : Pu P N w0 D e M o (b8 (a * b)) :=
  pu_arith ho hx hy (by
    simp only []
    rw [wrap8]
    have h5 : (BitVec.ofInt 8 ((a.toNat : Int) * (b.toNat : Int))).toNat = (a * b).toNat := by
      rw [BitVec.toNat_ofInt]
      rw [BitVec.toNat_mul]; rw [show ((a.toNat : Int) * (b.toNat : Int)) = ((a.toNat * b.toNat : Nat) : Int) from rfl]; omega
    rw [h5])

theorem pu_and8 {t u : TypeId} {x y : Operand} {a b : BitVec 8} (ho : o.op = .binOp .and t x y u) (hx : ev e x = some (b8 a)) (hy : ev e y = some (b8 b)) : Pu P N w0 D e M o (b8 (a &&& b)) := fun ac w hs hm => by
  have h1 : IntKind.u8.bits = 8 := rfl
  simp only [execOp, ho, hs.eval hx, hs.eval hy, b8, run_guard, binOp, Op.intBits, Sem.run_bind, Result.andThen_ok, Sem.run_pure, ne_eq, not_true_eq_false, if_false]
  rw [wrap8]
  congr 3
  show ((BitVec.ofInt 8 ((BitVec.ofInt 8 (a.toNat : Int) &&& BitVec.ofInt 8 (b.toNat : Int)).toNat : Int)).toNat : Int) = _
  rw [ofInt8, ofInt8, ofInt8]

theorem pu_or8 {t u : TypeId} {x y : Operand} {a b : BitVec 8} (ho : o.op = .binOp .or t x y u) (hx : ev e x = some (b8 a)) (hy : ev e y = some (b8 b)) : Pu P N w0 D e M o (b8 (a ||| b)) := fun ac w hs hm => by
  have h1 : IntKind.u8.bits = 8 := rfl
  simp only [execOp, ho, hs.eval hx, hs.eval hy, b8, run_guard, binOp, Op.intBits, Sem.run_bind, Result.andThen_ok, Sem.run_pure, ne_eq, not_true_eq_false, if_false]
  rw [wrap8]
  congr 3
  show ((BitVec.ofInt 8 ((BitVec.ofInt 8 (a.toNat : Int) ||| BitVec.ofInt 8 (b.toNat : Int)).toNat : Int)).toNat : Int) = _
  rw [ofInt8, ofInt8, ofInt8]

theorem pu_xor8 {t u : TypeId} {x y : Operand} {a b : BitVec 8} (ho : o.op = .binOp .xor t x y u) (hx : ev e x = some (b8 a)) (hy : ev e y = some (b8 b)) : Pu P N w0 D e M o (b8 (a ^^^ b)) := fun ac w hs hm => by
  have h1 : IntKind.u8.bits = 8 := rfl
  simp only [execOp, ho, hs.eval hx, hs.eval hy, b8, run_guard, binOp, Op.intBits, Sem.run_bind, Result.andThen_ok, Sem.run_pure, ne_eq, not_true_eq_false, if_false]
  rw [wrap8]
  congr 3
  show ((BitVec.ofInt 8 ((BitVec.ofInt 8 (a.toNat : Int) ^^^ BitVec.ofInt 8 (b.toNat : Int)).toNat : Int)).toNat : Int) = _
  rw [ofInt8, ofInt8, ofInt8]

theorem pu_com8 {t : TypeId} {x : Operand} {a : BitVec 8} (ho : o.op = .unOp .xor t x) (hx : ev e x = some (b8 a)) : Pu P N w0 D e M o (b8 (~~~ a)) := fun ac w hs hm => by
  simp only [execOp, ho, hs.eval hx, b8, Op.unary, Op.intBits, Sem.run_bind, Result.andThen_ok, Sem.run_pure]
  rw [wrap8]
  congr 3
  have h5 : BitVec.ofInt 8 (2 ^ 8 - 1) = BitVec.allOnes 8 := by decide
  have h6 : (BitVec.ofInt 8 ((BitVec.ofInt 8 (2 ^ 8 - 1) ^^^ BitVec.ofInt 8 (a.toNat : Int)).toNat : Int)).toNat = (~~~ a).toNat := by
    rw [ofInt8, ofInt8, h5, BitVec.allOnes_xor]
  exact congrArg (fun (z : Nat) => (z : Int)) h6
theorem pu_shl8 {t u : TypeId} {x y : Operand} {a : BitVec 8} {yk : IntKind} {s : Int} (ho : o.op = .binOp .shl t x y u) (hx : ev e x = some (b8 a)) (hy : ev e y = some (.int yk s)) (h0 : 0 ≤ s) : Pu P N w0 D e M o (b8 (a <<< s.toNat)) := fun ac w hs hm => by
  have h1 : ¬ s < 0 := by omega
  simp only [execOp, ho, hs.eval hx, hs.eval hy, b8, run_guard, binOp, Op.shift, Sem.run_bind, Result.andThen_ok, Sem.run_pure, h1, if_false]
  rw [wrap8]
  congr 3
  show ((BitVec.ofInt 8 ((a.toNat : Int) * 2 ^ (min s.toNat 8))).toNat : Int) = _
  congr 1
  rw [BitVec.toNat_ofInt, BitVec.toNat_shiftLeft, Nat.shiftLeft_eq]
  have e1 : ((a.toNat : Int) * 2 ^ (min s.toNat 8)) = ((a.toNat * 2 ^ (min s.toNat 8) : Nat) : Int) := by simp
  rw [e1]
  rcases Nat.le_total s.toNat 8 with hl | hl
  · rw [Nat.min_eq_left hl]; omega
  · rw [Nat.min_eq_right hl]
    obtain ⟨d, hd⟩ := Nat.exists_eq_add_of_le hl
    rw [hd, Nat.pow_add, ← Nat.mul_assoc]
    have e2 : a.toNat * 2 ^ 8 * 2 ^ d % 2 ^ 8 = 0 := by
      rw [Nat.mul_right_comm]; exact Nat.mul_mod_left _ _
    rw [e2]
    omega
theorem pu_shr8 {t u : TypeId} {x y : Operand} {a : BitVec 8} {yk : IntKind} {s : Int} (ho : o.op = .binOp .shr t x y u) (hx : ev e x = some (b8 a)) (hy : ev e y = some (.int yk s)) (h0 : 0 ≤ s) : Pu P N w0 D e M o (b8 (a >>> s.toNat)) := fun ac w hs hm => by
  have h1 : ¬ s < 0 := by omega
  simp only [execOp, ho, hs.eval hx, hs.eval hy, b8, run_guard, binOp, Op.shift, Sem.run_bind, Result.andThen_ok, Sem.run_pure, h1, if_false]
  congr 3
  show Int.fdiv (a.toNat : Int) (2 ^ (min s.toNat 8)) = _
  rw [BitVec.toNat_ushiftRight, Nat.shiftRight_eq_div_pow]
  have e1 : ((2 : Int) ^ (min s.toNat 8)) = ((2 ^ (min s.toNat 8) : Nat) : Int) := by simp
  rw [e1, Int.fdiv_eq_ediv_of_nonneg _ (Int.natCast_nonneg _)]
  rcases Nat.le_total s.toNat 8 with hl | hl
  · rw [Nat.min_eq_left hl]; rfl
  · rw [Nat.min_eq_right hl]
    have hlt := a.isLt
    have h2 : 2 ^ 8 ≤ 2 ^ s.toNat := Nat.pow_le_pow_right (by omega) hl
    rw [Nat.div_eq_of_lt (Nat.lt_of_lt_of_le hlt h2)]
    have : a.toNat / 2 ^ 8 = 0 := Nat.div_eq_of_lt hlt
    rw [show ((a.toNat : Int) / ((2 ^ 8 : Nat) : Int)) = ((a.toNat / 2 ^ 8 : Nat) : Int) from rfl, this]
theorem pu_eql8 {t u : TypeId} {x y : Operand} {a b : BitVec 8} (ho : o.op = .binOp .eql t x y u) (hx : ev e x = some (b8 a)) (hy : ev e y = some (b8 b)) : Pu P N w0 D e M o (.bool (decide (a = b))) := by
  have := pu_eql (P := P) (N := N) (w0 := w0) (D := D) (M := M) ho hx hy
  have h1 : ((a.toNat : Int) = (b.toNat : Int)) ↔ a = b := ⟨fun h => BitVec.eq_of_toNat_eq (by omega), fun h => by rw [h]⟩
  simpa only [h1] using this
theorem pu_neq8 {t u : TypeId} {x y : Operand} {a b : BitVec 8} (ho : o.op = .binOp .neq t x y u) (hx : ev e x = some (b8 a)) (hy : ev e y = some (b8 b)) : Pu P N w0 D e M o (.bool (decide (a ≠ b))) := by
  have := pu_neq (P := P) (N := N) (w0 := w0) (D := D) (M := M) ho hx hy
  have h1 : ((a.toNat : Int) ≠ (b.toNat : Int)) ↔ a ≠ b := ⟨fun h h' => h (by rw [h']), fun h h' => h (BitVec.eq_of_toNat_eq (by omega))⟩
  simpa only [h1] using this

def b32 (x : BitVec 32) : Value := .int .u32 (x.toNat : Int)
theorem b32_of (z : Int) (h : 0 ≤ z ∧ z < 4294967296) : Value.int .u32 z = b32 (BitVec.ofInt 32 z) := by
  unfold b32
  rw [BitVec.toNat_ofInt]
  congr 1
  omega
theorem b32_inj {x y : BitVec 32} (h : b32 x = b32 y) : x = y := by
  unfold b32 at h
  simp only [Value.int.injEq, true_and] at h
  exact BitVec.eq_of_toNat_eq (by omega)
theorem wrap32 (z : Int) : IntKind.u32.wrap z = ((BitVec.ofInt 32 z).toNat : Int) := by
  simp only [IntKind.wrap, IntKind.bits, IntKind.signed, Bool.false_and, BitVec.toNat_ofInt]
  simp
  omega
theorem ofInt32 (x : BitVec 32) : BitVec.ofInt 32 (x.toNat : Int) = x := by
  apply BitVec.eq_of_toNat_eq
  rw [BitVec.toNat_ofInt]
  have := x.isLt
  omega

theorem pu_add32 {t u : TypeId} {x y : Operand} {a b : BitVec 32} (ho : o.op = .binOp .add t x y u) (hx : ev e x = some (b32 a)) (hy : ev e y = some (b32 b)) : Pu P N w0 D e M o (b32 (a + b)) :=
  pu_arith ho hx hy (by
    simp only []
    rw [wrap32]
    have h5 : (BitVec.ofInt 32 ((a.toNat : Int) + (b.toNat : Int))).toNat = (a + b).toNat := by
      rw [BitVec.toNat_ofInt]
      rw [BitVec.toNat_add]; omega
    rw [h5])

theorem pu_sub32 {t u : TypeId} {x y : Operand} {a b : BitVec 32} (ho : o.op = .binOp .sub t x y u) (hx : ev e x = some (b32 a)) (hy : ev e y = some (b32 b)) : Pu P N w0 D e M o (b32 (a - b)) :=
  pu_arith ho hx hy (by
    simp only []
    rw [wrap32]
    have h5 : (BitVec.ofInt 32 ((a.toNat : Int) - (b.toNat : Int))).toNat = (a - b).toNat := by
      rw [BitVec.toNat_ofInt]
      rw [BitVec.toNat_sub]; have := a.isLt; have := b.isLt; omega
    rw [h5])

theorem pu_mul32 {t u : TypeId} {x y : Operand} {a b : BitVec 32} (ho : o.op = .binOp .mul t x y u) (hx : ev e x = some (b32 a)) (hy : ev e y = some (b32 b)) : Pu P N w0 D e M o (b32 (a * b)) :=
  pu_arith ho hx hy (by
    simp only []
    rw [wrap32]
    have h5 : (BitVec.ofInt 32 ((a.toNat : Int) * (b.toNat : Int))).toNat = (a * b).toNat := by
      rw [BitVec.toNat_ofInt]
      rw [BitVec.toNat_mul]; rw [show ((a.toNat : Int) * (b.toNat : Int)) = ((a.toNat * b.toNat : Nat) : Int) from rfl]; omega
    rw [h5])

theorem pu_and32 {t u : TypeId} {x y : Operand} {a b : BitVec 32} (ho : o.op = .binOp .and t x y u) (hx : ev e x = some (b32 a)) (hy : ev e y = some (b32 b)) : Pu P N w0 D e M o (b32 (a &&& b)) := fun ac w hs hm => by
  have h1 : IntKind.u32.bits = 32 := rfl
  simp only [execOp, ho, hs.eval hx, hs.eval hy, b32, run_guard, binOp, Op.intBits, Sem.run_bind, Result.andThen_ok, Sem.run_pure, ne_eq, not_true_eq_false, if_false]
  rw [wrap32]
  congr 3
  show ((BitVec.ofInt 32 ((BitVec.ofInt 32 (a.toNat : Int) &&& BitVec.ofInt 32 (b.toNat : Int)).toNat : Int)).toNat : Int) = _
  rw [ofInt32, ofInt32, ofInt32]

theorem pu_or32 {t u : TypeId} {x y : Operand} {a b : BitVec 32} (ho : o.op = .binOp .or t x y u) (hx : ev e x = some (b32 a)) (hy : ev e y = some (b32 b)) : Pu P N w0 D e M o (b32 (a ||| b)) := fun ac w hs hm => by
  have h1 : IntKind.u32.bits = 32 := rfl
  simp only [execOp, ho, hs.eval hx, hs.eval hy, b32, run_guard, binOp, Op.intBits, Sem.run_bind, Result.andThen_ok, Sem.run_pure, ne_eq, not_true_eq_false, if_false]
  rw [wrap32]
  congr 3
  show ((BitVec.ofInt 32 ((BitVec.ofInt 32 (a.toNat : Int) ||| BitVec.ofInt 32 (b.toNat : Int)).toNat : Int)).toNat : Int) = _
  rw [ofInt32, ofInt32, ofInt32]

theorem pu_xor32 {t u : TypeId} {x y : Operand} {a b : BitVec 32} (ho : o.op = .binOp .xor t x y u) (hx : ev e x = some (b32 a)) (hy : ev e y = some (b32 b)) : Pu P N w0 D e M o (b32 (a ^^^ b)) := fun ac w hs hm => by
  have h1 : IntKind.u32.bits = 32 := rfl
  simp only [execOp, ho, hs.eval hx, hs.eval hy, b32, run_guard, binOp, Op.intBits, Sem.run_bind, Result.andThen_ok, Sem.run_pure, ne_eq, not_true_eq_false, if_false]
  rw [wrap32]
  congr 3
  show ((BitVec.ofInt 32 ((BitVec.ofInt 32 (a.toNat : Int) ^^^ BitVec.ofInt 32 (b.toNat : Int)).toNat : Int)).toNat : Int) = _
  rw [ofInt32, ofInt32, ofInt32]

theorem pu_com32 {t : TypeId} {x : Operand} {a : BitVec 32} (ho : o.op = .unOp .xor t x) (hx : ev e x = some (b32 a)) : Pu P N w0 D e M o (b32 (~~~ a)) := fun ac w hs hm => by
  simp only [execOp, ho, hs.eval hx, b32, Op.unary, Op.intBits, Sem.run_bind, Result.andThen_ok, Sem.run_pure]
  rw [wrap32]
  congr 3
  have h5 : BitVec.ofInt 32 (2 ^ 32 - 1) = BitVec.allOnes 32 := by decide
  have h6 : (BitVec.ofInt 32 ((BitVec.ofInt 32 (2 ^ 32 - 1) ^^^ BitVec.ofInt 32 (a.toNat : Int)).toNat : Int)).toNat = (~~~ a).toNat := by
    rw [ofInt32, ofInt32, h5, BitVec.allOnes_xor]
  exact congrArg (fun (z : Nat) => (z : Int)) h6
theorem pu_shl32 {t u : TypeId} {x y : Operand} {a : BitVec 32} {yk : IntKind} {s : Int} (ho : o.op = .binOp .shl t x y u) (hx : ev e x = some (b32 a)) (hy : ev e y = some (.int yk s)) (h0 : 0 ≤ s) : Pu P N w0 D e M o (b32 (a <<< s.toNat)) := fun ac w hs hm => by
  have h1 : ¬ s < 0 := by omega
  simp only [execOp, ho, hs.eval hx, hs.eval hy, b32, run_guard, binOp, Op.shift, Sem.run_bind, Result.andThen_ok, Sem.run_pure, h1, if_false]
  rw [wrap32]
  congr 3
  show ((BitVec.ofInt 32 ((a.toNat : Int) * 2 ^ (min s.toNat 32))).toNat : Int) = _
  congr 1
  rw [BitVec.toNat_ofInt, BitVec.toNat_shiftLeft, Nat.shiftLeft_eq]
  have e1 : ((a.toNat : Int) * 2 ^ (min s.toNat 32)) = ((a.toNat * 2 ^ (min s.toNat 32) : Nat) : Int) := by simp
  rw [e1]
  rcases Nat.le_total s.toNat 32 with hl | hl
  · rw [Nat.min_eq_left hl]; omega
  · rw [Nat.min_eq_right hl]
    obtain ⟨d, hd⟩ := Nat.exists_eq_add_of_le hl
    rw [hd, Nat.pow_add, ← Nat.mul_assoc]
    have e2 : a.toNat * 2 ^ 32 * 2 ^ d % 2 ^ 32 = 0 := by
      rw [Nat.mul_right_comm]; exact Nat.mul_mod_left _ _
    rw [e2]
    omega
theorem pu_shr32 {t u : TypeId} {x y : Operand} {a : BitVec 32} {yk : IntKind} {s : Int} (ho : o.op = .binOp .shr t x y u) (hx : ev e x = some (b32 a)) (hy : ev e y = some (.int yk s)) (h0 : 0 ≤ s) : Pu P N w0 D e M o (b32 (a >>> s.toNat)) := fun ac w hs hm => by
  have h1 : ¬ s < 0 := by omega
  simp only [execOp, ho, hs.eval hx, hs.eval hy, b32, run_guard, binOp, Op.shift, Sem.run_bind, Result.andThen_ok, Sem.run_pure, h1, if_false]
  congr 3
  show Int.fdiv (a.toNat : Int) (2 ^ (min s.toNat 32)) = _
  rw [BitVec.toNat_ushiftRight, Nat.shiftRight_eq_div_pow]
  have e1 : ((2 : Int) ^ (min s.toNat 32)) = ((2 ^ (min s.toNat 32) : Nat) : Int) := by simp
  rw [e1, Int.fdiv_eq_ediv_of_nonneg _ (Int.natCast_nonneg _)]
  rcases Nat.le_total s.toNat 32 with hl | hl
  · rw [Nat.min_eq_left hl]; rfl
  · rw [Nat.min_eq_right hl]
    have hlt := a.isLt
    have h2 : 2 ^ 32 ≤ 2 ^ s.toNat := Nat.pow_le_pow_right (by omega) hl
    rw [Nat.div_eq_of_lt (Nat.lt_of_lt_of_le hlt h2)]
    have : a.toNat / 2 ^ 32 = 0 := Nat.div_eq_of_lt hlt
    rw [show ((a.toNat : Int) / ((2 ^ 32 : Nat) : Int)) = ((a.toNat / 2 ^ 32 : Nat) : Int) from rfl, this]
theorem pu_eql32 {t u : TypeId} {x y : Operand} {a b : BitVec 32} (ho : o.op = .binOp .eql t x y u) (hx : ev e x = some (b32 a)) (hy : ev e y = some (b32 b)) : Pu P N w0 D e M o (.bool (decide (a = b))) := by
  have := pu_eql (P := P) (N := N) (w0 := w0) (D := D) (M := M) ho hx hy
  have h1 : ((a.toNat : Int) = (b.toNat : Int)) ↔ a = b := ⟨fun h => BitVec.eq_of_toNat_eq (by omega), fun h => by rw [h]⟩
  simpa only [h1] using this
theorem pu_neq32 {t u : TypeId} {x y : Operand} {a b : BitVec 32} (ho : o.op = .binOp .neq t x y u) (hx : ev e x = some (b32 a)) (hy : ev e y = some (b32 b)) : Pu P N w0 D e M o (.bool (decide (a ≠ b))) := by
  have := pu_neq (P := P) (N := N) (w0 := w0) (D := D) (M := M) ho hx hy
  have h1 : ((a.toNat : Int) ≠ (b.toNat : Int)) ↔ a ≠ b := ⟨fun h h' => h (by rw [h']), fun h h' => h (BitVec.eq_of_toNat_eq (by omega))⟩
  simpa only [h1] using this

def b64 (x : BitVec 64) : Value := .int .u64 (x.toNat : Int)
theorem b64_of (z : Int) (h : 0 ≤ z ∧ z < 18446744073709551616) : Value.int .u64 z = b64 (BitVec.ofInt 64 z) := by
  unfold b64
  rw [BitVec.toNat_ofInt]
  congr 1
  omega
theorem b64_inj {x y : BitVec 64} (h : b64 x = b64 y) : x = y := by
  unfold b64 at h
  simp only [Value.int.injEq, true_and] at h
  exact BitVec.eq_of_toNat_eq (by omega)
theorem wrap64 (z : Int) : IntKind.u64.wrap z = ((BitVec.ofInt 64 z).toNat : Int) := by
  simp only [IntKind.wrap, IntKind.bits, IntKind.signed, Bool.false_and, BitVec.toNat_ofInt]
  simp
  omega
theorem ofInt64 (x : BitVec 64) : BitVec.ofInt 64 (x.toNat : Int) = x := by
  apply BitVec.eq_of_toNat_eq
  rw [BitVec.toNat_ofInt]
  have := x.isLt
  omega

theorem pu_add64 {t u : TypeId} {x y : Operand} {a b : BitVec 64} (ho : o.op = .binOp .add t x y u) (hx : ev e x = some (b64 a)) (hy : ev e y = some (b64 b)) : Pu P N w0 D e M o (b64 (a + b)) :=
  pu_arith ho hx hy (by
    simp only []
    rw [wrap64]
    have h5 : (BitVec.ofInt 64 ((a.toNat : Int) + (b.toNat : Int))).toNat = (a + b).toNat := by
      rw [BitVec.toNat_ofInt]
      rw [BitVec.toNat_add]; omega
    rw [h5])

theorem pu_sub64 {t u : TypeId} {x y : Operand} {a b : BitVec 64} (ho : o.op = .binOp .sub t x y u) (hx : ev e x = some (b64 a)) (hy : ev e y = some (b64 b)) : Pu P N w0 D e M o (b64 (a - b)) :=
  pu_arith ho hx hy (by
    simp only []
    rw [wrap64]
    have h5 : (BitVec.ofInt 64 ((a.toNat : Int) - (b.toNat : Int))).toNat = (a - b).toNat := by
      rw [BitVec.toNat_ofInt]
      rw [BitVec.toNat_sub]; have := a.isLt; have := b.isLt; omega
    rw [h5])

theorem pu_mul64 {t u : TypeId} {x y : Operand} {a b : BitVec 64} (ho : o.op = .binOp .mul t x y u) (hx : ev e x = some (b64 a)) (hy : ev e y = some (b64 b)) : Pu P N w0 D e M o (b64 (a * b)) :=
  pu_arith ho hx hy (by
    simp only []
    rw [wrap64]
    have h5 : (BitVec.ofInt 64 ((a.toNat : Int) * (b.toNat : Int))).toNat = (a * b).toNat := by
      rw [BitVec.toNat_ofInt]
      rw [BitVec.toNat_mul]; rw [show ((a.toNat : Int) * (b.toNat : Int)) = ((a.toNat * b.toNat : Nat) : Int) from rfl]; omega
    rw [h5])

theorem pu_and64 {t u : TypeId} {x y : Operand} {a b : BitVec 64} (ho : o.op = .binOp .and t x y u) (hx : ev e x = some (b64 a)) (hy : ev e y = some (b64 b)) : Pu P N w0 D e M o (b64 (a &&& b)) := fun ac w hs hm => by
  have h1 : IntKind.u64.bits = 64 := rfl
  simp only [execOp, ho, hs.eval hx, hs.eval hy, b64, run_guard, binOp, Op.intBits, Sem.run_bind, Result.andThen_ok, Sem.run_pure, ne_eq, not_true_eq_false, if_false]
  rw [wrap64]
  congr 3
  show ((BitVec.ofInt 64 ((BitVec.ofInt 64 (a.toNat : Int) &&& BitVec.ofInt 64 (b.toNat : Int)).toNat : Int)).toNat : Int) = _
  rw [ofInt64, ofInt64, ofInt64]

theorem pu_or64 {t u : TypeId} {x y : Operand} {a b : BitVec 64} (ho : o.op = .binOp .or t x y u) (hx : ev e x = some (b64 a)) (hy : ev e y = some (b64 b)) : Pu P N w0 D e M o (b64 (a ||| b)) := fun ac w hs hm => by
  have h1 : IntKind.u64.bits = 64 := rfl
  simp only [execOp, ho, hs.eval hx, hs.eval hy, b64, run_guard, binOp, Op.intBits, Sem.run_bind, Result.andThen_ok, Sem.run_pure, ne_eq, not_true_eq_false, if_false]
  rw [wrap64]
  congr 3
  show ((BitVec.ofInt 64 ((BitVec.ofInt 64 (a.toNat : Int) ||| BitVec.ofInt 64 (b.toNat : Int)).toNat : Int)).toNat : Int) = _
  rw [ofInt64, ofInt64, ofInt64]

theorem pu_xor64 {t u : TypeId} {x y : Operand} {a b : BitVec 64} (ho : o.op = .binOp .xor t x y u) (hx : ev e x = some (b64 a)) (hy : ev e y = some (b64 b)) : Pu P N w0 D e M o (b64 (a ^^^ b)) := fun ac w hs hm => by
  have h1 : IntKind.u64.bits = 64 := rfl
  simp only [execOp, ho, hs.eval hx, hs.eval hy, b64, run_guard, binOp, Op.intBits, Sem.run_bind, Result.andThen_ok, Sem.run_pure, ne_eq, not_true_eq_false, if_false]
  rw [wrap64]
  congr 3
  show ((BitVec.ofInt 64 ((BitVec.ofInt 64 (a.toNat : Int) ^^^ BitVec.ofInt 64 (b.toNat : Int)).toNat : Int)).toNat : Int) = _
  rw [ofInt64, ofInt64, ofInt64]

theorem pu_com64 {t : TypeId} {x : Operand} {a : BitVec 64} (ho : o.op = .unOp .xor t x) (hx : ev e x = some (b64 a)) : Pu P N w0 D e M o (b64 (~~~ a)) := fun ac w hs hm => by
  simp only [execOp, ho, hs.eval hx, b64, Op.unary, Op.intBits, Sem.run_bind, Result.andThen_ok, Sem.run_pure]
  rw [wrap64]
  congr 3
  have h5 : BitVec.ofInt 64 (2 ^ 64 - 1) = BitVec.allOnes 64 := by decide
  have h6 : (BitVec.ofInt 64 ((BitVec.ofInt 64 (2 ^ 64 - 1) ^^^ BitVec.ofInt 64 (a.toNat : Int)).toNat : Int)).toNat = (~~~ a).toNat := by
    rw [ofInt64, ofInt64, h5, BitVec.allOnes_xor]
  exact congrArg (fun (z : Nat) => (z : Int)) h6
theorem pu_shl64 {t u : TypeId} {x y : Operand} {a : BitVec 64} {yk : IntKind} {s : Int} (ho : o.op = .binOp .shl t x y u) (hx : ev e x = some (b64 a)) (hy : ev e y = some (.int yk s)) (h0 : 0 ≤ s) : Pu P N w0 D e M o (b64 (a <<< s.toNat)) := fun ac w hs hm => by
  have h1 : ¬ s < 0 := by omega
  simp only [execOp, ho, hs.eval hx, hs.eval hy, b64, run_guard, binOp, Op.shift, Sem.run_bind, Result.andThen_ok, Sem.run_pure, h1, if_false]
  rw [wrap64]
  congr 3
  show ((BitVec.ofInt 64 ((a.toNat : Int) * 2 ^ (min s.toNat 64))).toNat : Int) = _
  congr 1
  rw [BitVec.toNat_ofInt, BitVec.toNat_shiftLeft, Nat.shiftLeft_eq]
  have e1 : ((a.toNat : Int) * 2 ^ (min s.toNat 64)) = ((a.toNat * 2 ^ (min s.toNat 64) : Nat) : Int) := by simp
  rw [e1]
  rcases Nat.le_total s.toNat 64 with hl | hl
  · rw [Nat.min_eq_left hl]; omega
  · rw [Nat.min_eq_right hl]
    obtain ⟨d, hd⟩ := Nat.exists_eq_add_of_le hl
    rw [hd, Nat.pow_add, ← Nat.mul_assoc]
    have e2 : a.toNat * 2 ^ 64 * 2 ^ d % 2 ^ 64 = 0 := by
      rw [Nat.mul_right_comm]; exact Nat.mul_mod_left _ _
    rw [e2]
    omega
theorem pu_shr64 {t u : TypeId} {x y : Operand} {a : BitVec 64} {yk : IntKind} {s : Int} (ho : o.op = .binOp .shr t x y u) (hx : ev e x = some (b64 a)) (hy : ev e y = some (.int yk s)) (h0 : 0 ≤ s) : Pu P N w0 D e M o (b64 (a >>> s.toNat)) := fun ac w hs hm => by
  have h1 : ¬ s < 0 := by omega
  simp only [execOp, ho, hs.eval hx, hs.eval hy, b64, run_guard, binOp, Op.shift, Sem.run_bind, Result.andThen_ok, Sem.run_pure, h1, if_false]
  congr 3
  show Int.fdiv (a.toNat : Int) (2 ^ (min s.toNat 64)) = _
  rw [BitVec.toNat_ushiftRight, Nat.shiftRight_eq_div_pow]
  have e1 : ((2 : Int) ^ (min s.toNat 64)) = ((2 ^ (min s.toNat 64) : Nat) : Int) := by simp
  rw [e1, Int.fdiv_eq_ediv_of_nonneg _ (Int.natCast_nonneg _)]
  rcases Nat.le_total s.toNat 64 with hl | hl
  · rw [Nat.min_eq_left hl]; rfl
  · rw [Nat.min_eq_right hl]
    have hlt := a.isLt
    have h2 : 2 ^ 64 ≤ 2 ^ s.toNat := Nat.pow_le_pow_right (by omega) hl
    rw [Nat.div_eq_of_lt (Nat.lt_of_lt_of_le hlt h2)]
    have : a.toNat / 2 ^ 64 = 0 := Nat.div_eq_of_lt hlt
    rw [show ((a.toNat : Int) / ((2 ^ 64 : Nat) : Int)) = ((a.toNat / 2 ^ 64 : Nat) : Int) from rfl, this]
theorem pu_eql64 {t u : TypeId} {x y : Operand} {a b : BitVec 64} (ho : o.op = .binOp .eql t x y u) (hx : ev e x = some (b64 a)) (hy : ev e y = some (b64 b)) : Pu P N w0 D e M o (.bool (decide (a = b))) := by
  have := pu_eql (P := P) (N := N) (w0 := w0) (D := D) (M := M) ho hx hy
  have h1 : ((a.toNat : Int) = (b.toNat : Int)) ↔ a = b := ⟨fun h => BitVec.eq_of_toNat_eq (by omega), fun h => by rw [h]⟩
  simpa only [h1] using this
theorem pu_neq64 {t u : TypeId} {x y : Operand} {a b : BitVec 64} (ho : o.op = .binOp .neq t x y u) (hx : ev e x = some (b64 a)) (hy : ev e y = some (b64 b)) : Pu P N w0 D e M o (.bool (decide (a ≠ b))) := by
  have := pu_neq (P := P) (N := N) (w0 := w0) (D := D) (M := M) ho hx hy
  have h1 : ((a.toNat : Int) ≠ (b.toNat : Int)) ↔ a ≠ b := ⟨fun h h' => h (by rw [h']), fun h h' => h (BitVec.eq_of_toNat_eq (by omega))⟩
  simpa only [h1] using this

/-! ## Conversions between kinds of numbers -/
theorem pu_conv {s t : TypeId} {d : TypeDesc} {x : Operand} {k kd : IntKind} {z : Int} [hs' : Und P s d] [ht : Und P t (.int kd)] (ho : o.op = .convert s t x) (hx : ev e x = some (.int k z)) : Pu P N w0 D e M o (.int kd (kd.wrap z)) := fun ac w hs hm => by
  simp only [execOp, ho, hs.eval hx, convert, Sem.run_bind, run_und hs'.h, run_und ht.h, Result.andThen_ok, Conv.intToInt, Sem.run_pure]

theorem pu_conv8_32 {s t : TypeId} {d : TypeDesc} {x : Operand} {a : BitVec 8} [hs' : Und P s d] [ht : Und P t (.int .u32)] (ho : o.op = .convert s t x) (hx : ev e x = some (b8 a)) : Pu P N w0 D e M o (b32 (a.setWidth 32)) := by
  have := pu_conv (P := P) (N := N) (w0 := w0) (D := D) (M := M) ho hx
  rw [wrap32] at this
  unfold b32
  have h1 : BitVec.ofInt 32 (a.toNat : Int) = a.setWidth 32 := by
    apply BitVec.eq_of_toNat_eq
    rw [BitVec.toNat_ofInt, BitVec.toNat_setWidth]
    have := a.isLt
    omega
  rwa [h1] at this

theorem pu_conv8_64 {s t : TypeId} {d : TypeDesc} {x : Operand} {a : BitVec 8} [hs' : Und P s d] [ht : Und P t (.int .u64)] (ho : o.op = .convert s t x) (hx : ev e x = some (b8 a)) : Pu P N w0 D e M o (b64 (a.setWidth 64)) := by
  have := pu_conv (P := P) (N := N) (w0 := w0) (D := D) (M := M) ho hx
  rw [wrap64] at this
  unfold b64
  have h1 : BitVec.ofInt 64 (a.toNat : Int) = a.setWidth 64 := by
    apply BitVec.eq_of_toNat_eq
    rw [BitVec.toNat_ofInt, BitVec.toNat_setWidth]
    have := a.isLt
    omega
  rwa [h1] at this

theorem pu_conv8_I {s t : TypeId} {d : TypeDesc} {x : Operand} {a : BitVec 8} [hs' : Und P s d] [ht : Und P t (.int .i64)] (ho : o.op = .convert s t x) (hx : ev e x = some (b8 a)) : Pu P N w0 D e M o (.int .i64 (a.toNat : Int)) := by
  have := pu_conv (P := P) (N := N) (w0 := w0) (D := D) (M := M) ho hx
  have h2 := a.isLt
  rwa [IntWalk.i64_in _ (by omega)] at this
theorem pu_convI_8 {s t : TypeId} {d : TypeDesc} {x : Operand} {z : Int} [hs' : Und P s d] [ht : Und P t (.int .u8)] (ho : o.op = .convert s t x) (hx : ev e x = some (.int .i64 z)) : Pu P N w0 D e M o (b8 (BitVec.ofInt 8 z)) := by
  have := pu_conv (P := P) (N := N) (w0 := w0) (D := D) (M := M) ho hx
  rw [wrap8] at this
  exact this

theorem pu_conv32_8 {s t : TypeId} {d : TypeDesc} {x : Operand} {a : BitVec 32} [hs' : Und P s d] [ht : Und P t (.int .u8)] (ho : o.op = .convert s t x) (hx : ev e x = some (b32 a)) : Pu P N w0 D e M o (b8 (a.setWidth 8)) := by
  have := pu_conv (P := P) (N := N) (w0 := w0) (D := D) (M := M) ho hx
  rw [wrap8] at this
  unfold b8
  have h1 : BitVec.ofInt 8 (a.toNat : Int) = a.setWidth 8 := by
    apply BitVec.eq_of_toNat_eq
    rw [BitVec.toNat_ofInt, BitVec.toNat_setWidth]
    have := a.isLt
    omega
  rwa [h1] at this

theorem pu_conv32_64 {s t : TypeId} {d : TypeDesc} {x : Operand} {a : BitVec 32} [hs' : Und P s d] [ht : Und P t (.int .u64)] (ho : o.op = .convert s t x) (hx : ev e x = some (b32 a)) : Pu P N w0 D e M o (b64 (a.setWidth 64)) := by
  have := pu_conv (P := P) (N := N) (w0 := w0) (D := D) (M := M) ho hx
  rw [wrap64] at this
  unfold b64
  have h1 : BitVec.ofInt 64 (a.toNat : Int) = a.setWidth 64 := by
    apply BitVec.eq_of_toNat_eq
    rw [BitVec.toNat_ofInt, BitVec.toNat_setWidth]
    have := a.isLt
    omega
  rwa [h1] at this

theorem pu_conv32_I {s t : TypeId} {d : TypeDesc} {x : Operand} {a : BitVec 32} [hs' : Und P s d] [ht : Und P t (.int .i64)] (ho : o.op = .convert s t x) (hx : ev e x = some (b32 a)) : Pu P N w0 D e M o (.int .i64 (a.toNat : Int)) := by
  have := pu_conv (P := P) (N := N) (w0 := w0) (D := D) (M := M) ho hx
  have h2 := a.isLt
  rwa [IntWalk.i64_in _ (by omega)] at this
theorem pu_convI_32 {s t : TypeId} {d : TypeDesc} {x : Operand} {z : Int} [hs' : Und P s d] [ht : Und P t (.int .u32)] (ho : o.op = .convert s t x) (hx : ev e x = some (.int .i64 z)) : Pu P N w0 D e M o (b32 (BitVec.ofInt 32 z)) := by
  have := pu_conv (P := P) (N := N) (w0 := w0) (D := D) (M := M) ho hx
  rw [wrap32] at this
  exact this

theorem pu_conv64_8 {s t : TypeId} {d : TypeDesc} {x : Operand} {a : BitVec 64} [hs' : Und P s d] [ht : Und P t (.int .u8)] (ho : o.op = .convert s t x) (hx : ev e x = some (b64 a)) : Pu P N w0 D e M o (b8 (a.setWidth 8)) := by
  have := pu_conv (P := P) (N := N) (w0 := w0) (D := D) (M := M) ho hx
  rw [wrap8] at this
  unfold b8
  have h1 : BitVec.ofInt 8 (a.toNat : Int) = a.setWidth 8 := by
    apply BitVec.eq_of_toNat_eq
    rw [BitVec.toNat_ofInt, BitVec.toNat_setWidth]
    have := a.isLt
    omega
  rwa [h1] at this

theorem pu_conv64_32 {s t : TypeId} {d : TypeDesc} {x : Operand} {a : BitVec 64} [hs' : Und P s d] [ht : Und P t (.int .u32)] (ho : o.op = .convert s t x) (hx : ev e x = some (b64 a)) : Pu P N w0 D e M o (b32 (a.setWidth 32)) := by
  have := pu_conv (P := P) (N := N) (w0 := w0) (D := D) (M := M) ho hx
  rw [wrap32] at this
  unfold b32
  have h1 : BitVec.ofInt 32 (a.toNat : Int) = a.setWidth 32 := by
    apply BitVec.eq_of_toNat_eq
    rw [BitVec.toNat_ofInt, BitVec.toNat_setWidth]
    have := a.isLt
    omega
  rwa [h1] at this

theorem pu_conv64_I {s t : TypeId} {d : TypeDesc} {x : Operand} {a : BitVec 64} [hs' : Und P s d] [ht : Und P t (.int .i64)] (ho : o.op = .convert s t x) (hx : ev e x = some (b64 a)) (hlt : a.toNat < 9223372036854775808) : Pu P N w0 D e M o (.int .i64 (a.toNat : Int)) := by
  have := pu_conv (P := P) (N := N) (w0 := w0) (D := D) (M := M) ho hx
  have h2 := a.isLt
  rwa [IntWalk.i64_in _ (by omega)] at this
theorem pu_convI_64 {s t : TypeId} {d : TypeDesc} {x : Operand} {z : Int} [hs' : Und P s d] [ht : Und P t (.int .u64)] (ho : o.op = .convert s t x) (hx : ev e x = some (.int .i64 z)) : Pu P N w0 D e M o (b64 (BitVec.ofInt 64 z)) := by
  have := pu_conv (P := P) (N := N) (w0 := w0) (D := D) (M := M) ho hx
  rw [wrap64] at this
  exact this

theorem pu_convI_I {s t : TypeId} {d : TypeDesc} {x : Operand} {z : Int} [hs' : Und P s d] [ht : Und P t (.int .i64)] (ho : o.op = .convert s t x) (hx : ev e x = some (.int .i64 z)) (h : -9223372036854775808 ≤ z ∧ z ≤ 9223372036854775807) : Pu P N w0 D e M o (.int .i64 z) := by
  have := pu_conv (P := P) (N := N) (w0 := w0) (D := D) (M := M) ho hx
  rwa [IntWalk.i64_in _ h] at this

/-! ## Lengths, addresses, reading -/
theorem pu_len {t E : TypeId} {x : Operand} {p : Option Addr} {n c : Nat} [hu : Und P t (.slice E)] (ho : o.op = .call ⟨.builtin .len, #[x], #[t]⟩) (hx : ev e x = some (.slice p n c)) : Pu P N w0 D e M o (.int .i64 (n : Int)) := fun ac w hs hm => by
  simp [execOp, ho, resolve, invoke, builtin, hs.eval hx, Builtin.len_, run_und hu.h, goInt]
theorem pu_lenS {t : TypeId} {x : Operand} {s : ByteArray} [hu : Und P t .string] (ho : o.op = .call ⟨.builtin .len, #[x], #[t]⟩) (hx : ev e x = some (.string s)) : Pu P N w0 D e M o (.int .i64 (s.size : Int)) := fun ac w hs hm => by
  simp [execOp, ho, resolve, invoke, builtin, hs.eval hx, Builtin.len_, run_und hu.h, goInt]

/-- The address of a slice's element. -/
theorem pu_at {t E : TypeId} {x ix : Operand} {b off n c s : Nat} {kd : IntKind} {i : Int} (j : Nat) [hu : Und P t (.slice E)] [hz : Siz P E s] (ho : o.op = .indexAddr t x ix) (hx : ev e x = some (.slice (some ⟨b, off, none⟩) n c)) (hi : ev e ix = some (.int kd i))
    (hj : i = (j : Int)) (hlt : j < n) : Pu P N w0 D e M o (.pointer (some ⟨b, off + j * s, none⟩)) := fun ac w hs hm => by
  subst hj
  have h1 : (0 : Int) ≤ (j : Int) ∧ (j : Int) < (n : Int) := by omega
  have h2 : ¬ n ≤ j := by omega
  simp [h2, execOp, ho, hs.eval hx, hs.eval hi, Instr.indexAt, asIntOf, run_und hu.h, run_size hz.h, h1, Addr.add_lit]
theorem pu_at1 {t E : TypeId} {x ix : Operand} {b off n c : Nat} {kd : IntKind} {i : Int} (j : Nat) [hu : Und P t (.slice E)] [hz : Siz P E 1] (ho : o.op = .indexAddr t x ix) (hx : ev e x = some (.slice (some ⟨b, off, none⟩) n c)) (hi : ev e ix = some (.int kd i))
    (hj : i = (j : Int)) (hlt : j < n) : Pu P N w0 D e M o (.pointer (some ⟨b, off + j, none⟩)) := by
  have := pu_at (P := P) (N := N) (w0 := w0) (D := D) (M := M) j ho hx hi hj hlt
  rwa [Nat.mul_one] at this
/-- The address of an array's element. -/
theorem pu_atA {t E : TypeId} {x ix : Operand} {b off n s : Nat} {kd : IntKind} {i : Int} (j : Nat) [hu : Und P t (.array n E)] [hz : Siz P E s] (ho : o.op = .indexAddr t x ix) (hx : ev e x = some (.pointer (some ⟨b, off, none⟩))) (hi : ev e ix = some (.int kd i))
    (hj : i = (j : Int)) (hlt : j < n) : Pu P N w0 D e M o (.pointer (some ⟨b, off + j * s, none⟩)) := fun ac w hs hm => by
  subst hj
  have h1 : (0 : Int) ≤ (j : Int) ∧ (j : Int) < (n : Int) := by omega
  have h2 : ¬ n ≤ j := by omega
  simp [h2, execOp, ho, hs.eval hx, hs.eval hi, Instr.indexAt, Instr.sureAddr, asIntOf, run_und hu.h, run_size hz.h, h1, Addr.add_lit]
theorem pu_atA1 {t E : TypeId} {x ix : Operand} {b off n : Nat} {kd : IntKind} {i : Int} (j : Nat) [hu : Und P t (.array n E)] [hz : Siz P E 1] (ho : o.op = .indexAddr t x ix) (hx : ev e x = some (.pointer (some ⟨b, off, none⟩))) (hi : ev e ix = some (.int kd i))
    (hj : i = (j : Int)) (hlt : j < n) : Pu P N w0 D e M o (.pointer (some ⟨b, off + j, none⟩)) := by
  have := pu_atA (P := P) (N := N) (w0 := w0) (D := D) (M := M) j ho hx hi hj hlt
  rwa [Nat.mul_one] at this

/-- A field's place: the number of its first cell, and how many cells it has. -/
def field? (P : Program) (t : TypeId) (f : Nat) : Option (Nat × Nat × Bool) :=
  match P.underlying t with
  | some (.struct fs) => (fs[f]?).bind fun fl => (size? P fl.type).bind fun s => (agg? P fl.type).map fun b => (fl.offset, s, b)
  | _ => none
class Fld (P : Program) (t : TypeId) (f : Nat) (off s : outParam Nat) (b : outParam Bool) : Prop where
  h : field? P t f = some (off, s, b)
theorem field?_spec {t : TypeId} {f off s : Nat} {b : Bool} (h : field? P t f = some (off, s, b)) : ∃ fs fl, P.underlying t = some (.struct fs) ∧ fs[f]? = some fl ∧ fl.offset = off ∧ size? P fl.type = some s ∧ agg? P fl.type = some b := by
  unfold field? at h
  split at h
  · rename_i fs hu
    obtain ⟨fl, h1, h2⟩ := Option.bind_eq_some_iff.1 h
    obtain ⟨s', h3, h4⟩ := Option.bind_eq_some_iff.1 h2
    obtain ⟨b', h5, h6⟩ := Option.map_eq_some_iff.1 h4
    simp only [Prod.mk.injEq] at h6
    obtain ⟨rfl, rfl, rfl⟩ := h6
    exact ⟨fs, fl, hu, h1, rfl, h3, h5⟩
  · cases h
theorem pu_fieldAddr {t : TypeId} {x : Operand} {f off s : Nat} {b : Bool} {bl o1 : Nat} [hf : Fld P t f off s b] (h0 : s ≠ 0) (ho : o.op = .fieldAddr t x f) (hx : ev e x = some (.pointer (some ⟨bl, o1, none⟩))) : Pu P N w0 D e M o (.pointer (some ⟨bl, o1 + off, none⟩)) := fun ac w hs hm => by
  obtain ⟨fs, fl, h1, h2, h3, h4, h5⟩ := field?_spec hf.h
  simp [execOp, ho, hs.eval hx, Instr.fieldAt, Instr.sureAddr, run_und h1, h2, fieldPlace, run_size h4, h0, h3, Addr.add_lit]
theorem pu_field {t : TypeId} {x : Operand} {f off : Nat} {cs : Array Value} {v : Value} [hf : Fld P t f off 1 false] (ho : o.op = .field t x f) (hx : ev e x = some (.agg cs)) (hv : cs[off]? = some v) : Pu P N w0 D e M o v := fun ac w hs hm => by
  obtain ⟨fs, fl, h1, h2, h3, h4, h5⟩ := field?_spec hf.h
  simp [execOp, ho, hs.eval hx, Instr.field, asAgg, run_und h1, h2, part, run_isAgg h5, h3, hv]
theorem pu_fieldA {t : TypeId} {x : Operand} {f off s : Nat} {cs : Array Value} [hf : Fld P t f off s true] (ho : o.op = .field t x f) (hx : ev e x = some (.agg cs)) : Pu P N w0 D e M o (.agg (cs.extract off (off + s))) := fun ac w hs hm => by
  obtain ⟨fs, fl, h1, h2, h3, h4, h5⟩ := field?_spec hf.h
  simp [execOp, ho, hs.eval hx, Instr.field, asAgg, run_und h1, h2, part, run_isAgg h5, h3, run_size h4]

theorem cell_pt {w : World} {b off : Nat} {c : Array Value} {E : TypeId} {fz : Nat × Nat} (h : w.heap[b]? = some (.cells c E fz)) : w.cell? ⟨b, off, none⟩ = c[off]? := by simp [World.cell?, h]

/-- Reading one cell of a known block. -/
theorem pu_load (tag : Nat) {t : TypeId} {x : Operand} {b off : Nat} {c : Array Value} {E : TypeId} {fz : Nat × Nat} {v : Value} [hu : Agg P t false] (ho : o.op = .load t x) (hx : ev e x = some (.pointer (some ⟨b, off, none⟩)))
    (hM : mget M tag = some (.pt b (.cells c E fz))) (hv : c[off]? = some v) : Pu P N w0 D e M o v := fun ac w hs hm => by
  have h1 := hm.holds _ _ hM
  simp only [Ck.holds] at h1
  simp [execOp, ho, hs.eval hx, Instr.loadAt, Instr.sureAddr, loadVar, run_isAgg hu.h, cell_pt h1, hv]
/-- Reading a struct or an array out of a known block. -/
theorem pu_loadA (tag : Nat) {t : TypeId} {x : Operand} {b off s : Nat} {c : Array Value} {E : TypeId} {fz : Nat × Nat} [hu : Agg P t true] [hz : Siz P t s] (ho : o.op = .load t x) (hx : ev e x = some (.pointer (some ⟨b, off, none⟩)))
    (hM : mget M tag = some (.pt b (.cells c E fz))) (hl : off + s ≤ c.size) : Pu P N w0 D e M o (.agg (c.extract off (off + s))) := fun ac w hs hm => by
  have h1 := hm.holds _ _ hM
  simp only [Ck.holds] at h1
  have h2 : (loadCells ⟨b, off, none⟩ s).run P w = .ok (c.extract off (off + s)) w := by
    have h3 := run_loadCells_list (P := P) w ⟨b, off, none⟩ (c.extract off (off + s)).toList (fun j v hj => by
      rw [Addr.add_lit, cell_pt h1]
      have : (c.extract off (off + s))[j]? = some v := by rw [← Array.getElem?_toList]; exact hj
      rw [Array.getElem?_extract] at this
      split at this
      · exact this
      · cases this)
    rw [show (c.extract off (off + s)).toList.length = s by simp; omega, Array.toArray_toList] at h3
    exact h3
  simp [execOp, ho, hs.eval hx, Instr.loadAt, Instr.sureAddr, loadVar, run_isAgg hu.h, run_size hz.h, h2]
/-- Reading one cell of old memory. -/
theorem pu_old {t : TypeId} {x : Operand} {b off : Nat} {v : Value} [hu : Agg P t false] (ho : o.op = .load t x) (hx : ev e x = some (.pointer (some ⟨b, off, none⟩)))
    (hc : w0.cell? ⟨b, off, none⟩ = some v) (hD : ¬ D b) : Pu P N w0 D e M o v := fun ac w hs hm => by
  have hlt : b < w0.heap.size := World.block_lt_of_cell? w0 ⟨b, off, none⟩ hc
  have h1 : w.cell? ⟨b, off, none⟩ = some v := (World.cell?_of_block (hm.keep b hlt hD)).trans hc
  simp [execOp, ho, hs.eval hx, Instr.loadAt, Instr.sureAddr, loadVar, run_isAgg hu.h, h1]

end
end Go.Sx

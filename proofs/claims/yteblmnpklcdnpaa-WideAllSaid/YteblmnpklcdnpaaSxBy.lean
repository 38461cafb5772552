/-
  Slices of bytes as one fact, equality of bools, for the judgement of Sx. No condition: they speak of any program.
-/
import Derived.Test.YteblmnpklcdnpaaSxZ
set_option linter.unusedVariables false
set_option linter.unusedSimpArgs false
namespace Go.Sx
open Go

/-- A slice of bytes of length n reads as l. -/
structure By (w : World) (p : Option Addr) (n : Nat) (l : List (BitVec 8)) : Prop where
  rd : RdV w p (bs l)
  len : l.length = n
  big : n ≤ 140737488355328

theorem flat_getE {α : Type} {s : Nat} : ∀ (css : List (List α)), (∀ c ∈ css, c.length = s) → ∀ (i r : Nat), r < s → css.flatten[i * s + r]? = (css[i]?).bind (·[r]?)
  | [], _, i, r, _ => by simp
  | c :: css, h, 0, r, hr => by
    have h0 := h c (by simp)
    simp only [List.flatten_cons, Nat.zero_mul, Nat.zero_add, List.getElem?_cons_zero, Option.bind_some]
    rw [List.getElem?_append_left (by omega)]
  | c :: css, h, i + 1, r, hr => by
    have h0 := h c (by simp)
    simp only [List.flatten_cons, List.getElem?_cons_succ]
    rw [List.getElem?_append_right (by rw [h0, Nat.add_mul]; omega), ← flat_getE css (fun c hc => h c (by simp [hc])) i r hr, h0]
    congr 1
    rw [Nat.add_mul]; omega

theorem flat_length {α : Type} {s : Nat} : ∀ (css : List (List α)), (∀ c ∈ css, c.length = s) → css.flatten.length = css.length * s
  | [], _ => by simp
  | c :: css, h => by
    have h0 := h c (by simp)
    rw [List.flatten_cons, List.length_append, h0, flat_length css (fun c hc => h c (by simp [hc])), List.length_cons, Nat.add_mul]; omega

theorem list_map {α β : Type} {f : β → α} {Q : β → Prop} : ∀ {xs : List α}, (∀ x ∈ xs, ∃ y, x = f y ∧ Q y) → ∃ ys : List β, xs = ys.map f ∧ ∀ y ∈ ys, Q y
  | [], _ => ⟨[], rfl, fun _ h => by simp at h⟩
  | x :: xs, h => by
    obtain ⟨y, hy, hq⟩ := h x (by simp)
    obtain ⟨ys, hys, hqs⟩ := list_map (xs := xs) (f := f) (Q := Q) (fun x hx => h x (by simp [hx]))
    refine ⟨y :: ys, by rw [hy, hys]; rfl, fun z hz => ?_⟩
    rcases List.mem_cons.1 hz with rfl | hz
    · exact hq
    · exact hqs z hz

/-- A struct of two or three ints, as cells. -/
def cells2 (k : Int × Int) : List Value := [.int .i64 k.1, .int .i64 k.2]
def cells3 (k : Int × Int × Int) : List Value := [.int .i64 k.1, .int .i64 k.2.1, .int .i64 k.2.2]

section
variable {P : Program} {fn : Func} {R : Ending → World → Prop} {N : Nat} {w0 : World} {D : Blocks} {e : List (Nat × Value)} {M : List (Nat × Ck)} {k : List It} {o : Oper} {all : Array Oper} {rest : List Oper}

theorem By.m {w : World} {p : Option Addr} {n : Nat} {l : List (BitVec 8)} (h : By w0 p n l) (hm : Mem w0 Nob M w) : By w p n l := ⟨h.rd.mem0 hm, h.len, h.big⟩
theorem By.mD {w : World} {p : Option Addr} {n : Nat} {l : List (BitVec 8)} (h : By w0 p n l) (hm : Mem w0 D M w) (hD : ∀ b o, p = some ⟨b, o, none⟩ → ¬ D b) : By w p n l := ⟨h.rd.mem hm hD, h.len, h.big⟩
theorem By.nil0 {w : World} {n : Nat} {l : List (BitVec 8)} (h : By w none n l) : n = 0 := by
  rcases h.rd with h1 | ⟨b, o, h1, _⟩
  · rw [← h.len, ← bs_length, h1]; rfl
  · cases h1
theorem By.nil (w : World) (p : Option Addr) : By w p 0 [] := ⟨RdV.nil .., rfl, by omega⟩
/-- An own slice of bytes. -/
theorem By.ow (t : Nat) {w : World} {E : TypeId} {x : Ow} {n : Nat} {l : List (BitVec 8)} (hM : mget M t = some (x.ck E 1 (bs l))) (hm : Mem w0 D M w) (hn : l.length = n) (hb : n ≤ 140737488355328) : By w x.p n l := ⟨Ow.rd hM hm, hn, hb⟩
theorem By.own (t : Nat) {w : World} {E : TypeId} {c : Nat} {p : Option Addr} {n : Nat} {l : List (BitVec 8)} (hM : mget M t = some (.fact (At p) (Own E 1 p c (bs l)))) (hm : Mem w0 D M w) (hn : l.length = n) (hb : n ≤ 140737488355328) : By w p n l := ⟨Own.rd (hm.holds _ _ hM), hn, hb⟩
/-- A known row. -/
theorem By.row (t : Nat) {w : World} {b : Nat} {n : Nat} {J : List Value} {E : TypeId} {fz : Nat × Nat} {l : List (BitVec 8)} (hM : mget M t = some (.pt b (.cells (bs l ++ J).toArray E fz))) (hm : Mem w0 D M w) (hn : l.length = n) (hb : n ≤ 140737488355328) : By w (some ⟨b, 0, none⟩) n l := ⟨hm.row t hM, hn, hb⟩
/-- A known row, whole. -/
theorem By.full (t : Nat) {w : World} {b : Nat} {n : Nat} {E : TypeId} {fz : Nat × Nat} {l : List (BitVec 8)} (hM : mget M t = some (.pt b (.cells (bs l).toArray E fz))) (hm : Mem w0 D M w) (hn : l.length = n) (hb : n ≤ 140737488355328) : By w (some ⟨b, 0, none⟩) n l := ⟨hm.row (J := []) t (by rw [List.append_nil]; exact hM), hn, hb⟩

/-- The address of an element of size s of a slice that reads as L; reading it. -/
theorem pu_atM {t E : TypeId} {x ix : Operand} {p : Option Addr} {n c s : Nat} {kd : IntKind} {i : Int} {L : List Value} (j : Nat) (hr : ∀ w, Mem w0 D M w → RdV w p L) [hu : Und P t (.slice E)] [hz : Siz P E s] (ho : o.op = .indexAddr t x ix) (hx : ev e x = some (.slice p n c)) (hi : ev e ix = some (.int kd i))
    (hj : i = (j : Int)) (hlt : j < n) (hL : 0 < L.length) : Pu P N w0 D e M o (.pointer (adr p (j * s))) := fun ac w hs hm => by
  obtain ⟨b, off, rfl, _⟩ := (hr w hm).place hL
  exact pu_at (P := P) (N := N) j ho hx hi hj hlt ac w hs hm
theorem pu_atM1 {t E : TypeId} {x ix : Operand} {p : Option Addr} {n c : Nat} {kd : IntKind} {i : Int} {L : List Value} (j : Nat) (hr : ∀ w, Mem w0 D M w → RdV w p L) [hu : Und P t (.slice E)] [hz : Siz P E 1] (ho : o.op = .indexAddr t x ix) (hx : ev e x = some (.slice p n c)) (hi : ev e ix = some (.int kd i))
    (hj : i = (j : Int)) (hlt : j < n) (hL : 0 < L.length) : Pu P N w0 D e M o (.pointer (adr p j)) := by
  have := pu_atM (P := P) (N := N) (w0 := w0) (D := D) (M := M) j hr ho hx hi hj hlt hL
  rwa [Nat.mul_one] at this
theorem pu_rdM {t : TypeId} {x : Operand} {p : Option Addr} {L : List Value} {j : Nat} {v : Value} (hr : ∀ w, Mem w0 D M w → RdV w p L) [hu : Agg P t false] (ho : o.op = .load t x) (hx : ev e x = some (.pointer (adr p j))) (hv : L[j]? = some v) : Pu P N w0 D e M o v := fun ac w hs hm => by
  obtain ⟨b, off, rfl, hc⟩ := (hr w hm).place (Nat.lt_of_le_of_lt (Nat.zero_le j) (List.getElem?_eq_some_iff.1 hv).1)
  have h1 : w.cell? ⟨b, off + j, none⟩ = some v := hc j v hv
  have hx' : ev e x = some (.pointer (some ⟨b, off + j, none⟩)) := hx
  simp [execOp, ho, hs.eval hx', Instr.loadAt, Instr.sureAddr, loadVar, run_isAgg hu.h, h1]
theorem pu_rdMA {t : TypeId} {x : Operand} {p : Option Addr} {L : List Value} {j s : Nat} (hr : ∀ w, Mem w0 D M w → RdV w p L) [hu : Agg P t true] [hz : Siz P t s] (ho : o.op = .load t x) (hx : ev e x = some (.pointer (adr p j))) (hs0 : 0 < s) (hl : j + s ≤ L.length) : Pu P N w0 D e M o (.agg ((L.drop j).take s).toArray) := fun ac w hs hm => by
  obtain ⟨b, off, rfl, hc⟩ := (hr w hm).place (by omega)
  have hx' : ev e x = some (.pointer (some ⟨b, off + j, none⟩)) := hx
  have h2 : (loadCells ⟨b, off + j, none⟩ s).run P w = .ok ((L.drop j).take s).toArray w := by
    have h3 := run_loadCells_list (P := P) w ⟨b, off + j, none⟩ ((L.drop j).take s) (fun i v hi => by
      rw [List.getElem?_take] at hi
      split at hi
      · rw [List.getElem?_drop] at hi
        rw [Addr.add_lit, Nat.add_assoc]
        exact hc _ v hi
      · cases hi)
    rw [show ((L.drop j).take s).length = s by simp; omega] at h3
    exact h3
  simp [execOp, ho, hs.eval hx', Instr.loadAt, Instr.sureAddr, loadVar, run_isAgg hu.h, run_size hz.h, h2]
theorem pu_atB {t E : TypeId} {x ix : Operand} {p : Option Addr} {n c : Nat} {kd : IntKind} {i : Int} {l : List (BitVec 8)} (j : Nat) (hr : ∀ w, Mem w0 D M w → By w p n l) [hu : Und P t (.slice E)] [hz : Siz P E 1] (ho : o.op = .indexAddr t x ix) (hx : ev e x = some (.slice p n c)) (hi : ev e ix = some (.int kd i))
    (hj : i = (j : Int)) (hlt : j < n) : Pu P N w0 D e M o (.pointer (adr p j)) := fun ac w hs hm =>
  pu_atM1 (P := P) (N := N) j (fun w hm => (hr w hm).rd) ho hx hi hj hlt (by rw [bs_length, (hr w hm).len]; omega) ac w hs hm
theorem pu_rdB {t : TypeId} {x : Operand} {p : Option Addr} {n j : Nat} {l : List (BitVec 8)} {v : BitVec 8} (hr : ∀ w, Mem w0 D M w → By w p n l) [hu : Agg P t false] (ho : o.op = .load t x) (hx : ev e x = some (.pointer (adr p j))) (hv : l[j]? = some v) : Pu P N w0 D e M o (b8 v) :=
  pu_rdM (fun w hm => (hr w hm).rd) ho hx (bs_get hv)

theorem pu_eql8_t {t u : TypeId} {x y : Operand} {a b : BitVec 8} (ho : o.op = .binOp .eql t x y u) (hx : ev e x = some (b8 a)) (hy : ev e y = some (b8 b)) (h : a = b) : Pu P N w0 D e M o (.bool true) := by
  have := pu_eql8 (P := P) (N := N) (w0 := w0) (D := D) (M := M) ho hx hy
  rwa [decide_eq_true h] at this
theorem pu_eql8_f {t u : TypeId} {x y : Operand} {a b : BitVec 8} (ho : o.op = .binOp .eql t x y u) (hx : ev e x = some (b8 a)) (hy : ev e y = some (b8 b)) (h : ¬ a = b) : Pu P N w0 D e M o (.bool false) := by
  have := pu_eql8 (P := P) (N := N) (w0 := w0) (D := D) (M := M) ho hx hy
  rwa [decide_eq_false h] at this
theorem pu_neq8_t {t u : TypeId} {x y : Operand} {a b : BitVec 8} (ho : o.op = .binOp .neq t x y u) (hx : ev e x = some (b8 a)) (hy : ev e y = some (b8 b)) (h : ¬ a = b) : Pu P N w0 D e M o (.bool true) := by
  have := pu_neq8 (P := P) (N := N) (w0 := w0) (D := D) (M := M) ho hx hy
  rwa [decide_eq_true (show a ≠ b from h)] at this
theorem pu_neq8_f {t u : TypeId} {x y : Operand} {a b : BitVec 8} (ho : o.op = .binOp .neq t x y u) (hx : ev e x = some (b8 a)) (hy : ev e y = some (b8 b)) (h : a = b) : Pu P N w0 D e M o (.bool false) := by
  have := pu_neq8 (P := P) (N := N) (w0 := w0) (D := D) (M := M) ho hx hy
  rwa [decide_eq_false (show ¬ a ≠ b from fun q => q h)] at this
theorem pu_eql32_t {t u : TypeId} {x y : Operand} {a b : BitVec 32} (ho : o.op = .binOp .eql t x y u) (hx : ev e x = some (b32 a)) (hy : ev e y = some (b32 b)) (h : a = b) : Pu P N w0 D e M o (.bool true) := by
  have := pu_eql32 (P := P) (N := N) (w0 := w0) (D := D) (M := M) ho hx hy
  rwa [decide_eq_true h] at this
theorem pu_eql32_f {t u : TypeId} {x y : Operand} {a b : BitVec 32} (ho : o.op = .binOp .eql t x y u) (hx : ev e x = some (b32 a)) (hy : ev e y = some (b32 b)) (h : ¬ a = b) : Pu P N w0 D e M o (.bool false) := by
  have := pu_eql32 (P := P) (N := N) (w0 := w0) (D := D) (M := M) ho hx hy
  rwa [decide_eq_false h] at this
theorem pu_neq32_t {t u : TypeId} {x y : Operand} {a b : BitVec 32} (ho : o.op = .binOp .neq t x y u) (hx : ev e x = some (b32 a)) (hy : ev e y = some (b32 b)) (h : ¬ a = b) : Pu P N w0 D e M o (.bool true) := by
  have := pu_neq32 (P := P) (N := N) (w0 := w0) (D := D) (M := M) ho hx hy
  rwa [decide_eq_true (show a ≠ b from h)] at this
theorem pu_neq32_f {t u : TypeId} {x y : Operand} {a b : BitVec 32} (ho : o.op = .binOp .neq t x y u) (hx : ev e x = some (b32 a)) (hy : ev e y = some (b32 b)) (h : a = b) : Pu P N w0 D e M o (.bool false) := by
  have := pu_neq32 (P := P) (N := N) (w0 := w0) (D := D) (M := M) ho hx hy
  rwa [decide_eq_false (show ¬ a ≠ b from fun q => q h)] at this
theorem pu_eql64_t {t u : TypeId} {x y : Operand} {a b : BitVec 64} (ho : o.op = .binOp .eql t x y u) (hx : ev e x = some (b64 a)) (hy : ev e y = some (b64 b)) (h : a = b) : Pu P N w0 D e M o (.bool true) := by
  have := pu_eql64 (P := P) (N := N) (w0 := w0) (D := D) (M := M) ho hx hy
  rwa [decide_eq_true h] at this
theorem pu_eql64_f {t u : TypeId} {x y : Operand} {a b : BitVec 64} (ho : o.op = .binOp .eql t x y u) (hx : ev e x = some (b64 a)) (hy : ev e y = some (b64 b)) (h : ¬ a = b) : Pu P N w0 D e M o (.bool false) := by
  have := pu_eql64 (P := P) (N := N) (w0 := w0) (D := D) (M := M) ho hx hy
  rwa [decide_eq_false h] at this
theorem pu_neq64_t {t u : TypeId} {x y : Operand} {a b : BitVec 64} (ho : o.op = .binOp .neq t x y u) (hx : ev e x = some (b64 a)) (hy : ev e y = some (b64 b)) (h : ¬ a = b) : Pu P N w0 D e M o (.bool true) := by
  have := pu_neq64 (P := P) (N := N) (w0 := w0) (D := D) (M := M) ho hx hy
  rwa [decide_eq_true (show a ≠ b from h)] at this
theorem pu_neq64_f {t u : TypeId} {x y : Operand} {a b : BitVec 64} (ho : o.op = .binOp .neq t x y u) (hx : ev e x = some (b64 a)) (hy : ev e y = some (b64 b)) (h : a = b) : Pu P N w0 D e M o (.bool false) := by
  have := pu_neq64 (P := P) (N := N) (w0 := w0) (D := D) (M := M) ho hx hy
  rwa [decide_eq_false (show ¬ a ≠ b from fun q => q h)] at this
theorem run_guardB {op : BinOp} {t : TypeId} {x y : Operand} {a b : Bool} (w : World) : (eqGuard op t x y (.bool a) (.bool b)).run P w = .ok () w := by
  unfold eqGuard
  split <;> simp
theorem run_equalB {t : TypeId} (w : World) (hu : P.underlying t = some .bool) (a b : Bool) : (Op.equal t (.bool a) (.bool b)).run P w = .ok (a == b) w := by
  obtain ⟨d, hd⟩ : ∃ d, Op.maxDepth = d + 1 := ⟨_, rfl⟩
  simp only [Op.equal, hd, Op.equalIn, Sem.run_bind, run_und hu, Result.andThen_ok, Sem.run_pure]
theorem pu_eqlB {t u : TypeId} {x y : Operand} {a b : Bool} [hu : Und P t .bool] (ho : o.op = .binOp .eql t x y u) (hx : ev e x = some (.bool a)) (hy : ev e y = some (.bool b)) : Pu P N w0 D e M o (.bool (decide (a = b))) := fun ac w hs hm => by
  simp [execOp, ho, hs.eval hx, hs.eval hy, run_guardB, binOp, run_equalB _ hu.h] <;> cases a <;> cases b <;> rfl
theorem pu_neqB {t u : TypeId} {x y : Operand} {a b : Bool} [hu : Und P t .bool] (ho : o.op = .binOp .neq t x y u) (hx : ev e x = some (.bool a)) (hy : ev e y = some (.bool b)) : Pu P N w0 D e M o (.bool (decide (a ≠ b))) := fun ac w hs hm => by
  simp [execOp, ho, hs.eval hx, hs.eval hy, run_guardB, binOp, run_equalB _ hu.h] <;> cases a <;> cases b <;> rfl
theorem pu_eqlB_t {t u : TypeId} {x y : Operand} {a b : Bool} [hu : Und P t .bool] (ho : o.op = .binOp .eql t x y u) (hx : ev e x = some (.bool a)) (hy : ev e y = some (.bool b)) (h : a = b) : Pu P N w0 D e M o (.bool true) := by
  have := pu_eqlB (P := P) (N := N) (w0 := w0) (D := D) (M := M) ho hx hy
  rwa [decide_eq_true h] at this
end
end Go.Sx

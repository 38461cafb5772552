/-
  Slicing, copy, quotients of words, small builtins, strings, and equality of arrays, for the judgement of Sx. No condition: they speak of any program.
-/
import Derived.Test.YteblmnpklcdnpaaSxAny
import Derived.Laws.StructEq
import Derived.Lib.SlBytesRow
set_option linter.unusedVariables false
set_option linter.unusedSimpArgs false
namespace Go.Sx
open Go

section
variable {P : Program} {fn : Func} {R : Ending → World → Prop} {N : Nat} {w0 : World} {D : Blocks} {e : List (Nat × Value)} {M : List (Nat × Ck)} {k : List It} {o : Oper} {all : Array Oper} {rest : List Oper}

/-! ## Slicing -/
/-- The address behind a cut: at the capacity's end it stays. -/
def cutp (p : Option Addr) (c l s : Nat) : Option Addr := if c = l then p else p.map (·.add (l * s))
theorem cutp_zero (p : Option Addr) (c s : Nat) : cutp p c 0 s = p := by
  unfold cutp
  split
  · rfl
  · cases p with
    | none => rfl
    | some a => simp [Addr.add]
theorem cutp_some (b off c l : Nat) (h : l < c) : cutp (some ⟨b, off, none⟩) c l 1 = some ⟨b, off + l, none⟩ := by
  unfold cutp
  rw [if_neg (by omega)]
  simp [Addr.add_lit]
theorem RdV.cut {w : World} {p : Option Addr} {L : List Value} {c l : Nat} (h : RdV w p L) (hc : L.length ≤ c) : RdV w (cutp p c l 1) (L.drop l) := by
  by_cases hl : L.drop l = []
  · rw [hl]; exact .inl rfl
  · have hlt : l < L.length := by
      rcases Nat.lt_or_ge l L.length with h1 | h1
      · exact h1
      · exact absurd (List.drop_eq_nil_of_le h1) hl
    rcases h with rfl | ⟨b, off, rfl, hcell⟩
    · simp at hlt
    · rw [cutp_some b off c l (by omega)]
      refine .inr ⟨b, off + l, rfl, fun i v hi => ?_⟩
      rw [List.getElem?_drop] at hi
      have := hcell (l + i) v hi
      rwa [← Nat.add_assoc] at this
theorem RdV.fst {w : World} {p : Option Addr} {L : List Value} {n : Nat} (h : RdV w p L) : RdV w p (L.take n) := by
  have h' : RdV w p (L.take n ++ L.drop n) := by rw [List.take_append_drop]; exact h
  exact h'.take
theorem RdV.mid {w : World} {p : Option Addr} {L : List Value} {c l h : Nat} (hr : RdV w p L) (hc : L.length ≤ c) : RdV w (cutp p c l 1) ((L.drop l).take (h - l)) := (hr.cut hc).fst
theorem bs_drop (l : List (BitVec 8)) (n : Nat) : (bs l).drop n = bs (l.drop n) := by simp [bs]
theorem bs_take (l : List (BitVec 8)) (n : Nat) : (bs l).take n = bs (l.take n) := by simp [bs]

theorem pu_slice_lh {t E : TypeId} {x y z : Operand} {p : Option Addr} {n c s : Nat} {kl kh : IntKind} {li hi : Int} (l h : Nat) [hu : Und P t (.slice E)] [hz : Siz P E s] (ho : o.op = .slice t x (some y) (some z) none) (hx : ev e x = some (.slice p n c)) (hy : ev e y = some (.int kl li)) (hz' : ev e z = some (.int kh hi))
    (hl : li = (l : Int)) (hh : hi = (h : Int)) (h1 : l ≤ h) (h2 : h ≤ c) : Pu P N w0 D e M o (.slice (cutp p c l s) (h - l) (c - l)) := fun a w hs hm => by
  subst hl hh
  have e1 : (0 : Int) ≤ (l : Int) ∧ (l : Int) ≤ (h : Int) := by omega
  have e2 : (0 : Int) ≤ (h : Int) ∧ (h : Int) ≤ (c : Int) := by omega
  have e3 : ¬ h < l := by omega
  have e4 : ¬ c < h := by omega
  simp [execOp, ho, hs.eval hx, hs.eval hy, hs.eval hz', Instr.sliceAt, Instr.slice, run_und hu.h, Instr.sliceBounds, Instr.sliceBound, asIntOf, h1, h2, run_size hz.h, cutp, e3, e4]
theorem pu_slice_l {t E : TypeId} {x y : Operand} {p : Option Addr} {n c s : Nat} {kl : IntKind} {li : Int} (l : Nat) [hu : Und P t (.slice E)] [hz : Siz P E s] (ho : o.op = .slice t x (some y) none none) (hx : ev e x = some (.slice p n c)) (hy : ev e y = some (.int kl li))
    (hl : li = (l : Int)) (h1 : l ≤ n) : Pu P N w0 D e M o (.slice (cutp p c l s) (n - l) (c - l)) := fun a w hs hm => by
  subst hl
  simp [execOp, ho, hs.eval hx, hs.eval hy, Instr.sliceAt, Instr.slice, run_und hu.h, Instr.sliceBounds, Instr.sliceBound, asIntOf, h1, run_size hz.h, cutp]
theorem pu_slice_h {t E : TypeId} {x z : Operand} {p : Option Addr} {n c s : Nat} {kh : IntKind} {hi : Int} (h : Nat) [hu : Und P t (.slice E)] [hz : Siz P E s] (ho : o.op = .slice t x none (some z) none) (hx : ev e x = some (.slice p n c)) (hz' : ev e z = some (.int kh hi))
    (hh : hi = (h : Int)) (h2 : h ≤ c) : Pu P N w0 D e M o (.slice p h c) := fun a w hs hm => by
  subst hh
  have e4 : ¬ c < h := by omega
  have := cutp_zero p c s
  unfold cutp at this
  simp only [execOp, ho, hs.eval hx, hs.eval hz', Instr.sliceAt, Instr.slice, run_und hu.h, Instr.sliceBounds, Instr.sliceBound, asIntOf, run_size hz.h, Option.map_some, Option.map_none, Sem.run_bind, Result.andThen_ok, Sem.run_pure]
  rw [if_pos (by omega)]
  cases p <;> simp [Addr.add]
/-- All of an array in memory, as a slice. -/
theorem pu_sliceA {t E : TypeId} {x : Operand} {b off n s : Nat} [hu : Und P t (.array n E)] [hz : Siz P E s] (ho : o.op = .slice t x none none none) (hx : ev e x = some (.pointer (some ⟨b, off, none⟩))) : Pu P N w0 D e M o (.slice (some ⟨b, off, none⟩) n n) := fun a w hs hm => by
  simp only [execOp, ho, hs.eval hx, Instr.sliceAt, Instr.sureAddr, run_und hu.h, Instr.sliceBounds, run_size hz.h, Option.map_none, Sem.run_bind, Result.andThen_ok, Sem.run_pure]
  split <;> simp [Addr.add]
theorem pu_sliceA_l {t E : TypeId} {x y : Operand} {b off n s : Nat} {kl : IntKind} {li : Int} (l : Nat) [hu : Und P t (.array n E)] [hz : Siz P E s] (ho : o.op = .slice t x (some y) none none) (hx : ev e x = some (.pointer (some ⟨b, off, none⟩))) (hy : ev e y = some (.int kl li)) (hl : li = (l : Int)) (h1 : l ≤ n) :
    Pu P N w0 D e M o (.slice (cutp (some ⟨b, off, none⟩) n l s) (n - l) (n - l)) := fun a w hs hm => by
  subst hl
  simp only [execOp, ho, hs.eval hx, hs.eval hy, Instr.sliceAt, Instr.sureAddr, run_und hu.h, Instr.sliceBounds, Instr.sliceBound, asIntOf, run_size hz.h, Option.map_some, Option.map_none, Sem.run_bind, Result.andThen_ok, Sem.run_pure]
  rw [if_pos (by omega)]
  simp only [cutp, Sem.run_pure, Result.andThen_ok, Int.toNat_natCast, Option.map_some]
  split <;> rfl
theorem pu_sliceA_h {t E : TypeId} {x z : Operand} {b off n s : Nat} {kh : IntKind} {hi : Int} (h : Nat) [hu : Und P t (.array n E)] [hz : Siz P E s] (ho : o.op = .slice t x none (some z) none) (hx : ev e x = some (.pointer (some ⟨b, off, none⟩))) (hz' : ev e z = some (.int kh hi)) (hh : hi = (h : Int)) (h1 : h ≤ n) :
    Pu P N w0 D e M o (.slice (some ⟨b, off, none⟩) h n) := fun a w hs hm => by
  subst hh
  simp only [execOp, ho, hs.eval hx, hs.eval hz', Instr.sliceAt, Instr.sureAddr, run_und hu.h, Instr.sliceBounds, Instr.sliceBound, asIntOf, run_size hz.h, Option.map_some, Option.map_none, Sem.run_bind, Result.andThen_ok, Sem.run_pure]
  rw [if_pos (by omega)]
  simp only [Sem.run_pure, Result.andThen_ok, Int.toNat_natCast]
  split <;> simp [Addr.add]
theorem pu_sliceA_hm {t E : TypeId} {x z y : Operand} {b off n s : Nat} {kh km : IntKind} {hi mi : Int} (h m : Nat) [hu : Und P t (.array n E)] [hz : Siz P E s] (ho : o.op = .slice t x none (some z) (some y)) (hx : ev e x = some (.pointer (some ⟨b, off, none⟩))) (hz' : ev e z = some (.int kh hi)) (hy : ev e y = some (.int km mi)) (hh : hi = (h : Int)) (hm' : mi = (m : Int)) (h1 : h ≤ m) (h2 : m ≤ n) :
    Pu P N w0 D e M o (.slice (some ⟨b, off, none⟩) h m) := fun a w hs hm => by
  subst hh hm'
  simp only [execOp, ho, hs.eval hx, hs.eval hz', hs.eval hy, Instr.sliceAt, Instr.sureAddr, run_und hu.h, Instr.sliceBounds, Instr.sliceBound, asIntOf, run_size hz.h, Option.map_some, Option.map_none, Sem.run_bind, Result.andThen_ok, Sem.run_pure]
  rw [if_pos (by omega)]
  simp only [Sem.run_pure, Result.andThen_ok, Int.toNat_natCast]
  rw [if_pos (by omega)]
  simp only [Sem.run_pure, Result.andThen_ok, Int.toNat_natCast]
  split <;> simp [Addr.add]

/-! ## copy -/
theorem g_copy (tag : Nat) {t : TypeId} {E : TypeId} {x y : Operand} {b off n c m c' d : Nat} {L : List Value} {q : Option Addr} (S : List Value) (hg : wantE all e o = some true) (hd : o.dst = some d) (hN : Nat.blt d N = true) [hu : Und P t (.slice E)] [hz : Siz P E 1]
    (ho : o.op = .call ⟨.builtin .copy, #[x, y], #[t, t]⟩) (hx : ev e x = some (.slice (some ⟨b, off, none⟩) n c)) (hy : ev e y = some (.slice q m c'))
    (hM : mget M tag = some (.pt b (.cells L.toArray E (0, 0)))) (hS : ∀ w, Mem w0 D M w → RdV w q S) (hSl : S.length = m) (hl : off + n ≤ L.length) (h1 : ∀ u ∈ S, u.oneCell' = true)
    (h : G P fn R N w0 D ((d, .int .i64 ((Nat.min m n : Nat) : Int)) :: e) ((tag, .pt b (.cells (L.take off ++ S.take (Nat.min m n) ++ L.drop (off + Nat.min m n)).toArray E (0, 0))) :: M) (.ops all rest :: k)) : G P fn R N w0 D e M (.ops all (o :: rest) :: k) := by
  refine g_val (σ := Unit) (pr := fun _ => True) (val := fun _ => .int .i64 ((Nat.min m n : Nat) : Int)) (M' := fun _ => (tag, .pt b (.cells (L.take off ++ S.take (Nat.min m n) ++ L.drop (off + Nat.min m n)).toArray E (0, 0))) :: M) hg hd hN ?_ (fun _ _ => h)
  intro a w hs hm
  have hb := hm.holds _ _ hM
  simp only [Ck.holds] at hb
  have hk : Nat.min m n ≤ m := Nat.min_le_left _ _
  have hk2 : Nat.min m n ≤ n := Nat.min_le_right _ _
  have htk : (S.take (Nat.min m n)).length = Nat.min m n := by rw [List.length_take]; omega
  have hf : (Builtin.firstCells 1 (Nat.min m n) (.slice q m c')).run P w = .ok (S.take (Nat.min m n)).toArray w := by
    rcases hS w hm with h2 | ⟨bq, oq, rfl, hc⟩
    · have hm0 : m = 0 := by rw [← hSl, h2]; rfl
      have : Nat.min m n = 0 := by omega
      rw [this, h2]
      cases q with
      | none => simp [Builtin.firstCells]
      | some ad => simp [Builtin.firstCells, loadCells, loadCellsFrom]
    · refine run_firstCells_some (P := P) w 1 (Nat.min m n) ⟨bq, oq, none⟩ m c' (S.take (Nat.min m n)) (by omega) (fun j v hj => ?_)
      rw [Addr.add_lit]
      refine hc j v ?_
      rw [List.getElem?_take] at hj
      split at hj
      · exact hj
      · cases hj
  have hst := run_storeCells_at P b off E (S.take (Nat.min m n)) 0 L.toArray w hb (by simp; omega) (fun u hu => h1 u (List.mem_of_mem_take hu))
  refine ⟨(), _, trivial, ?_, hm.setRow tag hM⟩
  simp only [execOp, ho, resolve, invoke, builtin, Sem.run_bind, Sem.run_pure, Result.andThen_ok, List.map_toArray, List.map_cons, List.map_nil, hs.eval hx, hs.eval hy, Builtin.copy_, List.getElem?_toArray, List.getElem?_cons_zero, List.getElem?_cons_succ, run_und hu.h, Builtin.lenOf, run_size hz.h, hf]
  rw [hst]
  simp only [Result.andThen_ok, Nat.add_zero, htk, goInt]

/-! ## Words: quotients -/
theorem pu_rem8 {t u : TypeId} {x y : Operand} {a b : BitVec 8} (ho : o.op = .binOp .rem t x y u) (hx : ev e x = some (b8 a)) (hy : ev e y = some (b8 b)) (h0 : b.toNat ≠ 0) : Pu P N w0 D e M o (b8 (a % b)) := by
  have h := pu_remI (P := P) (N := N) (w0 := w0) (D := D) (M := M) ho hx hy ⟨by omega, by omega⟩
  have e1 : ((a.toNat : Int) % (b.toNat : Int)) = ((a % b).toNat : Int) := by rw [BitVec.toNat_umod]; rfl
  rw [e1] at h; exact h
theorem pu_rem32 {t u : TypeId} {x y : Operand} {a b : BitVec 32} (ho : o.op = .binOp .rem t x y u) (hx : ev e x = some (b32 a)) (hy : ev e y = some (b32 b)) (h0 : b.toNat ≠ 0) : Pu P N w0 D e M o (b32 (a % b)) := by
  have h := pu_remI (P := P) (N := N) (w0 := w0) (D := D) (M := M) ho hx hy ⟨by omega, by omega⟩
  have e1 : ((a.toNat : Int) % (b.toNat : Int)) = ((a % b).toNat : Int) := by rw [BitVec.toNat_umod]; rfl
  rw [e1] at h; exact h
theorem pu_rem64 {t u : TypeId} {x y : Operand} {a b : BitVec 64} (ho : o.op = .binOp .rem t x y u) (hx : ev e x = some (b64 a)) (hy : ev e y = some (b64 b)) (h0 : b.toNat ≠ 0) : Pu P N w0 D e M o (b64 (a % b)) := by
  have h := pu_remI (P := P) (N := N) (w0 := w0) (D := D) (M := M) ho hx hy ⟨by omega, by omega⟩
  have e1 : ((a.toNat : Int) % (b.toNat : Int)) = ((a % b).toNat : Int) := by rw [BitVec.toNat_umod]; rfl
  rw [e1] at h; exact h
theorem pu_quoW {t u : TypeId} {x y : Operand} {k : IntKind} {a b : Nat} (ho : o.op = .binOp .quo t x y u) (hx : ev e x = some (.int k (a : Int))) (hy : ev e y = some (.int k (b : Int))) (h0 : b ≠ 0) (hw : k.wrap ((a / b : Nat) : Int) = ((a / b : Nat) : Int)) : Pu P N w0 D e M o (.int k ((a / b : Nat) : Int)) := fun ac w hs hm => by
  have hb : ¬ (b : Int) = 0 := by omega
  have e1 : ((a : Int).tdiv (b : Int)) = ((a / b : Nat) : Int) := by rw [Int.tdiv_eq_ediv_of_nonneg (by omega)]; rfl
  simp [execOp, ho, hs.eval hx, hs.eval hy, run_guard, binOp, Op.intDiv, h0]
  simpa using hw
theorem pu_quo8 {t u : TypeId} {x y : Operand} {a b : BitVec 8} (ho : o.op = .binOp .quo t x y u) (hx : ev e x = some (b8 a)) (hy : ev e y = some (b8 b)) (h0 : b.toNat ≠ 0) : Pu P N w0 D e M o (b8 (a / b)) := by
  have hlt : a.toNat / b.toNat < 256 := Nat.lt_of_le_of_lt (Nat.div_le_self _ _) a.isLt
  have h := pu_quoW (P := P) (N := N) (w0 := w0) (D := D) (M := M) ho hx hy h0 (IntWalk.u8_in _ (by generalize a.toNat / b.toNat = q at *; omega))
  unfold b8; rw [BitVec.toNat_udiv]; exact h
theorem pu_quo64 {t u : TypeId} {x y : Operand} {a b : BitVec 64} (ho : o.op = .binOp .quo t x y u) (hx : ev e x = some (b64 a)) (hy : ev e y = some (b64 b)) (h0 : b.toNat ≠ 0) : Pu P N w0 D e M o (b64 (a / b)) := by
  have hlt : a.toNat / b.toNat < 18446744073709551616 := Nat.lt_of_le_of_lt (Nat.div_le_self _ _) a.isLt
  have h := pu_quoW (P := P) (N := N) (w0 := w0) (D := D) (M := M) ho hx hy h0 (IntWalk.u64_in _ (by generalize a.toNat / b.toNat = q at *; omega))
  unfold b64; rw [BitVec.toNat_udiv]; exact h

/-! ## Small builtins -/
theorem pu_min {tys : Array TypeId} {x y : Operand} {k : IntKind} {a b : Int} (ho : o.op = .call ⟨.builtin .min, #[x, y], tys⟩) (hx : ev e x = some (.int k a)) (hy : ev e y = some (.int k b)) : Pu P N w0 D e M o (.int k (if b < a then b else a)) := fun ac w hs hm => by
  simp [execOp, ho, resolve, invoke, builtin, hs.eval hx, hs.eval hy, Builtin.min_, Builtin.min2]
theorem pu_max {tys : Array TypeId} {x y : Operand} {k : IntKind} {a b : Int} (ho : o.op = .call ⟨.builtin .max, #[x, y], tys⟩) (hx : ev e x = some (.int k a)) (hy : ev e y = some (.int k b)) : Pu P N w0 D e M o (.int k (if b > a then b else a)) := fun ac w hs hm => by
  simp [execOp, ho, resolve, invoke, builtin, hs.eval hx, hs.eval hy, Builtin.max_, Builtin.max2]

/-! ## Strings -/
/-- The string of these bytes. -/
def strOf (l : List (BitVec 8)) : ByteArray := ⟨(l.map UInt8.ofBitVec).toArray⟩
/-- The bytes of a string. -/
def bytesOf (s : ByteArray) : List (BitVec 8) := s.data.toList.map UInt8.toBitVec
theorem strOf_bytesOf (s : ByteArray) : strOf (bytesOf s) = s := by
  apply ByteArray.ext
  apply Array.toList_inj.1
  have h : (UInt8.ofBitVec ∘ UInt8.toBitVec) = id := by funext x; rfl
  simp [strOf, bytesOf, h]
theorem bytesOf_strOf (l : List (BitVec 8)) : bytesOf (strOf l) = l := by simp [strOf, bytesOf, Function.comp_def]
theorem bytesOf_length (s : ByteArray) : (bytesOf s).length = s.size := by simp [bytesOf]
theorem bytesOf_inj {s t : ByteArray} (h : bytesOf s = bytesOf t) : s = t := by rw [← strOf_bytesOf s, h, strOf_bytesOf]
theorem strOf_inj {l m : List (BitVec 8)} (h : strOf l = strOf m) : l = m := by rw [← bytesOf_strOf l, h, bytesOf_strOf]
theorem strOf_size (l : List (BitVec 8)) : (strOf l).size = l.length := by rw [← bytesOf_length, bytesOf_strOf]
theorem bs_bytesOf (s : ByteArray) : (s.data.map fun b => Value.int .u8 (b.toNat : Int)).toList = bs (bytesOf s) := by
  simp [bs, bytesOf, b8, Function.comp_def]
theorem beqStr (s t : ByteArray) : (s.toList == t.toList) = decide (s = t) := by
  rw [Bool.eq_iff_iff]
  simp only [beq_iff_eq, decide_eq_true_eq, ByteArray.toList_eq]
  exact ⟨fun h => ByteArray.ext (Array.toList_inj.1 h), fun h => by rw [h]⟩
theorem run_guardS {op : BinOp} {t : TypeId} {x y : Operand} {a b : ByteArray} (w : World) : (eqGuard op t x y (.string a) (.string b)).run P w = .ok () w := by
  unfold eqGuard
  split <;> simp
theorem pu_eqlS {t u : TypeId} {x y : Operand} {a b : ByteArray} (ho : o.op = .binOp .eql t x y u) (hx : ev e x = some (.string a)) (hy : ev e y = some (.string b)) : Pu P N w0 D e M o (.bool (decide (a = b))) := fun ac w hs hm => by
  simp [execOp, ho, hs.eval hx, hs.eval hy, run_guardS, binOp, Op.stringOp, beqStr]
theorem pu_neqS {t u : TypeId} {x y : Operand} {a b : ByteArray} (ho : o.op = .binOp .neq t x y u) (hx : ev e x = some (.string a)) (hy : ev e y = some (.string b)) : Pu P N w0 D e M o (.bool (decide (a ≠ b))) := fun ac w hs hm => by
  simp [execOp, ho, hs.eval hx, hs.eval hy, run_guardS, binOp, Op.stringOp, beqStr]
theorem pu_indexS {t : TypeId} {x ix : Operand} {s : ByteArray} {kd : IntKind} {i : Int} {v : BitVec 8} (j : Nat) [hu : Und P t .string] (ho : o.op = .index t x ix) (hx : ev e x = some (.string s)) (hi : ev e ix = some (.int kd i)) (hj : i = (j : Int)) (hv : (bytesOf s)[j]? = some v) : Pu P N w0 D e M o (b8 v) := fun ac w hs hm => by
  subst hj
  have h1 : s[j]? = some (UInt8.ofBitVec v) := by
    have hlt : j < s.size := by
      have := (List.getElem?_eq_some_iff.1 hv).1
      rwa [bytesOf_length] at this
    have h2 : s.data.toList[j]? = some (UInt8.ofBitVec v) := by
      simp only [bytesOf, List.getElem?_map, Option.map_eq_some_iff] at hv
      obtain ⟨u, hu', rfl⟩ := hv
      simpa using hu'
    rw [show s[j]? = s.data[j]? from rfl]
    simpa using h2
  simp [execOp, ho, hs.eval hx, hs.eval hi, Instr.index, asIntOf, run_und hu.h, h1, b8]

end
end Go.Sx

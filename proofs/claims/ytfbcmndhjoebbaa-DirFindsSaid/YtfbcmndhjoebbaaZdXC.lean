import Derived.Test.YtfbcmndhjoebbaaZdXB
import Derived.Lib.MakeNoZero
import Derived.Laws.Externs
import Derived.OwnWalk
import Derived.ChangeKeysEq
import Derived.Laws.StructEq
import Derived.Lib.SlBytesRow
import Derived.Lib.ConvBytes
import Derived.Test.YtfbcmndhjoebbaaZdXA
set_option linter.unusedVariables false
set_option linter.unusedSimpArgs false
/-
  A statement whose order Go leaves open, where a store may come ahead of a load of another block: what the loads look at is a part of memory that all operations keep. No condition: it speaks of any program.
-/
namespace Go.Sx
open Go

section
variable {P : Program} {fn : Func} {R : Ending → World → Prop} {N : Nat} {w0 : World} {D : Blocks} {e : List (Nat × Value)} {M : List (Nat × Ck)} {k : List It} {ops : Array Oper} {f : Nat} {L : Array Bool}

/-- The region goes well in whatever order from here on; all operations keep what M0 tells. -/
def GPK (P : Program) (fn : Func) (R : Ending → World → Prop) (N : Nat) (w0 : World) (D : Blocks) (M0 : List (Nat × Ck)) (e : List (Nat × Value)) (M : List (Nat × Ck)) (k : List It) (ops : Array Oper) (f : Nat) (L : Array Bool) : Prop :=
  ∀ a w, Sat N e a → Mem w0 D M w → anyC P ops (ext P fn R k) (ops.size, []) (Mem w0 D M0) f L a w

theorem g_anyK {id : Nat} {l : List Oper} (M0 : List (Nat × Ck)) [hmix : Mix P] (h : GPK P fn R N w0 D M0 e M k l.toArray l.length (Array.replicate l.length false)) : G P fn R N w0 D e M (.code (.region id l.toArray true) :: k) := by
  intro a w hs hm
  simp only [ext]
  refine wp_region_any hmix.h ?_
  have := anyC_any _ _ _ _ (h a { w with drawn := w.drawn + 1 } hs hm.drawn)
  simpa using this

def firstK (ops : Array Oper) (L : Array Bool) (i : Nat) : Bool := Region.noSelect ops && closedB ops L && (Region.ready .any ops L).contains i && Region.free .any ops L i
theorem a_puK {M0 : List (Nat × Ck)} (i : Nat) {d : Nat} {o : Oper} {v : Value} (hi : ops[i]? = some o) (hd : o.dst = some d) (hN : Nat.blt d N = true) (hw : wantE ops e o = some true) (hM : SubM M M0) (hp : Pu P N w0 D e M0 o v)
    (hB : firstK ops L i = true) (h : GPK P fn R N w0 D M0 ((d, v) :: e) M k ops f (L.setIfInBounds i true)) : GPK P fn R N w0 D M0 e M k ops (f + 1) L := by
  simp only [firstK, Bool.and_eq_true] at hB
  obtain ⟨⟨⟨hsel, hcl⟩, hr⟩, hfr⟩ := hB
  intro a w hs hm
  refine anyC_first hi (fun j hj _ hjs _ => absurd hj (Nat.not_le.2 hjs)) (Region.noSelect_spec hsel) ?_ _ _ a w (hm.sub hM.all) (closed_of hcl) ?_ (by simpa using hr) (.inl ⟨wantE_spec hs hw, fun w hm => hp a w hs hm⟩) ?_
  · intro c b w' hb
    rw [ext_panic] at hb ⊢
    rw [hd] at hb
    exact hb
  · intro j oj hj hji hu hno
    exact Region.free_spec hi hfr j oj hj hji hu hno
  · rw [hd]
    exact h _ w (hs.put (by simpa [Nat.blt_eq] using hN) v) hm

/-- The operation turns memory, and hands back nothing. -/
def St (P : Program) (N : Nat) (w0 : World) (D : Blocks) (e : List (Nat × Value)) (M : List (Nat × Ck)) (o : Oper) (M' : List (Nat × Ck)) : Prop :=
  ∀ a w, Sat N e a → Mem w0 D M w → ∃ w', (execOp a.eval o).run P w = .ok .skip w' ∧ Mem w0 D M' w'
theorem a_stK {M0 M' : List (Nat × Ck)} (i : Nat) {o : Oper} (hi : ops[i]? = some o) (hd : o.dst = none) (hw : wantE ops e o = some true) (hp : St P N w0 D e M o M') (hM : SubM M' M0)
    (hr : Region.ready .any ops L = [i]) (h : GPK P fn R N w0 D M0 e M' k ops f (L.setIfInBounds i true)) : GPK P fn R N w0 D M0 e M k ops (f + 1) L := by
  intro a w hs hm
  refine ⟨fun h0 => (by rw [hr] at h0; cases h0), fun j hj => ?_⟩
  rw [hr] at hj
  obtain rfl := List.mem_singleton.1 hj
  obtain ⟨w', hrun, hm'⟩ := hp a w hs hm
  unfold wpOp
  simp only [hi, wantE_spec hs hw, if_true]
  refine .inl ?_
  unfold Oper.wp
  rw [hrun]
  simp only [Oper.upon, hd, Act.put]
  exact ⟨⟨fun _ _ => hm'.sub hM.all, fun hx => (by cases hx)⟩, h a w' hs hm'⟩
theorem a_doneK {M0 : List (Nat × Ck)} (hr : (Region.ready .any ops L).isEmpty = true) (h : G P fn R N w0 D e M k) : GPK P fn R N w0 D M0 e M k ops 0 L :=
  fun a w hs hm => ⟨by show Region.ready .any ops L = []; simpa using hr, h a w hs hm⟩
end
end Go.Sx

/-
  A function of the library without a body (internal/bytealg.MakeNoZero), and a slice with all three bounds, for the judgement of Sx. No condition: they speak of any program.
-/
namespace Go.Sx
open Go

/-- The function is internal/bytealg.MakeNoZero. -/
class Mnz (P : Program) (f : FuncId) (E : outParam TypeId) : Prop where
  h : ∃ fn t, P.funcs[f]? = some fn ∧ (fn.name == "runtime.NumGoroutine") = false ∧ fn.body.isNone = true ∧ Extern.findNext fn = none ∧ Extern.find fn = some (Extern.BytealgMakeNoZero.makeNoZero fn.params #[t]) ∧ P.underlying t = some (.slice E)

section
variable {P : Program} {fn : Func} {R : Ending → World → Prop} {N : Nat} {w0 : World} {D : Blocks} {e : List (Nat × Value)} {M : List (Nat × Ck)} {k : List It} {o : Oper} {all : Array Oper} {rest : List Oper}

theorem lo_mnz {f : FuncId} {E : TypeId} {x : Operand} {tys : Array TypeId} {n : Nat} {i : Int} [hc : Mnz P f E] (ho : o.op = .call ⟨.value (.func f), #[x], tys⟩) (hx : ev e x = some (.int .i64 i)) (hi : i = (n : Int)) (hn : n ≤ 281474976710656) :
    Lo P N w0 D e M o (σ := Nat × List Value) (fun r => w0.heap.size ≤ r.1 ∧ n ≤ r.2.length ∧ r.2.length ≤ 9223372036854775807) (fun r => .slice (some ⟨r.1, 0, none⟩) n r.2.length) (fun r => [.pt r.1 (.cells r.2.toArray E (0, 0))]) := fun a w hs hm => by
  obtain ⟨fn, t, h1, h2, h3, h4, h5, h6⟩ := hc.h
  obtain ⟨cs, hr, hc1, hc2⟩ := Lib.run_makeNoZero (P := P) w fn.params t E h6 n hn
  refine ⟨(w.heap.size, cs.toList), w.drew.drew.alloc (.cells cs E), ⟨hm.size, by simpa using hc1, ?_⟩, ?_, ?_⟩
  · have := hc2 (by unfold maxLen; omega)
    unfold maxLen at this
    simpa using this
  · subst hi
    have he : (#[x] : Array Operand).map a.eval = #[.int .i64 (n : Int)] := by simp [hs.eval hx]
    simp only [execOp, ho, resolve, he, Act.eval, Deferred.ofValue, Sem.run_bind, Sem.run_pure, Result.andThen_ok, invoke]
    rw [run_callFunc_extern h1 h2 h3 h4 h5]
    have e0 : (#[] : Array Value) ++ #[Value.int IntKind.i64 (n : Int)] = #[.int .i64 (n : Int)] := rfl
    simp only [Array.append_empty, e0, hr, Result.andThen_ok, Array.length_toList]
  · have hg := Grows.new w (.cells cs E (0, 0))
    refine ⟨hg.os, hg.tape, hg.output, hg.size, fun j hj hn => ?_, ?_, hg.stable, hg.above, hg.below, hg.apart⟩
    · exact hg.keep j hj hn
    · intro c hc'
      have hc2 : c ∈ [Ck.pt w.heap.size (.cells cs E (0, 0))] := by simpa using hc'
      exact Ck.keep (w := { w with heap := w.heap.push (.cells cs E (0, 0)) }) (hg.stable c hc2) (fun _ _ => rfl) (hg.holds c hc2)

theorem pu_slice_hm {t E : TypeId} {x z y : Operand} {p : Option Addr} {n c s : Nat} {kh km : IntKind} {hi mi : Int} (h m : Nat) [hu : Und P t (.slice E)] [hz : Siz P E s] (ho : o.op = .slice t x none (some z) (some y)) (hx : ev e x = some (.slice p n c)) (hz' : ev e z = some (.int kh hi)) (hy : ev e y = some (.int km mi)) (hh : hi = (h : Int)) (hm' : mi = (m : Int)) (h1 : h ≤ m) (h2 : m ≤ c) :
    Pu P N w0 D e M o (.slice p h m) := fun a w hs hm => by
  subst hh hm'
  have := cutp_zero p m s
  unfold cutp at this
  simp only [execOp, ho, hs.eval hx, hs.eval hz', hs.eval hy, Instr.sliceAt, Instr.slice, run_und hu.h, Instr.sliceBounds, Instr.sliceBound, asIntOf, run_size hz.h, Option.map_some, Option.map_none, Sem.run_bind, Result.andThen_ok, Sem.run_pure]
  rw [if_pos (by omega)]
  simp only [Sem.run_pure, Result.andThen_ok, Int.toNat_natCast]
  rw [if_pos (by omega)]
  simp only [Sem.run_pure, Result.andThen_ok, Int.toNat_natCast]
  cases p <;> simp [Addr.add]
end
end Go.Sx

/-
  Equality of arrays of numbers, results that lie in memory, three and four results, for the judgement of Sx. No condition: they speak of any program.
-/
namespace Go.Sx
open Go

/-- Comparing this type asks nothing of interfaces. -/
class Ngd (P : Program) (t : TypeId) : Prop where
  h : P.eqGuardType P.depth t = false
/-- A type of one cell that is no struct and no array: how many cells it has in the model's count. -/
class One (P : Program) (t : TypeId) : Prop where
  h : P.cellsOf t = 1

def kindIs (k : IntKind) : Value → Bool
  | .int k' _ => decide (k' = k)
  | _ => false

section
variable {P : Program}
theorem run_eqItems_int (d : Nat) {e : TypeId} {k : IntKind} (hu : P.underlying e = some (.int k)) (w : World) (xs ys : List Value) (hx : xs.all (kindIs k) = true) (hy : ys.all (kindIs k) = true) (hl : xs.length = ys.length) :
    ∀ (n j : Nat), j + n = xs.length → ∃ r, (Op.eqItems (d + 1) e 1 xs.toArray ys.toArray (List.range' j n)).run P w = .ok r w ∧ (r = true ↔ xs.drop j = ys.drop j)
  | 0, j, h => by
    have e1 : xs.drop j = [] := List.drop_eq_nil_of_le (by omega)
    have e2 : ys.drop j = [] := List.drop_eq_nil_of_le (by omega)
    exact ⟨true, by simp [Op.eqItems], by simp [e1, e2]⟩
  | n + 1, j, h => by
    have hj : j < xs.length := by omega
    have hj' : j < ys.length := by omega
    have h1 : xs[j]? = some xs[j] := List.getElem?_eq_getElem hj
    have h2 : ys[j]? = some ys[j] := List.getElem?_eq_getElem hj'
    have k1 := List.all_eq_true.1 hx _ (List.getElem_mem hj)
    have k2 := List.all_eq_true.1 hy _ (List.getElem_mem hj')
    have d1 : xs.drop j = xs[j] :: xs.drop (j + 1) := List.drop_eq_getElem_cons hj
    have d2 : ys.drop j = ys[j] :: ys.drop (j + 1) := List.drop_eq_getElem_cons hj'
    rw [d1, d2]
    generalize xs[j] = u at *
    generalize ys[j] = v at *
    cases u <;> simp only [kindIs, Bool.false_eq_true] at k1
    cases v <;> simp only [kindIs, Bool.false_eq_true] at k2
    rename_i ka a kb b
    have k1 := of_decide_eq_true k1
    have k2 := of_decide_eq_true k2
    subst k1 k2
    have p1 : (part e xs.toArray j).run P w = .ok (.int kb a) w := by simp [part, isAgg, run_und hu, h1]
    have p2 : (part e ys.toArray j).run P w = .ok (.int kb b) w := by simp [part, isAgg, run_und hu, h2]
    obtain ⟨r, ih, hr⟩ := run_eqItems_int d hu w xs ys hx hy hl n (j + 1) (by omega)
    simp only [List.range'_succ, Op.eqItems, Sem.run_bind, Nat.mul_one, p1, p2, Result.andThen_ok, run_equalIn_int w d e kb kb a b hu]
    by_cases hab : a = b
    · subst hab
      refine ⟨r, ?_, by simpa using hr⟩
      simp only [beq_self_eq_true, Bool.not_true, Bool.false_eq_true, if_false, ih]
    · have : (a == b) = false := by simpa using hab
      refine ⟨false, ?_, by simp [hab]⟩
      simp only [this, Bool.not_false, if_true, Sem.run_pure]
end

section
variable {P : Program} {fn : Func} {R : Ending → World → Prop} {N : Nat} {w0 : World} {D : Blocks} {e : List (Nat × Value)} {M : List (Nat × Ck)} {k : List It} {o : Oper} {all : Array Oper} {rest : List Oper}

theorem run_equalA {t E : TypeId} {n : Nat} {kd : IntKind} (w : World) (hu : P.underlying t = some (.array n E)) (he : P.underlying E = some (.int kd)) (h1 : P.cellsOf E = 1) (xs ys : List Value) (hx : xs.all (kindIs kd) = true) (hy : ys.all (kindIs kd) = true) (hn : xs.length = n) (hn' : ys.length = n) :
    ∃ r, (Op.equal t (.agg xs.toArray) (.agg ys.toArray)).run P w = .ok r w ∧ (r = true ↔ xs = ys) := by
  obtain ⟨d, hd⟩ : ∃ d, Op.maxDepth = d + 2 := ⟨_, rfl⟩
  have hi : ∃ i, P.info? E = some i := by
    cases h : P.info? E with
    | some i => exact ⟨i, rfl⟩
    | none => simp [Program.cellsOf, h] at h1
  obtain ⟨i, hi⟩ := hi
  obtain ⟨r, h2, hr⟩ := run_eqItems_int d he w xs ys hx hy (by omega) n 0 (by omega)
  refine ⟨r, ?_, by simpa using hr⟩
  rw [Op.equal, hd, run_equalIn_array w (d + 1) xs.toArray ys.toArray hu hi, h1, List.range_eq_range', h2]
theorem pu_eqlA_t {t u E : TypeId} {x y : Operand} {n : Nat} {kd : IntKind} {a b : List Value} [hu : Und P t (.array n E)] [he : Und P E (.int kd)] [hg : Ngd P t] [h1 : One P E] (ho : o.op = .binOp .eql t x y u) (hx : ev e x = some (.agg a.toArray)) (hy : ev e y = some (.agg b.toArray)) (h : a = b) (ha : a.all (kindIs kd) = true) (hn : a.length = n) :
    Pu P N w0 D e M o (.bool true) := fun ac w hs hm => by
  subst h
  obtain ⟨r, hr, hiff⟩ := run_equalA w hu.h he.h h1.h a a ha ha hn hn
  rw [hiff.2 rfl] at hr
  simp [execOp, ho, hs.eval hx, hs.eval hy, run_eqGuard_agg _ _ _ _ _ _ _ hg.h, binOp, hr]
theorem pu_eqlA_f {t u E : TypeId} {x y : Operand} {n : Nat} {kd : IntKind} {a b : List Value} [hu : Und P t (.array n E)] [he : Und P E (.int kd)] [hg : Ngd P t] [h1 : One P E] (ho : o.op = .binOp .eql t x y u) (hx : ev e x = some (.agg a.toArray)) (hy : ev e y = some (.agg b.toArray)) (h : ¬ a = b) (ha : a.all (kindIs kd) = true) (hb : b.all (kindIs kd) = true) (hn : a.length = n) (hn' : b.length = n) :
    Pu P N w0 D e M o (.bool false) := fun ac w hs hm => by
  obtain ⟨r, hr, hiff⟩ := run_equalA w hu.h he.h h1.h a b ha hb hn hn'
  have hf : r = false := by
    cases r with
    | false => rfl
    | true => exact absurd (hiff.1 rfl) h
  rw [hf] at hr
  simp [execOp, ho, hs.eval hx, hs.eval hy, run_eqGuard_agg _ _ _ _ _ _ _ hg.h, binOp, hr]
theorem pu_neqA_f {t u E : TypeId} {x y : Operand} {n : Nat} {kd : IntKind} {a b : List Value} [hu : Und P t (.array n E)] [he : Und P E (.int kd)] [hg : Ngd P t] [h1 : One P E] (ho : o.op = .binOp .neq t x y u) (hx : ev e x = some (.agg a.toArray)) (hy : ev e y = some (.agg b.toArray)) (h : a = b) (ha : a.all (kindIs kd) = true) (hn : a.length = n) :
    Pu P N w0 D e M o (.bool false) := fun ac w hs hm => by
  subst h
  obtain ⟨r, hr, hiff⟩ := run_equalA w hu.h he.h h1.h a a ha ha hn hn
  rw [hiff.2 rfl] at hr
  simp [execOp, ho, hs.eval hx, hs.eval hy, run_eqGuard_agg _ _ _ _ _ _ _ hg.h, binOp, hr]
theorem pu_neqA_t {t u E : TypeId} {x y : Operand} {n : Nat} {kd : IntKind} {a b : List Value} [hu : Und P t (.array n E)] [he : Und P E (.int kd)] [hg : Ngd P t] [h1 : One P E] (ho : o.op = .binOp .neq t x y u) (hx : ev e x = some (.agg a.toArray)) (hy : ev e y = some (.agg b.toArray)) (h : ¬ a = b) (ha : a.all (kindIs kd) = true) (hb : b.all (kindIs kd) = true) (hn : a.length = n) (hn' : b.length = n) :
    Pu P N w0 D e M o (.bool true) := fun ac w hs hm => by
  obtain ⟨r, hr, hiff⟩ := run_equalA w hu.h he.h h1.h a b ha hb hn hn'
  have hf : r = false := by
    cases r with
    | false => rfl
    | true => exact absurd (hiff.1 rfl) h
  rw [hf] at hr
  simp [execOp, ho, hs.eval hx, hs.eval hy, run_eqGuard_agg _ _ _ _ _ _ _ hg.h, binOp, hr]

/-- A pending alloc. -/
def PA (i d tag : Nat) (t : TypeId) (z : Value) (w0 : World) : PU := ⟨i, d, [tag], fun v cs => ∃ b : Nat, w0.heap.size ≤ b ∧ v = .pointer (some ⟨b, 0, none⟩) ∧ cs = [.pt b (.cells z.cells t (0, 0))]⟩
theorem does_PA {ops : Array Oper} {Q : Exit → Act → World → Prop} {i d tag : Nat} {t : TypeId} {z : Value} {o : Oper} (hi : ops[i]? = some o) (hd : o.dst = some d) (hw : wantE ops e o = some true) [hz : Zer P t z] (ho : o.op = .alloc t) : Does P ops Q N w0 D e M i d (PA i d tag t z w0).out :=
  does_lo hi hd hw (lo_alloc ho)
theorem a_pendA {ops : Array Oper} {m : Nat × List Nat} {ps : List PU} {f : Nat} {L : Array Bool} (i d tag : Nat) (t : TypeId) {z : Value} [hz : Zer P t z] (h : GP P fn R N w0 D e M k ops m (PA i d tag t z w0 :: ps) f L) : GP P fn R N w0 D e M k ops m ps f L := a_pend _ h

/-- A slice as an array's address. -/
theorem pu_s2a {t E : TypeId} {x : Operand} {p : Option Addr} {n m c : Nat} {l : List (BitVec 8)} (hr : ∀ w, Mem w0 D M w → By w p n l) [hu : Und P t (.array m E)] (ho : o.op = .sliceToArrayPointer t x) (hx : ev e x = some (.slice p n c)) (hm0 : 0 < m) (hmn : m ≤ n) : Pu P N w0 D e M o (.pointer (adr p 0)) := fun a w hs hm => by
  have h := hr w hm
  obtain ⟨b, off, rfl, _⟩ := h.rd.place (by rw [bs_length, h.len]; omega)
  have h1 : ¬ n < m := by omega
  simp [execOp, ho, hs.eval hx, Instr.arrayAt, run_und hu.h, h1, adr]
/-- One part laid into cells. -/
theorem fill_one {pl : Nat → Option (Nat × Nat)} {A : Array Value} {C : List Value} {i off s : Nat} (hp : pl i = some (off, s)) (hC : C.length = s) (hA : off + s ≤ A.size) : Instr.fill pl A [(i, .agg C.toArray)] = some (A.toList.take off ++ C ++ A.toList.drop (off + s)).toArray := by
  have h1 := set_cells off C 0 A (by omega)
  simp only [Nat.add_zero, hC] at h1
  simp only [Instr.fill, hp, Value.cells, List.size_toArray, hC]
  rw [if_neg (by simp; omega), ← h1]
  congr 1
  rw [← Array.foldl_toList, Array.toList_zipIdx]

/-- An array written out whole. -/
theorem pu_buildA {t E : TypeId} {n s : Nat} {z : Value} {ps : List (Nat × Operand)} {vs : List (Nat × Value)} {cs : List Value} [hu : Und P t (.array n E)] [hz : Siz P E s] [hzz : Zer P t z] (ho : o.op = .build t ps.toArray) (hp : evp e ps = some vs) (hzs : z.cells.size = n * s) (hv : vs.length = n) (hq : seqCells s 0 vs = some cs) :
    Pu P N w0 D e M o (.agg cs.toArray) :=
  pu_build ho hp fun w => by
    have hf := fill_seq s n vs 0 z.cells cs hq (by omega) hzs
    have h2 : Instr.fill (fun i => some (i * s, s)) z.cells vs = some cs.toArray := by simpa using hf
    simp only [Instr.build, Sem.run_bind, run_zero hzz.h, Result.andThen_ok, run_und hu.h, run_size hz.h, h2, Sem.run_pure]
/-- An array of which some parts are written out. -/
theorem pu_buildA' {t E : TypeId} {n s : Nat} {z : Value} {ps : List (Nat × Operand)} {vs : List (Nat × Value)} {cs : List Value} [hu : Und P t (.array n E)] [hz : Siz P E s] [hzz : Zer P t z] (ho : o.op = .build t ps.toArray) (hp : evp e ps = some vs) (hf : Instr.fill (fun i => some (i * s, s)) z.cells vs = some cs.toArray) :
    Pu P N w0 D e M o (.agg cs.toArray) :=
  pu_build ho hp fun w => by
    simp only [Instr.build, Sem.run_bind, run_zero hzz.h, Result.andThen_ok, run_und hu.h, run_size hz.h, hf, Sem.run_pure]

/-- Where the fields of a struct lie. -/
def plc? (P : Program) (t : TypeId) : Option (List (Nat × Nat)) :=
  match P.underlying t with
  | some (.struct fs) => fs.toList.mapM fun f => (P.info? f.type).map fun i => (f.offset, i.size)
  | _ => none
class Plc (P : Program) (t : TypeId) (ps : outParam (List (Nat × Nat))) : Prop where
  h : plc? P t = some ps
theorem run_mapM_some {α β : Type} {f : α → Option β} {g : α → Sem β} (hfg : ∀ a b, f a = some b → ∀ w, (g a).run P w = .ok b w) : ∀ {fs : List α} {ps : List β}, fs.mapM f = some ps → ∀ w, (fs.mapM g).run P w = .ok ps w
  | [], ps, h, w => by simp at h; subst h; simp
  | a :: fs, ps, h, w => by
    rw [List.mapM_cons] at h
    simp only [bind, Option.bind_eq_some_iff, pure, Option.some.injEq] at h
    obtain ⟨x, hx, ys, h2, rfl⟩ := h
    have h3 := run_mapM_some hfg h2 w
    rw [List.mapM_cons]
    simp only [Sem.run_bind, hfg a x hx, Result.andThen_ok, h3, Sem.run_pure]
theorem run_mapA_some {α β : Type} {f : α → Option β} {g : α → Sem β} (hfg : ∀ a b, f a = some b → ∀ w, (g a).run P w = .ok b w) {fs : Array α} {ps : List β} (h : fs.toList.mapM f = some ps) (w : World) : (fs.mapM g).run P w = .ok ps.toArray w := by
  have h1 := run_mapM_some (P := P) hfg h w
  rw [Array.mapM_eq_mapM_toList]
  simp only [map_eq_pure_bind, Sem.run_bind, h1, Result.andThen_ok, Sem.run_pure]
/-- A struct of which some parts are written out. -/
theorem pu_buildS {t : TypeId} {z : Value} {ps : List (Nat × Operand)} {pl : List (Nat × Nat)} {vs : List (Nat × Value)} {cs : List Value} [hpl : Plc P t pl] [hzz : Zer P t z] (ho : o.op = .build t ps.toArray) (hp : evp e ps = some vs) (hf : Instr.fill (fun i => pl[i]?) z.cells vs = some cs.toArray) :
    Pu P N w0 D e M o (.agg cs.toArray) :=
  pu_build ho hp fun w => by
    have h1 := hpl.h
    unfold plc? at h1
    split at h1
    · rename_i fs hu
      have h3 : (fs.mapM fun f => (do pure (f.offset, ← sizeOf f.type) : Sem (Nat × Nat))).run P w = .ok pl.toArray w := by
        refine run_mapA_some (fun a b hab w => ?_) h1 w
        obtain ⟨i, hi, rfl⟩ := Option.map_eq_some_iff.1 hab
        have h4 : (sizeOf a.type).run P w = .ok i.size w := run_size (by simp [size?, hi]) w
        simp only [Sem.run_bind, h4, Result.andThen_ok, Sem.run_pure]
      simp only [Instr.build, Sem.run_bind, run_zero hzz.h, Result.andThen_ok, run_und hu, h3, List.getElem?_toArray, hf, Sem.run_pure]
    · cases h1

theorem pu_loadW (tag : Nat) {t : TypeId} {x : Operand} {b s : Nat} {L : List Value} {E : TypeId} {fz : Nat × Nat} [hu : Agg P t true] [hz : Siz P t s] (ho : o.op = .load t x) (hx : ev e x = some (.pointer (some ⟨b, 0, none⟩)))
    (hM : mget M tag = some (.pt b (.cells L.toArray E fz))) (hl : L.length = s) : Pu P N w0 D e M o (.agg L.toArray) := by
  have h := pu_loadA (P := P) (N := N) (w0 := w0) (D := D) tag ho hx hM (by simp [hl])
  have e1 : L.toArray.extract 0 (0 + s) = L.toArray := by
    apply Array.ext'
    simp [← hl]
  rwa [e1] at h
theorem g_storeL (tag : Nat) {t : TypeId} {x y : Operand} {b s : Nat} {L C : List Value} {E : TypeId} (hg : wantE all e o = some true) (hd : o.dst = none) [hz : Siz P t s] (ho : o.op = .store t x y) (hx : ev e x = some (.pointer (some ⟨b, 0, none⟩))) (hy : ev e y = some (.agg C.toArray))
    (hM : mget M tag = some (.pt b (.cells L.toArray E (0, 0)))) (hC : C.length = s) (hL : L.length = s) (hv : ∀ u ∈ C, u.oneCell' = true)
    (h : G P fn R N w0 D e ((tag, .pt b (.cells C.toArray E (0, 0))) :: M) (.ops all rest :: k)) : G P fn R N w0 D e M (.ops all (o :: rest) :: k) := by
  refine g_storeA tag hg hd ho hx hy hM hC hv (by omega) ?_
  have e1 : L.take 0 ++ C ++ L.drop (0 + s) = C := by simp [← hL]
  rw [e1]; exact h

/-- One result that lies in a known block of its own. -/
theorem g_retC (tag : Nat) {t : Nat} {ty : TypeId} {b : Nat} {L : List Value} {E : TypeId} {fz : Nat × Nat} (hf : fn.results = #[.cell t ty]) [hu : Agg P ty true] [hz : Siz P ty L.length] (hv : get e t = some (.pointer (some ⟨b, 0, none⟩))) (hM : mget M tag = some (.pt b (.cells L.toArray E fz)))
    (hR : ∀ w, Mem w0 D M w → R (.returned (.agg L.toArray)) w) : G P fn R N w0 D e M (.code .ret :: k) :=
  g_ret_of (fun a w hs hm => by
    have h1 := hm.holds _ _ hM
    simp only [Ck.holds] at h1
    have h2 : (loadCells ⟨b, 0, none⟩ L.length).run P w = .ok L.toArray w := by
      refine run_loadCells_list (P := P) w ⟨b, 0, none⟩ L (fun j v hj => ?_)
      rw [Addr.add_lit, cell_pt h1]
      simpa using hj
    have h3 := getD_of hs hv
    simp only [Array.getD_eq_getD_getElem?] at h3
    simp [results, hf, h3, asAddr, loadVar, run_isAgg hu.h, run_size hz.h, h2]) hR
theorem g_retL (tag : Nat) {t s : Nat} {ty : TypeId} {b : Nat} {L : List Value} {E : TypeId} {fz : Nat × Nat} (hf : fn.results = #[.cell t ty]) [hu : Agg P ty true] [hz : Siz P ty s] (hl : L.length = s) (hv : get e t = some (.pointer (some ⟨b, 0, none⟩))) (hM : mget M tag = some (.pt b (.cells L.toArray E fz)))
    (hR : ∀ w, Mem w0 D M w → R (.returned (.agg L.toArray)) w) : G P fn R N w0 D e M (.code .ret :: k) := by
  subst hl
  exact g_retC tag hf hv hM hR
end
end Go.Sx

/-
  Conversions between strings and slices of bytes, for the judgement of Sx. No condition: they speak of any program.
-/
namespace Go.Sx
open Go

section
variable {P : Program} {fn : Func} {R : Ending → World → Prop} {N : Nat} {w0 : World} {D : Blocks} {e : List (Nat × Value)} {M : List (Nat × Ck)} {k : List It} {o : Oper} {all : Array Oper} {rest : List Oper}

/-- A constant's bytes: the row is marked. -/
theorem g_mark (tag : Nat) {t E : TypeId} {x : Operand} {b n c d : Nat} {C : Array Value} {F : TypeId} (hg : wantE all e o = some true) (hd : o.dst = some d) (hN : Nat.blt d N = true) [hu : Und P t (.slice E)] [he : Und P E (.int .u8)] (ho : o.op = .convert t t x) (hx : ev e x = some (.slice (some ⟨b, 0, none⟩) n c))
    (hM : mget M tag = some (.pt b (.cells C F (0, 0))))
    (h : G P fn R N w0 D ((d, .slice (some ⟨b, 0, none⟩) n c) :: e) ((tag, .pt b (.cells C F (C.size, C.size + 1))) :: M) (.ops all rest :: k)) : G P fn R N w0 D e M (.ops all (o :: rest) :: k) := by
  refine g_val (σ := Unit) (pr := fun _ => True) (val := fun _ => .slice (some ⟨b, 0, none⟩) n c) (M' := fun _ => (tag, .pt b (.cells C F (C.size, C.size + 1))) :: M) hg hd hN ?_ (fun _ _ => h)
  intro a w hs hm
  have hb := hm.holds _ _ hM
  simp only [Ck.holds] at hb
  refine ⟨(), w.freeze ⟨b, C.size, none⟩ 1, trivial, ?_, ?_⟩
  · have hsh : w.shape? b = some (F, C.size) := by simp [World.shape?, hb]
    simp [execOp, ho, hs.eval hx, convert, run_und hu.h, run_und he.h, markStringish, hsh]
  · refine hm.turn tag b _ (.cells C F (C.size, C.size + 1)) hM rfl rfl rfl ?_ ?_ (fun j hj => ?_)
    · simp [World.freeze]
    · have hlt := lt_of_some hb
      simp only [World.freeze, Nat.one_ne_zero, if_false, Array.getElem?_modify, if_pos rfl, hb, Option.map_some]
      rfl
    · simp only [World.freeze, Nat.one_ne_zero, if_false, Array.getElem?_modify]
      rw [if_neg (fun e => hj e.symm)]

/-- A string's bytes, as a new row, marked. -/
theorem lo_bytesOf {s t E : TypeId} {x : Operand} {str : ByteArray} [hs' : Und P s .string] [hu : Und P t (.slice E)] [he : Und P E (.int .u8)] (ho : o.op = .convert s t x) (hx : ev e x = some (.string str)) (hlen : str.size ≤ 9223372036854775807) :
    Lo P N w0 D e M o (σ := Nat × Nat) (fun r => w0.heap.size ≤ r.1 ∧ str.size ≤ r.2 ∧ r.2 ≤ 9223372036854775807) (fun r => .slice (some ⟨r.1, 0, none⟩) str.size r.2) (fun r => [.pt r.1 (.cells (bs (bytesOf str) ++ List.replicate (r.2 - str.size) (b8 0#8)).toArray E (r.2, r.2 + 1))]) := fun a w hs hm => by
  have hge := grownCap_ge w str.size 0 E
  have hle := grownCap_le_maxLen w str.size 0 E (by unfold maxLen; omega)
  have hcells : Lib.bytesCells w E str = (bs (bytesOf str) ++ List.replicate (grownCap w str.size 0 E - str.size) (b8 0#8)).toArray := by
    unfold Lib.bytesCells
    apply Array.ext'
    simp only [Array.toList_append, Array.toList_map, Array.toList_replicate, bs, bytesOf, List.map_map]
    rfl
  have hsz : (Lib.bytesCells w E str).size = grownCap w str.size 0 E := by
    unfold Lib.bytesCells
    simp only [Array.size_append, Array.size_map, Array.size_replicate]
    have : str.data.size = str.size := rfl
    omega
  have hnew := Lib.bytesWorld_at_new w E str
  rw [hsz, hcells] at hnew
  refine ⟨(w.heap.size, grownCap w str.size 0 E), Lib.bytesWorld w E str, ⟨hm.size, hge, by unfold maxLen at hle; omega⟩, ?_, ?_⟩
  · simp [execOp, ho, hs.eval hx, Lib.run_convert_string_bytes w s t E str hs'.h hu.h he.h]
  · refine ⟨rfl, rfl, rfl, by rw [Lib.bytesWorld_size]; omega, fun j hj _ => Lib.bytesWorld_at_old w E str j hj, ?_, ?_, ?_, ?_, by simp⟩
    · intro c hc; obtain rfl := List.mem_singleton.1 hc; exact hnew
    · intro c hc; obtain rfl := List.mem_singleton.1 hc; trivial
    · intro c hc j hj; obtain rfl := List.mem_singleton.1 hc; exact .inl (Nat.le_of_eq (Eq.symm hj))
    · intro c hc j hj; obtain rfl := List.mem_singleton.1 hc; have : j = w.heap.size := hj; rw [Lib.bytesWorld_size]; omega

end
end Go.Sx

/-
  Elements of array values, and results that are a cell and a value. No condition: they speak of any program.
-/
namespace Go.Sx
open Go

section
variable {P : Program} {fn : Func} {R : Ending → World → Prop} {N : Nat} {w0 : World} {D : Blocks} {e : List (Nat × Value)} {M : List (Nat × Ck)} {k : List It} {o : Oper} {all : Array Oper} {rest : List Oper}

theorem run_part1 {E : TypeId} [ha : Agg P E false] {xs : Array Value} {off : Nat} {v : Value} (w : World) (hx : xs[off]? = some v) : (part E xs off).run P w = .ok v w := by
  simp [part, run_isAgg ha.h, hx]
/-- An element of an array value. -/
theorem pu_indexA {t E : TypeId} {x ix : Operand} {n : Nat} {kd : IntKind} {i : Int} {cs : Array Value} {v : Value} (j : Nat) [hu : Und P t (.array n E)] [hz : Siz P E 1] [ha : Agg P E false] (ho : o.op = .index t x ix) (hx : ev e x = some (.agg cs)) (hi : ev e ix = some (.int kd i)) (hj : i = (j : Int)) (hlt : j < n) (hv : cs[j]? = some v) : Pu P N w0 D e M o v := fun ac w hs hm => by
  subst hj
  have hp := run_part1 (P := P) (E := E) w hv
  simp [execOp, ho, hs.eval hx, hs.eval hi, Instr.index, asIntOf, run_und hu.h, run_size hz.h, hlt, hp]
theorem run_loadVarL {ty : TypeId} {s : Nat} {L : List Value} {b : Nat} {E : TypeId} {fz : Nat × Nat} [hu : Agg P ty true] [hz : Siz P ty s] (hl : L.length = s) {w : World} (h1 : w.heap[b]? = some (.cells L.toArray E fz)) : (loadVar ty ⟨b, 0, none⟩).run P w = .ok (.agg L.toArray) w := by
  subst hl
  have h2 : (loadCells ⟨b, 0, none⟩ L.length).run P w = .ok L.toArray w := by
    refine run_loadCells_list (P := P) w ⟨b, 0, none⟩ L (fun j v hj => ?_)
    rw [Addr.add_lit, cell_pt h1]
    simpa using hj
  simp [loadVar, run_isAgg hu.h, run_size hz.h, h2]
theorem g_retLT (tag : Nat) {t u s : Nat} {x : Value} {ty : TypeId} {b : Nat} {L : List Value} {E : TypeId} {fz : Nat × Nat} (hf : fn.results = #[.cell t ty, .tmp u]) [hu : Agg P ty true] [hz : Siz P ty s] (hl : L.length = s) (hv : get e t = some (.pointer (some ⟨b, 0, none⟩))) (hx : get e u = some x) (hM : mget M tag = some (.pt b (.cells L.toArray E fz)))
    (hR : ∀ w, Mem w0 D M w → R (.returned (.tuple #[.agg L.toArray, x])) w) : G P fn R N w0 D e M (.code .ret :: k) :=
  g_ret_of (fun a w hs hm => by
    have h1 := hm.holds _ _ hM
    simp only [Ck.holds] at h1
    have h2 := run_loadVarL (P := P) (ty := ty) hl h1
    have h3 := getD_of hs hv
    have h4 := getD_of hs hx
    simp only [Array.getD_eq_getD_getElem?] at h3 h4
    simp [results, hf, h3, h4, asAddr, h2]) hR
end

end Go.Sx

/-
  In a region of any order: a row of constants that is yet to be built. No condition.
-/
namespace Go.Sx
open Go Go.Proofs
section
variable {P : Program} {fn : Func} {R : Ending → World → Prop} {N : Nat} {w0 : World} {D : Blocks} {e : List (Nat × Value)} {M : List (Nat × Ck)} {k : List It} {o : Oper}
def PB (i d tag n : Nat) (E : TypeId) (cs0 : List Value) (w0 : World) : PU := ⟨i, d, [tag], fun v cs => ∃ b : Nat, w0.heap.size ≤ b ∧ v = .slice (some ⟨b, 0, none⟩) n n ∧ cs = [.pt b (.cells cs0.toArray E (0, 0))]⟩
theorem does_PB {ops : Array Oper} {Q : Exit → Act → World → Prop} {i d tag n s : Nat} {t E : TypeId} {z : Value} {ps : List (Nat × Operand)} {vs : List (Nat × Value)} {cs0 : List Value} (hi : ops[i]? = some o) (hd : o.dst = some d) (hw : wantE ops e o = some true) [hu : Und P t (.slice E)] [hz : Siz P E s] [hzz : Zer P E z]
    (ho : o.op = .buildSlice t n ps.toArray) (hp : evp e ps = some vs) (hsm : n * s ≤ 16777216) (h0 : n * s ≠ 0) (hv : vs.length = n) (hq : seqCells s 0 vs = some cs0) : Does P ops Q N w0 D e M i d (PB i d tag n E cs0 w0).out :=
  does_lo hi hd hw (lo_buildSlice ho hp hsm h0 hv hq)
theorem a_pendB {ops : Array Oper} {m : Nat × List Nat} {ps : List PU} {f : Nat} {L : Array Bool} (i d tag n : Nat) (E : TypeId) (cs0 : List Value) (h : GP P fn R N w0 D e M k ops m (PB i d tag n E cs0 w0 :: ps) f L) : GP P fn R N w0 D e M k ops m ps f L := a_pend _ h
end
end Go.Sx

/-
  A struct's value equals itself; reading a struct out of a row. No condition.
-/
namespace Go.Sx
open Go Go.Proofs
section
variable {P : Program}
theorem eqFields_refl (d : Nat) (xs : Array Value) (w : World) : ∀ fs : List Field, (∀ f ∈ fs, ∃ v, (part f.type xs f.offset).run P w = .ok v w ∧ (Op.equalIn d f.type v v).run P w = .ok true w) → (Op.eqFields d xs xs fs).run P w = .ok true w
  | [], _ => by simp [Op.eqFields]
  | f :: fs, h => by
    obtain ⟨v, h1, h2⟩ := h f (by simp)
    have ih := eqFields_refl d xs w fs (fun g hg => h g (List.mem_cons_of_mem _ hg))
    simp only [Op.eqFields, Sem.run_ite, Sem.run_bind, h1, h2, Result.andThen_ok, Bool.not_true, Bool.false_eq_true, if_false, ih]
    split <;> rfl
theorem run_eqA_refl (d : Nat) {t E : TypeId} {n : Nat} {kd : IntKind} (w : World) (hu : P.underlying t = some (.array n E)) (he : P.underlying E = some (.int kd)) (h1 : P.cellsOf E = 1) (xs : List Value) (hx : xs.all (kindIs kd) = true) (hn : xs.length = n) : (Op.equalIn (d + 2) t (.agg xs.toArray) (.agg xs.toArray)).run P w = .ok true w := by
  have hi : ∃ i, P.info? E = some i := by
    cases h : P.info? E with
    | some i => exact ⟨i, rfl⟩
    | none => simp [Program.cellsOf, h] at h1
  obtain ⟨i, hi⟩ := hi
  obtain ⟨r, h2, hr⟩ := run_eqItems_int d he w xs xs hx hx rfl n 0 (by omega)
  have : r = true := hr.2 rfl
  subst this
  rw [run_equalIn_array w (d + 1) xs.toArray xs.toArray hu hi, h1, List.range_eq_range', h2]
end
section
variable {P : Program} {fn : Func} {R : Ending → World → Prop} {N : Nat} {w0 : World} {D : Blocks} {e : List (Nat × Value)} {M : List (Nat × Ck)} {k : List It} {o : Oper}
theorem pu_neqR {t u : TypeId} {x y : Operand} {a : Array Value} (hr : ∀ w, (Op.equal t (.agg a) (.agg a)).run P w = .ok true w) [hg : Ngd P t] (ho : o.op = .binOp .neq t x y u) (hx : ev e x = some (.agg a)) (hy : ev e y = some (.agg a)) : Pu P N w0 D e M o (.bool false) := fun ac w hs hm => by
  simp [execOp, ho, hs.eval hx, hs.eval hy, run_eqGuard_agg _ _ _ _ _ _ _ hg.h, binOp, hr w]
theorem pu_eqlR {t u : TypeId} {x y : Operand} {a : Array Value} (hr : ∀ w, (Op.equal t (.agg a) (.agg a)).run P w = .ok true w) [hg : Ngd P t] (ho : o.op = .binOp .eql t x y u) (hx : ev e x = some (.agg a)) (hy : ev e y = some (.agg a)) : Pu P N w0 D e M o (.bool true) := fun ac w hs hm => by
  simp [execOp, ho, hs.eval hx, hs.eval hy, run_eqGuard_agg _ _ _ _ _ _ _ hg.h, binOp, hr w]
/-- The address of a field behind an address in a row that may lie anywhere. -/
theorem pu_fieldM {t : TypeId} {x : Operand} {f off s : Nat} {b : Bool} {p : Option Addr} {j : Nat} {L : List Value} (hr : ∀ w, Mem w0 D M w → RdV w p L) (hL : 0 < L.length) [hf : Fld P t f off s b] (h0 : s ≠ 0) (ho : o.op = .fieldAddr t x f) (hx : ev e x = some (.pointer (adr p j))) : Pu P N w0 D e M o (.pointer (adr p (j + off))) := fun ac w hs hm => by
  obtain ⟨bl, o1, rfl, _⟩ := (hr w hm).place hL
  have hx' : ev e x = some (.pointer (some ⟨bl, o1 + j, none⟩)) := hx
  have h := pu_fieldAddr (P := P) (N := N) (w0 := w0) (D := D) (M := M) h0 ho hx' ac w hs hm
  rw [Nat.add_assoc] at h
  exact h
/-- A load whose cells are known by another name. -/
theorem pu_loadE (tag : Nat) {t : TypeId} {x : Operand} {b off s : Nat} {c : Array Value} {E : TypeId} {fz : Nat × Nat} (a : Array Value) [hu : Agg P t true] [hz : Siz P t s] (ho : o.op = .load t x) (hx : ev e x = some (.pointer (some ⟨b, off, none⟩)))
    (hM : mget M tag = some (.pt b (.cells c E fz))) (hl : off + s ≤ c.size) (ha : c.extract off (off + s) = a) : Pu P N w0 D e M o (.agg a) := by
  have := pu_loadA (P := P) (N := N) (w0 := w0) (D := D) tag ho hx hM hl
  rwa [ha] at this
end
end Go.Sx

/-
  A statement whose order Go leaves open, where the last load may come ahead of a store or behind it. No condition: it speaks of any program.
-/
namespace Go.Sx
open Go

section
variable {P : Program} {fn : Func} {R : Ending → World → Prop} {N : Nat} {w0 : World} {D : Blocks} {e : List (Nat × Value)} {M : List (Nat × Ck)} {k : List It} {ops : Array Oper} {m : Nat × List Nat} {f : Nat} {L : Array Bool}

theorem st_rowF (tag : Nat) {o : Oper} {t : TypeId} {x y : Operand} {b s : Nat} {L C : List Value} {E : TypeId} [hz : Siz P t s] (ho : o.op = .store t x y) (hx : ev e x = some (.pointer (some ⟨b, 0, none⟩))) (hy : ev e y = some (.agg C.toArray))
    (hM : mget M tag = some (.pt b (.cells L.toArray E (0, 0)))) (hC : C.length = s) (hL : L.length = s) (hv : ∀ u ∈ C, u.oneCell' = true) : St P N w0 D e M o ((tag, .pt b (.cells C.toArray E (0, 0))) :: M) := by
  intro a w hs hm
  subst hC
  have h1 := hm.holds _ _ hM
  simp only [Ck.holds] at h1
  have hst := run_storeCells_at P b 0 E C 0 L.toArray w h1 (by simp; omega) hv
  have e1 : (L.toArray.toList.take (0 + 0) ++ C ++ L.toArray.toList.drop (0 + 0 + C.length)).toArray = C.toArray := by
    congr 1
    simp [← hL]
  rw [e1] at hst
  refine ⟨_, ?_, hm.setRow tag hM⟩
  simp [execOp, ho, hs.eval hx, hs.eval hy, Instr.storeAt, Instr.sureAddr, storeVar, run_size hz.h, Value.cells]
  rw [hst]
  rfl

theorem wpOp_pu {Q : Exit → Act → World → Prop} {i d : Nat} {o : Oper} {v : Value} {a : Act} {w : World} {K : Act → World → Prop} (hi : ops[i]? = some o) (hd : o.dst = some d) (hw : wantE ops e o = some true) (hp : Pu P N w0 D e M o v) (hs : Sat N e a) (hm : Mem w0 D M w) (h : K (a.put (some d) v) w) : wpOp P ops Q i K a w := by
  unfold wpOp
  simp only [hi, wantE_spec hs hw, if_true]
  refine .inl ?_
  unfold Oper.wp
  rw [hp a w hs hm]
  simp only [Oper.upon, hd]
  exact h
theorem wpOp_st {Q : Exit → Act → World → Prop} {i : Nat} {o : Oper} {M' : List (Nat × Ck)} {a : Act} {w : World} {K : Act → World → Prop} (hi : ops[i]? = some o) (hd : o.dst = none) (hw : wantE ops e o = some true) (hp : St P N w0 D e M o M') (hs : Sat N e a) (hm : Mem w0 D M w) (h : ∀ w', Mem w0 D M' w' → K a w') : wpOp P ops Q i K a w := by
  obtain ⟨w', hrun, hm'⟩ := hp a w hs hm
  unfold wpOp
  simp only [hi, wantE_spec hs hw, if_true]
  refine .inl ?_
  unfold Oper.wp
  rw [hrun]
  simp only [Oper.upon, hd, Act.put]
  exact h w' hm'

theorem a_fork (i j : Nat) (js : List Nat) {d : Nat} {o oj : Oper} {v : Value} {M' : List (Nat × Ck)} (hf : Nat.beq (js.length + 2) f = true) (hi : ops[i]? = some o) (hj : ops[j]? = some oj) (hd : o.dst = some d) (hdj : oj.dst = none) (hN : Nat.blt d N = true)
    (hw : wantE ops e o = some true) (hwj : wantE ops e oj = some true) (hwj' : wantE ops ((d, v) :: e) oj = some true) (hX : m.2.contains i = true) (hmj : (Nat.ble m.1 j && !(m.2.contains j)) = true)
    (hp : Pu P N w0 D e M o v) (hst : St P N w0 D e M oj M') (hp' : Pu P N w0 D e M' o v) (hst' : St P N w0 D ((d, v) :: e) M oj M')
    (hr : Region.ready .any ops L = [i, j]) (hri : Region.ready .any ops (L.setIfInBounds i true) = [j]) (hrj : Region.ready .any ops (L.setIfInBounds j true) = [i])
    (hne : i ≠ j) (hl : (js.all fun j => Nat.blt j ops.size) = true) (hm : (js.all fun j => Nat.ble m.1 j && !(m.2.contains j)) = true) (hs : seqOk ops js ((L.setIfInBounds i true).setIfInBounds j true) = true)
    (h : G P fn R N w0 D ((d, v) :: e) M' (.ops ops (opsOf ops js) :: k)) : GP P fn R N w0 D e M k ops m [] f L := by
  intro dn hdn a w hsat hmem
  have : dn = [] := by
    cases dn with
    | nil => rfl
    | cons x r => have := (hdn.1 x (by simp)).1; simp at this
  subst this
  obtain rfl : js.length + 2 = f := Nat.eq_of_beq_eq_true hf
  have hN' : d < N := by simpa [Nat.blt_eq] using hN
  have hmj1 : m.1 ≤ j := by simp only [Bool.and_eq_true, Nat.ble_eq] at hmj; exact hmj.1
  have hmj2 : m.2.contains j = false := by simp only [Bool.and_eq_true, Bool.not_eq_true'] at hmj; exact hmj.2
  have hfin : ∀ w', Mem w0 D M' w' → anyC P ops (ext P fn R k) m (Mem w0 D M) js.length ((L.setIfInBounds i true).setIfInBounds j true) (a.put (some d) v) w' := by
    intro w' hm'
    have h1 := h (a.put (some d) v) w' (hsat.put hN' v) hm'
    simp only [ext] at h1
    exact anyC_seq js _ _ _ _ (opsOf_map hl) (fun j hj => by have := List.all_eq_true.1 hm j hj; simpa [Nat.ble_eq] using this) hs h1
  show anyC P ops (ext P fn R k) m (Mem w0 D M) (js.length + 1 + 1) L a w
  refine ⟨fun h0 => (by rw [hr] at h0; cases h0), fun x hx => ?_⟩
  rw [hr] at hx
  rcases List.mem_cons.1 hx with rfl | hx
  · refine wpOp_pu hi hd hw hp hsat hmem ⟨⟨fun hc => (by rw [hX] at hc; cases hc), fun _ => rfl⟩, ?_⟩
    refine ⟨fun h0 => (by rw [hri] at h0; cases h0), fun y hy => ?_⟩
    rw [hri] at hy
    obtain rfl := List.mem_singleton.1 hy
    exact wpOp_st hj hdj hwj' hst' (hsat.put hN' v) hmem fun w' hm' => ⟨⟨fun _ hlt => absurd hmj1 (by omega), fun hc => (by rw [hmj2] at hc; cases hc)⟩, hfin w' hm'⟩
  · obtain rfl := List.mem_singleton.1 hx
    refine wpOp_st hj hdj hwj hst hsat hmem fun w' hm' => ⟨⟨fun _ hlt => absurd hmj1 (by omega), fun hc => (by rw [hmj2] at hc; cases hc)⟩, ?_⟩
    refine ⟨fun h0 => (by rw [hrj] at h0; cases h0), fun y hy => ?_⟩
    rw [hrj] at hy
    obtain rfl := List.mem_singleton.1 hy
    refine wpOp_pu hi hd hw hp' hsat hm' ⟨⟨fun hc => (by rw [hX] at hc; cases hc), fun _ => rfl⟩, ?_⟩
    rw [← Array.setIfInBounds_comm _ _ hne]
    exact hfin w' hm'
/-- A block of s cells, with whatever in them. -/
def Room (E : TypeId) (s b : Nat) (w : World) : Prop := ∃ L : List Value, w.heap[b]? = some (.cells L.toArray E (0, 0)) ∧ L.length = s
abbrev roomC (E : TypeId) (s b : Nat) : Ck := .fact (fun j => j = b) (Room E s b)
theorem Room.loc {E : TypeId} {s b : Nat} : Local (fun j => j = b) (Room E s b) := fun w w' hk ⟨L, h1, h2⟩ => ⟨L, by rw [hk b rfl]; exact h1, h2⟩
/-- A pending alloc whose block may be stored into while loads are left. -/
def PR (i d tag : Nat) (E : TypeId) (s : Nat) (w0 : World) : PU := ⟨i, d, [tag], fun v cs => ∃ b : Nat, w0.heap.size ≤ b ∧ v = .pointer (some ⟨b, 0, none⟩) ∧ cs = [roomC E s b]⟩
theorem grows_room {w w' : World} {E : TypeId} {b : Nat} {L : List Value} (h : Grows w Nob [.pt b (.cells L.toArray E (0, 0))] w') : Grows w Nob [roomC E L.length b] w' := by
  have h1 := h.holds _ (List.mem_singleton.2 rfl)
  have h2 := h.above _ (List.mem_singleton.2 rfl)
  have h3 := h.below _ (List.mem_singleton.2 rfl)
  refine ⟨h.os, h.tape, h.output, h.size, h.keep, ?_, ?_, ?_, ?_, by simp⟩
  · intro c hc; obtain rfl := List.mem_singleton.1 hc; exact ⟨L, h1, rfl⟩
  · intro c hc; obtain rfl := List.mem_singleton.1 hc; exact Room.loc
  · intro c hc j hj; obtain rfl := List.mem_singleton.1 hc; exact h2 j hj
  · intro c hc j hj; obtain rfl := List.mem_singleton.1 hc; exact h3 j hj
theorem lo_room {o : Oper} {t : TypeId} {z : Value} {s : Nat} [hz : Zer P t z] (hs : z.cells.size = s) (ho : o.op = .alloc t) :
    Lo P N w0 D e M o (σ := Nat) (fun b => w0.heap.size ≤ b) (fun b => .pointer (some ⟨b, 0, none⟩)) (fun b => [roomC t s b]) := fun a w hs' hm => by
  obtain ⟨x, w', h1, h2, h3⟩ := lo_alloc (P := P) (z := z) (N := N) (D := D) (e := e) (M := M) (w0 := w0) ho a w hs' hm
  refine ⟨x, w', h1, h2, ?_⟩
  have h4 := grows_room (L := z.cells.toList) (by simpa using h3)
  rwa [show z.cells.toList.length = s by simpa using hs] at h4
theorem does_PR {Q : Exit → Act → World → Prop} {i d tag s : Nat} {t : TypeId} {z : Value} {o : Oper} [hz : Zer P t z] (hs : z.cells.size = s) (hi : ops[i]? = some o) (hd : o.dst = some d) (hw : wantE ops e o = some true) (ho : o.op = .alloc t) : Does P ops Q N w0 D e M i d (PR i d tag t s w0).out :=
  does_lo hi hd hw (lo_room hs ho)
theorem a_pendR {ps : List PU} (i d tag : Nat) (E : TypeId) (s : Nat) (h : GP P fn R N w0 D e M k ops m (PR i d tag E s w0 :: ps) f L) : GP P fn R N w0 D e M k ops m ps f L := a_pend _ h
theorem st_room (tag : Nat) {o : Oper} {t : TypeId} {x y : Operand} {b s : Nat} {C : List Value} {E : TypeId} [hz : Siz P t s] (ho : o.op = .store t x y) (hx : ev e x = some (.pointer (some ⟨b, 0, none⟩))) (hy : ev e y = some (.agg C.toArray))
    (hM : mget M tag = some (roomC E s b)) (hC : C.length = s) (hv : ∀ u ∈ C, u.oneCell' = true) : St P N w0 D e M o ((tag, .pt b (.cells C.toArray E (0, 0))) :: M) := by
  intro a w hs hm
  subst hC
  obtain ⟨L, h1, hL⟩ := hm.holds _ _ hM
  have hm2 : Mem w0 D ((tag, .pt b (.cells L.toArray E (0, 0))) :: M) w := hm.swap tag _ (.pt b (.cells L.toArray E (0, 0))) hM rfl rfl rfl (Nat.le_refl _) (fun _ _ _ => rfl) h1 trivial (fun j hj => hm.below _ _ hM j hj) (fun j hj => .inl hj)
  have hg : mget ((tag, Ck.pt b (.cells L.toArray E (0, 0))) :: M) tag = some (.pt b (.cells L.toArray E (0, 0))) := by rw [mget_cons, if_pos rfl]
  have hst := run_storeCells_at P b 0 E C 0 L.toArray w h1 (by simp; omega) hv
  have e1 : (L.toArray.toList.take (0 + 0) ++ C ++ L.toArray.toList.drop (0 + 0 + C.length)).toArray = C.toArray := by
    congr 1
    simp [← hL]
  rw [e1] at hst
  refine ⟨_, ?_, (hm2.setRow tag hg (c' := C.toArray)).of_get fun t' c ht => by
    rw [mget_cons] at ht ⊢
    split
    · rename_i h; rw [if_pos h] at ht; exact ht
    · rename_i h; rw [if_neg h] at ht; rw [mget_cons, if_neg h]; exact ht⟩
  simp [execOp, ho, hs.eval hx, hs.eval hy, Instr.storeAt, Instr.sureAddr, storeVar, run_size hz.h, Value.cells]
  rw [hst]
  rfl
theorem mem_room {tag b s : Nat} {C : List Value} {E : TypeId} (hM : mget M tag = some (roomC E s b)) (hC : C.length = s) {w : World} (hm : Mem w0 D ((tag, .pt b (.cells C.toArray E (0, 0))) :: M) w) : Mem w0 D M w := by
  have hg : mget ((tag, Ck.pt b (.cells C.toArray E (0, 0))) :: M) tag = some (.pt b (.cells C.toArray E (0, 0))) := by rw [mget_cons, if_pos rfl]
  have h1 := hm.holds _ _ hg
  have h2 : Mem w0 D ((tag, roomC E s b) :: (tag, .pt b (.cells C.toArray E (0, 0))) :: M) w := hm.swap tag _ (roomC E s b) hg rfl rfl rfl (Nat.le_refl _) (fun _ _ _ => rfl) ⟨C, h1, hC⟩ Room.loc (fun j hj => hm.below _ _ hg j hj) (fun j hj => .inl hj)
  refine h2.of_get fun t c ht => ?_
  rw [mget_cons]
  split
  · rename_i h; rw [← h, hM] at ht; exact ht
  · rename_i h; rw [mget_cons, if_neg h]; exact ht
/-- A store into a room, as an operation that keeps what the loads look at. -/
theorem a_stR (j tag : Nat) {oj : Oper} {t : TypeId} {x y : Operand} {b s : Nat} {C : List Value} {E : TypeId} [hz : Siz P t s] (hj : ops[j]? = some oj) (hdj : oj.dst = none) (hw : wantE ops e oj = some true) (hX : m.2.contains j = false) (hr : Region.ready .any ops L = [j])
    (ho : oj.op = .store t x y) (hx : ev e x = some (.pointer (some ⟨b, 0, none⟩))) (hy : ev e y = some (.agg C.toArray)) (hM : mget M tag = some (roomC E s b)) (hC : C.length = s) (hv : ∀ u ∈ C, u.oneCell' = true)
    (h : GP P fn R N w0 D e ((tag, .pt b (.cells C.toArray E (0, 0))) :: M) k ops m [] f (L.setIfInBounds j true)) : GP P fn R N w0 D e M k ops m [] (f + 1) L := by
  intro dn hdn a w hsat hmem
  have : dn = [] := by
    cases dn with
    | nil => rfl
    | cons x r => have := (hdn.1 x (by simp)).1; simp at this
  subst this
  show anyC P ops (ext P fn R k) m (Mem w0 D M) (f + 1) L a w
  refine ⟨fun h0 => (by rw [hr] at h0; cases h0), fun i hi => ?_⟩
  rw [hr] at hi
  obtain rfl := List.mem_singleton.1 hi
  refine wpOp_st hj hdj hw (st_room tag ho hx hy hM hC hv) hsat hmem fun w' hm' => ⟨⟨fun _ _ => mem_room hM hC hm', fun hc => (by rw [hX] at hc; cases hc)⟩, ?_⟩
  exact anyC_mono (fun u hu => mem_room hM hC hu) _ _ _ _ (h [] ⟨by simp, by simp⟩ a w' hsat hm')
end
end Go.Sx

/-
  A call of a function value that is known. No condition: it speaks of any program.
-/
namespace Go.Sx
open Go

section
variable {P : Program} {fn : Func} {R : Ending → World → Prop} {N : Nat} {w0 : World} {D : Blocks} {e : List (Nat × Value)} {M : List (Nat × Ck)} {k : List It} {o : Oper} {all : Array Oper} {rest : List Oper}
end
end Go.Sx

/-
  Equality of arrays of numbers, results that lie in memory, three and four results, for the judgement of Sx. No condition: they speak of any program.
-/
import Derived.Test.YteblmnpklcdnpaaSxExt
import Derived.OwnWalk
import Derived.ChangeKeysEq
import Derived.Laws.StructEq
set_option linter.unusedVariables false
set_option linter.unusedSimpArgs false
namespace Go.Sx
open Go

/-- Comparing this type asks nothing of interfaces. -/
class Ngd (P : Program) (t : TypeId) : Prop where
  h : P.eqGuardType P.depth t = false
/-- A type of one cell that is no struct and no array: how many cells it has in the model's count. -/
class One (P : Program) (t : TypeId) : Prop where
  h : P.cellsOf t = 1

def kindIs (k : IntKind) : Value → Bool
  | .int k' _ => decide (k' = k)
  | _ => false

section
variable {P : Program}
theorem run_eqItems_int (d : Nat) {e : TypeId} {k : IntKind} (hu : P.underlying e = some (.int k)) (w : World) (xs ys : List Value) (hx : xs.all (kindIs k) = true) (hy : ys.all (kindIs k) = true) (hl : xs.length = ys.length) :
    ∀ (n j : Nat), j + n = xs.length → ∃ r, (Op.eqItems (d + 1) e 1 xs.toArray ys.toArray (List.range' j n)).run P w = .ok r w ∧ (r = true ↔ xs.drop j = ys.drop j)
  | 0, j, h => by
    have e1 : xs.drop j = [] := List.drop_eq_nil_of_le (by omega)
    have e2 : ys.drop j = [] := List.drop_eq_nil_of_le (by omega)
    exact ⟨true, by simp [Op.eqItems], by simp [e1, e2]⟩
  | n + 1, j, h => by
    have hj : j < xs.length := by omega
    have hj' : j < ys.length := by omega
    have h1 : xs[j]? = some xs[j] := List.getElem?_eq_getElem hj
    have h2 : ys[j]? = some ys[j] := List.getElem?_eq_getElem hj'
    have k1 := List.all_eq_true.1 hx _ (List.getElem_mem hj)
    have k2 := List.all_eq_true.1 hy _ (List.getElem_mem hj')
    have d1 : xs.drop j = xs[j] :: xs.drop (j + 1) := List.drop_eq_getElem_cons hj
    have d2 : ys.drop j = ys[j] :: ys.drop (j + 1) := List.drop_eq_getElem_cons hj'
    rw [d1, d2]
    generalize xs[j] = u at *
    generalize ys[j] = v at *
    cases u <;> simp only [kindIs, Bool.false_eq_true] at k1
    cases v <;> simp only [kindIs, Bool.false_eq_true] at k2
    rename_i ka a kb b
    have k1 := of_decide_eq_true k1
    have k2 := of_decide_eq_true k2
    subst k1 k2
    have p1 : (part e xs.toArray j).run P w = .ok (.int kb a) w := by simp [part, isAgg, run_und hu, h1]
    have p2 : (part e ys.toArray j).run P w = .ok (.int kb b) w := by simp [part, isAgg, run_und hu, h2]
    obtain ⟨r, ih, hr⟩ := run_eqItems_int d hu w xs ys hx hy hl n (j + 1) (by omega)
    simp only [List.range'_succ, Op.eqItems, Sem.run_bind, Nat.mul_one, p1, p2, Result.andThen_ok, run_equalIn_int w d e kb kb a b hu]
    by_cases hab : a = b
    · subst hab
      refine ⟨r, ?_, by simpa using hr⟩
      simp only [beq_self_eq_true, Bool.not_true, Bool.false_eq_true, if_false, ih]
    · have : (a == b) = false := by simpa using hab
      refine ⟨false, ?_, by simp [hab]⟩
      simp only [this, Bool.not_false, if_true, Sem.run_pure]
end

section
variable {P : Program} {fn : Func} {R : Ending → World → Prop} {N : Nat} {w0 : World} {D : Blocks} {e : List (Nat × Value)} {M : List (Nat × Ck)} {k : List It} {o : Oper} {all : Array Oper} {rest : List Oper}

theorem run_equalA {t E : TypeId} {n : Nat} {kd : IntKind} (w : World) (hu : P.underlying t = some (.array n E)) (he : P.underlying E = some (.int kd)) (h1 : P.cellsOf E = 1) (xs ys : List Value) (hx : xs.all (kindIs kd) = true) (hy : ys.all (kindIs kd) = true) (hn : xs.length = n) (hn' : ys.length = n) :
    ∃ r, (Op.equal t (.agg xs.toArray) (.agg ys.toArray)).run P w = .ok r w ∧ (r = true ↔ xs = ys) := by
  obtain ⟨d, hd⟩ : ∃ d, Op.maxDepth = d + 2 := ⟨_, rfl⟩
  have hi : ∃ i, P.info? E = some i := by
    cases h : P.info? E with
    | some i => exact ⟨i, rfl⟩
    | none => simp [Program.cellsOf, h] at h1
  obtain ⟨i, hi⟩ := hi
  obtain ⟨r, h2, hr⟩ := run_eqItems_int d he w xs ys hx hy (by omega) n 0 (by omega)
  refine ⟨r, ?_, by simpa using hr⟩
  rw [Op.equal, hd, run_equalIn_array w (d + 1) xs.toArray ys.toArray hu hi, h1, List.range_eq_range', h2]
theorem pu_eqlA_t {t u E : TypeId} {x y : Operand} {n : Nat} {kd : IntKind} {a b : List Value} [hu : Und P t (.array n E)] [he : Und P E (.int kd)] [hg : Ngd P t] [h1 : One P E] (ho : o.op = .binOp .eql t x y u) (hx : ev e x = some (.agg a.toArray)) (hy : ev e y = some (.agg b.toArray)) (h : a = b) (ha : a.all (kindIs kd) = true) (hn : a.length = n) :
    Pu P N w0 D e M o (.bool true) := fun ac w hs hm => by
  subst h
  obtain ⟨r, hr, hiff⟩ := run_equalA w hu.h he.h h1.h a a ha ha hn hn
  rw [hiff.2 rfl] at hr
  simp [execOp, ho, hs.eval hx, hs.eval hy, run_eqGuard_agg _ _ _ _ _ _ _ hg.h, binOp, hr]
theorem pu_eqlA_f {t u E : TypeId} {x y : Operand} {n : Nat} {kd : IntKind} {a b : List Value} [hu : Und P t (.array n E)] [he : Und P E (.int kd)] [hg : Ngd P t] [h1 : One P E] (ho : o.op = .binOp .eql t x y u) (hx : ev e x = some (.agg a.toArray)) (hy : ev e y = some (.agg b.toArray)) (h : ¬ a = b) (ha : a.all (kindIs kd) = true) (hb : b.all (kindIs kd) = true) (hn : a.length = n) (hn' : b.length = n) :
    Pu P N w0 D e M o (.bool false) := fun ac w hs hm => by
  obtain ⟨r, hr, hiff⟩ := run_equalA w hu.h he.h h1.h a b ha hb hn hn'
  have hf : r = false := by
    cases r with
    | false => rfl
    | true => exact absurd (hiff.1 rfl) h
  rw [hf] at hr
  simp [execOp, ho, hs.eval hx, hs.eval hy, run_eqGuard_agg _ _ _ _ _ _ _ hg.h, binOp, hr]
theorem pu_neqA_f {t u E : TypeId} {x y : Operand} {n : Nat} {kd : IntKind} {a b : List Value} [hu : Und P t (.array n E)] [he : Und P E (.int kd)] [hg : Ngd P t] [h1 : One P E] (ho : o.op = .binOp .neq t x y u) (hx : ev e x = some (.agg a.toArray)) (hy : ev e y = some (.agg b.toArray)) (h : a = b) (ha : a.all (kindIs kd) = true) (hn : a.length = n) :
    Pu P N w0 D e M o (.bool false) := fun ac w hs hm => by
  subst h
  obtain ⟨r, hr, hiff⟩ := run_equalA w hu.h he.h h1.h a a ha ha hn hn
  rw [hiff.2 rfl] at hr
  simp [execOp, ho, hs.eval hx, hs.eval hy, run_eqGuard_agg _ _ _ _ _ _ _ hg.h, binOp, hr]
theorem pu_neqA_t {t u E : TypeId} {x y : Operand} {n : Nat} {kd : IntKind} {a b : List Value} [hu : Und P t (.array n E)] [he : Und P E (.int kd)] [hg : Ngd P t] [h1 : One P E] (ho : o.op = .binOp .neq t x y u) (hx : ev e x = some (.agg a.toArray)) (hy : ev e y = some (.agg b.toArray)) (h : ¬ a = b) (ha : a.all (kindIs kd) = true) (hb : b.all (kindIs kd) = true) (hn : a.length = n) (hn' : b.length = n) :
    Pu P N w0 D e M o (.bool true) := fun ac w hs hm => by
  obtain ⟨r, hr, hiff⟩ := run_equalA w hu.h he.h h1.h a b ha hb hn hn'
  have hf : r = false := by
    cases r with
    | false => rfl
    | true => exact absurd (hiff.1 rfl) h
  rw [hf] at hr
  simp [execOp, ho, hs.eval hx, hs.eval hy, run_eqGuard_agg _ _ _ _ _ _ _ hg.h, binOp, hr]

/-- A pending alloc. -/
def PA (i d tag : Nat) (t : TypeId) (z : Value) (w0 : World) : PU := ⟨i, d, [tag], fun v cs => ∃ b : Nat, w0.heap.size ≤ b ∧ v = .pointer (some ⟨b, 0, none⟩) ∧ cs = [.pt b (.cells z.cells t (0, 0))]⟩
theorem does_PA {ops : Array Oper} {Q : Exit → Act → World → Prop} {i d tag : Nat} {t : TypeId} {z : Value} {o : Oper} (hi : ops[i]? = some o) (hd : o.dst = some d) (hw : wantE ops e o = some true) [hz : Zer P t z] (ho : o.op = .alloc t) : Does P ops Q N w0 D e M i d (PA i d tag t z w0).out :=
  does_lo hi hd hw (lo_alloc ho)
theorem a_pendA {ops : Array Oper} {m : Nat × List Nat} {ps : List PU} {f : Nat} {L : Array Bool} (i d tag : Nat) (t : TypeId) {z : Value} [hz : Zer P t z] (h : GP P fn R N w0 D e M k ops m (PA i d tag t z w0 :: ps) f L) : GP P fn R N w0 D e M k ops m ps f L := a_pend _ h

/-- A slice as an array's address. -/
theorem pu_s2a {t E : TypeId} {x : Operand} {p : Option Addr} {n m c : Nat} {l : List (BitVec 8)} (hr : ∀ w, Mem w0 D M w → By w p n l) [hu : Und P t (.array m E)] (ho : o.op = .sliceToArrayPointer t x) (hx : ev e x = some (.slice p n c)) (hm0 : 0 < m) (hmn : m ≤ n) : Pu P N w0 D e M o (.pointer (adr p 0)) := fun a w hs hm => by
  have h := hr w hm
  obtain ⟨b, off, rfl, _⟩ := h.rd.place (by rw [bs_length, h.len]; omega)
  have h1 : ¬ n < m := by omega
  simp [execOp, ho, hs.eval hx, Instr.arrayAt, run_und hu.h, h1, adr]
/-- One part laid into cells. -/
theorem fill_one {pl : Nat → Option (Nat × Nat)} {A : Array Value} {C : List Value} {i off s : Nat} (hp : pl i = some (off, s)) (hC : C.length = s) (hA : off + s ≤ A.size) : Instr.fill pl A [(i, .agg C.toArray)] = some (A.toList.take off ++ C ++ A.toList.drop (off + s)).toArray := by
  have h1 := set_cells off C 0 A (by omega)
  simp only [Nat.add_zero, hC] at h1
  simp only [Instr.fill, hp, Value.cells, List.size_toArray, hC]
  rw [if_neg (by simp; omega), ← h1]
  congr 1
  rw [← Array.foldl_toList, Array.toList_zipIdx]

/-- An array written out whole. -/
theorem pu_buildA {t E : TypeId} {n s : Nat} {z : Value} {ps : List (Nat × Operand)} {vs : List (Nat × Value)} {cs : List Value} [hu : Und P t (.array n E)] [hz : Siz P E s] [hzz : Zer P t z] (ho : o.op = .build t ps.toArray) (hp : evp e ps = some vs) (hzs : z.cells.size = n * s) (hv : vs.length = n) (hq : seqCells s 0 vs = some cs) :
    Pu P N w0 D e M o (.agg cs.toArray) :=
  pu_build ho hp fun w => by
    have hf := fill_seq s n vs 0 z.cells cs hq (by omega) hzs
    have h2 : Instr.fill (fun i => some (i * s, s)) z.cells vs = some cs.toArray := by simpa using hf
    simp only [Instr.build, Sem.run_bind, run_zero hzz.h, Result.andThen_ok, run_und hu.h, run_size hz.h, h2, Sem.run_pure]
/-- An array of which some parts are written out. -/
theorem pu_buildA' {t E : TypeId} {n s : Nat} {z : Value} {ps : List (Nat × Operand)} {vs : List (Nat × Value)} {cs : List Value} [hu : Und P t (.array n E)] [hz : Siz P E s] [hzz : Zer P t z] (ho : o.op = .build t ps.toArray) (hp : evp e ps = some vs) (hf : Instr.fill (fun i => some (i * s, s)) z.cells vs = some cs.toArray) :
    Pu P N w0 D e M o (.agg cs.toArray) :=
  pu_build ho hp fun w => by
    simp only [Instr.build, Sem.run_bind, run_zero hzz.h, Result.andThen_ok, run_und hu.h, run_size hz.h, hf, Sem.run_pure]

/-- Where the fields of a struct lie. -/
def plc? (P : Program) (t : TypeId) : Option (List (Nat × Nat)) :=
  match P.underlying t with
  | some (.struct fs) => fs.toList.mapM fun f => (P.info? f.type).map fun i => (f.offset, i.size)
  | _ => none
class Plc (P : Program) (t : TypeId) (ps : outParam (List (Nat × Nat))) : Prop where
  h : plc? P t = some ps
theorem run_mapM_some {α β : Type} {f : α → Option β} {g : α → Sem β} (hfg : ∀ a b, f a = some b → ∀ w, (g a).run P w = .ok b w) : ∀ {fs : List α} {ps : List β}, fs.mapM f = some ps → ∀ w, (fs.mapM g).run P w = .ok ps w
  | [], ps, h, w => by simp at h; subst h; simp
  | a :: fs, ps, h, w => by
    rw [List.mapM_cons] at h
    simp only [bind, Option.bind_eq_some_iff, pure, Option.some.injEq] at h
    obtain ⟨x, hx, ys, h2, rfl⟩ := h
    have h3 := run_mapM_some hfg h2 w
    rw [List.mapM_cons]
    simp only [Sem.run_bind, hfg a x hx, Result.andThen_ok, h3, Sem.run_pure]
theorem run_mapA_some {α β : Type} {f : α → Option β} {g : α → Sem β} (hfg : ∀ a b, f a = some b → ∀ w, (g a).run P w = .ok b w) {fs : Array α} {ps : List β} (h : fs.toList.mapM f = some ps) (w : World) : (fs.mapM g).run P w = .ok ps.toArray w := by
  have h1 := run_mapM_some (P := P) hfg h w
  rw [Array.mapM_eq_mapM_toList]
  simp only [map_eq_pure_bind, Sem.run_bind, h1, Result.andThen_ok, Sem.run_pure]
/-- A struct of which some parts are written out. -/
theorem pu_buildS {t : TypeId} {z : Value} {ps : List (Nat × Operand)} {pl : List (Nat × Nat)} {vs : List (Nat × Value)} {cs : List Value} [hpl : Plc P t pl] [hzz : Zer P t z] (ho : o.op = .build t ps.toArray) (hp : evp e ps = some vs) (hf : Instr.fill (fun i => pl[i]?) z.cells vs = some cs.toArray) :
    Pu P N w0 D e M o (.agg cs.toArray) :=
  pu_build ho hp fun w => by
    have h1 := hpl.h
    unfold plc? at h1
    split at h1
    · rename_i fs hu
      have h3 : (fs.mapM fun f => (do pure (f.offset, ← sizeOf f.type) : Sem (Nat × Nat))).run P w = .ok pl.toArray w := by
        refine run_mapA_some (fun a b hab w => ?_) h1 w
        obtain ⟨i, hi, rfl⟩ := Option.map_eq_some_iff.1 hab
        have h4 : (sizeOf a.type).run P w = .ok i.size w := run_size (by simp [size?, hi]) w
        simp only [Sem.run_bind, h4, Result.andThen_ok, Sem.run_pure]
      simp only [Instr.build, Sem.run_bind, run_zero hzz.h, Result.andThen_ok, run_und hu, h3, List.getElem?_toArray, hf, Sem.run_pure]
    · cases h1

theorem pu_loadW (tag : Nat) {t : TypeId} {x : Operand} {b s : Nat} {L : List Value} {E : TypeId} {fz : Nat × Nat} [hu : Agg P t true] [hz : Siz P t s] (ho : o.op = .load t x) (hx : ev e x = some (.pointer (some ⟨b, 0, none⟩)))
    (hM : mget M tag = some (.pt b (.cells L.toArray E fz))) (hl : L.length = s) : Pu P N w0 D e M o (.agg L.toArray) := by
  have h := pu_loadA (P := P) (N := N) (w0 := w0) (D := D) tag ho hx hM (by simp [hl])
  have e1 : L.toArray.extract 0 (0 + s) = L.toArray := by
    apply Array.ext'
    simp [← hl]
  rwa [e1] at h
theorem g_storeL (tag : Nat) {t : TypeId} {x y : Operand} {b s : Nat} {L C : List Value} {E : TypeId} (hg : wantE all e o = some true) (hd : o.dst = none) [hz : Siz P t s] (ho : o.op = .store t x y) (hx : ev e x = some (.pointer (some ⟨b, 0, none⟩))) (hy : ev e y = some (.agg C.toArray))
    (hM : mget M tag = some (.pt b (.cells L.toArray E (0, 0)))) (hC : C.length = s) (hL : L.length = s) (hv : ∀ u ∈ C, u.oneCell' = true)
    (h : G P fn R N w0 D e ((tag, .pt b (.cells C.toArray E (0, 0))) :: M) (.ops all rest :: k)) : G P fn R N w0 D e M (.ops all (o :: rest) :: k) := by
  refine g_storeA tag hg hd ho hx hy hM hC hv (by omega) ?_
  have e1 : L.take 0 ++ C ++ L.drop (0 + s) = C := by simp [← hL]
  rw [e1]; exact h

/-- One result that lies in a known block of its own. -/
theorem g_retC (tag : Nat) {t : Nat} {ty : TypeId} {b : Nat} {L : List Value} {E : TypeId} {fz : Nat × Nat} (hf : fn.results = #[.cell t ty]) [hu : Agg P ty true] [hz : Siz P ty L.length] (hv : get e t = some (.pointer (some ⟨b, 0, none⟩))) (hM : mget M tag = some (.pt b (.cells L.toArray E fz)))
    (hR : ∀ w, Mem w0 D M w → R (.returned (.agg L.toArray)) w) : G P fn R N w0 D e M (.code .ret :: k) :=
  g_ret_of (fun a w hs hm => by
    have h1 := hm.holds _ _ hM
    simp only [Ck.holds] at h1
    have h2 : (loadCells ⟨b, 0, none⟩ L.length).run P w = .ok L.toArray w := by
      refine run_loadCells_list (P := P) w ⟨b, 0, none⟩ L (fun j v hj => ?_)
      rw [Addr.add_lit, cell_pt h1]
      simpa using hj
    have h3 := getD_of hs hv
    simp only [Array.getD_eq_getD_getElem?] at h3
    simp [results, hf, h3, asAddr, loadVar, run_isAgg hu.h, run_size hz.h, h2]) hR
theorem g_retL (tag : Nat) {t s : Nat} {ty : TypeId} {b : Nat} {L : List Value} {E : TypeId} {fz : Nat × Nat} (hf : fn.results = #[.cell t ty]) [hu : Agg P ty true] [hz : Siz P ty s] (hl : L.length = s) (hv : get e t = some (.pointer (some ⟨b, 0, none⟩))) (hM : mget M tag = some (.pt b (.cells L.toArray E fz)))
    (hR : ∀ w, Mem w0 D M w → R (.returned (.agg L.toArray)) w) : G P fn R N w0 D e M (.code .ret :: k) := by
  subst hl
  exact g_retC tag hf hv hM hR
theorem g_ret3 {t u x : Nat} {v v1 v2 : Value} (hf : fn.results = #[.tmp t, .tmp u, .tmp x]) (hv : get e t = some v) (hu : get e u = some v1) (hx : get e x = some v2) (hR : ∀ w, Mem w0 D M w → R (.returned (.tuple #[v, v1, v2])) w) : G P fn R N w0 D e M (.code .ret :: k) :=
  g_ret_of (fun a w hs _ => by rw [results_tmp3 hf, getD_of hs hv, getD_of hs hu, getD_of hs hx]) hR
theorem g_ret4 {t u x y : Nat} {v v1 v2 v3 : Value} (hf : fn.results = #[.tmp t, .tmp u, .tmp x, .tmp y]) (hv : get e t = some v) (hu : get e u = some v1) (hx : get e x = some v2) (hy : get e y = some v3) (hR : ∀ w, Mem w0 D M w → R (.returned (.tuple #[v, v1, v2, v3])) w) : G P fn R N w0 D e M (.code .ret :: k) :=
  g_ret_of (fun a w hs _ => by
    have h1 := getD_of hs hv
    have h2 := getD_of hs hu
    have h3 := getD_of hs hx
    have h4 := getD_of hs hy
    simp only [Array.getD_eq_getD_getElem?] at h1 h2 h3 h4
    simp [results, hf, h1, h2, h3, h4]) hR
end
end Go.Sx

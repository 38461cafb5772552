/-
  The laws of the operations that write, make memory or call, for the judgement of Sx. No condition: they speak of any program.
-/
import Derived.Test.YteblmnpklcdnpaaSxOps
set_option linter.unusedVariables false
set_option linter.unusedSimpArgs false
namespace Go.Sx
open Go

section
variable {P : Program} {fn : Func} {R : Ending → World → Prop} {N : Nat} {w0 : World} {D : Blocks} {e : List (Nat × Value)} {M : List (Nat × Ck)} {k : List It} {o : Oper} {all : Array Oper} {rest : List Oper}

/-! ## Frames of worlds -/
theorem setRow_size (w : World) (b : Nat) (cs : Array Value) : (w.setRow b cs).heap.size = w.heap.size := by simp [World.setRow]
theorem setRow_other (w : World) (b : Nat) (cs : Array Value) (j : Nat) (h : j ≠ b) : (w.setRow b cs).heap[j]? = w.heap[j]? := by
  simp only [World.setRow, Array.getElem?_modify]
  rw [if_neg (by omega)]

/-- A known row has been written. -/
theorem Mem.setRow {w : World} (h : Mem w0 D M w) (t : Nat) {b : Nat} {c c' : Array Value} {E : TypeId} {fz : Nat × Nat} (ht : mget M t = some (.pt b (.cells c E fz))) :
    Mem w0 D ((t, .pt b (.cells c' E fz)) :: M) (w.setRow b c') := by
  have hb := h.holds _ _ ht
  exact h.turn t b _ (.cells c' E fz) ht rfl rfl rfl (setRow_size _ _ _) (setRow_heap w b c c' E fz hb) (fun j hj => setRow_other _ _ _ _ hj)

theorem Grows.new (w : World) (ob : Obj) : Grows w Nob [.pt w.heap.size ob] { w with heap := w.heap.push ob } := by
  refine ⟨rfl, rfl, rfl, by simp, fun j hj _ => ?_, ?_, ?_, ?_, ?_, by simp⟩
  · show (w.heap.push ob)[j]? = _
    rw [Array.getElem?_push, if_neg (by omega)]
  · intro c hc
    obtain rfl := List.mem_singleton.1 hc
    simp [Ck.holds]
  · intro c hc; obtain rfl := List.mem_singleton.1 hc; trivial
  · intro c hc j hj; obtain rfl := List.mem_singleton.1 hc; exact .inl (Nat.le_of_eq (Eq.symm hj))
  · intro c hc j hj; obtain rfl := List.mem_singleton.1 hc; have : j = w.heap.size := hj; simp [this]

/-- Draws do not count. -/
theorem Grows.drawn {w w' : World} {n : Nat} {ch : Blocks} {cs : List Ck} (h : Grows { w with drawn := n } ch cs w') : Grows w ch cs w' :=
  ⟨h.os, h.tape, h.output, h.size, h.keep, h.holds, h.stable, h.above, h.below, h.apart⟩
theorem Mem.drawn {w : World} {n : Nat} (h : Mem w0 D M w) : Mem w0 D M { w with drawn := n } := by
  refine ⟨h.os, h.tape, h.output, h.size, h.keep, fun t c ht => ?_, h.stable, h.below, h.above, h.apart⟩
  exact Ck.keep (w := w) (h.stable t c ht) (fun _ _ => rfl) (h.holds t c ht)

/-- Fewer of the new parts are told. -/
theorem Grows.less {w w' : World} {ch : Blocks} {cs ds : List Ck} (h : Grows w ch cs w') (hs : ds.Sublist cs) : Grows w ch ds w' :=
  ⟨h.os, h.tape, h.output, h.size, h.keep, fun c hc => h.holds c (hs.subset hc), fun c hc => h.stable c (hs.subset hc), fun c hc => h.above c (hs.subset hc), fun c hc => h.below c (hs.subset hc), h.apart.sublist hs⟩

/-- What is known under the numbers us is given up. -/
def drop1 (u : Nat) : List (Nat × Ck) → List (Nat × Ck)
  | [] => []
  | (i, v) :: r => bif Nat.beq i u then drop1 u r else (i, v) :: drop1 u r
def gone : List Nat → List (Nat × Ck) → List (Nat × Ck)
  | [], M => M
  | u :: us, M => drop1 u (gone us M)
theorem mget_drop1 {u t : Nat} {c : Ck} : ∀ {M : List (Nat × Ck)}, mget (drop1 u M) t = some c → t ≠ u ∧ mget M t = some c
  | [], h => by simp [drop1, mget] at h
  | (i, v) :: r, h => by
    simp only [drop1] at h
    by_cases hi : i = u
    · subst hi
      simp only [Nat.beq_refl, cond_true] at h
      obtain ⟨h1, h2⟩ := mget_drop1 h
      exact ⟨h1, by rw [mget_cons, if_neg (fun e => h1 e.symm)]; exact h2⟩
    · have hb : Nat.beq i u = false := by
        cases hb : Nat.beq i u with
        | false => rfl
        | true => exact absurd (Nat.eq_of_beq_eq_true hb) hi
      rw [hb, cond_false, mget_cons] at h
      rw [mget_cons]
      by_cases ht : i = t
      · rw [if_pos ht] at h ⊢; exact ⟨fun e => hi (ht.trans e), h⟩
      · rw [if_neg ht] at h ⊢; exact mget_drop1 h
theorem mget_gone {M : List (Nat × Ck)} : ∀ {us : List Nat} {t : Nat} {c : Ck}, mget (gone us M) t = some c → t ∉ us ∧ mget M t = some c
  | [], t, c, h => ⟨by simp, h⟩
  | u :: us, t, c, h => by
    obtain ⟨h1, h2⟩ := mget_drop1 h
    obtain ⟨h3, h4⟩ := mget_gone (us := us) h2
    exact ⟨by simp only [List.mem_cons, not_or]; exact ⟨h1, h3⟩, h4⟩

/-- Behind a piece that has written, of the old blocks, those alone that lie in the parts us: these are given up, what it tells is known. -/
theorem Mem.growS {w w' : World} {ch : Blocks} {cs : List Ck} (h : Mem w0 D M w) (g : Grows w ch cs w') (us : List Nat) (hch : ∀ j, ch j → ∃ u ∈ us, ∃ c, mget M u = some c ∧ c.has j) (ts : List Nat) (hf : fresh (gone us M) ts = true) :
    Mem w0 D (tags ts cs ++ gone us M) w' := by
  have tell : ∀ t c, mget (tags ts cs ++ gone us M) t = some c → (c ∈ cs ∧ t ∈ ts ∧ mget (gone us M) t = none) ∨ (t ∉ us ∧ mget M t = some c) := by
    intro t c ht
    rcases mget_tags ht hf with ⟨h1, h2, h3⟩ | ⟨h1, _⟩
    · exact .inl ⟨h1, h2, h3⟩
    · exact .inr (mget_gone h1)
  have off : ∀ t c, t ∉ us → mget M t = some c → ∀ j, c.has j → ¬ ch j := by
    intro t c ht hc j hj hjc
    obtain ⟨u, hu, d, hd, hdj⟩ := hch j hjc
    exact h.apart t c u d hc hd (fun e => ht (e ▸ hu)) j hj hdj
  have up : ∀ c ∈ cs, ∀ j, c.has j → ∀ t d, t ∉ us → mget M t = some d → ¬ d.has j := by
    intro c hc j hj t d ht hd hdj
    rcases g.above c hc j hj with h1 | h1
    · have := h.below t d hd j hdj; omega
    · exact off t d ht hd j hdj h1
  refine ⟨g.os.trans h.os, g.tape.trans h.tape, g.output.trans h.output, Nat.le_trans h.size g.size, fun k hk hD => ?_, ?_, ?_, ?_, ?_, ?_⟩
  · rw [g.keep k (Nat.lt_of_lt_of_le hk h.size) (fun hc => ?_)]
    · exact h.keep k hk hD
    · obtain ⟨u, hu, d, hd, hdj⟩ := hch k hc
      rcases h.above u d hd k hdj with h1 | h1
      · omega
      · exact hD h1
  · intro t c ht
    rcases tell t c ht with ⟨h1, _⟩ | ⟨hu, h1⟩
    · exact g.holds c h1
    · exact Ck.keep (h.stable t c h1) (fun j hj => g.keep j (h.below t c h1 j hj) (off t c hu h1 j hj)) (h.holds t c h1)
  · intro t c ht
    rcases tell t c ht with ⟨h1, _⟩ | ⟨hu, h1⟩
    · exact g.stable c h1
    · exact h.stable t c h1
  · intro t c ht j hj
    rcases tell t c ht with ⟨h1, _⟩ | ⟨hu, h1⟩
    · exact g.below c h1 j hj
    · exact Nat.lt_of_lt_of_le (h.below t c h1 j hj) g.size
  · intro t c ht j hj
    rcases tell t c ht with ⟨h1, _⟩ | ⟨hu, h1⟩
    · rcases g.above c h1 j hj with h2 | h2
      · exact .inl (Nat.le_trans h.size h2)
      · obtain ⟨u, hu, d, hd, hdj⟩ := hch j h2
        exact h.above u d hd j hdj
    · exact h.above t c h1 j hj
  · intro t c t' c' ht ht' hne
    rcases mget_tags ht hf with ⟨h1, _, hn⟩ | ⟨h1, _⟩ <;> rcases mget_tags ht' hf with ⟨h2, _, hn'⟩ | ⟨h2, _⟩
    · exact tags_apart hf g.apart ht ht' hn hn' hne
    · obtain ⟨hu', h2⟩ := mget_gone h2
      exact fun j hj => up c h1 j hj t' c' hu' h2
    · obtain ⟨hu, h1⟩ := mget_gone h1
      exact fun j hj hj' => up c' h2 j hj' t c hu h1 hj
    · exact h.apart t c t' c' (mget_gone h1).2 (mget_gone h2).2 hne

/-- Two known parts are told as one. -/
theorem Mem.merge {w : World} (h : Mem w0 D M w) (us : List Nat) (t : Nat) (c' : Ck) (hf : fresh (gone us M) [t] = true) (hc : c'.holds w) (hst : c'.stable) (hin : ∀ j, c'.has j → ∃ u ∈ us, ∃ c, mget M u = some c ∧ c.has j) :
    Mem w0 D ((t, c') :: gone us M) w := by
  have g : Grows w c'.has [c'] w := by
    refine ⟨rfl, rfl, rfl, Nat.le_refl _, fun _ _ _ => rfl, ?_, ?_, ?_, ?_, by simp⟩
    all_goals intro c hc; obtain rfl := List.mem_singleton.1 hc
    · assumption
    · assumption
    · exact fun j hj => .inr hj
    · intro j hj
      obtain ⟨u, _, d, hd, hdj⟩ := hin j hj
      exact h.below u d hd j hdj
  exact h.growS g us hin [t] hf

/-- A new fact that looks at no block. -/
theorem Mem.free {w : World} (h : Mem w0 D M w) (t : Nat) (c' : Ck) (hf : fresh M [t] = true) (hc : c'.holds w) (hst : c'.stable) (hno : ∀ j, ¬ c'.has j) : Mem w0 D ((t, c') :: M) w :=
  h.merge [] t c' hf hc hst (fun j hj => absurd hj (hno j))

theorem range0 : Array.map (fun _ => (default : Value)) (Array.range 0) = #[] := by
  apply Array.ext
  · simp
  · intro i h1 h2; simp at h1

/-! ## Operations that write, or make memory -/
theorem g_do {M' : List (Nat × Ck)} (hg : wantE all e o = some true) (hd : o.dst = none) (hrun : ∀ a w, Sat N e a → Mem w0 D M w → ∃ w', (execOp a.eval o).run P w = .ok .skip w' ∧ Mem w0 D M' w')
    (h : G P fn R N w0 D e M' (.ops all rest :: k)) : G P fn R N w0 D e M (.ops all (o :: rest) :: k) :=
  fun a w hs hm => by
    simp only [ext]
    refine wpList_want (wantE_spec hs hg) fun K hK => ?_
    obtain ⟨w', hr, hm'⟩ := hrun a w hs hm
    unfold Oper.wp
    rw [hr]
    simp only [Oper.upon, hd, Act.put]
    refine hK _ _ ?_
    have := h a w' hs hm'
    simpa only [ext] using this

/-- An operation that hands back a value and leaves another memory. -/
theorem g_val {σ : Type} {pr : σ → Prop} {val : σ → Value} {M' : σ → List (Nat × Ck)} {d : Nat} (hg : wantE all e o = some true) (hd : o.dst = some d) (hN : Nat.blt d N = true)
    (hrun : ∀ a w, Sat N e a → Mem w0 D M w → ∃ x w', pr x ∧ (execOp a.eval o).run P w = .ok (.value (val x)) w' ∧ Mem w0 D (M' x) w')
    (h : ∀ x, pr x → G P fn R N w0 D ((d, val x) :: e) (M' x) (.ops all rest :: k)) : G P fn R N w0 D e M (.ops all (o :: rest) :: k) :=
  fun a w hs hm => by
    simp only [ext]
    refine wpList_want (wantE_spec hs hg) fun K hK => ?_
    obtain ⟨x, w', hp, hr, hm'⟩ := hrun a w hs hm
    unfold Oper.wp
    rw [hr]
    simp only [Oper.upon, hd]
    refine hK _ _ ?_
    have := h x hp _ w' (hs.put (by simpa [Nat.blt_eq] using hN) (val x)) hm'
    simpa only [ext] using this

/-- The operation makes the parts that new tells. -/
def Lo (P : Program) (N : Nat) (w0 : World) (D : Blocks) (e : List (Nat × Value)) (M : List (Nat × Ck)) (o : Oper) {σ : Type} (pr : σ → Prop) (val : σ → Value) (new : σ → List Ck) : Prop :=
  ∀ a w, Sat N e a → Mem w0 D M w → ∃ x w', pr x ∧ (execOp a.eval o).run P w = .ok (.value (val x)) w' ∧ Grows w Nob (new x) w'

theorem g_lo {σ : Type} {pr : σ → Prop} {val : σ → Value} {new : σ → List Ck} {d : Nat} (ts : List Nat) (hg : wantE all e o = some true) (hd : o.dst = some d) (hN : Nat.blt d N = true) (hf : fresh M ts = true)
    (hl : Lo P N w0 D e M o pr val new) (h : ∀ x, pr x → G P fn R N w0 D ((d, val x) :: e) (tags ts (new x) ++ M) (.ops all rest :: k)) : G P fn R N w0 D e M (.ops all (o :: rest) :: k) :=
  g_val (M' := fun x => tags ts (new x) ++ M) hg hd hN (fun a w hs hm => by
    obtain ⟨x, w', h1, h2, h3⟩ := hl a w hs hm
    exact ⟨x, w', h1, h2, hm.grow h3 ts hf⟩) h

theorem lo_box {t : TypeId} {x : Operand} {v : Value} (ho : o.op = .box t x) (hx : ev e x = some v) :
    Lo P N w0 D e M o (σ := Nat) (fun b => w0.heap.size ≤ b) (fun b => .pointer (some ⟨b, 0, none⟩)) (fun b => [.pt b (.cells v.cells t (0, 0))]) := fun a w hs hm =>
  ⟨w.heap.size, _, hm.size, by simp [execOp, ho, hs.eval hx, Instr.box, newVar, newRow], Grows.new w _⟩
theorem lo_alloc {t : TypeId} {z : Value} [hz : Zer P t z] (ho : o.op = .alloc t) :
    Lo P N w0 D e M o (σ := Nat) (fun b => w0.heap.size ≤ b) (fun b => .pointer (some ⟨b, 0, none⟩)) (fun b => [.pt b (.cells z.cells t (0, 0))]) := fun a w hs hm =>
  ⟨w.heap.size, _, hm.size, by simp [execOp, ho, Instr.alloc, run_zero hz.h, newVar, newRow], Grows.new w _⟩

/-- The operands of a list, all at once. -/
def evs (e : List (Nat × Value)) : List Operand → Option (List Value)
  | [] => some []
  | x :: r => match ev e x, evs e r with
    | some v, some vs => some (v :: vs)
    | _, _ => none
theorem Sat.evals {a : Act} (hs : Sat N e a) : ∀ {xs : List Operand} {vs : List Value}, evs e xs = some vs → xs.map a.eval = vs
  | [], vs, h => by simp [evs] at h; simp [h]
  | x :: r, vs, h => by
    simp only [evs] at h
    split at h
    · rename_i v us h1 h2
      cases h
      simp [hs.eval h1, hs.evals h2]
    · cases h
def evp (e : List (Nat × Value)) : List (Nat × Operand) → Option (List (Nat × Value))
  | [] => some []
  | (i, x) :: r => match ev e x, evp e r with
    | some v, some vs => some ((i, v) :: vs)
    | _, _ => none
theorem Sat.evalp {a : Act} (hs : Sat N e a) : ∀ {xs : List (Nat × Operand)} {vs : List (Nat × Value)}, evp e xs = some vs → xs.map (fun p => (p.1, a.eval p.2)) = vs
  | [], vs, h => by simp [evp] at h; simp [h]
  | (i, x) :: r, vs, h => by
    simp only [evp] at h
    split at h
    · rename_i v us h1 h2
      cases h
      simp [hs.eval h1, hs.evalp h2]
    · cases h

theorem pu_build {t : TypeId} {ps : List (Nat × Operand)} {vs : List (Nat × Value)} {cs : Array Value} (ho : o.op = .build t ps.toArray) (hp : evp e ps = some vs)
    (hf : ∀ w, (Instr.build t vs.toArray).run P w = .ok (.agg cs) w) : Pu P N w0 D e M o (.agg cs) := fun a w hs hm => by
  have h1 := hs.evalp hp
  have h2 : ps.toArray.map (fun p => (p.1, a.eval p.2)) = vs.toArray := by rw [List.map_toArray, h1]
  simp only [execOp, ho, Sem.run_bind]
  rw [h2, hf w]
  rfl
/-- The cells of a literal whose parts stand in order. -/
def seqCells (s : Nat) : Nat → List (Nat × Value) → Option (List Value)
  | _, [] => some []
  | i, (j, v) :: r => bif Nat.beq i j && Nat.beq v.cells.size s then (match seqCells s (i + 1) r with | some c => some (v.cells.toList ++ c) | none => none) else none
theorem set_cells (off : Nat) : ∀ (vs : List Value) (k : Nat) (A : Array Value), off + k + vs.length ≤ A.size →
    (vs.zipIdx k).foldl (fun cs (p : Value × Nat) => cs.setIfInBounds (off + p.2) p.1) A = (A.toList.take (off + k) ++ vs ++ A.toList.drop (off + k + vs.length)).toArray
  | [], k, A, _ => by simp
  | v :: vs, k, A, h => by
    simp only [List.length_cons] at h
    rw [List.zipIdx_cons, List.foldl_cons, set_cells off vs (k + 1) _ (by simp; omega)]
    congr 1
    have h1 : off + k < A.toList.length := by simp; omega
    simp only [Array.toList_setIfInBounds]
    have h2 : (A.toList.take (off + k)).length = off + k := by rw [List.length_take]; omega
    rw [List.set_eq_take_append_cons_drop, if_pos h1]
    have e1 : off + (k + 1) = (A.toList.take (off + k)).length + 1 := by omega
    have e2 : (A.toList.take (off + k)).length + 1 + vs.length = (A.toList.take (off + k)).length + (1 + vs.length) := by omega
    rw [e1, e2, List.take_length_add_append, List.drop_length_add_append]
    have e3 : List.take 1 (v :: List.drop (off + k + 1) A.toList) = [v] := rfl
    rw [e3, show 1 + vs.length = vs.length + 1 by omega, List.drop_succ_cons, List.drop_drop, List.length_cons, show off + k + 1 + vs.length = off + k + (vs.length + 1) by omega]
    simp only [List.append_assoc, List.singleton_append, List.cons_append, List.nil_append]
theorem fill_seq (s n : Nat) : ∀ (vs : List (Nat × Value)) (i : Nat) (A : Array Value) (cs : List Value), seqCells s i vs = some cs → i + vs.length = n → A.size = n * s →
    Instr.fill (fun i => some (i * s, s)) A vs = some (A.toList.take (i * s) ++ cs).toArray
  | [], i, A, cs, h, hi, hA => by
    simp only [seqCells, Option.some.injEq] at h
    subst h
    have : i = n := by simpa using hi
    subst this
    simp only [Instr.fill, List.append_nil]
    rw [List.take_of_length_le (by simp; omega)]
  | (j, v) :: r, i, A, cs, h, hi, hA => by
    simp only [seqCells] at h
    cases hb : Nat.beq i j && Nat.beq v.cells.size s with
    | false => rw [hb] at h; simp at h
    | true =>
      rw [hb] at h
      simp only [Bool.and_eq_true] at hb
      obtain rfl := Nat.eq_of_beq_eq_true hb.1
      have hs := Nat.eq_of_beq_eq_true hb.2
      simp only [cond_true] at h
      split at h
      · rename_i c hc
        cases h
        simp only [List.length_cons] at hi
        have hle : (i + 1) * s ≤ n * s := Nat.mul_le_mul_right _ (by omega)
        have hmul : (i + 1) * s = i * s + s := by rw [Nat.add_mul, Nat.one_mul]
        simp only [Instr.fill, hs]
        have hno : ¬ ((¬ s = s) ∨ i * s + s > A.size) := by omega
        have h1 : (decide (s ≠ s) || decide (i * s + s > A.size)) = false := by simp; omega
        have hz : v.cells.zipIdx.foldl (fun cs (p : Value × Nat) => cs.setIfInBounds (i * s + p.2) p.1) A = (A.toList.take (i * s) ++ v.cells.toList ++ A.toList.drop (i * s + s)).toArray := by
          have := set_cells (i * s) v.cells.toList 0 A (by simp; omega)
          simp only [Nat.add_zero, Array.length_toList, hs] at this
          rw [← this, ← Array.foldl_toList, Array.toList_zipIdx]
        have ih := fill_seq s n r (i + 1) (A.toList.take (i * s) ++ v.cells.toList ++ A.toList.drop (i * s + s)).toArray c hc (by omega) (by simp; omega)
        have e3 : ((A.toList.take (i * s) ++ v.cells.toList ++ A.toList.drop (i * s + s)).toArray.toList.take ((i + 1) * s) ++ c) = A.toList.take (i * s) ++ (v.cells.toList ++ c) := by
          have h5 : (A.toList.take (i * s) ++ v.cells.toList).length = (i + 1) * s := by simp; omega
          show (A.toList.take (i * s) ++ v.cells.toList ++ A.toList.drop (i * s + s)).take ((i + 1) * s) ++ c = _
          rw [← h5, List.take_left, List.append_assoc]
        rw [e3] at ih
        rw [if_neg (by simpa using h1)]
        rw [hz]
        exact ih
      · cases h
theorem lo_buildSlice {t E : TypeId} {n s : Nat} {z : Value} {ps : List (Nat × Operand)} {vs : List (Nat × Value)} {cs : List Value} [hu : Und P t (.slice E)] [hz : Siz P E s] [hzz : Zer P E z] (ho : o.op = .buildSlice t n ps.toArray)
    (hp : evp e ps = some vs) (hsm : n * s ≤ 16777216) (h0 : n * s ≠ 0) (hv : vs.length = n) (hq : seqCells s 0 vs = some cs) :
    Lo P N w0 D e M o (σ := Nat) (fun b => w0.heap.size ≤ b) (fun b => .slice (some ⟨b, 0, none⟩) n n) (fun b => [.pt b (.cells cs.toArray E (0, 0))]) := fun a w hs hm => by
  have h1 := hs.evalp hp
  have h2 : ps.toArray.map (fun p => (p.1, a.eval p.2)) = vs.toArray := by rw [List.map_toArray, h1]
  have hf : Instr.fill (fun i => some (i * s, s)) ((Array.range (n * s)).map (z.cells[· % z.cells.size]!)) vs = some cs.toArray := by
    have := fill_seq s n vs 0 ((Array.range (n * s)).map (z.cells[· % z.cells.size]!)) cs hq (by omega) (by simp)
    simpa using this
  refine ⟨w.heap.size, _, hm.size, ?_, Grows.new w _⟩
  have h3 : ¬ n * s > 2 ^ 24 := by simp; omega
  simp only [execOp, ho, Sem.run_bind, Instr.buildSlice, run_und hu.h, Result.andThen_ok, run_size hz.h, h3, if_false, h0, run_zero hzz.h, Sem.run_pure, Sem.run_ite]
  rw [h2]
  simp only [hf, Sem.run_bind, newRow, run_newObj, Result.andThen_ok, Sem.run_pure]
theorem lo_buildSlice0 {t E : TypeId} {s : Nat} [hu : Und P t (.slice E)] [hz : Siz P E s] (ho : o.op = .buildSlice t 0 #[]) :
    Lo P N w0 D e M o (σ := Nat) (fun b => w0.heap.size ≤ b) (fun b => .slice (some ⟨b, 0, none⟩) 0 0) (fun b => [.pt b (.cells #[] E (0, 0))]) := fun a w hs hm => by
  refine ⟨w.heap.size, _, hm.size, ?_, Grows.new w _⟩
  simp [execOp, ho, Instr.buildSlice, run_und hu.h, run_size hz.h, Instr.fill, newRow]
  rw [range0]
theorem lo_make {t E : TypeId} {x y : Operand} {n c by' : Nat} {z : Value} {kx ky : IntKind} [hu : Und P t (.slice E)] [hz : Siz P E 1] [hzz : Zer P E z] [hb : Byt P E by'] (ho : o.op = .makeSlice t x y) (hx : ev e x = some (.int kx (n : Int))) (hy : ev e y = some (.int ky (c : Int)))
    (hnc : n ≤ c) (hc : by' * c ≤ 281474976710656) (hc' : c ≤ 9223372036854775807) (h1 : z.cells = #[z]) :
    Lo P N w0 D e M o (σ := Nat) (fun b => w0.heap.size ≤ b) (fun b => .slice (some ⟨b, 0, none⟩) n c) (fun b => [.pt b (.cells (List.replicate c z).toArray E (0, 0))]) := fun a w hs hm => by
  refine ⟨w.heap.size, _, hm.size, ?_, Grows.new w _⟩
  obtain ⟨i, hi, hbi⟩ := Option.map_eq_some_iff.1 hb.h
  have hsz := run_size hz.h
  have hti : ∀ w, (typeInfo E).run P w = .ok i w := fun w => by simp [typeInfo, hi]
  have e1 : IntKind.i64.wrap (n : Int) = (n : Int) := IntWalk.i64_in _ (by omega)
  have e2 : IntKind.i64.wrap (c : Int) = (c : Int) := IntWalk.i64_in _ (by omega)
  have e3 : ¬ ((i.bytes : Int) * (c : Int) > 2 ^ 48) := by
    rw [hbi]
    have : ((by' : Int) * (c : Int)) = ((by' * c : Nat) : Int) := rfl
    rw [this]; simp; omega
  have e4 : ¬ (c : Int) < 0 := by omega
  have e5 : ¬ (n : Int) < 0 := by omega
  have e6 : ¬ (n : Int) > (c : Int) := by omega
  have e7 : (Array.range c).map (fun j => #[z][j % (#[z] : Array Value).size]!) = (List.replicate c z).toArray := by
    apply Array.ext
    · simp
    · intro j h1 h2
      simp [Nat.mod_one]
  simp only [execOp, ho, Sem.run_bind, hs.eval hx, hs.eval hy, Instr.makeSlice, run_und hu.h, Result.andThen_ok, asInt, asIntOf, Sem.run_pure, hti, e1, e2, e3, e4, e5, e6, decide_false, Bool.or_self, Bool.false_eq_true, if_false, Sem.run_ite, run_askRoom, hsz, Int.toNat_natCast, Nat.mul_one]
  by_cases h0 : c = 0
  · subst h0
    simp [newRow]
    rw [range0]
  · simp only [h0, if_false, run_zero hzz.h, Sem.run_bind, Result.andThen_ok, Sem.run_pure, h1, e7, newRow, run_newObj]

/-- A store of one cell into a known row. -/
theorem g_store (tag : Nat) {t : TypeId} {x y : Operand} {b off : Nat} {L : List Value} {E : TypeId} {v : Value} (hg : wantE all e o = some true) (hd : o.dst = none) [hz : Siz P t 1] (ho : o.op = .store t x y) (hx : ev e x = some (.pointer (some ⟨b, off, none⟩))) (hy : ev e y = some v)
    (hM : mget M tag = some (.pt b (.cells L.toArray E (0, 0)))) (hv : v.oneCell' = true) (hl : off < L.length)
    (h : G P fn R N w0 D e ((tag, .pt b (.cells (L.set off v).toArray E (0, 0))) :: M) (.ops all rest :: k)) : G P fn R N w0 D e M (.ops all (o :: rest) :: k) := by
  refine g_do hg hd (fun a w hs hm => ?_) h
  have h1 := hm.holds _ _ hM
  simp only [Ck.holds] at h1
  have hc : v.cells = #[v] := by cases v <;> simp_all [Value.cells, Value.oneCell']
  have hst := run_storeCells_at P b off E [v] 0 L.toArray w h1 (by simp; omega) (by simpa using hv)
  have e1 : (L.toArray.toList.take (off + 0) ++ [v] ++ L.toArray.toList.drop (off + 0 + [v].length)).toArray = (L.set off v).toArray := by
    congr 1
    simp only [Nat.add_zero, List.length_cons, List.length_nil, Nat.zero_add]
    rw [List.set_eq_take_append_cons_drop, if_pos hl]
    simp
  rw [e1] at hst
  refine ⟨_, ?_, hm.setRow tag hM⟩
  simp [execOp, ho, hs.eval hx, hs.eval hy, Instr.storeAt, Instr.sureAddr, storeVar, run_size hz.h, hc]
  rw [hst]
  rfl
/-- A store of a struct or an array into a known row. -/
theorem g_storeA (tag : Nat) {t : TypeId} {x y : Operand} {b off s : Nat} {L C : List Value} {E : TypeId} (hg : wantE all e o = some true) (hd : o.dst = none) [hz : Siz P t s] (ho : o.op = .store t x y) (hx : ev e x = some (.pointer (some ⟨b, off, none⟩))) (hy : ev e y = some (.agg C.toArray))
    (hM : mget M tag = some (.pt b (.cells L.toArray E (0, 0)))) (hC : C.length = s) (hv : ∀ u ∈ C, u.oneCell' = true) (hl : off + s ≤ L.length)
    (h : G P fn R N w0 D e ((tag, .pt b (.cells (L.take off ++ C ++ L.drop (off + s)).toArray E (0, 0))) :: M) (.ops all rest :: k)) : G P fn R N w0 D e M (.ops all (o :: rest) :: k) := by
  subst hC
  refine g_do hg hd (fun a w hs hm => ?_) h
  have h1 := hm.holds _ _ hM
  simp only [Ck.holds] at h1
  have hst := run_storeCells_at P b off E C 0 L.toArray w h1 (by simpa using hl) hv
  simp only [Nat.add_zero] at hst
  refine ⟨_, ?_, hm.setRow tag hM⟩
  simp [execOp, ho, hs.eval hx, hs.eval hy, Instr.storeAt, Instr.sureAddr, storeVar, run_size hz.h, Value.cells]
  rw [hst]
  simp
/-- A struct or an array as a whole. -/
theorem g_storeW (tag : Nat) {t : TypeId} {x y : Operand} {b : Nat} {L C : List Value} {E : TypeId} (hg : wantE all e o = some true) (hd : o.dst = none) [hz : Siz P t C.length] (ho : o.op = .store t x y) (hx : ev e x = some (.pointer (some ⟨b, 0, none⟩))) (hy : ev e y = some (.agg C.toArray))
    (hM : mget M tag = some (.pt b (.cells L.toArray E (0, 0)))) (hC : C.length = L.length) (hv : ∀ u ∈ C, u.oneCell' = true)
    (h : G P fn R N w0 D e ((tag, .pt b (.cells C.toArray E (0, 0))) :: M) (.ops all rest :: k)) : G P fn R N w0 D e M (.ops all (o :: rest) :: k) := by
  refine g_storeA tag hg hd ho hx hy hM rfl hv (by omega) ?_
  simpa [hC] using h

/-! ## Calls -/
def Callable (P : Program) (f : FuncId) : Prop := ∃ g, P.funcs[f]? = some g ∧ (g.name == "runtime.NumGoroutine") = false ∧ g.body.isNone = false

class Cal (P : Program) (f : FuncId) : Prop where
  h : Callable P f

/-- A function's contract at these arguments in this world: it returns, for some x of which pr holds, the value val x; of the blocks of before those of ch alone may have turned; the parts new x are known. -/
def Spec (P : Program) (f : FuncId) (args : Array Value) (w : World) {σ : Type} (pr : σ → Prop) (val : σ → Value) (ch : Blocks) (new : σ → List Ck) : Prop :=
  Calls P f args w fun e w' => ∃ x, pr x ∧ e = .returned (val x) ∧ Grows w ch (new x) w'

theorem run_call {a : Act} {w : World} {f : FuncId} {xs : List Operand} {ts : Array TypeId} {vs : List Value} (hf : Callable P f) (ho : o.op = .call ⟨.value (.func f), xs.toArray, ts⟩) (hs : Sat N e a) (hx : evs e xs = some vs) :
    (execOp a.eval o).run P w = .ok (.enter f vs.toArray) w := by
  obtain ⟨g, h1, h2, h3⟩ := hf
  have h4 := hs.evals hx
  have h5 : xs.toArray.map a.eval = vs.toArray := by rw [List.map_toArray, h4]
  simp only [execOp, ho, resolve, h5, Act.eval, Deferred.ofValue, Sem.run_bind, Sem.run_pure, Result.andThen_ok, invoke, callFunc, run_program, h1, h2, h3, Bool.false_eq_true, if_false]
  simp

def putD (d : Option Nat) (v : Value) (e : List (Nat × Value)) : List (Nat × Value) :=
  match d with
  | some d => (d, v) :: e
  | none => e
def inN (d : Option Nat) (N : Nat) : Bool :=
  match d with
  | some d => Nat.blt d N
  | none => true
theorem Sat.putD {a : Act} (h : Sat N e a) {d : Option Nat} (hd : inN d N = true) (v : Value) : Sat N (putD d v e) (a.put d v) := by
  cases d with
  | none => exact h
  | some d => exact h.put (by simpa [inN, Nat.blt_eq] using hd) v

theorem g_call {σ : Type} {pr : σ → Prop} {val : σ → Value} {new : σ → List Ck} {d : Option Nat} {f : FuncId} {xs : List Operand} {tys : Array TypeId} {vs : List Value} (ts : List Nat) (hg : wantE all e o = some true) (hd : o.dst = d) (hN : inN d N = true) (hf : fresh M ts = true)
    [hc : Cal P f] (ho : o.op = .call ⟨.value (.func f), xs.toArray, tys⟩) (hx : evs e xs = some vs) (hS : ∀ w, Mem w0 D M w → Spec P f vs.toArray w pr val Nob new)
    (h : ∀ x, pr x → G P fn R N w0 D (putD d (val x) e) (tags ts (new x) ++ M) (.ops all rest :: k)) : G P fn R N w0 D e M (.ops all (o :: rest) :: k) :=
  fun a w hs hm => by
    simp only [ext]
    refine wpList_want (wantE_spec hs hg) fun K hK => ?_
    unfold Oper.wp
    rw [run_call hc.h ho hs hx]
    simp only [Oper.upon]
    refine (hS w hm).mono ?_
    rintro en w' ⟨x, hp, rfl, hgr⟩
    refine hK _ _ ?_
    rw [hd]
    have := h x hp _ w' (hs.putD hN (val x)) (hm.grow hgr ts hf)
    simpa only [ext] using this

/-- A call that may write the parts us: they are given up; what it tells is known under ts (which may be the same numbers). -/
theorem g_callW {σ : Type} {pr : σ → Prop} {val : σ → Value} {new : σ → List Ck} {ch : Blocks} {d : Option Nat} {f : FuncId} {xs : List Operand} {tys : Array TypeId} {vs : List Value} (us ts : List Nat) (hg : wantE all e o = some true) (hd : o.dst = d) (hN : inN d N = true) (hf : fresh (gone us M) ts = true)
    [hc : Cal P f] (ho : o.op = .call ⟨.value (.func f), xs.toArray, tys⟩) (hx : evs e xs = some vs) (hch : ∀ j, ch j → ∃ u ∈ us, ∃ c, mget M u = some c ∧ c.has j) (hS : ∀ w, Mem w0 D M w → Spec P f vs.toArray w pr val ch new)
    (h : ∀ x, pr x → G P fn R N w0 D (putD d (val x) e) (tags ts (new x) ++ gone us M) (.ops all rest :: k)) : G P fn R N w0 D e M (.ops all (o :: rest) :: k) :=
  fun a w hs hm => by
    simp only [ext]
    refine wpList_want (wantE_spec hs hg) fun K hK => ?_
    unfold Oper.wp
    rw [run_call hc.h ho hs hx]
    simp only [Oper.upon]
    refine (hS w hm).mono ?_
    rintro en w' ⟨x, hp, rfl, hgr⟩
    refine hK _ _ ?_
    rw [hd]
    have := h x hp _ w' (hs.putD hN (val x)) (hm.growS hgr us hch ts hf)
    simpa only [ext] using this

/-! ## Entering a function, and leaving it -/
def slots : Nat → List Value → List (Nat × Value)
  | _, [] => []
  | i, v :: r => (i, v) :: slots (i + 1) r
theorem get_slots : ∀ (l : List Value) (i j : Nat) (v : Value), get (slots i l) j = some v → i ≤ j ∧ l[j - i]? = some v
  | [], i, j, v, h => by simp [slots, get] at h
  | x :: r, i, j, v, h => by
    simp only [slots] at h
    rw [get_cons] at h
    by_cases hij : i = j
    · subst hij; rw [if_pos rfl] at h; cases h; simp
    · rw [if_neg hij] at h
      obtain ⟨h1, h2⟩ := get_slots r (i + 1) j v h
      refine ⟨by omega, ?_⟩
      rw [show j - i = (j - (i + 1)) + 1 by omega, List.getElem?_cons_succ]
      exact h2

theorem enter {f : FuncId} {g : Func} {c : Code} {l : List Value} {w : World} {D : Blocks} {M : List (Nat × Ck)} (hf : P.funcs[f]? = some g) (hb : g.body = some c) (hN : Nat.ble l.length g.ntmps = true) (hm : Mem w D M w)
    (h : G P g R g.ntmps w D (slots 0 l) M [.code c]) : Calls P f l.toArray w R := by
  refine calls_of_wp hf hb ?_
  have hN' : l.length ≤ g.ntmps := by simpa [Nat.ble_eq] using hN
  have hs : Sat g.ntmps (slots 0 l) { tmps := l.toArray ++ Array.replicate (g.ntmps - l.toArray.size) undef, defers := [] } := by
    refine ⟨by simp; omega, rfl, fun i v hi => ?_⟩
    obtain ⟨_, h2⟩ := get_slots l 0 i v hi
    simp only [Nat.sub_zero] at h2
    have hlt : i < l.length := (List.getElem?_eq_some_iff.1 h2).1
    rw [Array.getElem?_append_left (by simpa using hlt)]
    simpa using h2
  have := h _ w hs hm
  simp only [ext] at this
  refine wp_mono this ?_
  intro x a' w' hx
  cases x <;> simpa [ext] using hx

/-- What is told at the end. -/
def picks (M : List (Nat × Ck)) : List Nat → List Ck → Prop
  | [], [] => True
  | t :: ts, c :: cs => mget M t = some c ∧ picks M ts cs
  | _, _ => False
theorem picks_mem : ∀ {ts : List Nat} {cs : List Ck}, picks M ts cs → ∀ c ∈ cs, ∃ t ∈ ts, mget M t = some c
  | [], [], _, c, hc => by simp at hc
  | t :: ts, d :: cs, h, c, hc => by
    rcases List.mem_cons.1 hc with rfl | hc
    · exact ⟨t, by simp, h.1⟩
    · obtain ⟨t', h1, h2⟩ := picks_mem h.2 c hc
      exact ⟨t', List.mem_cons_of_mem _ h1, h2⟩
  | [], _ :: _, h, _, _ => h.elim
  | _ :: _, [], h, _, _ => h.elim
def nodup : List Nat → Bool
  | [] => true
  | t :: ts => !(ts.contains t) && nodup ts
theorem picks_apart {w : World} (hm : Mem w0 D M w) : ∀ {ts : List Nat} {cs : List Ck}, picks M ts cs → nodup ts = true → cs.Pairwise Ck.apart
  | [], [], _, _ => List.Pairwise.nil
  | t :: ts, d :: cs, h, hn => by
    simp only [nodup, Bool.and_eq_true] at hn
    refine List.pairwise_cons.2 ⟨fun c hc => ?_, picks_apart hm h.2 hn.2⟩
    obtain ⟨t', h1, h2⟩ := picks_mem h.2 c hc
    refine hm.apart t d t' c h.1 h2 ?_
    rintro rfl
    have : ts.contains t = true := by simpa using h1
    rw [this] at hn; simp at hn
  | [], _ :: _, h, _ => h.elim
  | _ :: _, [], h, _ => h.elim

theorem Mem.grows {w : World} (hm : Mem w0 D M w) (ts : List Nat) {cs : List Ck} (hp : picks M ts cs) (hn : nodup ts = true) : Grows w0 D cs w := by
  refine ⟨hm.os, hm.tape, hm.output, hm.size, fun j hj hD => hm.keep j hj hD, fun c hc => ?_, fun c hc => ?_, fun c hc => ?_, fun c hc => ?_, picks_apart hm hp hn⟩
  all_goals obtain ⟨t, _, ht⟩ := picks_mem hp c hc
  · exact hm.holds t c ht
  · exact hm.stable t c ht
  · exact hm.above t c ht
  · exact hm.below t c ht

/-- What is known of memory, two parts or one told in other words. -/
theorem g_merge (us : List Nat) (t : Nat) (c' : Ck) (hf : fresh (gone us M) [t] = true) (hc : ∀ w, Mem w0 D M w → c'.holds w) (hst : c'.stable) (hin : ∀ j, c'.has j → ∃ u ∈ us, ∃ c, mget M u = some c ∧ c.has j)
    (h : G P fn R N w0 D e ((t, c') :: gone us M) k) : G P fn R N w0 D e M k := fun a w hs hm => h a w hs (hm.merge us t c' hf (hc w hm) hst hin)
/-- A known part under another number (what was there is given up). -/
theorem g_retag (t t' : Nat) (c : Ck) (ht : mget M t = some c) (hf : fresh (gone [t, t'] M) [t'] = true) (h : G P fn R N w0 D e ((t', c) :: gone [t, t'] M) k) : G P fn R N w0 D e M k := fun a w hs hm =>
  h a w hs (hm.merge [t, t'] t' c hf (hm.holds _ _ ht) (hm.stable _ _ ht) (fun _ hj => ⟨t, by simp, c, ht, hj⟩))
end
end Go.Sx

import Derived.Test.YtfbcmndhjoebbaaZdXA
import Derived.Orders
import Derived.Laws.StructEq
import Derived.Lib.SlBytesRow
set_option linter.unusedVariables false
set_option linter.unusedSimpArgs false
/-
  A statement whose order Go leaves open, for the judgement of Sx: operations that only read are taken first, those that make memory and hang on nothing ('pending') may come at any time, calls come one by one, and the last operations in their order. No condition: it speaks of any program.
-/
namespace Go.Sx
open Go

section
variable {P : Program} {ops : Array Oper} {Q : Exit → Act → World → Prop} {C : World → Prop} {m : Nat × List Nat}

/-- Whatever order is picked from here on; the operations below m keep the world in the class C. -/
def anyC (P : Program) (ops : Array Oper) (Q : Exit → Act → World → Prop) (m : Nat × List Nat) (C : World → Prop) : Nat → Array Bool → Act → World → Prop
  | 0, L, a, w => Region.ready .any ops L = [] ∧ Q .normal a w
  | f + 1, L, a, w => (Region.ready .any ops L = [] → Q .normal a w) ∧
      ∀ i ∈ Region.ready .any ops L, wpOp P ops Q i (fun a' w' => ((m.2.contains i = false → i < m.1 → C w') ∧ (m.2.contains i = true → w' = w)) ∧ anyC P ops Q m C f (L.setIfInBounds i true) a' w') a w

theorem anyC_any : ∀ (f : Nat) (L : Array Bool) (a : Act) (w : World), anyC P ops Q m C f L a w → wpAny P .any ops Q f L a w
  | 0, _, _, _, h => h
  | f + 1, _, _, _, h => ⟨h.1, fun i hi => wpOp_mono (fun a' w' h' => anyC_any f _ a' w' h'.2) (h.2 i hi)⟩

theorem anyC_mono {C' : World → Prop} (hC : ∀ w, C w → C' w) : ∀ (f : Nat) (L : Array Bool) (a : Act) (w : World), anyC P ops Q m C f L a w → anyC P ops Q m C' f L a w
  | 0, _, _, _, h => h
  | f + 1, _, _, _, h => ⟨h.1, fun i hi => wpOp_mono (fun a' w' h' => ⟨⟨fun hv hl => hC _ (h'.1.1 hv hl), h'.1.2⟩, anyC_mono hC f _ a' w' h'.2⟩) (h.2 i hi)⟩

/-- In this state, in every world of the class, the operation yields v and leaves the world alone. -/
def YC (P : Program) (ops : Array Oper) (C : World → Prop) (o : Oper) (v : Value) (a : Act) : Prop :=
  (Region.wanted o (yielded ops a.tmps) = true ∧ ∀ w, C w → (execOp a.eval o).run P w = .ok (.value v) w) ∨ (Region.wanted o (yielded ops a.tmps) = false ∧ v = undef)

theorem YC.now {i : Nat} {o : Oper} {v : Value} {a : Act} {w : World} {K : Act → World → Prop} (hi : ops[i]? = some o) (hy : YC P ops C o v a) (hw : C w) (h : K (a.put o.dst v) w) : wpOp P ops Q i K a w := by
  unfold wpOp
  simp only [hi]
  rcases hy with ⟨h1, h2⟩ | ⟨h1, rfl⟩
  · rw [if_pos h1]
    refine .inl ?_
    unfold Oper.wp
    rw [h2 w hw]
    exact h
  · simp only [h1, Bool.false_eq_true, if_false]
    exact h

theorem YC.later {o : Oper} {v : Value} {a a' : Act} (hy : YC P ops C o v a) (h1 : execOp a'.eval o = execOp a.eval o) (h2 : Region.wanted o (yielded ops a'.tmps) = Region.wanted o (yielded ops a.tmps)) : YC P ops C o v a' := by
  unfold YC at *
  rw [h1, h2]
  exact hy

/-- Another operation, apart from this one, does what it does whether this one has been done or not. -/
theorem wpOp_apart {j : Nat} {oi oj : Oper} {v : Value} (hj : ops[j]? = some oj) (hap : oi.apart ops oj = true) (hsi : ∀ cs b, oi.op ≠ .select cs b) (hsj : ∀ cs b, oj.op ≠ .select cs b)
    (hQ : ∀ c a w, Q (.panic c) (a.put oi.dst v) w → Q (.panic c) a w) {K : Act → World → Prop} {a : Act} {w : World} (hy : YC P ops C oi v a) (h : wpOp P ops Q j K (a.put oi.dst v) w) :
    wpOp P ops Q j (fun a' w' => YC P ops C oi v a' ∧ K (a'.put oi.dst v) w') a w := by
  obtain ⟨p1, p2, p3⟩ := Oper.apart_spec hap
  have kp : ∀ (b : Act), YC P ops C oi v b → ∀ u, YC P ops C oi v (b.put oj.dst u) := fun b hb u => hb.later (execOp_put oi hsi b oj.dst u p3) (wanted_put oi b oj.dst u p3)
  have sw : ∀ (b : Act) u, (b.put oj.dst u).put oi.dst v = (b.put oi.dst v).put oj.dst u := fun b u => (Act.put_comm b v u p2).symm
  unfold wpOp at h ⊢
  simp only [hj] at h ⊢
  rw [wanted_put oj a oi.dst v p1] at h
  by_cases hw : Region.wanted oj (yielded ops a.tmps) = true
  · rw [if_pos hw] at h ⊢
    rcases h with h | ⟨has, hl⟩
    · refine .inl ?_
      unfold Oper.wp at h ⊢
      rw [execOp_put oj hsj a oi.dst v p1] at h
      cases hr : (execOp a.eval oj).run P w with
      | halt x w' =>
        rw [hr] at h
        cases x <;> simp only [Oper.upon] at h ⊢
        exact hQ _ _ _ h
      | ok n w' =>
        rw [hr] at h
        cases n <;> simp only [Oper.upon] at h ⊢
        case value u => exact ⟨kp a hy u, by rw [sw]; exact h⟩
        case skip => exact ⟨kp a hy _, by rw [sw]; exact h⟩
        case defer d =>
          refine ⟨kp { a with defers := d :: a.defers } (YC.later (a := a) hy rfl rfl) _, ?_⟩
          rw [sw, ← Act.put_defers]
          exact h
        case enter g args =>
          refine Calls.mono h fun en w'' he => ?_
          cases en with
          | returned u => exact ⟨kp a hy u, by rw [sw]; exact he⟩
          | panicked c => exact hQ _ _ _ he
          | outgrown => exact he
        case row r args => exact Rows.mono h fun u w'' he => ⟨kp a hy u, by rw [sw]; exact he⟩
    · refine .inr ⟨?_, hl⟩
      unfold Oper.asks at has ⊢
      rw [execOp_put oj hsj a oi.dst v p1] at has
      exact has
  · have hw' : Region.wanted oj (yielded ops a.tmps) = false := by simpa using hw
    simp only [hw', Bool.false_eq_true, if_false] at h ⊢
    exact ⟨kp a hy _, by rw [sw]; exact h⟩

/-- What has been done is closed: whatever it waited for has been done too. -/
def Closed (ops : Array Oper) (L : Array Bool) : Prop := ∀ (j : Nat) oj, ops[j]? = some oj → L.getD j false = true → ∀ e ∈ oj.after, Region.binds .any e = true → L.getD e.on false = true
def closedB (ops : Array Oper) (L : Array Bool) : Bool :=
  (List.range ops.size).all fun j => match ops[j]? with
    | some o => !(L.getD j false) || o.after.all fun e => !(Region.binds .any e) || L.getD e.on false
    | none => true
theorem closed_of {L : Array Bool} (h : closedB ops L = true) : Closed ops L := by
  intro j oj hj hl e he hb
  have hlt : j < ops.size := (Array.getElem?_eq_some_iff.1 hj).1
  have h1 := List.all_eq_true.1 h j (List.mem_range.2 hlt)
  simp only [hj, hl, Bool.not_true, Bool.false_or] at h1
  have h2 := Array.all_eq_true_iff_forall_mem.1 h1 e he
  simpa [hb] using h2
theorem Closed.set {L : Array Bool} {i : Nat} (h : Closed ops L) (hi : i ∈ Region.ready .any ops L) : Closed ops (L.setIfInBounds i true) := by
  obtain ⟨_, oi, hoi, hall⟩ := mem_ready.1 hi
  intro j oj hj hl e he hb
  by_cases hij : i = j
  · subst hij
    rw [hoi] at hj
    cases hj
    exact getD_set_true (hall e he hb)
  · rw [getD_set_ne false hij] at hl
    exact getD_set_true (h j oj hj hl e he hb)
/-- j waits for i, at some steps. -/
def waits (ops : Array Oper) : Nat → Nat → Nat → Bool
  | 0, _, _ => false
  | f + 1, j, i => match ops[j]? with
    | some o => o.after.any fun e => Region.binds .any e && (e.on == i || waits ops f e.on i)
    | none => false
theorem waits_listed {L : Array Bool} (hc : Closed ops L) {i : Nat} : ∀ (f j : Nat), waits ops f j i = true → (L.getD j false = true ∨ j ∈ Region.ready .any ops L) → L.getD i false = true
  | 0, _, h, _ => by simp [waits] at h
  | f + 1, j, h, hl => by
    simp only [waits] at h
    split at h
    · rename_i o ho
      obtain ⟨e, he, h1⟩ := Array.any_eq_true'.1 h
      simp only [Bool.and_eq_true, Bool.or_eq_true, beq_iff_eq] at h1
      have hon : L.getD e.on false = true := by
        rcases hl with hl | hl
        · exact hc j o ho hl e he h1.1
        · obtain ⟨_, o', ho', hall⟩ := mem_ready.1 hl
          rw [ho] at ho'
          cases ho'
          exact hall e he h1.1
      rcases h1.2 with h2 | h2
      · rw [← h2]; exact hon
      · exact waits_listed hc f e.on h2 (.inl hon)
    · cases h

theorem unlisted {L : Array Bool} {i : Nat} (h : L.getD i true = false) : ¬ L.getD i false = true := by
  intro h1
  rcases Nat.lt_or_ge i L.size with h' | h'
  · simp [h'] at h h1; rw [h] at h1; cases h1
  · simp [Array.getElem?_eq_none h'] at h1

/-- Such an operation may be taken first. -/
theorem anyC_first {i : Nat} {oi : Oper} {v : Value} (hi : ops[i]? = some oi) (hwt : ∀ j, m.1 ≤ j → m.2.contains j = false → j < ops.size → j ≠ i → ∃ f, waits ops f j i = true) (hsel : ∀ (j : Nat) (o : Oper) cs b, ops[j]? = some o → o.op ≠ .select cs b) (hQ : ∀ c a w, Q (.panic c) (a.put oi.dst v) w → Q (.panic c) a w) :
    ∀ (f : Nat) (L : Array Bool) (a : Act) (w : World), C w → Closed ops L →
      (∀ j oj, ops[j]? = some oj → j ≠ i → L.getD j true = false → (∀ e ∈ oj.after, Region.binds .any e = true → e.on ≠ i) → oi.apart ops oj = true) →
      i ∈ Region.ready .any ops L → YC P ops C oi v a → anyC P ops Q m C f (L.setIfInBounds i true) (a.put oi.dst v) w → anyC P ops Q m C (f + 1) L a w
  | 0, L, a, w, hw, hcl, _, hr, hy, H => by
    refine ⟨fun h0 => (by rw [h0] at hr; cases hr), fun j hj => ?_⟩
    by_cases hji : j = i
    · subst hji; exact hy.now hi hw ⟨⟨fun _ _ => hw, fun _ => rfl⟩, H⟩
    · have := ready_mono hj hji
      rw [H.1] at this
      cases this
  | f + 1, L, a, w, hw, hcl, hfree, hr, hy, H => by
    refine ⟨fun h0 => (by rw [h0] at hr; cases hr), fun j hj => ?_⟩
    by_cases hji : j = i
    · subst hji; exact hy.now hi hw ⟨⟨fun _ _ => hw, fun _ => rfl⟩, H⟩
    · obtain ⟨hju, oj, hoj, hall⟩ := mem_ready.1 hj
      have hiu := (mem_ready.1 hr).1
      have hnot : ∀ e ∈ oj.after, Region.binds .any e = true → e.on ≠ i := fun e he hb heq => by
        have h1 := hall e he hb
        rw [heq] at h1
        exact unlisted hiu h1
      have hjm : m.2.contains j = false → j < m.1 := by
        intro hx
        rcases Nat.lt_or_ge j m.1 with h | h
        · exact h
        · obtain ⟨g, hg⟩ := hwt j h hx (Array.getElem?_eq_some_iff.1 hoj).1 hji
          exact absurd (waits_listed hcl g j hg (.inr hj)) (unlisted hiu)
      have h2 := wpOp_apart (C := C) hoj (hfree j oj hoj hji hju hnot) (fun cs b => hsel i oi cs b hi) (fun cs b => hsel j oj cs b hoj) hQ hy (H.2 j (ready_mono hj hji))
      refine wpOp_mono (fun a' w' h3 => ?_) h2
      obtain ⟨hy', hc', hn'⟩ := h3
      have hcw : C w' := by
        cases hmv : m.2.contains j with
        | true => rw [hc'.2 hmv]; exact hw
        | false => exact hc'.1 hmv (hjm hmv)
      refine ⟨hc', anyC_first hi hwt hsel hQ f (L.setIfInBounds j true) a' w' hcw (hcl.set hj) ?_ (ready_mono hr (Ne.symm hji)) hy' ?_⟩
      · intro l ol hl hli hlu hno
        refine hfree l ol hl hli ?_ hno
        by_cases hjl : j = l
        · subst hjl; exact hju
        · rw [getD_set_ne true hjl] at hlu; exact hlu
      · rw [Array.setIfInBounds_comm _ _ hji]; exact hn'
/-- The same for an operation that hangs on no memory: what need not wait for it may come before it. -/
theorem anyC_firstT {i : Nat} {oi : Oper} {v : Value} (hi : ops[i]? = some oi) (hmv : m.2.contains i = true) (hsel : ∀ (j : Nat) (o : Oper) cs b, ops[j]? = some o → o.op ≠ .select cs b) (hQ : ∀ c a w, Q (.panic c) (a.put oi.dst v) w → Q (.panic c) a w) :
    ∀ (f : Nat) (L : Array Bool) (a : Act) (w : World),
      (∀ j oj, ops[j]? = some oj → j ≠ i → L.getD j true = false → (∀ e ∈ oj.after, Region.binds .any e = true → e.on ≠ i) → oi.apart ops oj = true) →
      i ∈ Region.ready .any ops L → YC P ops (fun _ => True) oi v a → anyC P ops Q m C f (L.setIfInBounds i true) (a.put oi.dst v) w → anyC P ops Q m C (f + 1) L a w
  | 0, L, a, w, _, hr, hy, H => by
    refine ⟨fun h0 => (by rw [h0] at hr; cases hr), fun j hj => ?_⟩
    by_cases hji : j = i
    · subst hji; exact hy.now hi trivial ⟨⟨fun hf => (by rw [hmv] at hf; cases hf), fun _ => rfl⟩, H⟩
    · have := ready_mono hj hji
      rw [H.1] at this
      cases this
  | f + 1, L, a, w, hfree, hr, hy, H => by
    refine ⟨fun h0 => (by rw [h0] at hr; cases hr), fun j hj => ?_⟩
    by_cases hji : j = i
    · subst hji; exact hy.now hi trivial ⟨⟨fun hf => (by rw [hmv] at hf; cases hf), fun _ => rfl⟩, H⟩
    · obtain ⟨hju, oj, hoj, hall⟩ := mem_ready.1 hj
      have hiu := (mem_ready.1 hr).1
      have hnot : ∀ e ∈ oj.after, Region.binds .any e = true → e.on ≠ i := fun e he hb heq => by
        have h1 := hall e he hb
        rw [heq] at h1
        exact unlisted hiu h1
      have h2 := wpOp_apart (C := fun _ => True) hoj (hfree j oj hoj hji hju hnot) (fun cs b => hsel i oi cs b hi) (fun cs b => hsel j oj cs b hoj) hQ hy (H.2 j (ready_mono hj hji))
      refine wpOp_mono (fun a' w' h3 => ?_) h2
      obtain ⟨hy', hc', hn'⟩ := h3
      refine ⟨hc', anyC_firstT hi hmv hsel hQ f (L.setIfInBounds j true) a' w' ?_ (ready_mono hr (Ne.symm hji)) hy' ?_⟩
      · intro l ol hl hli hlu hno
        refine hfree l ol hl hli ?_ hno
        by_cases hjl : j = l
        · subst hjl; exact hju
        · rw [getD_set_ne true hjl] at hlu; exact hlu
      · rw [Array.setIfInBounds_comm _ _ hji]; exact hn'
end

/-! ## Lists with keys -/
section
variable {α : Type}
theorem mget_append (A B : List (Nat × Ck)) (t : Nat) : mget (A ++ B) t = (mget A t).or (mget B t) := by
  induction A with
  | nil => simp [mget]
  | cons p r ih =>
    obtain ⟨i, v⟩ := p
    rw [List.cons_append, mget_cons, mget_cons, ih]
    split <;> simp
theorem mget_tags_in : ∀ {ts : List Nat} {cs : List Ck} {t : Nat}, t ∉ ts → mget (tags ts cs) t = none
  | [], cs, _, _ => by cases cs <;> simp [tags, mget]
  | x :: ts, [], _, _ => by simp [tags, mget]
  | x :: ts, c :: cs, t, h => by
    simp only [List.mem_cons, not_or] at h
    simp only [tags]
    rw [mget_cons, if_neg (fun e => h.1 e.symm)]
    exact mget_tags_in h.2
theorem fresh_none {M : List (Nat × Ck)} : ∀ {ts : List Nat}, fresh M ts = true → ∀ t ∈ ts, mget M t = none
  | [], _, t, h => by simp at h
  | x :: ts, hf, t, h => by
    simp only [fresh, Bool.and_eq_true] at hf
    rcases List.mem_cons.1 h with rfl | h
    · simpa using hf.1.1
    · exact fresh_none hf.2 t h
theorem Sat.of_get {N : Nat} {e e' : List (Nat × Value)} {a : Act} (h : Sat N e a) (hs : ∀ i v, get e' i = some v → get e i = some v) : Sat N e' a := ⟨h.size, h.defers, fun i v hi => h.slot i v (hs i v hi)⟩
theorem Mem.of_get {w0 w : World} {D : Blocks} {M M' : List (Nat × Ck)} (h : Mem w0 D M w) (key : ∀ t c, mget M' t = some c → mget M t = some c) : Mem w0 D M' w :=
  ⟨h.os, h.tape, h.output, h.size, h.keep, fun t c ht => h.holds t c (key t c ht), fun t c ht => h.stable t c (key t c ht), fun t c ht => h.below t c (key t c ht),
    fun t c ht => h.above t c (key t c ht), fun t c t' c' ht ht' hn => h.apart t c t' c' (key t c ht) (key t' c' ht') hn⟩
end

/-! ## Operations that may come at any time -/
structure PU where
  i : Nat
  d : Nat
  ts : List Nat
  out : Value → List Ck → Prop

abbrev Done := List (PU × Value × List Ck)
def dL : Done → Array Bool → Array Bool
  | [], L => L
  | x :: l, L => (dL l L).setIfInBounds x.1.i true
def dE : Done → List (Nat × Value) → List (Nat × Value)
  | [], e => e
  | x :: l, e => (x.1.d, x.2.1) :: dE l e
def dM : Done → List (Nat × Ck) → List (Nat × Ck)
  | [], M => M
  | x :: l, M => tags x.1.ts x.2.2 ++ dM l M
def okD (ps : List PU) (l : Done) : Prop := (∀ x ∈ l, x.1 ∈ ps ∧ x.1.out x.2.1 x.2.2) ∧ (l.map (·.1.i)).Nodup

/-- The pending ones have numbers, slots and tags of their own. -/
def okP (e : List (Nat × Value)) (M : List (Nat × Ck)) : List PU → Bool
  | [] => true
  | p :: r => (get e p.d).isNone && fresh M p.ts && (r.all fun q => !(Nat.beq q.i p.i) && !(Nat.beq q.d p.d) && q.ts.all fun t => !(p.ts.contains t)) && okP e M r

/-- That an operation yields what it yields, as a step of a region. -/
def Does (P : Program) (ops : Array Oper) (Q : Exit → Act → World → Prop) (N : Nat) (w0 : World) (D : Blocks) (e : List (Nat × Value)) (M : List (Nat × Ck)) (j d : Nat) (out : Value → List Ck → Prop) : Prop :=
  ∀ a w, Sat N e a → Mem w0 D M w → ∀ K : Act → World → Prop, (∀ v cs w', out v cs → Grows w Nob cs w' → K (a.put (some d) v) w') → wpOp P ops Q j K a w

section
variable {P : Program} {fn : Func} {R : Ending → World → Prop} {N : Nat} {w0 : World} {D : Blocks} {e : List (Nat × Value)} {M : List (Nat × Ck)} {k : List It} {ops : Array Oper} {m : Nat × List Nat} {ps : List PU} {f : Nat} {L : Array Bool}

theorem okP_mem : ∀ {ps : List PU}, okP e M ps = true → ∀ p ∈ ps, get e p.d = none ∧ fresh M p.ts = true
  | [], _, p, h => by simp at h
  | q :: r, hk, p, h => by
    simp only [okP, Bool.and_eq_true] at hk
    rcases List.mem_cons.1 h with rfl | h
    · exact ⟨by simpa using hk.1.1.1, hk.1.1.2⟩
    · exact okP_mem hk.2 p h
theorem okP_two : ∀ {ps : List PU}, okP e M ps = true → ∀ p ∈ ps, ∀ q ∈ ps, p.i ≠ q.i → p.d ≠ q.d ∧ ∀ t ∈ p.ts, t ∉ q.ts
  | [], _, p, h, _, _, _ => by simp at h
  | x :: r, hk, p, hp, q, hq, hne => by
    simp only [okP, Bool.and_eq_true] at hk
    have hx : ∀ y ∈ r, y.d ≠ x.d ∧ ∀ t ∈ y.ts, t ∉ x.ts := by
      intro y hy
      have h1 := List.all_eq_true.1 hk.1.2 y hy
      simp only [Bool.and_eq_true, Bool.not_eq_true'] at h1
      refine ⟨fun e => ?_, fun t ht hx => ?_⟩
      · have := h1.1.2; rw [e] at this; simp at this
      · have h2 := List.all_eq_true.1 h1.2 t ht
        simp at h2; exact h2 hx
    rcases List.mem_cons.1 hp with hp1 | hp1 <;> rcases List.mem_cons.1 hq with hq1 | hq1
    · exact absurd (by rw [hp1, hq1]) hne
    · rw [hp1]; exact ⟨fun e => (hx q hq1).1 e.symm, fun t h1 h2 => (hx q hq1).2 t h2 h1⟩
    · rw [hq1]; exact hx p hp1
    · exact okP_two hk.2 p hp1 q hq1 hne

theorem pigeon : ∀ {xs ys : List Nat}, xs.Nodup → (∀ x ∈ xs, x ∈ ys) → xs.length ≤ ys.length
  | [], _, _, _ => Nat.zero_le _
  | x :: xs, ys, hn, hs => by
    obtain ⟨h1, h2⟩ := List.nodup_cons.1 hn
    have hx : x ∈ ys := hs x (by simp)
    have := pigeon (ys := ys.erase x) h2 (fun z hz => (List.mem_erase_of_ne (fun e => h1 (by rw [← e]; exact hz))).2 (hs z (List.mem_cons_of_mem _ hz)))
    rw [List.length_erase_of_mem hx] at this
    have : 0 < ys.length := List.length_pos_of_mem hx
    simp only [List.length_cons]; omega
theorem okD_len {l : Done} (h : okD ps l) : l.length ≤ ps.length := by
  have := pigeon (ys := ps.map (·.i)) h.2 (fun x hx => by
    obtain ⟨y, hy, rfl⟩ := List.mem_map.1 hx
    exact List.mem_map.2 ⟨y.1, (h.1 y hy).1, rfl⟩)
  simpa using this
theorem dE_get {l : Done} : (∀ x ∈ l, get e x.1.d = none) → ∀ i v, get e i = some v → get (dE l e) i = some v := by
  induction l with
  | nil => intro _ i v h; exact h
  | cons x l ih =>
    intro hx i v h
    simp only [dE]
    rw [get_cons]
    by_cases hi : x.1.d = i
    · have := hx x (by simp)
      rw [hi, h] at this; cases this
    · rw [if_neg hi]; exact ih (fun y hy => hx y (List.mem_cons_of_mem _ hy)) i v h
theorem dM_get {l : Done} : (∀ x ∈ l, ∀ t ∈ x.1.ts, mget M t = none) → ∀ t c, mget M t = some c → mget (dM l M) t = some c := by
  induction l with
  | nil => intro _ i v h; exact h
  | cons x l ih =>
    intro hx t c h
    simp only [dM]
    rw [mget_append]
    have ht : t ∉ x.1.ts := fun hm => by
      have := hx x (by simp) t hm
      rw [h] at this; cases this
    rw [mget_tags_in ht, Option.none_or]
    exact ih (fun y hy => hx y (List.mem_cons_of_mem _ hy)) t c h
theorem dE_cons {d : Nat} {v : Value} {l : Done} (hd : ∀ x ∈ l, x.1.d ≠ d) (i : Nat) : get (dE l ((d, v) :: e)) i = get ((d, v) :: dE l e) i := by
  induction l with
  | nil => rfl
  | cons x l ih =>
    have h1 := hd x (by simp)
    simp only [dE]
    rw [get_cons, get_cons, get_cons, ih (fun y hy => hd y (List.mem_cons_of_mem _ hy)), get_cons]
    by_cases h2 : x.1.d = i
    · subst h2; rw [if_pos rfl, if_neg (fun e => h1 e.symm), if_pos rfl]
    · rw [if_neg h2, if_neg h2]
theorem dM_tags {T : List Nat} {cs : List Ck} {l : Done} (hd : ∀ x ∈ l, ∀ t ∈ x.1.ts, t ∉ T) (t : Nat) : mget (dM l (tags T cs ++ M)) t = mget (tags T cs ++ dM l M) t := by
  induction l with
  | nil => rfl
  | cons x l ih =>
    have h1 := hd x (by simp)
    simp only [dM]
    rw [mget_append, ih (fun y hy => hd y (List.mem_cons_of_mem _ hy)), mget_append, mget_append, mget_append]
    by_cases h2 : t ∈ x.1.ts
    · rw [mget_tags_in (h1 t h2)]; simp
    · rw [mget_tags_in h2]; simp
theorem dL_set {i : Nat} {l : Done} (hd : ∀ x ∈ l, x.1.i ≠ i) : dL l (L.setIfInBounds i true) = (dL l L).setIfInBounds i true := by
  induction l with
  | nil => rfl
  | cons x l ih =>
    simp only [dL]
    rw [ih (fun y hy => hd y (List.mem_cons_of_mem _ hy)), Array.setIfInBounds_comm _ _ (fun e => hd x (by simp) e.symm)]
theorem ready_dL {i : Nat} {l : Done} (hi : i ∈ Region.ready .any ops L) (hd : ∀ x ∈ l, x.1.i ≠ i) : i ∈ Region.ready .any ops (dL l L) := by
  induction l with
  | nil => exact hi
  | cons x l ih => exact ready_mono (ih (fun y hy => hd y (List.mem_cons_of_mem _ hy))) (fun e => hd x (by simp) e.symm)
theorem getD_dL {i : Nat} {l : Done} (h : (dL l L).getD i true = false) : L.getD i true = false ∧ ∀ x ∈ l, x.1.i ≠ i := by
  induction l with
  | nil => exact ⟨h, by simp⟩
  | cons x l ih =>
    simp only [dL] at h
    have hne : x.1.i ≠ i := by
      intro he
      subst he
      rcases Nat.lt_or_ge x.1.i (dL l L).size with h' | h'
      · simp [h'] at h
      · simp [Array.getElem?_eq_none h'] at h
    rw [getD_set_ne true hne] at h
    obtain ⟨h1, h2⟩ := ih h
    exact ⟨h1, fun y hy => by rcases List.mem_cons.1 hy with rfl | hy; exact hne; exact h2 y hy⟩
theorem closed_dL {l : Done} (hc : Closed ops L) (hr : ∀ x ∈ l, x.1.i ∈ Region.ready .any ops L) (hn : (l.map (·.1.i)).Nodup) : Closed ops (dL l L) := by
  induction l with
  | nil => exact hc
  | cons x l ih =>
    obtain ⟨h1, h2⟩ := List.nodup_cons.1 hn
    refine (ih (fun y hy => hr y (List.mem_cons_of_mem _ hy)) h2).set ?_
    exact ready_dL (hr x (by simp)) (fun y hy he => h1 (List.mem_map.2 ⟨y, hy, he⟩))

/-- The region goes well in whatever order from here on, the pending ones done or not. -/
def GP (P : Program) (fn : Func) (R : Ending → World → Prop) (N : Nat) (w0 : World) (D : Blocks) (e : List (Nat × Value)) (M : List (Nat × Ck)) (k : List It) (ops : Array Oper) (m : Nat × List Nat) (ps : List PU) (f : Nat) (L : Array Bool) : Prop :=
  ∀ l, okD ps l → ∀ a w, Sat N (dE l e) a → Mem w0 D (dM l M) w → anyC P ops (ext P fn R k) m (Mem w0 D M) (f - l.length) (dL l L) a w

theorem GP_facts {l : Done} (hk : okP e M ps = true) (hl : okD ps l) {a : Act} {w : World} (hs : Sat N (dE l e) a) (hm : Mem w0 D (dM l M) w) : Sat N e a ∧ Mem w0 D M w :=
  ⟨hs.of_get (dE_get fun x hx => (okP_mem hk _ (hl.1 x hx).1).1), hm.of_get (dM_get fun x hx t ht => fresh_none (okP_mem hk _ (hl.1 x hx).1).2 t ht)⟩

theorem ext_panic : ∀ (k : List It) (c : List PanicEntry) (a : Act) (w : World), ext P fn R k (.panic c) a w = bodyPost P fn R (.panic c) a w
  | [], _, _, _ => by simp [ext]
  | x :: k, c, a, w => by cases x <;> simp [ext, ext_panic k]

class Mix (P : Program) : Prop where
  h : P.follows .mixedOrders = true

/-- The region begins: none is done. -/
theorem g_any {id : Nat} {l : List Oper} (m : Nat × List Nat) [hmix : Mix P] (h : GP P fn R N w0 D e M k l.toArray m [] l.length (Array.replicate l.length false)) : G P fn R N w0 D e M (.code (.region id l.toArray true) :: k) := by
  intro a w hs hm
  simp only [ext]
  refine wp_region_any hmix.h ?_
  have := anyC_any _ _ _ _ (h [] ⟨by simp, by simp⟩ a { w with drawn := w.drawn + 1 } hs hm.drawn)
  simpa [dL] using this

/-- An operation is pending from here on. -/
theorem a_pend (p : PU) (h : GP P fn R N w0 D e M k ops m (p :: ps) f L) : GP P fn R N w0 D e M k ops m ps f L :=
  fun l hl a w hs hm => h l ⟨fun x hx => ⟨List.mem_cons_of_mem _ (hl.1 x hx).1, (hl.1 x hx).2⟩, hl.2⟩ a w hs hm

theorem a_first {i d : Nat} {o : Oper} {v : Value} (hf : Nat.blt ps.length f = true) (hk : okP e M ps = true) (hi : ops[i]? = some o) (hd : o.dst = some d) (hN : Nat.blt d N = true)
    (hsel : Region.noSelect ops = true) (hcl : closedB ops L = true) (hpr : (ps.all fun p => (Region.ready .any ops L).contains p.i) = true) (hr : (Region.ready .any ops L).contains i = true) (hfr : Region.free .any ops L i = true)
    (hwt : ((List.range ops.size).all fun j => Nat.blt j m.1 || m.2.contains j || Nat.beq j i || waits ops ops.size j i) = true) (hpd : (ps.all fun p => !(Nat.beq p.d d) && !(Nat.beq p.i i)) = true)
    (hy : ∀ a, Sat N e a → YC P ops (Mem w0 D M) o v a) (h : GP P fn R N w0 D ((d, v) :: e) M k ops m ps (f - 1) (L.setIfInBounds i true)) : GP P fn R N w0 D e M k ops m ps f L := by
  intro l hl a w hs hm
  obtain ⟨hs0, hm0⟩ := GP_facts hk hl hs hm
  have hlen := okD_len hl
  have hf' : ps.length < f := by simpa [Nat.blt_eq] using hf
  have hne : ∀ x ∈ l, x.1.d ≠ d ∧ x.1.i ≠ i := by
    intro x hx
    have h1 := List.all_eq_true.1 hpd x.1 (hl.1 x hx).1
    simp only [Bool.and_eq_true, Bool.not_eq_true'] at h1
    exact ⟨fun e => by have := h1.1; rw [e] at this; simp at this, fun e => by have := h1.2; rw [e] at this; simp at this⟩
  have hri : i ∈ Region.ready .any ops L := by simpa using hr
  rw [show f - l.length = (f - 1 - l.length) + 1 by omega]
  refine anyC_first hi (fun j hj hx hjs hji => ⟨ops.size, ?_⟩) (Region.noSelect_spec hsel) ?_ _ _ a w hm0 ?_ ?_ (ready_dL hri (fun x hx => (hne x hx).2)) (hy a hs0) ?_
  · have h1 := List.all_eq_true.1 hwt j (List.mem_range.2 hjs)
    simp only [Bool.or_eq_true] at h1
    rcases h1 with ((h1 | h1) | h1) | h1
    · have : j < m.1 := by simpa [Nat.blt_eq] using h1
      omega
    · rw [hx] at h1; cases h1
    · exact absurd (Nat.eq_of_beq_eq_true h1) hji
    · exact h1
  · intro c b w' hb
    rw [ext_panic] at hb ⊢
    rw [hd] at hb
    exact hb
  · exact closed_dL (closed_of hcl) (fun x hx => by
      have := List.all_eq_true.1 hpr x.1 (hl.1 x hx).1
      simpa using this) hl.2
  · intro j oj hj hji hu hno
    exact Region.free_spec hi hfr j oj hj hji (getD_dL hu).1 hno
  · rw [hd, ← dL_set (fun x hx => (hne x hx).2)]
    refine h l hl _ w ?_ hm
    refine (hs.put (by simpa [Nat.blt_eq] using hN) v).of_get fun i' v' hv' => ?_
    rw [dE_cons (fun x hx => (hne x hx).1)] at hv'
    exact hv'

/-- A move between slots may be taken first. -/
theorem a_firstT {i d : Nat} {o : Oper} {v : Value} (hf : Nat.blt ps.length f = true) (hk : okP e M ps = true) (hi : ops[i]? = some o) (hd : o.dst = some d) (hN : Nat.blt d N = true)
    (hmv : m.2.contains i = true) (hsel : Region.noSelect ops = true) (hr : (Region.ready .any ops L).contains i = true) (hfr : Region.free .any ops L i = true)
    (hpd : (ps.all fun p => !(Nat.beq p.d d) && !(Nat.beq p.i i)) = true)
    (hy : ∀ a, Sat N e a → YC P ops (fun _ => True) o v a) (h : GP P fn R N w0 D ((d, v) :: e) M k ops m ps (f - 1) (L.setIfInBounds i true)) : GP P fn R N w0 D e M k ops m ps f L := by
  intro l hl a w hs hm
  obtain ⟨hs0, hm0⟩ := GP_facts hk hl hs hm
  have hlen := okD_len hl
  have hf' : ps.length < f := by simpa [Nat.blt_eq] using hf
  have hne : ∀ x ∈ l, x.1.d ≠ d ∧ x.1.i ≠ i := by
    intro x hx
    have h1 := List.all_eq_true.1 hpd x.1 (hl.1 x hx).1
    simp only [Bool.and_eq_true, Bool.not_eq_true'] at h1
    exact ⟨fun e => by have := h1.1; rw [e] at this; simp at this, fun e => by have := h1.2; rw [e] at this; simp at this⟩
  have hri : i ∈ Region.ready .any ops L := by simpa using hr
  rw [show f - l.length = (f - 1 - l.length) + 1 by omega]
  refine anyC_firstT hi hmv (Region.noSelect_spec hsel) ?_ _ _ a w ?_ (ready_dL hri (fun x hx => (hne x hx).2)) (hy a hs0) ?_
  · intro c b w' hb
    rw [ext_panic] at hb ⊢
    rw [hd] at hb
    exact hb
  · intro j oj hj hji hu hno
    exact Region.free_spec hi hfr j oj hj hji (getD_dL hu).1 hno
  · rw [hd, ← dL_set (fun x hx => (hne x hx).2)]
    refine h l hl _ w ?_ hm
    refine (hs.put (by simpa [Nat.blt_eq] using hN) v).of_get fun i' v' hv' => ?_
    rw [dE_cons (fun x hx => (hne x hx).1)] at hv'
    exact hv'

/-- All that is asked of a region's text where an operation is taken first. -/
def firstOk (ops : Array Oper) (m : Nat × List Nat) (ids : List (Nat × Nat)) (L : Array Bool) (i d : Nat) : Bool :=
  Region.noSelect ops && closedB ops L && (Region.ready .any ops L).contains i && Region.free .any ops L i &&
  ((List.range ops.size).all fun j => Nat.blt j m.1 || m.2.contains j || Nat.beq j i || waits ops ops.size j i) &&
  ids.all fun x => (Region.ready .any ops L).contains x.1 && !(Nat.beq x.2 d) && !(Nat.beq x.1 i)
def idsOf : List PU → List (Nat × Nat)
  | [] => []
  | p :: r => (p.i, p.d) :: idsOf r
theorem idsOf_mem : ∀ {ps : List PU}, ∀ p ∈ ps, (p.i, p.d) ∈ idsOf ps
  | [], p, h => by simp at h
  | q :: r, p, h => by
    rcases List.mem_cons.1 h with rfl | h
    · simp [idsOf]
    · exact List.mem_cons_of_mem _ (idsOf_mem p h)
theorem a_firstOk {i d : Nat} {o : Oper} {v : Value} (hi : ops[i]? = some o) (hd : o.dst = some d) (hN : Nat.blt d N = true) (hf : Nat.blt ps.length f = true) (hk : okP e M ps = true) (hB : firstOk ops m (idsOf ps) L i d = true)
    (hy : ∀ a, Sat N e a → YC P ops (Mem w0 D M) o v a) (h : GP P fn R N w0 D ((d, v) :: e) M k ops m ps (f - 1) (L.setIfInBounds i true)) : GP P fn R N w0 D e M k ops m ps f L := by
  simp only [firstOk, Bool.and_eq_true] at hB
  obtain ⟨⟨⟨⟨⟨h1, h2⟩, h3⟩, h4⟩, h5⟩, h6⟩ := hB
  have h7 : ∀ p ∈ ps, (Region.ready .any ops L).contains p.i = true ∧ Nat.beq p.d d = false ∧ Nat.beq p.i i = false := fun p hp => by
    have := List.all_eq_true.1 h6 _ (idsOf_mem p hp)
    simp only [Bool.and_eq_true, Bool.not_eq_true'] at this
    exact ⟨this.1.1, this.1.2, this.2⟩
  exact a_first hf hk hi hd hN h1 h2 (List.all_eq_true.2 fun p hp => (h7 p hp).1) h3 h4 h5 (List.all_eq_true.2 fun p hp => by simp only [(h7 p hp).2.1, (h7 p hp).2.2]; rfl) hy h
theorem a_pu (i : Nat) {d : Nat} {o : Oper} {v : Value} (hi : ops[i]? = some o) (hd : o.dst = some d) (hN : Nat.blt d N = true) (hw : wantE ops e o = some true) (hp : Pu P N w0 D e M o v)
    (hf : Nat.blt ps.length f = true) (hk : okP e M ps = true) (hB : firstOk ops m (idsOf ps) L i d = true)
    (h : GP P fn R N w0 D ((d, v) :: e) M k ops m ps (f - 1) (L.setIfInBounds i true)) : GP P fn R N w0 D e M k ops m ps f L :=
  a_firstOk hi hd hN hf hk hB (fun a hs => .inl ⟨wantE_spec hs hw, fun w hm => hp a w hs hm⟩) h
/-- A move between slots. -/
theorem a_mv (i : Nat) {d : Nat} {o : Oper} {v : Value} (hi : ops[i]? = some o) (hd : o.dst = some d) (hN : Nat.blt d N = true) (hw : wantE ops e o = some true) (hp : ∀ w1, Pu P N w1 Nob e [] o v)
    (hf : Nat.blt ps.length f = true) (hk : okP e M ps = true) (hmv : m.2.contains i = true) (hsel : Region.noSelect ops = true) (hr : (Region.ready .any ops L).contains i = true) (hfr : Region.free .any ops L i = true) (hpd : (ps.all fun p => !(Nat.beq p.d d) && !(Nat.beq p.i i)) = true)
    (h : GP P fn R N w0 D ((d, v) :: e) M k ops m ps (f - 1) (L.setIfInBounds i true)) : GP P fn R N w0 D e M k ops m ps f L :=
  a_firstT hf hk hi hd hN hmv hsel hr hfr hpd (fun a hs => .inl ⟨wantE_spec hs hw, fun w _ => hp w a w hs (Mem.start w)⟩) h
theorem a_pass (i : Nat) {d : Nat} {o : Oper} (hi : ops[i]? = some o) (hd : o.dst = some d) (hN : Nat.blt d N = true) (hw : wantE ops e o = some false)
    (hf : Nat.blt ps.length f = true) (hk : okP e M ps = true) (hB : firstOk ops m (idsOf ps) L i d = true)
    (h : GP P fn R N w0 D ((d, undef) :: e) M k ops m ps (f - 1) (L.setIfInBounds i true)) : GP P fn R N w0 D e M k ops m ps f L :=
  a_firstOk hi hd hN hf hk hB (fun a hs => .inr ⟨wantE_spec hs hw, rfl⟩) h

/-- All pending ones done. -/
def allL : List PU → Array Bool → Array Bool
  | [], L => L
  | p :: r, L => (allL r L).setIfInBounds p.i true
theorem allL_true {j : Nat} : ∀ {ps : List PU}, (L.getD j false = true ∨ (∃ p ∈ ps, p.i = j ∧ j < L.size)) → (allL ps L).getD j false = true
  | [], h => by
    rcases h with h | ⟨p, hp, _⟩
    · exact h
    · simp at hp
  | q :: r, h => by
    simp only [allL]
    have hsz : (allL r L).size = L.size := by
      clear h
      induction r with
      | nil => rfl
      | cons q r ih => simp only [allL, Array.size_setIfInBounds]; exact ih
    by_cases hqj : q.i = j
    · subst hqj
      rcases h with h | ⟨p, _, _, hlt⟩
      · exact getD_set_true (allL_true (ps := r) (.inl h))
      · simp [hsz, hlt]
    · rw [getD_set_ne false hqj]
      refine allL_true ?_
      rcases h with h | ⟨p, hp, he, hlt⟩
      · exact .inl h
      · rcases List.mem_cons.1 hp with rfl | hp
        · exact absurd he hqj
        · exact .inr ⟨p, hp, he, hlt⟩
theorem dL_true {j : Nat} {l : Done} (h : (dL l L).getD j false = true) : L.getD j false = true ∨ ∃ x ∈ l, x.1.i = j ∧ j < L.size := by
  induction l with
  | nil => exact .inl h
  | cons x l ih =>
    simp only [dL] at h
    have hsz : (dL l L).size = L.size := by
      clear h ih
      induction l with
      | nil => rfl
      | cons y l ih => simp only [dL, Array.size_setIfInBounds]; exact ih
    by_cases hxj : x.1.i = j
    · subst hxj
      by_cases hlt : x.1.i < L.size
      · exact .inr ⟨x, by simp, rfl, hlt⟩
      · simp [Array.getElem?_eq_none (show (dL l L).size ≤ x.1.i by omega), hsz, hlt] at h
    · rw [getD_set_ne false hxj] at h
      rcases ih h with h1 | ⟨y, hy, h2⟩
      · exact .inl h1
      · exact .inr ⟨y, List.mem_cons_of_mem _ hy, h2⟩
/-- What is ready while some are pending is ready when all of them are done, or pending. -/
theorem ready_all {l : Done} {r : Nat} (hsz : L.size = ops.size) (hl : okD ps l) (hr : r ∈ Region.ready .any ops (dL l L)) (hrp : ∀ p ∈ ps, p.i ≠ r) : r ∈ Region.ready .any ops (allL ps L) := by
  obtain ⟨h1, o, ho, hall⟩ := mem_ready.1 hr
  have hlt : r < L.size := by rw [hsz]; exact (Array.getElem?_eq_some_iff.1 ho).1
  refine mem_ready.2 ⟨?_, o, ho, fun e he hb => ?_⟩
  · have h2 := (getD_dL h1).1
    clear hl hall hr h1
    have : ∀ qs : List PU, (∀ p ∈ qs, p.i ≠ r) → (allL qs L).getD r true = false := by
      intro qs
      induction qs with
      | nil => intro _; exact h2
      | cons q qs ih =>
        intro hq
        simp only [allL]
        rw [getD_set_ne true (hq q (by simp))]
        exact ih (fun p hp => hq p (List.mem_cons_of_mem _ hp))
    exact this ps hrp
  · refine allL_true ?_
    rcases dL_true (hall e he hb) with h2 | ⟨x, hx, h3, h4⟩
    · exact .inl h2
    · exact .inr ⟨x.1, (hl.1 x hx).1, h3, h4⟩

theorem dM_out {l : Done} {t : Nat} (h : ∀ x ∈ l, t ∉ x.1.ts) : mget (dM l M) t = mget M t := by
  induction l with
  | nil => rfl
  | cons x l ih =>
    simp only [dM]
    rw [mget_append, mget_tags_in (h x (by simp)), Option.none_or]
    exact ih (fun y hy => h y (List.mem_cons_of_mem _ hy))
theorem fresh_dM {l : Done} : ∀ {T : List Nat}, (∀ x ∈ l, ∀ t ∈ x.1.ts, t ∉ T) → fresh M T = true → fresh (dM l M) T = true
  | [], _, _ => rfl
  | t :: T, h, hf => by
    simp only [fresh, Bool.and_eq_true] at hf ⊢
    refine ⟨⟨?_, hf.1.2⟩, fresh_dM (fun x hx s hs h' => h x hx s hs (List.mem_cons_of_mem _ h')) hf.2⟩
    rw [dM_out (fun x hx ht => h x hx t ht (by simp))]
    exact hf.1.1
theorem tags_sub {T : List Nat} {cs : List Ck} (hT : fresh M T = true) : ∀ t c, mget M t = some c → mget (tags T cs ++ M) t = some c := by
  intro t c h
  rw [mget_append]
  have ht : t ∉ T := fun hm => by
    have := fresh_none hT t hm
    rw [h] at this; cases this
  rw [mget_tags_in ht, Option.none_or]
  exact h

/-- An operation that comes alone (but for pending ones): a call, or one that makes memory. -/
theorem a_do (j d : Nat) (T : List Nat) {out : Value → List Ck → Prop} (hD : Does P ops (ext P fn R k) N w0 D e M j d out)
    (hdN : Nat.blt d N = true) (hT : fresh M T = true)
    (hf : Nat.blt ps.length f = true) (hk : okP e M ps = true) (hpd : (ps.all fun p => !(Nat.beq p.d d) && !(Nat.beq p.i j) && Nat.blt p.d N && p.ts.all fun t => !(T.contains t)) = true)
    (hsz : Nat.beq L.size ops.size = true) (hr : (Region.ready .any ops L).contains j = true) (hall : Region.ready .any ops (allL ps L) = [j])
    (hX : ((j :: ps.map PU.i).all fun i => !(m.2.contains i)) = true) (hpend : ∀ p ∈ ps, Does P ops (ext P fn R k) N w0 D e M p.i p.d p.out)
    (h : ∀ v cs, out v cs → GP P fn R N w0 D ((d, v) :: e) (tags T cs ++ M) k ops m ps (f - 1) (L.setIfInBounds j true)) : GP P fn R N w0 D e M k ops m ps f L := by
  have hf' : ps.length < f := by simpa [Nat.blt_eq] using hf
  have hsz' : L.size = ops.size := Nat.eq_of_beq_eq_true hsz
  have hne : ∀ p ∈ ps, p.d ≠ d ∧ p.i ≠ j ∧ p.d < N ∧ ∀ t ∈ p.ts, t ∉ T := by
    intro p hp
    have h1 := List.all_eq_true.1 hpd p hp
    simp only [Bool.and_eq_true, Bool.not_eq_true'] at h1
    refine ⟨fun e => by have := h1.1.1.1; rw [e] at this; simp at this, fun e => by have := h1.1.1.2; rw [e] at this; simp at this, by simpa [Nat.blt_eq] using h1.1.2, fun t ht hx => ?_⟩
    have h2 := List.all_eq_true.1 h1.2 t ht
    simp at h2; exact h2 hx
  have hrj : j ∈ Region.ready .any ops L := by simpa using hr
  have key : ∀ (n : Nat) (l : Done), ps.length - l.length = n → okD ps l → ∀ a w, Sat N (dE l e) a → Mem w0 D (dM l M) w → anyC P ops (ext P fn R k) m (Mem w0 D M) (f - l.length) (dL l L) a w := by
    intro n
    induction n using Nat.strongRecOn with
    | _ n ih =>
      intro l hn hl a w hs hm
      obtain ⟨hs0, hm0⟩ := GP_facts hk hl hs hm
      have hlen := okD_len hl
      have hjl : ∀ x ∈ l, x.1.i ≠ j := fun x hx => (hne _ (hl.1 x hx).1).2.1
      have hrj' := ready_dL hrj hjl
      rw [show f - l.length = (f - 1 - l.length) + 1 by omega]
      refine ⟨fun h0 => (by rw [h0] at hrj'; cases hrj'), fun r hr' => ?_⟩
      by_cases hrjj : r = j
      · subst hrjj
        have hXr : m.2.contains r = false := by
          have := List.all_eq_true.1 hX r (by simp)
          simpa using this
        refine hD a w hs0 hm0 _ (fun v cs w' ho hg => ?_)
        have hmw := hm.grow hg T (fresh_dM (fun x hx t ht => (hne _ (hl.1 x hx).1).2.2.2 t ht) hT)
        have hmw' : Mem w0 D (dM l (tags T cs ++ M)) w' := hmw.of_get fun t c ht => by
            rw [dM_tags (fun x hx => (hne _ (hl.1 x hx).1).2.2.2)] at ht
            exact ht
        have h4 := h v cs ho l hl (a.put (some d) v) w' ((hs.put (by simpa [Nat.blt_eq] using hdN) v).of_get fun i' v' hv' => by
            rw [dE_cons (fun x hx => (hne _ (hl.1 x hx).1).1)] at hv'
            exact hv') hmw'
        rw [dL_set hjl] at h4
        exact ⟨⟨fun _ _ => (hm0.grow hg T hT).of_get (tags_sub hT), fun hx => (by rw [hXr] at hx; cases hx)⟩, anyC_mono (fun u hu => hu.of_get (tags_sub hT)) _ _ _ _ h4⟩
      · have hp : ∃ p ∈ ps, p.i = r := by
          by_cases hex : ∃ p ∈ ps, p.i = r
          · exact hex
          · have h1 := ready_all hsz' hl hr' (fun p hp e => hex ⟨p, hp, e⟩)
            rw [hall] at h1
            exact absurd (by simpa using h1) hrjj
        obtain ⟨p, hp, rfl⟩ := hp
        have hXp : m.2.contains p.i = false := by
          have := List.all_eq_true.1 hX p.i (List.mem_cons_of_mem _ (List.mem_map.2 ⟨p, hp, rfl⟩))
          simpa using this
        have hpl : ∀ x ∈ l, x.1.i ≠ p.i := (getD_dL (mem_ready.1 hr').1).2
        refine hpend p hp a w hs0 hm0 _ (fun v cs w' ho hg => ?_)
        have hl' : okD ps ((p, v, cs) :: l) := by
          refine ⟨fun x hx => ?_, ?_⟩
          · rcases List.mem_cons.1 hx with rfl | hx
            · exact ⟨hp, ho⟩
            · exact hl.1 x hx
          · refine List.nodup_cons.2 ⟨fun hx => ?_, hl.2⟩
            obtain ⟨y, hy, he⟩ := List.mem_map.1 hx
            exact hpl y hy he
        have hlen' := okD_len hl'
        simp only [List.length_cons] at hlen'
        have hfp := (okP_mem hk p hp).2
        have h4 := ih (ps.length - (l.length + 1)) (by omega) ((p, v, cs) :: l) (by simp) hl' (a.put (some p.d) v) w' (hs.put (hne p hp).2.2.1 v)
          (hm.grow hg p.ts (fresh_dM (fun x hx t ht h5 => (okP_two hk x.1 (hl.1 x hx).1 p hp (hpl x hx)).2 t ht h5) hfp))
        simp only [List.length_cons] at h4
        rw [show f - (l.length + 1) = f - 1 - l.length by omega] at h4
        exact ⟨⟨fun _ _ => (hm0.grow hg p.ts hfp).of_get (tags_sub hfp), fun hx => (by rw [hXp] at hx; cases hx)⟩, h4⟩
  exact fun l hl a w hs hm => key _ l rfl hl a w hs hm

theorem dE_split (l1 l2 : Done) (x : PU × Value × List Ck) (h1 : ∀ y ∈ l1, y.1.d ≠ x.1.d) (h2 : ∀ y ∈ l2, y.1.d ≠ x.1.d) (i : Nat) : get (dE (l1 ++ l2) ((x.1.d, x.2.1) :: e)) i = get (dE (l1 ++ x :: l2) e) i := by
  induction l1 with
  | nil => simp only [List.nil_append, dE]; exact dE_cons h2 i
  | cons y l1 ih =>
    simp only [List.cons_append, dE]
    rw [get_cons, get_cons, ih (fun z hz => h1 z (List.mem_cons_of_mem _ hz))]
theorem dM_split (l1 l2 : Done) (x : PU × Value × List Ck) (h2 : ∀ y ∈ l2, ∀ t ∈ y.1.ts, t ∉ x.1.ts) (i : Nat) : mget (dM (l1 ++ l2) (tags x.1.ts x.2.2 ++ M)) i = mget (dM (l1 ++ x :: l2) M) i := by
  induction l1 with
  | nil => simp only [List.nil_append, dM]; exact dM_tags h2 i
  | cons y l1 ih =>
    simp only [List.cons_append, dM]
    rw [mget_append, mget_append, ih]
theorem dL_split (l1 l2 : Done) (x : PU × Value × List Ck) (h2 : ∀ y ∈ l2, y.1.i ≠ x.1.i) : dL (l1 ++ l2) (L.setIfInBounds x.1.i true) = dL (l1 ++ x :: l2) L := by
  induction l1 with
  | nil => simp only [List.nil_append, dL]; exact dL_set h2
  | cons y l1 ih =>
    simp only [List.cons_append, dL]
    rw [ih]

/-- A pending operation that all the rest waits for. -/
theorem a_force (p : PU) (hf : Nat.blt (ps.length + 1) (f + 1) = true) (hk : okP e M (p :: ps) = true) (hN : ((p :: ps).all fun q => Nat.blt q.d N) = true) (hnd : (ps.all fun q => !(Nat.beq q.d p.d) && !(Nat.beq q.i p.i) && q.ts.all fun t => !(p.ts.contains t)) = true)
    (hsz : Nat.beq L.size ops.size = true) (hr : (Region.ready .any ops L).contains p.i = true) (hall : Region.ready .any ops (allL ps L) = [p.i])
    (hX : ((p :: ps).map PU.i).all (fun i => !(m.2.contains i)) = true) (hpend : ∀ q ∈ p :: ps, Does P ops (ext P fn R k) N w0 D e M q.i q.d q.out)
    (h : ∀ v cs, p.out v cs → GP P fn R N w0 D ((p.d, v) :: e) (tags p.ts cs ++ M) k ops m ps (f - 1) (L.setIfInBounds p.i true)) : GP P fn R N w0 D e M k ops m (p :: ps) f L := by
  have hk' : okP e M ps = true := by simp only [okP, Bool.and_eq_true] at hk; exact hk.2
  have hfp : fresh M p.ts = true := (okP_mem hk p (by simp)).2
  have hdo : GP P fn R N w0 D e M k ops m ps f L := by
    refine a_do p.i p.d p.ts (hpend p (by simp)) (List.all_eq_true.1 hN p (by simp)) hfp ?_ hk' ?_ hsz hr hall (by simpa using hX) (fun q hq => hpend q (List.mem_cons_of_mem _ hq)) h
    · simp only [Nat.blt_eq] at hf ⊢; omega
    · refine List.all_eq_true.2 fun q hq => ?_
      have h1 := List.all_eq_true.1 hnd q hq
      have h2 := List.all_eq_true.1 hN q (List.mem_cons_of_mem _ hq)
      simp only [Bool.and_eq_true] at h1 ⊢
      exact ⟨⟨h1.1, h2⟩, h1.2⟩
  intro l hl a w hs hm
  by_cases hex : ∃ x ∈ l, x.1.i = p.i
  · obtain ⟨x, hx, hxi⟩ := hex
    have hxp : x.1 = p := by
      rcases List.mem_cons.1 (hl.1 x hx).1 with h1 | h1
      · exact h1
      · have h2 := List.all_eq_true.1 hnd x.1 h1
        simp only [Bool.and_eq_true, Bool.not_eq_true'] at h2
        have h3 := h2.1.2
        rw [hxi] at h3; simp at h3
    obtain ⟨l1, l2, rfl⟩ := List.append_of_mem hx
    have hnn : ∀ y, y ∈ l1 ∨ y ∈ l2 → y.1.i ≠ p.i := by
      intro y hy he
      have h1 := hl.2
      rw [List.map_append, List.map_cons] at h1
      have h2 := List.nodup_append.1 h1
      rcases hy with hy | hy
      · exact h2.2.2 y.1.i (List.mem_map.2 ⟨y, hy, rfl⟩) x.1.i (by simp) (by rw [he, hxi])
      · have h3 := (List.nodup_cons.1 h2.2.1).1
        exact h3 (by rw [hxi, ← he]; exact List.mem_map.2 ⟨y, hy, rfl⟩)
    have hin : ∀ y, y ∈ l1 ∨ y ∈ l2 → y.1 ∈ ps := by
      intro y hy
      have h1 := (hl.1 y (by rcases hy with hy | hy <;> simp [hy])).1
      rcases List.mem_cons.1 h1 with h2 | h2
      · exact absurd (by rw [h2]) (hnn y hy)
      · exact h2
    have hl' : okD ps (l1 ++ l2) := by
      refine ⟨fun y hy => ⟨hin y (List.mem_append.1 hy), (hl.1 y (by rcases List.mem_append.1 hy with hy | hy <;> simp [hy])).2⟩, ?_⟩
      have h1 := hl.2
      rw [List.map_append, List.map_cons] at h1
      rw [List.map_append]
      exact h1.sublist (List.Sublist.append (List.Sublist.refl _) (List.sublist_cons_self _ _))
    have hd : ∀ y, y ∈ l1 ∨ y ∈ l2 → y.1.d ≠ x.1.d ∧ ∀ t ∈ y.1.ts, t ∉ x.1.ts := by
      intro y hy
      rw [hxp]
      exact okP_two hk y.1 (List.mem_cons_of_mem _ (hin y hy)) p (by simp) (hnn y hy)
    have h4 := h x.2.1 x.2.2 (by have := (hl.1 x hx).2; rw [hxp] at this; exact this) (l1 ++ l2) hl' a w
      (hs.of_get fun i' v' hv' => by
        rw [← hxp, dE_split l1 l2 x (fun y hy => (hd y (.inl hy)).1) (fun y hy => (hd y (.inr hy)).1)] at hv'
        exact hv')
      (hm.of_get fun t c ht => by
        rw [← hxp, dM_split l1 l2 x (fun y hy => (hd y (.inr hy)).2)] at ht
        exact ht)
    rw [← hxp, dL_split l1 l2 x (fun y hy => by rw [hxp]; exact hnn y (.inr hy))] at h4
    rw [show f - (l1 ++ x :: l2).length = f - 1 - (l1 ++ l2).length by simp; omega]
    exact anyC_mono (fun u hu => hu.of_get (by rw [hxp]; exact tags_sub hfp)) _ _ _ _ h4
  · refine hdo l ⟨fun x hx => ?_, hl.2⟩ a w hs hm
    rcases List.mem_cons.1 (hl.1 x hx).1 with h1 | h1
    · exact absurd ⟨x, hx, by rw [h1]⟩ hex
    · exact ⟨h1, (hl.1 x hx).2⟩

/-- What is left comes in one order. -/
def seqOk (ops : Array Oper) : List Nat → Array Bool → Bool
  | [], L => (Region.ready .any ops L).isEmpty
  | j :: js, L => decide (Region.ready .any ops L = [j]) && seqOk ops js (L.setIfInBounds j true)
theorem anyC_seq {Q : Exit → Act → World → Prop} {C : World → Prop} : ∀ (js : List Nat) (l : List Oper) (L : Array Bool) (a : Act) (w : World), js.map (ops[·]?) = l.map some → (∀ j ∈ js, m.1 ≤ j ∧ m.2.contains j = false) → seqOk ops js L = true → wpList P ops Q l a w → anyC P ops Q m C js.length L a w
  | [], l, L, a, w, hl, _, hs, h => by
    have : l = [] := by cases l with | nil => rfl | cons x r => simp at hl
    subst this
    exact ⟨by simpa [seqOk] using hs, h⟩
  | j :: js, [], L, a, w, hl, _, _, _ => by simp at hl
  | j :: js, o :: l, L, a, w, hl, hm, hs, h => by
    simp only [List.map_cons, List.cons.injEq] at hl
    simp only [seqOk, Bool.and_eq_true, decide_eq_true_eq] at hs
    refine ⟨fun h1 => (by rw [hs.1] at h1; cases h1), fun i hi => ?_⟩
    rw [hs.1] at hi
    obtain rfl : i = j := by simpa using hi
    have hw : wpOp P ops Q i (wpList P ops Q l) a w := by unfold wpOp; simp only [hl.1]; exact h
    exact wpOp_mono (fun a' w' h' => ⟨⟨fun _ hlt => absurd (hm i (by simp)).1 (by omega), fun hx => (by rw [(hm i (by simp)).2] at hx; cases hx)⟩, anyC_seq js l _ a' w' hl.2 (fun z hz => hm z (List.mem_cons_of_mem _ hz)) hs.2 h'⟩) hw
theorem a_seq (js : List Nat) {l : List Oper} (hf : Nat.beq js.length f = true) (hl : js.map (ops[·]?) = l.map some) (hm : (js.all fun j => Nat.ble m.1 j && !(m.2.contains j)) = true) (hs : seqOk ops js L = true)
    (h : G P fn R N w0 D e M (.ops ops l :: k)) : GP P fn R N w0 D e M k ops m [] f L := by
  intro dn hd a w hsat hmem
  have : dn = [] := by
    cases dn with
    | nil => rfl
    | cons x r => have := (hd.1 x (by simp)).1; simp at this
  subst this
  obtain rfl : js.length = f := Nat.eq_of_beq_eq_true hf
  have h1 := h a w hsat hmem
  simp only [ext] at h1
  exact anyC_seq js l L a w hl (fun j hj => by have := List.all_eq_true.1 hm j hj; simpa [Nat.ble_eq] using this) hs h1
def opsOf (ops : Array Oper) : List Nat → List Oper
  | [] => []
  | j :: r => (ops.getD j default) :: opsOf ops r
theorem opsOf_map : ∀ {js : List Nat}, (js.all fun j => Nat.blt j ops.size) = true → js.map (ops[·]?) = (opsOf ops js).map some
  | [], _ => rfl
  | j :: r, h => by
    simp only [List.all_cons, Bool.and_eq_true] at h
    have hj : j < ops.size := by simpa [Nat.blt_eq] using h.1
    simp only [List.map_cons, opsOf, opsOf_map h.2]
    congr 1
    simp [Array.getD, hj]
/-- What is left comes in one order. -/
theorem a_tail (js : List Nat) (hf : Nat.beq js.length f = true) (hl : (js.all fun j => Nat.blt j ops.size) = true) (hm : (js.all fun j => Nat.ble m.1 j && !(m.2.contains j)) = true) (hs : seqOk ops js L = true)
    (h : G P fn R N w0 D e M (.ops ops (opsOf ops js) :: k)) : GP P fn R N w0 D e M k ops m [] f L := a_seq js hf (opsOf_map hl) hm hs h

/-- None is left. -/
theorem a_done (hr : (Region.ready .any ops L).isEmpty = true) (h : G P fn R N w0 D e M k) : GP P fn R N w0 D e M k ops m [] 0 L := by
  intro dn hd a w hsat hmem
  have : dn = [] := by
    cases dn with
    | nil => rfl
    | cons x r => have := (hd.1 x (by simp)).1; simp at this
  subst this
  exact ⟨by show Region.ready .any ops L = []; simpa using hr, h a w hsat hmem⟩

theorem does_lo {j d : Nat} {o : Oper} {σ : Type} {pr : σ → Prop} {val : σ → Value} {new : σ → List Ck} {Q : Exit → Act → World → Prop} (hi : ops[j]? = some o) (hd : o.dst = some d) (hw : wantE ops e o = some true) (hl : Lo P N w0 D e M o pr val new) :
    Does P ops Q N w0 D e M j d (fun v cs => ∃ x, pr x ∧ v = val x ∧ cs = new x) := by
  intro a w hs hm K hK
  obtain ⟨x, w', h1, h2, h3⟩ := hl a w hs hm
  unfold wpOp
  simp only [hi, wantE_spec hs hw, if_true]
  refine .inl ?_
  unfold Oper.wp
  rw [h2]
  simp only [Oper.upon, hd]
  exact hK _ _ w' ⟨x, h1, rfl, rfl⟩ h3
theorem does_call {j d f : Nat} {o : Oper} {xs : List Operand} {tys : Array TypeId} {vs : List Value} {σ : Type} {pr : σ → Prop} {val : σ → Value} {new : σ → List Ck} {Q : Exit → Act → World → Prop} (hi : ops[j]? = some o) (hd : o.dst = some d) (hw : wantE ops e o = some true)
    [hc : Cal P f] (ho : o.op = .call ⟨.value (.func f), xs.toArray, tys⟩) (hx : evs e xs = some vs) (hS : ∀ w, Mem w0 D M w → Spec P f vs.toArray w pr val Nob new) :
    Does P ops Q N w0 D e M j d (fun v cs => ∃ x, pr x ∧ v = val x ∧ cs = new x) := by
  intro a w hs hm K hK
  unfold wpOp
  simp only [hi, wantE_spec hs hw, if_true]
  refine .inl ?_
  unfold Oper.wp
  rw [run_call hc.h ho hs hx]
  simp only [Oper.upon]
  refine (hS w hm).mono ?_
  rintro en w' ⟨x, hp, rfl, hg⟩
  rw [hd]
  exact hK _ _ w' ⟨x, hp, rfl, rfl⟩ hg

end
end Go.Sx

/-
  Slicing, copy, quotients of words, small builtins, strings, and equality of arrays, for the judgement of Sx. No condition: they speak of any program.
-/
namespace Go.Sx
open Go

section
variable {P : Program} {fn : Func} {R : Ending → World → Prop} {N : Nat} {w0 : World} {D : Blocks} {e : List (Nat × Value)} {M : List (Nat × Ck)} {k : List It} {o : Oper} {all : Array Oper} {rest : List Oper}

/-! ## Slicing -/
/-- The address behind a cut: at the capacity's end it stays. -/
def cutp (p : Option Addr) (c l s : Nat) : Option Addr := if c = l then p else p.map (·.add (l * s))
theorem cutp_zero (p : Option Addr) (c s : Nat) : cutp p c 0 s = p := by
  unfold cutp
  split
  · rfl
  · cases p with
    | none => rfl
    | some a => simp [Addr.add]
theorem cutp_some (b off c l : Nat) (h : l < c) : cutp (some ⟨b, off, none⟩) c l 1 = some ⟨b, off + l, none⟩ := by
  unfold cutp
  rw [if_neg (by omega)]
  simp [Addr.add_lit]
theorem RdV.cut {w : World} {p : Option Addr} {L : List Value} {c l : Nat} (h : RdV w p L) (hc : L.length ≤ c) : RdV w (cutp p c l 1) (L.drop l) := by
  by_cases hl : L.drop l = []
  · rw [hl]; exact .inl rfl
  · have hlt : l < L.length := by
      rcases Nat.lt_or_ge l L.length with h1 | h1
      · exact h1
      · exact absurd (List.drop_eq_nil_of_le h1) hl
    rcases h with rfl | ⟨b, off, rfl, hcell⟩
    · simp at hlt
    · rw [cutp_some b off c l (by omega)]
      refine .inr ⟨b, off + l, rfl, fun i v hi => ?_⟩
      rw [List.getElem?_drop] at hi
      have := hcell (l + i) v hi
      rwa [← Nat.add_assoc] at this
theorem RdV.fst {w : World} {p : Option Addr} {L : List Value} {n : Nat} (h : RdV w p L) : RdV w p (L.take n) := by
  have h' : RdV w p (L.take n ++ L.drop n) := by rw [List.take_append_drop]; exact h
  exact h'.take
theorem bs_drop (l : List (BitVec 8)) (n : Nat) : (bs l).drop n = bs (l.drop n) := by simp [bs]
theorem bs_take (l : List (BitVec 8)) (n : Nat) : (bs l).take n = bs (l.take n) := by simp [bs]

theorem pu_slice_lh {t E : TypeId} {x y z : Operand} {p : Option Addr} {n c s : Nat} {kl kh : IntKind} {li hi : Int} (l h : Nat) [hu : Und P t (.slice E)] [hz : Siz P E s] (ho : o.op = .slice t x (some y) (some z) none) (hx : ev e x = some (.slice p n c)) (hy : ev e y = some (.int kl li)) (hz' : ev e z = some (.int kh hi))
    (hl : li = (l : Int)) (hh : hi = (h : Int)) (h1 : l ≤ h) (h2 : h ≤ c) : Pu P N w0 D e M o (.slice (cutp p c l s) (h - l) (c - l)) := fun a w hs hm => by
  subst hl hh
  have e1 : (0 : Int) ≤ (l : Int) ∧ (l : Int) ≤ (h : Int) := by omega
  have e2 : (0 : Int) ≤ (h : Int) ∧ (h : Int) ≤ (c : Int) := by omega
  have e3 : ¬ h < l := by omega
  have e4 : ¬ c < h := by omega
  simp [execOp, ho, hs.eval hx, hs.eval hy, hs.eval hz', Instr.sliceAt, Instr.slice, run_und hu.h, Instr.sliceBounds, Instr.sliceBound, asIntOf, h1, h2, run_size hz.h, cutp, e3, e4]
theorem pu_slice_l {t E : TypeId} {x y : Operand} {p : Option Addr} {n c s : Nat} {kl : IntKind} {li : Int} (l : Nat) [hu : Und P t (.slice E)] [hz : Siz P E s] (ho : o.op = .slice t x (some y) none none) (hx : ev e x = some (.slice p n c)) (hy : ev e y = some (.int kl li))
    (hl : li = (l : Int)) (h1 : l ≤ n) : Pu P N w0 D e M o (.slice (cutp p c l s) (n - l) (c - l)) := fun a w hs hm => by
  subst hl
  simp [execOp, ho, hs.eval hx, hs.eval hy, Instr.sliceAt, Instr.slice, run_und hu.h, Instr.sliceBounds, Instr.sliceBound, asIntOf, h1, run_size hz.h, cutp]
theorem pu_slice_h {t E : TypeId} {x z : Operand} {p : Option Addr} {n c s : Nat} {kh : IntKind} {hi : Int} (h : Nat) [hu : Und P t (.slice E)] [hz : Siz P E s] (ho : o.op = .slice t x none (some z) none) (hx : ev e x = some (.slice p n c)) (hz' : ev e z = some (.int kh hi))
    (hh : hi = (h : Int)) (h2 : h ≤ c) : Pu P N w0 D e M o (.slice p h c) := fun a w hs hm => by
  subst hh
  have e4 : ¬ c < h := by omega
  have := cutp_zero p c s
  unfold cutp at this
  simp only [execOp, ho, hs.eval hx, hs.eval hz', Instr.sliceAt, Instr.slice, run_und hu.h, Instr.sliceBounds, Instr.sliceBound, asIntOf, run_size hz.h, Option.map_some, Option.map_none, Sem.run_bind, Result.andThen_ok, Sem.run_pure]
  rw [if_pos (by omega)]
  cases p <;> simp [Addr.add]
/-- All of an array in memory, as a slice. -/
theorem pu_sliceA {t E : TypeId} {x : Operand} {b off n s : Nat} [hu : Und P t (.array n E)] [hz : Siz P E s] (ho : o.op = .slice t x none none none) (hx : ev e x = some (.pointer (some ⟨b, off, none⟩))) : Pu P N w0 D e M o (.slice (some ⟨b, off, none⟩) n n) := fun a w hs hm => by
  simp only [execOp, ho, hs.eval hx, Instr.sliceAt, Instr.sureAddr, run_und hu.h, Instr.sliceBounds, run_size hz.h, Option.map_none, Sem.run_bind, Result.andThen_ok, Sem.run_pure]
  split <;> simp [Addr.add]
theorem pu_sliceA_l {t E : TypeId} {x y : Operand} {b off n s : Nat} {kl : IntKind} {li : Int} (l : Nat) [hu : Und P t (.array n E)] [hz : Siz P E s] (ho : o.op = .slice t x (some y) none none) (hx : ev e x = some (.pointer (some ⟨b, off, none⟩))) (hy : ev e y = some (.int kl li)) (hl : li = (l : Int)) (h1 : l ≤ n) :
    Pu P N w0 D e M o (.slice (cutp (some ⟨b, off, none⟩) n l s) (n - l) (n - l)) := fun a w hs hm => by
  subst hl
  simp only [execOp, ho, hs.eval hx, hs.eval hy, Instr.sliceAt, Instr.sureAddr, run_und hu.h, Instr.sliceBounds, Instr.sliceBound, asIntOf, run_size hz.h, Option.map_some, Option.map_none, Sem.run_bind, Result.andThen_ok, Sem.run_pure]
  rw [if_pos (by omega)]
  simp only [cutp, Sem.run_pure, Result.andThen_ok, Int.toNat_natCast, Option.map_some]
  split <;> rfl
/-! ## copy -/
theorem g_copy (tag : Nat) {t : TypeId} {E : TypeId} {x y : Operand} {b off n c m c' d : Nat} {L : List Value} {q : Option Addr} (S : List Value) (hg : wantE all e o = some true) (hd : o.dst = some d) (hN : Nat.blt d N = true) [hu : Und P t (.slice E)] [hz : Siz P E 1]
    (ho : o.op = .call ⟨.builtin .copy, #[x, y], #[t, t]⟩) (hx : ev e x = some (.slice (some ⟨b, off, none⟩) n c)) (hy : ev e y = some (.slice q m c'))
    (hM : mget M tag = some (.pt b (.cells L.toArray E (0, 0)))) (hS : ∀ w, Mem w0 D M w → RdV w q S) (hSl : S.length = m) (hl : off + n ≤ L.length) (h1 : ∀ u ∈ S, u.oneCell' = true)
    (h : G P fn R N w0 D ((d, .int .i64 ((Nat.min m n : Nat) : Int)) :: e) ((tag, .pt b (.cells (L.take off ++ S.take (Nat.min m n) ++ L.drop (off + Nat.min m n)).toArray E (0, 0))) :: M) (.ops all rest :: k)) : G P fn R N w0 D e M (.ops all (o :: rest) :: k) := by
  refine g_val (σ := Unit) (pr := fun _ => True) (val := fun _ => .int .i64 ((Nat.min m n : Nat) : Int)) (M' := fun _ => (tag, .pt b (.cells (L.take off ++ S.take (Nat.min m n) ++ L.drop (off + Nat.min m n)).toArray E (0, 0))) :: M) hg hd hN ?_ (fun _ _ => h)
  intro a w hs hm
  have hb := hm.holds _ _ hM
  simp only [Ck.holds] at hb
  have hk : Nat.min m n ≤ m := Nat.min_le_left _ _
  have hk2 : Nat.min m n ≤ n := Nat.min_le_right _ _
  have htk : (S.take (Nat.min m n)).length = Nat.min m n := by rw [List.length_take]; omega
  have hf : (Builtin.firstCells 1 (Nat.min m n) (.slice q m c')).run P w = .ok (S.take (Nat.min m n)).toArray w := by
    rcases hS w hm with h2 | ⟨bq, oq, rfl, hc⟩
    · have hm0 : m = 0 := by rw [← hSl, h2]; rfl
      have : Nat.min m n = 0 := by omega
      rw [this, h2]
      cases q with
      | none => simp [Builtin.firstCells]
      | some ad => simp [Builtin.firstCells, loadCells, loadCellsFrom]
    · refine run_firstCells_some (P := P) w 1 (Nat.min m n) ⟨bq, oq, none⟩ m c' (S.take (Nat.min m n)) (by omega) (fun j v hj => ?_)
      rw [Addr.add_lit]
      refine hc j v ?_
      rw [List.getElem?_take] at hj
      split at hj
      · exact hj
      · cases hj
  have hst := run_storeCells_at P b off E (S.take (Nat.min m n)) 0 L.toArray w hb (by simp; omega) (fun u hu => h1 u (List.mem_of_mem_take hu))
  refine ⟨(), _, trivial, ?_, hm.setRow tag hM⟩
  simp only [execOp, ho, resolve, invoke, builtin, Sem.run_bind, Sem.run_pure, Result.andThen_ok, List.map_toArray, List.map_cons, List.map_nil, hs.eval hx, hs.eval hy, Builtin.copy_, List.getElem?_toArray, List.getElem?_cons_zero, List.getElem?_cons_succ, run_und hu.h, Builtin.lenOf, run_size hz.h, hf]
  rw [hst]
  simp only [Result.andThen_ok, Nat.add_zero, htk, goInt]

/-! ## Words: quotients -/
theorem pu_rem8 {t u : TypeId} {x y : Operand} {a b : BitVec 8} (ho : o.op = .binOp .rem t x y u) (hx : ev e x = some (b8 a)) (hy : ev e y = some (b8 b)) (h0 : b.toNat ≠ 0) : Pu P N w0 D e M o (b8 (a % b)) := by
  have h := pu_remI (P := P) (N := N) (w0 := w0) (D := D) (M := M) ho hx hy ⟨by omega, by omega⟩
  have e1 : ((a.toNat : Int) % (b.toNat : Int)) = ((a % b).toNat : Int) := by rw [BitVec.toNat_umod]; rfl
  rw [e1] at h; exact h
theorem pu_rem32 {t u : TypeId} {x y : Operand} {a b : BitVec 32} (ho : o.op = .binOp .rem t x y u) (hx : ev e x = some (b32 a)) (hy : ev e y = some (b32 b)) (h0 : b.toNat ≠ 0) : Pu P N w0 D e M o (b32 (a % b)) := by
  have h := pu_remI (P := P) (N := N) (w0 := w0) (D := D) (M := M) ho hx hy ⟨by omega, by omega⟩
  have e1 : ((a.toNat : Int) % (b.toNat : Int)) = ((a % b).toNat : Int) := by rw [BitVec.toNat_umod]; rfl
  rw [e1] at h; exact h
theorem pu_rem64 {t u : TypeId} {x y : Operand} {a b : BitVec 64} (ho : o.op = .binOp .rem t x y u) (hx : ev e x = some (b64 a)) (hy : ev e y = some (b64 b)) (h0 : b.toNat ≠ 0) : Pu P N w0 D e M o (b64 (a % b)) := by
  have h := pu_remI (P := P) (N := N) (w0 := w0) (D := D) (M := M) ho hx hy ⟨by omega, by omega⟩
  have e1 : ((a.toNat : Int) % (b.toNat : Int)) = ((a % b).toNat : Int) := by rw [BitVec.toNat_umod]; rfl
  rw [e1] at h; exact h
theorem pu_quoW {t u : TypeId} {x y : Operand} {k : IntKind} {a b : Nat} (ho : o.op = .binOp .quo t x y u) (hx : ev e x = some (.int k (a : Int))) (hy : ev e y = some (.int k (b : Int))) (h0 : b ≠ 0) (hw : k.wrap ((a / b : Nat) : Int) = ((a / b : Nat) : Int)) : Pu P N w0 D e M o (.int k ((a / b : Nat) : Int)) := fun ac w hs hm => by
  have hb : ¬ (b : Int) = 0 := by omega
  have e1 : ((a : Int).tdiv (b : Int)) = ((a / b : Nat) : Int) := by rw [Int.tdiv_eq_ediv_of_nonneg (by omega)]; rfl
  simp [execOp, ho, hs.eval hx, hs.eval hy, run_guard, binOp, Op.intDiv, h0]
  simpa using hw
theorem pu_quo8 {t u : TypeId} {x y : Operand} {a b : BitVec 8} (ho : o.op = .binOp .quo t x y u) (hx : ev e x = some (b8 a)) (hy : ev e y = some (b8 b)) (h0 : b.toNat ≠ 0) : Pu P N w0 D e M o (b8 (a / b)) := by
  have hlt : a.toNat / b.toNat < 256 := Nat.lt_of_le_of_lt (Nat.div_le_self _ _) a.isLt
  have h := pu_quoW (P := P) (N := N) (w0 := w0) (D := D) (M := M) ho hx hy h0 (IntWalk.u8_in _ (by generalize a.toNat / b.toNat = q at *; omega))
  unfold b8; rw [BitVec.toNat_udiv]; exact h
theorem pu_quo64 {t u : TypeId} {x y : Operand} {a b : BitVec 64} (ho : o.op = .binOp .quo t x y u) (hx : ev e x = some (b64 a)) (hy : ev e y = some (b64 b)) (h0 : b.toNat ≠ 0) : Pu P N w0 D e M o (b64 (a / b)) := by
  have hlt : a.toNat / b.toNat < 18446744073709551616 := Nat.lt_of_le_of_lt (Nat.div_le_self _ _) a.isLt
  have h := pu_quoW (P := P) (N := N) (w0 := w0) (D := D) (M := M) ho hx hy h0 (IntWalk.u64_in _ (by generalize a.toNat / b.toNat = q at *; omega))
  unfold b64; rw [BitVec.toNat_udiv]; exact h

/-! ## Small builtins -/
/-! ## Strings -/
/-- The string of these bytes. -/
def strOf (l : List (BitVec 8)) : ByteArray := ⟨(l.map UInt8.ofBitVec).toArray⟩
/-- The bytes of a string. -/
def bytesOf (s : ByteArray) : List (BitVec 8) := s.data.toList.map UInt8.toBitVec
theorem strOf_bytesOf (s : ByteArray) : strOf (bytesOf s) = s := by
  apply ByteArray.ext
  apply Array.toList_inj.1
  have h : (UInt8.ofBitVec ∘ UInt8.toBitVec) = id := by funext x; rfl
  simp [strOf, bytesOf, h]
theorem bytesOf_length (s : ByteArray) : (bytesOf s).length = s.size := by simp [bytesOf]
theorem bytesOf_inj {s t : ByteArray} (h : bytesOf s = bytesOf t) : s = t := by rw [← strOf_bytesOf s, h, strOf_bytesOf]
theorem beqStr (s t : ByteArray) : (s.toList == t.toList) = decide (s = t) := by
  rw [Bool.eq_iff_iff]
  simp only [beq_iff_eq, decide_eq_true_eq, ByteArray.toList_eq]
  exact ⟨fun h => ByteArray.ext (Array.toList_inj.1 h), fun h => by rw [h]⟩
theorem run_guardS {op : BinOp} {t : TypeId} {x y : Operand} {a b : ByteArray} (w : World) : (eqGuard op t x y (.string a) (.string b)).run P w = .ok () w := by
  unfold eqGuard
  split <;> simp
theorem pu_eqlS {t u : TypeId} {x y : Operand} {a b : ByteArray} (ho : o.op = .binOp .eql t x y u) (hx : ev e x = some (.string a)) (hy : ev e y = some (.string b)) : Pu P N w0 D e M o (.bool (decide (a = b))) := fun ac w hs hm => by
  simp [execOp, ho, hs.eval hx, hs.eval hy, run_guardS, binOp, Op.stringOp, beqStr]
theorem pu_neqS {t u : TypeId} {x y : Operand} {a b : ByteArray} (ho : o.op = .binOp .neq t x y u) (hx : ev e x = some (.string a)) (hy : ev e y = some (.string b)) : Pu P N w0 D e M o (.bool (decide (a ≠ b))) := fun ac w hs hm => by
  simp [execOp, ho, hs.eval hx, hs.eval hy, run_guardS, binOp, Op.stringOp, beqStr]
theorem pu_indexS {t : TypeId} {x ix : Operand} {s : ByteArray} {kd : IntKind} {i : Int} {v : BitVec 8} (j : Nat) [hu : Und P t .string] (ho : o.op = .index t x ix) (hx : ev e x = some (.string s)) (hi : ev e ix = some (.int kd i)) (hj : i = (j : Int)) (hv : (bytesOf s)[j]? = some v) : Pu P N w0 D e M o (b8 v) := fun ac w hs hm => by
  subst hj
  have h1 : s[j]? = some (UInt8.ofBitVec v) := by
    have hlt : j < s.size := by
      have := (List.getElem?_eq_some_iff.1 hv).1
      rwa [bytesOf_length] at this
    have h2 : s.data.toList[j]? = some (UInt8.ofBitVec v) := by
      simp only [bytesOf, List.getElem?_map, Option.map_eq_some_iff] at hv
      obtain ⟨u, hu', rfl⟩ := hv
      simpa using hu'
    rw [show s[j]? = s.data[j]? from rfl]
    simpa using h2
  simp [execOp, ho, hs.eval hx, hs.eval hi, Instr.index, asIntOf, run_und hu.h, h1, b8]

end
end Go.Sx

/-
  Slicing, copy, quotients of words, small builtins, strings, and equality of arrays, for the judgement of Sx. No condition: they speak of any program.
-/
namespace Go.Sx
open Go

section
variable {P : Program} {fn : Func} {R : Ending → World → Prop} {N : Nat} {w0 : World} {D : Blocks} {e : List (Nat × Value)} {M : List (Nat × Ck)} {k : List It} {o : Oper} {all : Array Oper} {rest : List Oper}

/-! ## append(s, make([]T, m)...) -/
end
end Go.Sx

/-
  Slices of bytes as one fact, equality of bools, for the judgement of Sx. No condition: they speak of any program.
-/
namespace Go.Sx
open Go

/-- A slice of bytes of length n reads as l. -/
structure By (w : World) (p : Option Addr) (n : Nat) (l : List (BitVec 8)) : Prop where
  rd : RdV w p (bs l)
  len : l.length = n
  big : n ≤ 140737488355328

theorem flat_getE {α : Type} {s : Nat} : ∀ (css : List (List α)), (∀ c ∈ css, c.length = s) → ∀ (i r : Nat), r < s → css.flatten[i * s + r]? = (css[i]?).bind (·[r]?)
  | [], _, i, r, _ => by simp
  | c :: css, h, 0, r, hr => by
    have h0 := h c (by simp)
    simp only [List.flatten_cons, Nat.zero_mul, Nat.zero_add, List.getElem?_cons_zero, Option.bind_some]
    rw [List.getElem?_append_left (by omega)]
  | c :: css, h, i + 1, r, hr => by
    have h0 := h c (by simp)
    simp only [List.flatten_cons, List.getElem?_cons_succ]
    rw [List.getElem?_append_right (by rw [h0, Nat.add_mul]; omega), ← flat_getE css (fun c hc => h c (by simp [hc])) i r hr, h0]
    congr 1
    rw [Nat.add_mul]; omega

theorem list_map {α β : Type} {f : β → α} {Q : β → Prop} : ∀ {xs : List α}, (∀ x ∈ xs, ∃ y, x = f y ∧ Q y) → ∃ ys : List β, xs = ys.map f ∧ ∀ y ∈ ys, Q y
  | [], _ => ⟨[], rfl, fun _ h => by simp at h⟩
  | x :: xs, h => by
    obtain ⟨y, hy, hq⟩ := h x (by simp)
    obtain ⟨ys, hys, hqs⟩ := list_map (xs := xs) (f := f) (Q := Q) (fun x hx => h x (by simp [hx]))
    refine ⟨y :: ys, by rw [hy, hys]; rfl, fun z hz => ?_⟩
    rcases List.mem_cons.1 hz with rfl | hz
    · exact hq
    · exact hqs z hz

section
variable {P : Program} {fn : Func} {R : Ending → World → Prop} {N : Nat} {w0 : World} {D : Blocks} {e : List (Nat × Value)} {M : List (Nat × Ck)} {k : List It} {o : Oper} {all : Array Oper} {rest : List Oper}

theorem By.m {w : World} {p : Option Addr} {n : Nat} {l : List (BitVec 8)} (h : By w0 p n l) (hm : Mem w0 Nob M w) : By w p n l := ⟨h.rd.mem0 hm, h.len, h.big⟩
theorem By.mD {w : World} {p : Option Addr} {n : Nat} {l : List (BitVec 8)} (h : By w0 p n l) (hm : Mem w0 D M w) (hD : ∀ b o, p = some ⟨b, o, none⟩ → ¬ D b) : By w p n l := ⟨h.rd.mem hm hD, h.len, h.big⟩
theorem By.nil0 {w : World} {n : Nat} {l : List (BitVec 8)} (h : By w none n l) : n = 0 := by
  rcases h.rd with h1 | ⟨b, o, h1, _⟩
  · rw [← h.len, ← bs_length, h1]; rfl
  · cases h1
/-- An own slice of bytes. -/
theorem By.ow (t : Nat) {w : World} {E : TypeId} {x : Ow} {n : Nat} {l : List (BitVec 8)} (hM : mget M t = some (x.ck E 1 (bs l))) (hm : Mem w0 D M w) (hn : l.length = n) (hb : n ≤ 140737488355328) : By w x.p n l := ⟨Ow.rd hM hm, hn, hb⟩
theorem By.own (t : Nat) {w : World} {E : TypeId} {c : Nat} {p : Option Addr} {n : Nat} {l : List (BitVec 8)} (hM : mget M t = some (.fact (At p) (Own E 1 p c (bs l)))) (hm : Mem w0 D M w) (hn : l.length = n) (hb : n ≤ 140737488355328) : By w p n l := ⟨Own.rd (hm.holds _ _ hM), hn, hb⟩
/-- A known row, whole. -/
theorem By.full (t : Nat) {w : World} {b : Nat} {n : Nat} {E : TypeId} {fz : Nat × Nat} {l : List (BitVec 8)} (hM : mget M t = some (.pt b (.cells (bs l).toArray E fz))) (hm : Mem w0 D M w) (hn : l.length = n) (hb : n ≤ 140737488355328) : By w (some ⟨b, 0, none⟩) n l := ⟨hm.row (J := []) t (by rw [List.append_nil]; exact hM), hn, hb⟩

/-- The address of an element of size s of a slice that reads as L; reading it. -/
theorem pu_atM {t E : TypeId} {x ix : Operand} {p : Option Addr} {n c s : Nat} {kd : IntKind} {i : Int} {L : List Value} (j : Nat) (hr : ∀ w, Mem w0 D M w → RdV w p L) [hu : Und P t (.slice E)] [hz : Siz P E s] (ho : o.op = .indexAddr t x ix) (hx : ev e x = some (.slice p n c)) (hi : ev e ix = some (.int kd i))
    (hj : i = (j : Int)) (hlt : j < n) (hL : 0 < L.length) : Pu P N w0 D e M o (.pointer (adr p (j * s))) := fun ac w hs hm => by
  obtain ⟨b, off, rfl, _⟩ := (hr w hm).place hL
  exact pu_at (P := P) (N := N) j ho hx hi hj hlt ac w hs hm
theorem pu_atM1 {t E : TypeId} {x ix : Operand} {p : Option Addr} {n c : Nat} {kd : IntKind} {i : Int} {L : List Value} (j : Nat) (hr : ∀ w, Mem w0 D M w → RdV w p L) [hu : Und P t (.slice E)] [hz : Siz P E 1] (ho : o.op = .indexAddr t x ix) (hx : ev e x = some (.slice p n c)) (hi : ev e ix = some (.int kd i))
    (hj : i = (j : Int)) (hlt : j < n) (hL : 0 < L.length) : Pu P N w0 D e M o (.pointer (adr p j)) := by
  have := pu_atM (P := P) (N := N) (w0 := w0) (D := D) (M := M) j hr ho hx hi hj hlt hL
  rwa [Nat.mul_one] at this
theorem pu_rdM {t : TypeId} {x : Operand} {p : Option Addr} {L : List Value} {j : Nat} {v : Value} (hr : ∀ w, Mem w0 D M w → RdV w p L) [hu : Agg P t false] (ho : o.op = .load t x) (hx : ev e x = some (.pointer (adr p j))) (hv : L[j]? = some v) : Pu P N w0 D e M o v := fun ac w hs hm => by
  obtain ⟨b, off, rfl, hc⟩ := (hr w hm).place (Nat.lt_of_le_of_lt (Nat.zero_le j) (List.getElem?_eq_some_iff.1 hv).1)
  have h1 : w.cell? ⟨b, off + j, none⟩ = some v := hc j v hv
  have hx' : ev e x = some (.pointer (some ⟨b, off + j, none⟩)) := hx
  simp [execOp, ho, hs.eval hx', Instr.loadAt, Instr.sureAddr, loadVar, run_isAgg hu.h, h1]
theorem pu_rdMA {t : TypeId} {x : Operand} {p : Option Addr} {L : List Value} {j s : Nat} (hr : ∀ w, Mem w0 D M w → RdV w p L) [hu : Agg P t true] [hz : Siz P t s] (ho : o.op = .load t x) (hx : ev e x = some (.pointer (adr p j))) (hs0 : 0 < s) (hl : j + s ≤ L.length) : Pu P N w0 D e M o (.agg ((L.drop j).take s).toArray) := fun ac w hs hm => by
  obtain ⟨b, off, rfl, hc⟩ := (hr w hm).place (by omega)
  have hx' : ev e x = some (.pointer (some ⟨b, off + j, none⟩)) := hx
  have h2 : (loadCells ⟨b, off + j, none⟩ s).run P w = .ok ((L.drop j).take s).toArray w := by
    have h3 := run_loadCells_list (P := P) w ⟨b, off + j, none⟩ ((L.drop j).take s) (fun i v hi => by
      rw [List.getElem?_take] at hi
      split at hi
      · rw [List.getElem?_drop] at hi
        rw [Addr.add_lit, Nat.add_assoc]
        exact hc _ v hi
      · cases hi)
    rw [show ((L.drop j).take s).length = s by simp; omega] at h3
    exact h3
  simp [execOp, ho, hs.eval hx', Instr.loadAt, Instr.sureAddr, loadVar, run_isAgg hu.h, run_size hz.h, h2]
theorem pu_atB {t E : TypeId} {x ix : Operand} {p : Option Addr} {n c : Nat} {kd : IntKind} {i : Int} {l : List (BitVec 8)} (j : Nat) (hr : ∀ w, Mem w0 D M w → By w p n l) [hu : Und P t (.slice E)] [hz : Siz P E 1] (ho : o.op = .indexAddr t x ix) (hx : ev e x = some (.slice p n c)) (hi : ev e ix = some (.int kd i))
    (hj : i = (j : Int)) (hlt : j < n) : Pu P N w0 D e M o (.pointer (adr p j)) := fun ac w hs hm =>
  pu_atM1 (P := P) (N := N) j (fun w hm => (hr w hm).rd) ho hx hi hj hlt (by rw [bs_length, (hr w hm).len]; omega) ac w hs hm
theorem pu_rdB {t : TypeId} {x : Operand} {p : Option Addr} {n j : Nat} {l : List (BitVec 8)} {v : BitVec 8} (hr : ∀ w, Mem w0 D M w → By w p n l) [hu : Agg P t false] (ho : o.op = .load t x) (hx : ev e x = some (.pointer (adr p j))) (hv : l[j]? = some v) : Pu P N w0 D e M o (b8 v) :=
  pu_rdM (fun w hm => (hr w hm).rd) ho hx (bs_get hv)

theorem pu_eql8_t {t u : TypeId} {x y : Operand} {a b : BitVec 8} (ho : o.op = .binOp .eql t x y u) (hx : ev e x = some (b8 a)) (hy : ev e y = some (b8 b)) (h : a = b) : Pu P N w0 D e M o (.bool true) := by
  have := pu_eql8 (P := P) (N := N) (w0 := w0) (D := D) (M := M) ho hx hy
  rwa [decide_eq_true h] at this
theorem pu_eql8_f {t u : TypeId} {x y : Operand} {a b : BitVec 8} (ho : o.op = .binOp .eql t x y u) (hx : ev e x = some (b8 a)) (hy : ev e y = some (b8 b)) (h : ¬ a = b) : Pu P N w0 D e M o (.bool false) := by
  have := pu_eql8 (P := P) (N := N) (w0 := w0) (D := D) (M := M) ho hx hy
  rwa [decide_eq_false h] at this
theorem pu_eql64_t {t u : TypeId} {x y : Operand} {a b : BitVec 64} (ho : o.op = .binOp .eql t x y u) (hx : ev e x = some (b64 a)) (hy : ev e y = some (b64 b)) (h : a = b) : Pu P N w0 D e M o (.bool true) := by
  have := pu_eql64 (P := P) (N := N) (w0 := w0) (D := D) (M := M) ho hx hy
  rwa [decide_eq_true h] at this
theorem pu_eql64_f {t u : TypeId} {x y : Operand} {a b : BitVec 64} (ho : o.op = .binOp .eql t x y u) (hx : ev e x = some (b64 a)) (hy : ev e y = some (b64 b)) (h : ¬ a = b) : Pu P N w0 D e M o (.bool false) := by
  have := pu_eql64 (P := P) (N := N) (w0 := w0) (D := D) (M := M) ho hx hy
  rwa [decide_eq_false h] at this
theorem pu_neq64_t {t u : TypeId} {x y : Operand} {a b : BitVec 64} (ho : o.op = .binOp .neq t x y u) (hx : ev e x = some (b64 a)) (hy : ev e y = some (b64 b)) (h : ¬ a = b) : Pu P N w0 D e M o (.bool true) := by
  have := pu_neq64 (P := P) (N := N) (w0 := w0) (D := D) (M := M) ho hx hy
  rwa [decide_eq_true (show a ≠ b from h)] at this
theorem pu_neq64_f {t u : TypeId} {x y : Operand} {a b : BitVec 64} (ho : o.op = .binOp .neq t x y u) (hx : ev e x = some (b64 a)) (hy : ev e y = some (b64 b)) (h : a = b) : Pu P N w0 D e M o (.bool false) := by
  have := pu_neq64 (P := P) (N := N) (w0 := w0) (D := D) (M := M) ho hx hy
  rwa [decide_eq_false (show ¬ a ≠ b from fun q => q h)] at this
end
end Go.Sx

/-
  Loops and meetings of ways whose state has several parts, for the judgement of Sx. No condition: they speak of any program.
-/
namespace Go.Sx
open Go
section
variable {P : Program} {fn : Func} {R : Ending → World → Prop} {N : Nat} {w0 : World} {D : Blocks} {e : List (Nat × Value)} {M : List (Nat × Ck)} {k : List It}

theorem g_inv {c : Code} {p q : Act → World → Prop} (hpq : ∀ a w, p a w → q a w) (h : G P fn R N w0 D e M (.code c :: .inv p :: k)) : G P fn R N w0 D e M (.code c :: .inv q :: k) := by
  intro a w hs hm
  have := h a w hs hm
  simp only [ext] at this ⊢
  rw [← ext_inv] at this ⊢
  refine wp_mono this ?_
  intro x a' w' hx
  cases x with
  | normal => exact hpq _ _ hx
  | _ => exact hx

theorem g_loop2 {A0 A1 : Type} (E : A0 → A1 → List (Nat × Value)) (X : A0 → A1 → List (Nat × Ck)) (C : A0 → A1 → Prop) (m : A0 → A1 → Nat) (z0 : A0) (z1 : A1) {c : Code}
    (hE : SubE e (E z0 z1)) (hX : SubM M (X z0 z1)) (h0 : C z0 z1)
    (hr : ∀ s0 s1, C s0 s1 → G P fn R N w0 D (E s0 s1) (X s0 s1) (.code c :: .inv (fun a w => ∃ s0' s1', C s0' s1' ∧ m s0' s1' < m s0 s1 ∧ Sat N (E s0' s1') a ∧ Mem w0 D (X s0' s1') w) :: k)) :
    G P fn R N w0 D e M (.code (.loop c) :: k) :=
  g_loop (σ := A0 × A1) (fun s => E s.1 s.2) (fun s => X s.1 s.2) (fun s => C s.1 s.2) (fun s => m s.1 s.2) (z0, z1) hE hX h0
    (fun s hc => g_inv (fun a w ⟨s0', s1', h1, h2, h3, h4⟩ => ⟨(s0', s1'), h1, h2, h3, h4⟩) (hr s.1 s.2 hc))
theorem g_round2 {A0 A1 : Type} {E : A0 → A1 → List (Nat × Value)} {X : A0 → A1 → List (Nat × Ck)} {C : A0 → A1 → Prop} {m : A0 → A1 → Nat} {q : Nat} (z0 : A0) (z1 : A1) (hc : C z0 z1) (hlt : m z0 z1 < q)
    (hE : SubE e (E z0 z1)) (hX : SubM M (X z0 z1)) :
    G P fn R N w0 D e M (.inv (fun a w => ∃ s0' s1', C s0' s1' ∧ m s0' s1' < q ∧ Sat N (E s0' s1') a ∧ Mem w0 D (X s0' s1') w) :: k) :=
  fun a w hs hm => by simp only [ext]; exact ⟨z0, z1, hc, hlt, hs.sub hE.all, hm.sub hX.all⟩
theorem g_loop3 {A0 A1 A2 : Type} (E : A0 → A1 → A2 → List (Nat × Value)) (X : A0 → A1 → A2 → List (Nat × Ck)) (C : A0 → A1 → A2 → Prop) (m : A0 → A1 → A2 → Nat) (z0 : A0) (z1 : A1) (z2 : A2) {c : Code}
    (hE : SubE e (E z0 z1 z2)) (hX : SubM M (X z0 z1 z2)) (h0 : C z0 z1 z2)
    (hr : ∀ s0 s1 s2, C s0 s1 s2 → G P fn R N w0 D (E s0 s1 s2) (X s0 s1 s2) (.code c :: .inv (fun a w => ∃ s0' s1' s2', C s0' s1' s2' ∧ m s0' s1' s2' < m s0 s1 s2 ∧ Sat N (E s0' s1' s2') a ∧ Mem w0 D (X s0' s1' s2') w) :: k)) :
    G P fn R N w0 D e M (.code (.loop c) :: k) :=
  g_loop (σ := A0 × A1 × A2) (fun s => E s.1 s.2.1 s.2.2) (fun s => X s.1 s.2.1 s.2.2) (fun s => C s.1 s.2.1 s.2.2) (fun s => m s.1 s.2.1 s.2.2) (z0, z1, z2) hE hX h0
    (fun s hc => g_inv (fun a w ⟨s0', s1', s2', h1, h2, h3, h4⟩ => ⟨(s0', s1', s2'), h1, h2, h3, h4⟩) (hr s.1 s.2.1 s.2.2 hc))
theorem g_round3 {A0 A1 A2 : Type} {E : A0 → A1 → A2 → List (Nat × Value)} {X : A0 → A1 → A2 → List (Nat × Ck)} {C : A0 → A1 → A2 → Prop} {m : A0 → A1 → A2 → Nat} {q : Nat} (z0 : A0) (z1 : A1) (z2 : A2) (hc : C z0 z1 z2) (hlt : m z0 z1 z2 < q)
    (hE : SubE e (E z0 z1 z2)) (hX : SubM M (X z0 z1 z2)) :
    G P fn R N w0 D e M (.inv (fun a w => ∃ s0' s1' s2', C s0' s1' s2' ∧ m s0' s1' s2' < q ∧ Sat N (E s0' s1' s2') a ∧ Mem w0 D (X s0' s1' s2') w) :: k) :=
  fun a w hs hm => by simp only [ext]; exact ⟨z0, z1, z2, hc, hlt, hs.sub hE.all, hm.sub hX.all⟩
end
end Go.Sx

/-
  Slices of slices of bytes for the judgement of Sx. No condition: they speak of any program.
-/
namespace Go.Sx
open Go

/-- Element by element. -/
def All2 {α β : Type} (R : α → β → Prop) (xs : List α) (ys : List β) : Prop := xs.length = ys.length ∧ ∀ (i : Nat) x y, xs[i]? = some x → ys[i]? = some y → R x y
theorem All2.nil {α β : Type} {R : α → β → Prop} : All2 R [] [] := ⟨rfl, fun i x y h => by simp at h⟩
theorem All2.cons {α β : Type} {R : α → β → Prop} {xs : List α} {ys : List β} {x : α} {y : β} (hx : R x y) (h : All2 R xs ys) : All2 R (x :: xs) (y :: ys) := by
  refine ⟨by simp [h.1], fun i a b ha hb => ?_⟩
  cases i with
  | zero => cases ha; cases hb; exact hx
  | succ i => exact h.2 i a b ha hb
theorem All2.imp {α β : Type} {R R' : α → β → Prop} {xs : List α} {ys : List β} (h : All2 R xs ys) (hR : ∀ x y, R x y → R' x y) : All2 R' xs ys := ⟨h.1, fun i x y hx hy => hR _ _ (h.2 i x y hx hy)⟩

/-- The cell is a slice that reads as the bytes l, its block among S. -/
def IsB (S : Blocks) (w : World) (v : Value) (l : List (BitVec 8)) : Prop := ∃ q m c, v = .slice q m c ∧ By w q m l ∧ ∀ j, At q j → S j
def Any : Blocks := fun _ => True
/-- A slice of slices of bytes: its cells L, read as ls. -/
structure ByL (w : World) (p : Option Addr) (n : Nat) (L : List Value) (ls : List (List (BitVec 8))) : Prop where
  rd : RdV w p L
  len : L.length = n
  els : All2 (IsB Any w) L ls
  big : n * 24 ≤ 140737488355328

theorem ByL.lenL {w : World} {p : Option Addr} {n : Nat} {L : List Value} {ls : List (List (BitVec 8))} (h : ByL w p n L ls) : ls.length = n := by rw [← h.els.1, h.len]
/-- One element. -/
theorem ByL.at {w : World} {p : Option Addr} {n : Nat} {L : List Value} {ls : List (List (BitVec 8))} (h : ByL w p n L ls) {i : Nat} {l : List (BitVec 8)} (hl : ls[i]? = some l) : ∃ q m c, L[i]? = some (.slice q m c) ∧ By w q m l := by
  have hi : i < L.length := by rw [h.els.1]; exact (List.getElem?_eq_some_iff.1 hl).1
  obtain ⟨q, m, c, h1, h2, _⟩ := h.els.2 i L[i] l (List.getElem?_eq_getElem hi) hl
  exact ⟨q, m, c, by rw [List.getElem?_eq_getElem hi, h1], h2⟩
section
variable {P : Program} {fn : Func} {R : Ending → World → Prop} {N : Nat} {w0 : World} {D : Blocks} {e : List (Nat × Value)} {M : List (Nat × Ck)} {k : List It} {o : Oper} {all : Array Oper} {rest : List Oper}

theorem ByL.m {w : World} {p : Option Addr} {n : Nat} {L : List Value} {ls : List (List (BitVec 8))} (h : ByL w0 p n L ls) (hm : Mem w0 Nob M w) : ByL w p n L ls := by
  refine ⟨h.rd.mem0 hm, h.len, h.els.imp fun v l hx => ?_, h.big⟩
  obtain ⟨q, m, c, h1, h2, h3⟩ := hx
  exact ⟨q, m, c, h1, h2.m hm, h3⟩
theorem Own.le {w : World} {E : TypeId} {p : Option Addr} {c : Nat} {L : List Value} (h : Own E 1 p c L w) : L.length ≤ c := by
  rcases h with ⟨_, rfl, rfl⟩ | ⟨b, J, _, _, h3, _⟩
  · simp
  · omega
theorem IsB.own (t : Nat) {w : World} {E : TypeId} {x : Ow} {n : Nat} {l : List (BitVec 8)} (hM : mget M t = some (x.ck E 1 (bs l))) (hm : Mem w0 D M w) (hn : l.length = n) (hb : n ≤ 140737488355328) : IsB Any w (x.sl n) l := ⟨x.p, n, x.c, rfl, By.ow t hM hm hn hb, fun _ _ => trivial⟩
theorem IsB.full (t : Nat) {w : World} {b n c : Nat} {E : TypeId} {fz : Nat × Nat} {l : List (BitVec 8)} (hM : mget M t = some (.pt b (.cells (bs l).toArray E fz))) (hm : Mem w0 D M w) (hn : l.length = n) (hb : n ≤ 140737488355328) : IsB Any w (.slice (some ⟨b, 0, none⟩) n c) l := ⟨_, n, c, rfl, By.full t hM hm hn hb, fun _ _ => trivial⟩
theorem Mem.rowA {w : World} (hm : Mem w0 D M w) (t : Nat) {b : Nat} {L : List Value} {E : TypeId} {fz : Nat × Nat} (h : mget M t = some (.pt b (.cells L.toArray E fz))) : RdV w (some ⟨b, 0, none⟩) L := hm.row (J := []) t (by rw [List.append_nil]; exact h)

/-- Is a slice nil? -/
theorem run_eqNil {t E : TypeId} (w : World) (hu : P.underlying t = some (.slice E)) (p : Option Addr) (n c : Nat) : (Op.equal t (.slice p n c) (.slice none 0 0)).run P w = .ok p.isNone w := by
  obtain ⟨d, hd⟩ : ∃ d, Op.maxDepth = d + 1 := ⟨_, rfl⟩
  cases p <;> simp [Op.equal, hd, Op.equalIn, run_und hu]
theorem run_guardN {op : BinOp} {t : TypeId} {x y : Operand} {p q : Option Addr} {n c n' c' : Nat} (w : World) : (eqGuard op t x y (.slice p n c) (.slice q n' c')).run P w = .ok () w := by
  unfold eqGuard
  split <;> simp
theorem pu_eqlN {t u E : TypeId} {x y : Operand} {p : Option Addr} {n c : Nat} [hu : Und P t (.slice E)] (ho : o.op = .binOp .eql t x y u) (hx : ev e x = some (.slice p n c)) (hy : ev e y = some (.slice none 0 0)) : Pu P N w0 D e M o (.bool p.isNone) := fun ac w hs hm => by
  simp [execOp, ho, hs.eval hx, hs.eval hy, run_guardN, binOp, run_eqNil _ hu.h]
end
end Go.Sx

/-
  A judgement over the model's code whose state is written out: which slots hold which values, and which blocks of memory hold what; the world itself is left implicit. Each step of the code is one lemma. No condition: it speaks of any program.
-/
import Derived.WalkKit
set_option linter.unusedVariables false
set_option linter.unusedSimpArgs false
namespace Go.Sx
open Go

/-! ## Slots -/

/-- The value that a list of slots gives; the newest entry counts. -/
def get : List (Nat × Value) → Nat → Option Value
  | [], _ => none
  | (i, v) :: r, j => bif Nat.beq i j then some v else get r j

structure Sat (N : Nat) (e : List (Nat × Value)) (a : Act) : Prop where
  size : a.tmps.size = N
  defers : a.defers = []
  slot : ∀ i v, get e i = some v → a.tmps[i]? = some v

def ev (e : List (Nat × Value)) : Operand → Option Value
  | .tmp t => get e t
  | .const v => some v
  | .global g => some (.pointer (some ⟨g, 0, none⟩))
  | .func f => some (.func (.func f) #[] #[])

theorem Sat.eval {N : Nat} {e : List (Nat × Value)} {a : Act} {x : Operand} {v : Value} (h : Sat N e a) (hx : ev e x = some v) : a.eval x = v := by
  cases x with
  | tmp t =>
    have := h.slot t v hx
    simp [Act.eval, this]
  | const u => exact Option.some.inj hx
  | global g => exact Option.some.inj hx
  | func f => exact Option.some.inj hx

theorem get_cons {i j : Nat} {v : Value} {e : List (Nat × Value)} : get ((i, v) :: e) j = if i = j then some v else get e j := by
  simp only [get]
  by_cases h : i = j
  · subst h; simp
  · have : Nat.beq i j = false := by
      cases hb : Nat.beq i j with
      | false => rfl
      | true => exact absurd (Nat.eq_of_beq_eq_true hb) h
    simp [this, h]

theorem Sat.put {N : Nat} {e : List (Nat × Value)} {a : Act} (h : Sat N e a) {d : Nat} (hd : d < N) (v : Value) : Sat N ((d, v) :: e) (a.put (some d) v) := by
  refine ⟨by simp [Act.put, h.size], by simp [Act.put, h.defers], fun i u hi => ?_⟩
  rw [get_cons] at hi
  simp only [Act.put]
  by_cases hdi : d = i
  · subst hdi
    rw [if_pos rfl] at hi
    cases hi
    rw [Array.getElem?_setIfInBounds_self]
    simp [h.size, hd]
  · rw [if_neg hdi] at hi
    rw [Array.getElem?_setIfInBounds_ne hdi]
    exact h.slot i u hi

/-- Fewer slots may be known. -/
theorem Sat.sub {N : Nat} {e e' : List (Nat × Value)} {a : Act} (h : Sat N e a) (hs : ∀ p ∈ e', get e p.1 = some p.2) : Sat N e' a := by
  refine ⟨h.size, h.defers, fun i v hi => ?_⟩
  have : ∃ p ∈ e', p.1 = i ∧ p.2 = v := by
    clear hs
    induction e' with
    | nil => simp [get] at hi
    | cons p r ih =>
      obtain ⟨j, u⟩ := p
      rw [get_cons] at hi
      by_cases hj : j = i
      · rw [if_pos hj] at hi; cases hi; exact ⟨(j, v), by simp, hj, rfl⟩
      · rw [if_neg hj] at hi
        obtain ⟨p, hp, h1, h2⟩ := ih hi
        exact ⟨p, List.mem_cons_of_mem _ hp, h1, h2⟩
  obtain ⟨p, hp, rfl, rfl⟩ := this
  exact h.slot _ _ (hs p hp)

/-- The slots of e' are among those of e, entry by entry. -/
def SubE (e : List (Nat × Value)) : List (Nat × Value) → Prop
  | [] => True
  | (i, v) :: r => get e i = some v ∧ SubE e r
theorem SubE.all {e : List (Nat × Value)} : ∀ {e' : List (Nat × Value)}, SubE e e' → ∀ p ∈ e', get e p.1 = some p.2
  | [], _, p, hp => by simp at hp
  | (i, v) :: r, h, p, hp => by
    rcases List.mem_cons.1 hp with rfl | hp
    · exact h.1
    · exact SubE.all h.2 p hp

/-! ## Memory -/

/-- A set of blocks; the empty one. -/
abbrev Blocks := Nat → Prop
def Nob : Blocks := fun _ => False

/-- A part of memory of which something is known: a block with its content, or a fact on the blocks of a set. -/
inductive Ck where
  | pt (b : Nat) (o : Obj)
  | fact (S : Blocks) (φ : World → Prop)

def Ck.has : Ck → Nat → Prop
  | .pt b _, j => j = b
  | .fact S _, j => S j
def Ck.holds (w : World) : Ck → Prop
  | .pt b o => w.heap[b]? = some o
  | .fact _ φ => φ w
/-- The fact looks at the blocks of the set alone. -/
def Local (S : Blocks) (φ : World → Prop) : Prop := ∀ w w' : World, (∀ k, S k → w'.heap[k]? = w.heap[k]?) → φ w → φ w'
def Ck.stable : Ck → Prop
  | .pt _ _ => True
  | .fact S φ => Local S φ
def Ck.apart (c d : Ck) : Prop := ∀ j, c.has j → ¬ d.has j

theorem Ck.apart_symm {c d : Ck} (h : c.apart d) : d.apart c := fun j h1 h2 => h j h2 h1

theorem Ck.keep {c : Ck} {w w' : World} (hs : c.stable) (h : ∀ k, c.has k → w'.heap[k]? = w.heap[k]?) (hc : c.holds w) : c.holds w' := by
  cases c with
  | pt b o =>
    have := h b rfl
    simp only [Ck.holds] at hc ⊢
    rw [this]; exact hc
  | fact S φ => exact hs w w' h hc

/-- What is known of memory, by numbers of our own; the newest entry counts. -/
def mget : List (Nat × Ck) → Nat → Option Ck
  | [], _ => none
  | (i, v) :: r, j => bif Nat.beq i j then some v else mget r j

theorem mget_cons {i j : Nat} {v : Ck} {e : List (Nat × Ck)} : mget ((i, v) :: e) j = if i = j then some v else mget e j := by
  simp only [mget]
  by_cases h : i = j
  · subst h; simp
  · have : Nat.beq i j = false := by
      cases hb : Nat.beq i j with
      | false => rfl
      | true => exact absurd (Nat.eq_of_beq_eq_true hb) h
    simp [this, h]

/-- w is w0 with new blocks; of the old ones those of D alone may have turned; M says what is known. -/
structure Mem (w0 : World) (D : Blocks) (M : List (Nat × Ck)) (w : World) : Prop where
  os : w.os = w0.os
  tape : w.tape = w0.tape
  output : w.output = w0.output
  size : w0.heap.size ≤ w.heap.size
  keep : ∀ k, k < w0.heap.size → ¬ D k → w.heap[k]? = w0.heap[k]?
  holds : ∀ t c, mget M t = some c → c.holds w
  stable : ∀ t c, mget M t = some c → c.stable
  below : ∀ t c, mget M t = some c → ∀ j, c.has j → j < w.heap.size
  above : ∀ t c, mget M t = some c → ∀ j, c.has j → w0.heap.size ≤ j ∨ D j
  apart : ∀ t c t' c', mget M t = some c → mget M t' = some c' → t ≠ t' → c.apart c'

theorem Mem.start (w : World) : Mem w Nob [] w :=
  ⟨rfl, rfl, rfl, Nat.le_refl _, fun _ _ _ => rfl, fun _ _ h => by simp [mget] at h, fun _ _ h => by simp [mget] at h, fun _ _ h => by simp [mget] at h, fun _ _ h => by simp [mget] at h, fun _ _ _ _ h => by simp [mget] at h⟩

theorem lt_of_some {w : World} {b : Nat} {o : Obj} (h : w.heap[b]? = some o) : b < w.heap.size := (Array.getElem?_eq_some_iff.1 h).1

/-- Old parts that may be written: one. -/
theorem Mem.start1 {w : World} (c : Ck) (h : c.holds w) (hs : c.stable) (hb : ∀ j, c.has j → j < w.heap.size) : Mem w c.has [(0, c)] w := by
  have key : ∀ t d, mget [(0, c)] t = some d → d = c ∧ t = 0 := by
    intro t d ht
    rw [mget_cons] at ht
    by_cases h0 : 0 = t
    · rw [if_pos h0] at ht; cases ht; exact ⟨rfl, h0.symm⟩
    · rw [if_neg h0] at ht; simp [mget] at ht
  refine ⟨rfl, rfl, rfl, Nat.le_refl _, fun _ _ _ => rfl, ?_, ?_, ?_, ?_, ?_⟩
  · intro t d ht; obtain ⟨rfl, _⟩ := key t d ht; exact h
  · intro t d ht; obtain ⟨rfl, _⟩ := key t d ht; exact hs
  · intro t d ht; obtain ⟨rfl, _⟩ := key t d ht; exact hb
  · intro t d ht; obtain ⟨rfl, _⟩ := key t d ht; exact fun j hj => .inr hj
  · intro t d t' d' ht ht' hn; obtain ⟨_, rfl⟩ := key t d ht; obtain ⟨_, rfl⟩ := key t' d' ht'; exact absurd rfl hn

/-- .. two, apart. -/
theorem Mem.start2 {w : World} (c c' : Ck) (h : c.holds w) (hs : c.stable) (hb : ∀ j, c.has j → j < w.heap.size) (h' : c'.holds w) (hs' : c'.stable) (hb' : ∀ j, c'.has j → j < w.heap.size) (hap : c.apart c') :
    Mem w (fun j => c.has j ∨ c'.has j) [(0, c), (1, c')] w := by
  have key : ∀ t d, mget [(0, c), (1, c')] t = some d → (d = c ∧ t = 0) ∨ (d = c' ∧ t = 1) := by
    intro t d ht
    rw [mget_cons, mget_cons] at ht
    by_cases h0 : 0 = t
    · rw [if_pos h0] at ht; cases ht; exact .inl ⟨rfl, h0.symm⟩
    · rw [if_neg h0] at ht
      by_cases h1 : 1 = t
      · rw [if_pos h1] at ht; cases ht; exact .inr ⟨rfl, h1.symm⟩
      · rw [if_neg h1] at ht; simp [mget] at ht
  refine ⟨rfl, rfl, rfl, Nat.le_refl _, fun _ _ _ => rfl, ?_, ?_, ?_, ?_, ?_⟩
  · intro t d ht; rcases key t d ht with ⟨rfl, _⟩ | ⟨rfl, _⟩
    · exact h
    · exact h'
  · intro t d ht; rcases key t d ht with ⟨rfl, _⟩ | ⟨rfl, _⟩
    · exact hs
    · exact hs'
  · intro t d ht; rcases key t d ht with ⟨rfl, _⟩ | ⟨rfl, _⟩
    · exact hb
    · exact hb'
  · intro t d ht j hj; rcases key t d ht with ⟨rfl, _⟩ | ⟨rfl, _⟩
    · exact .inr (.inl hj)
    · exact .inr (.inr hj)
  · intro t d t' d' ht ht' hn
    rcases key t d ht with ⟨rfl, rfl⟩ | ⟨rfl, rfl⟩ <;> rcases key t' d' ht' with ⟨rfl, rfl⟩ | ⟨rfl, rfl⟩
    · exact absurd rfl hn
    · exact hap
    · exact Ck.apart_symm hap
    · exact absurd rfl hn

/-- Less may be known. -/
theorem Mem.sub {w0 w : World} {D : Blocks} {M M' : List (Nat × Ck)} (h : Mem w0 D M w) (hs : ∀ p ∈ M', mget M p.1 = some p.2) : Mem w0 D M' w := by
  have key : ∀ t c, mget M' t = some c → mget M t = some c := by
    intro t c hi
    have : ∃ p ∈ M', p.1 = t ∧ p.2 = c := by
      clear hs
      induction M' with
      | nil => simp [mget] at hi
      | cons p r ih =>
        obtain ⟨j, u⟩ := p
        rw [mget_cons] at hi
        by_cases hj : j = t
        · rw [if_pos hj] at hi; cases hi; exact ⟨(j, c), by simp, hj, rfl⟩
        · rw [if_neg hj] at hi
          obtain ⟨p, hp, h1, h2⟩ := ih hi
          exact ⟨p, List.mem_cons_of_mem _ hp, h1, h2⟩
    obtain ⟨p, hp, rfl, rfl⟩ := this
    exact hs p hp
  exact ⟨h.os, h.tape, h.output, h.size, h.keep, fun t c ht => h.holds t c (key t c ht), fun t c ht => h.stable t c (key t c ht), fun t c ht => h.below t c (key t c ht),
    fun t c ht => h.above t c (key t c ht), fun t c t' c' ht ht' hn => h.apart t c t' c' (key t c ht) (key t' c' ht') hn⟩

/-- The parts of M' are among those of M, entry by entry. -/
def SubM (M : List (Nat × Ck)) : List (Nat × Ck) → Prop
  | [] => True
  | (i, v) :: r => mget M i = some v ∧ SubM M r
theorem SubM.all {M : List (Nat × Ck)} : ∀ {M' : List (Nat × Ck)}, SubM M M' → ∀ p ∈ M', mget M p.1 = some p.2
  | [], _, p, hp => by simp at hp
  | (i, v) :: r, h, p, hp => by
    rcases List.mem_cons.1 hp with rfl | hp
    · exact h.1
    · exact SubM.all h.2 p hp

/-- What a piece of a run has done: new blocks, of which the parts cs are known; of the blocks of before those of ch alone may have turned. -/
structure Grows (w : World) (ch : Blocks) (cs : List Ck) (w' : World) : Prop where
  os : w'.os = w.os
  tape : w'.tape = w.tape
  output : w'.output = w.output
  size : w.heap.size ≤ w'.heap.size
  keep : ∀ k, k < w.heap.size → ¬ ch k → w'.heap[k]? = w.heap[k]?
  holds : ∀ c ∈ cs, c.holds w'
  stable : ∀ c ∈ cs, c.stable
  above : ∀ c ∈ cs, ∀ j, c.has j → w.heap.size ≤ j ∨ ch j
  below : ∀ c ∈ cs, ∀ j, c.has j → j < w'.heap.size
  apart : cs.Pairwise Ck.apart

theorem Grows.refl (w : World) : Grows w Nob [] w :=
  ⟨rfl, rfl, rfl, Nat.le_refl _, fun _ _ _ => rfl, fun _ h => by simp at h, fun _ h => by simp at h, fun _ h => by simp at h, fun _ h => by simp at h, List.Pairwise.nil⟩

/-- The new parts under numbers of our own. -/
def tags : List Nat → List Ck → List (Nat × Ck)
  | t :: ts, c :: cs => (t, c) :: tags ts cs
  | _, _ => []

def fresh (M : List (Nat × Ck)) : List Nat → Bool
  | [] => true
  | t :: ts => (mget M t).isNone && !(ts.contains t) && fresh M ts

theorem mget_tags {M : List (Nat × Ck)} : ∀ {ts : List Nat} {cs : List Ck} {t : Nat} {c : Ck}, mget (tags ts cs ++ M) t = some c → fresh M ts = true →
    (c ∈ cs ∧ t ∈ ts ∧ mget M t = none) ∨ (mget M t = some c ∧ (t ∈ ts → False))
  | [], cs, t, c, h, _ => by cases cs <;> exact .inr ⟨by simpa [tags] using h, by simp⟩
  | t' :: ts, [], t, c, h, hf => by
    refine .inr ⟨by simpa [tags] using h, fun hm => ?_⟩
    have h' : mget M t = some c := by simpa [tags] using h
    clear h
    have : ∀ l, fresh M l = true → t ∈ l → False := by
      intro l
      induction l with
      | nil => simp
      | cons x r ih =>
        intro hl hm
        simp only [fresh, Bool.and_eq_true] at hl
        rcases List.mem_cons.1 hm with rfl | hm
        · rw [h'] at hl; simp at hl
        · exact ih hl.2 hm
    exact this _ hf hm
  | t' :: ts, c' :: cs, t, c, h, hf => by
    simp only [fresh, Bool.and_eq_true] at hf
    simp only [tags, List.cons_append] at h
    rw [mget_cons] at h
    by_cases ht : t' = t
    · rw [if_pos ht] at h
      cases h
      subst ht
      exact .inl ⟨by simp, by simp, by simpa using hf.1.1⟩
    · rw [if_neg ht] at h
      rcases mget_tags h hf.2 with ⟨h1, h2, h3⟩ | ⟨h1, h2⟩
      · exact .inl ⟨List.mem_cons_of_mem _ h1, List.mem_cons_of_mem _ h2, h3⟩
      · exact .inr ⟨h1, fun hm => by
          rcases List.mem_cons.1 hm with rfl | hm
          · exact ht rfl
          · exact h2 hm⟩

theorem tags_apart {M : List (Nat × Ck)} : ∀ {ts : List Nat} {cs : List Ck} {t t' : Nat} {c c' : Ck}, fresh M ts = true → cs.Pairwise Ck.apart →
    mget (tags ts cs ++ M) t = some c → mget (tags ts cs ++ M) t' = some c' → mget M t = none → mget M t' = none → t ≠ t' → c.apart c'
  | [], cs, t, t', c, c', _, _, h, _, hn, _, _ => by
    have : mget M t = some c := by cases cs <;> simpa [tags] using h
    rw [hn] at this; cases this
  | x :: ts, [], t, t', c, c', _, _, h, _, hn, _, _ => by
    have : mget M t = some c := by simpa [tags] using h
    rw [hn] at this; cases this
  | x :: ts, y :: cs, t, t', c, c', hf, hp, h, h', hn, hn', hne => by
    simp only [fresh, Bool.and_eq_true] at hf
    obtain ⟨hp1, hp2⟩ := List.pairwise_cons.1 hp
    simp only [tags, List.cons_append] at h h'
    rw [mget_cons] at h h'
    by_cases ht : x = t
    · rw [if_pos ht] at h
      cases h
      have ht' : ¬ x = t' := fun e => hne (ht.symm.trans e)
      rw [if_neg ht'] at h'
      rcases mget_tags h' hf.2 with ⟨h1, _⟩ | ⟨h1, _⟩
      · exact hp1 _ h1
      · rw [hn'] at h1; cases h1
    · rw [if_neg ht] at h
      by_cases ht' : x = t'
      · rw [if_pos ht'] at h'
        cases h'
        rcases mget_tags h hf.2 with ⟨h1, _⟩ | ⟨h1, _⟩
        · exact Ck.apart_symm (hp1 _ h1)
        · rw [hn] at h1; cases h1
      · rw [if_neg ht'] at h'
        exact tags_apart hf.2 hp2 h h' hn hn' hne

/-- The state behind a piece that only grows. -/
theorem Mem.grow {w0 w w' : World} {D : Blocks} {M : List (Nat × Ck)} {cs : List Ck} (h : Mem w0 D M w) (g : Grows w Nob cs w') (ts : List Nat) (hf : fresh M ts = true) :
    Mem w0 D (tags ts cs ++ M) w' := by
  have same : ∀ k, k < w.heap.size → w'.heap[k]? = w.heap[k]? := fun k hk => g.keep k hk (fun h => h)
  have old : ∀ t c, mget M t = some c → c.holds w' := fun t c ht => Ck.keep (h.stable t c ht) (fun k hk => same k (h.below t c ht k hk)) (h.holds t c ht)
  have up : ∀ c ∈ cs, ∀ j, c.has j → w.heap.size ≤ j := fun c hc j hj => (g.above c hc j hj).resolve_right (fun h => h)
  refine ⟨g.os.trans h.os, g.tape.trans h.tape, g.output.trans h.output, Nat.le_trans h.size g.size, fun k hk hD => (same k (Nat.lt_of_lt_of_le hk h.size)).trans (h.keep k hk hD), ?_, ?_, ?_, ?_, ?_⟩
  · intro t c ht
    rcases mget_tags ht hf with ⟨h1, _⟩ | ⟨h1, _⟩
    · exact g.holds c h1
    · exact old t c h1
  · intro t c ht
    rcases mget_tags ht hf with ⟨h1, _⟩ | ⟨h1, _⟩
    · exact g.stable c h1
    · exact h.stable t c h1
  · intro t c ht j hj
    rcases mget_tags ht hf with ⟨h1, _⟩ | ⟨h1, _⟩
    · exact g.below c h1 j hj
    · exact Nat.lt_of_lt_of_le (h.below t c h1 j hj) g.size
  · intro t c ht j hj
    rcases mget_tags ht hf with ⟨h1, _⟩ | ⟨h1, _⟩
    · exact .inl (Nat.le_trans h.size (up c h1 j hj))
    · exact h.above t c h1 j hj
  · intro t c t' c' ht ht' hne
    rcases mget_tags ht hf with ⟨h1, h1t, hn⟩ | ⟨h1, _⟩ <;> rcases mget_tags ht' hf with ⟨h2, h2t, hn'⟩ | ⟨h2, _⟩
    · exact tags_apart hf g.apart ht ht' hn hn' hne
    · exact fun j hj hj' => by have := up c h1 j hj; have := h.below t' c' h2 j hj'; omega
    · exact fun j hj hj' => by have := up c' h2 j hj'; have := h.below t c h1 j hj; omega
    · exact h.apart t c t' c' h1 h2 hne

/-- A part of memory takes another one's place: within it, or in new blocks. -/
theorem Mem.swap {w0 w w' : World} {D : Blocks} {M : List (Nat × Ck)} (h : Mem w0 D M w) (t : Nat) (c c' : Ck) (ht : mget M t = some c)
    (hos : w'.os = w.os) (htp : w'.tape = w.tape) (hout : w'.output = w.output) (hsz : w.heap.size ≤ w'.heap.size) (hk : ∀ j, j < w.heap.size → ¬ c.has j → w'.heap[j]? = w.heap[j]?)
    (hc' : c'.holds w') (hst : c'.stable) (hb' : ∀ j, c'.has j → j < w'.heap.size) (hfoot : ∀ j, c'.has j → c.has j ∨ w.heap.size ≤ j) : Mem w0 D ((t, c') :: M) w' := by
  have key : ∀ s d, mget ((t, c') :: M) s = some d → (s = t ∧ d = c') ∨ (s ≠ t ∧ mget M s = some d) := by
    intro s d hs
    rw [mget_cons] at hs
    by_cases hts : t = s
    · rw [if_pos hts] at hs; cases hs; exact .inl ⟨hts.symm, rfl⟩
    · rw [if_neg hts] at hs; exact .inr ⟨fun e => hts e.symm, hs⟩
  refine ⟨hos.trans h.os, htp.trans h.tape, hout.trans h.output, Nat.le_trans h.size hsz, fun j hj hD => ?_, ?_, ?_, ?_, ?_, ?_⟩
  · rw [hk j (Nat.lt_of_lt_of_le hj h.size) (fun hc => ?_)]
    · exact h.keep j hj hD
    · rcases h.above t c ht j hc with h1 | h1
      · omega
      · exact hD h1
  · intro s d hs
    rcases key s d hs with ⟨rfl, rfl⟩ | ⟨hne, h1⟩
    · exact hc'
    · exact Ck.keep (h.stable s d h1) (fun j hj => hk j (h.below s d h1 j hj) (h.apart s d t c h1 ht hne j hj)) (h.holds s d h1)
  · intro s d hs
    rcases key s d hs with ⟨rfl, rfl⟩ | ⟨hne, h1⟩
    · exact hst
    · exact h.stable s d h1
  · intro s d hs j hj
    rcases key s d hs with ⟨rfl, rfl⟩ | ⟨hne, h1⟩
    · exact hb' j hj
    · exact Nat.lt_of_lt_of_le (h.below s d h1 j hj) hsz
  · intro s d hs j hj
    rcases key s d hs with ⟨rfl, rfl⟩ | ⟨hne, h1⟩
    · rcases hfoot j hj with hf | hf
      · exact h.above s c ht j hf
      · exact .inl (Nat.le_trans h.size hf)
    · exact h.above s d h1 j hj
  · have main : ∀ s d, s ≠ t → mget M s = some d → c'.apart d := by
      intro s d hne h1 j hj hd
      rcases hfoot j hj with hf | hf
      · exact h.apart t c s d ht h1 (fun e => hne e.symm) j hf hd
      · have := h.below s d h1 j hd; omega
    intro s d s' d' hs hs' hne
    rcases key s d hs with ⟨rfl, rfl⟩ | ⟨hn1, h1⟩ <;> rcases key s' d' hs' with ⟨rfl, rfl⟩ | ⟨hn2, h2⟩
    · exact absurd rfl hne
    · exact main s' d' hn2 h2
    · exact Ck.apart_symm (main s d hn1 h1)
    · exact h.apart s d s' d' h1 h2 hne

/-- One block has been written. -/
theorem Mem.turn {w0 w w' : World} {D : Blocks} {M : List (Nat × Ck)} (h : Mem w0 D M w) (t b : Nat) (o o' : Obj) (ht : mget M t = some (.pt b o))
    (hos : w'.os = w.os) (htp : w'.tape = w.tape) (hout : w'.output = w.output) (hsz : w'.heap.size = w.heap.size) (hb : w'.heap[b]? = some o') (hk : ∀ k, k ≠ b → w'.heap[k]? = w.heap[k]?) :
    Mem w0 D ((t, .pt b o') :: M) w' :=
  h.swap t _ (.pt b o') ht hos htp hout (Nat.le_of_eq hsz.symm) (fun j _ hj => hk j hj) hb trivial (fun j hj => by rw [hsz]; exact h.below t _ ht j hj) (fun j hj => .inl hj)

/-! ## What is left to do -/

inductive It where
  | code (c : Code)
  | ops (all : Array Oper) (l : List Oper)
  | blk (id : Nat)
  | inv (I : Act → World → Prop)

section
variable (P : Program) (fn : Func) (R : Ending → World → Prop)

/-- What must hold when the run leaves its piece so, with that list left to do. -/
def ext : List It → Exit → Act → World → Prop
  | .code c :: k, .normal, a, w => c.wp P (ext k) a w
  | .ops all l :: k, .normal, a, w => wpList P all (ext k) l a w
  | .blk _ :: k, .normal, a, w => ext k .normal a w
  | .blk id :: k, .exit i, a, w => if i = id then ext k .normal a w else ext k (.exit i) a w
  | .inv I :: _, .normal, a, w => I a w
  | [], e, a, w => bodyPost P fn R e a w
  | _ :: k, e, a, w => ext k e a w
end

/-- From every state in which these slots and this memory are known the run goes well. -/
def G (P : Program) (fn : Func) (R : Ending → World → Prop) (N : Nat) (w0 : World) (D : Blocks) (e : List (Nat × Value)) (M : List (Nat × Ck)) (k : List It) : Prop :=
  ∀ a w, Sat N e a → Mem w0 D M w → ext P fn R k .normal a w

section
variable {P : Program} {fn : Func} {R : Ending → World → Prop} {N : Nat} {w0 : World} {D : Blocks} {e : List (Nat × Value)} {M : List (Nat × Ck)} {k : List It}

theorem ext_then (c : Code) (k : List It) : Exit.then (c.wp P (ext P fn R k)) (ext P fn R k) = ext P fn R (.code c :: k) := by
  funext x a w
  cases x <;> simp [Exit.then, ext]

theorem ext_block (id : Nat) (k : List It) : Exit.inBlock id (ext P fn R k) = ext P fn R (.blk id :: k) := by
  funext x a w
  cases x <;> simp [Exit.inBlock, ext]

theorem ext_inv (I : Act → World → Prop) (k : List It) : Exit.then I (ext P fn R k) = ext P fn R (.inv I :: k) := by
  funext x a w
  cases x <;> simp [Exit.then, ext]

theorem ext_ret : ∀ (k : List It) (a : Act) (w : World), ext P fn R k .ret a w = bodyPost P fn R .ret a w
  | [], _, _ => by simp [ext]
  | x :: k, a, w => by cases x <;> simp [ext, ext_ret k]

/-- Which part of the list is left behind an exit out of that block. -/
def popTo (id : Nat) : List It → Option (List It)
  | [] => none
  | .blk i :: k => bif Nat.beq id i then some k else popTo id k
  | _ :: k => popTo id k

theorem ext_exit {id : Nat} : ∀ {k k' : List It}, popTo id k = some k' → ∀ a w, ext P fn R k (.exit id) a w = ext P fn R k' .normal a w
  | [], _, h, _, _ => by simp [popTo] at h
  | .blk i :: k, k', h, a, w => by
    simp only [popTo] at h
    by_cases hi : id = i
    · subst hi
      simp at h
      simp [ext, h]
    · have hb : Nat.beq id i = false := by
        cases hb : Nat.beq id i with
        | false => rfl
        | true => exact absurd (Nat.eq_of_beq_eq_true hb) hi
      simp only [hb, cond_false] at h
      simp only [ext, if_neg hi]
      exact ext_exit h a w
  | .code c :: k, k', h, a, w => by simp only [popTo] at h; simp only [ext]; exact ext_exit h a w
  | .ops _ _ :: k, k', h, a, w => by simp only [popTo] at h; simp only [ext]; exact ext_exit h a w
  | .inv _ :: k, k', h, a, w => by simp only [popTo] at h; simp only [ext]; exact ext_exit h a w

theorem g_seq {x y : Code} (h : G P fn R N w0 D e M (.code x :: .code y :: k)) : G P fn R N w0 D e M (.code (.seq x y) :: k) :=
  fun a w hs hm => by
    have := h a w hs hm
    simp only [ext] at this ⊢
    exact wp_seq (by rw [ext_then]; exact this)

theorem g_block {id : Nat} {c : Code} (h : G P fn R N w0 D e M (.code c :: .blk id :: k)) : G P fn R N w0 D e M (.code (.block id c) :: k) :=
  fun a w hs hm => by
    have := h a w hs hm
    simp only [ext] at this ⊢
    exact wp_block (by rw [ext_block]; exact this)

theorem g_blk {id : Nat} (h : G P fn R N w0 D e M k) : G P fn R N w0 D e M (.blk id :: k) :=
  fun a w hs hm => by simp only [ext]; exact h a w hs hm

theorem g_skip (h : G P fn R N w0 D e M k) : G P fn R N w0 D e M (.code .skip :: k) :=
  fun a w hs hm => by simp only [ext]; exact wp_skip (h a w hs hm)

theorem g_exit {id : Nat} {k' : List It} (hp : popTo id k = some k') (h : G P fn R N w0 D e M k') : G P fn R N w0 D e M (.code (.exit id) :: k) :=
  fun a w hs hm => by simp only [ext]; exact wp_exit (by rw [ext_exit hp]; exact h a w hs hm)

theorem g_cond {c : Operand} {x y : Code} {b : Bool} (hc : ev e c = some (.bool b)) (ht : b = true → G P fn R N w0 D e M (.code x :: k)) (hf : b = false → G P fn R N w0 D e M (.code y :: k)) :
    G P fn R N w0 D e M (.code (.cond c x y) :: k) := by
  intro a w hs hm
  simp only [ext]
  refine wp_cond_split (hs.eval hc) (fun h => ?_) (fun h => ?_)
  · have := ht h a w hs hm; simpa only [ext] using this
  · have := hf h a w hs hm; simpa only [ext] using this

theorem g_cond_t {c : Operand} {x y : Code} (hc : ev e c = some (.bool true)) (h : G P fn R N w0 D e M (.code x :: k)) : G P fn R N w0 D e M (.code (.cond c x y) :: k) :=
  g_cond hc (fun _ => h) (fun h => by cases h)
theorem g_cond_f {c : Operand} {x y : Code} (hc : ev e c = some (.bool false)) (h : G P fn R N w0 D e M (.code y :: k)) : G P fn R N w0 D e M (.code (.cond c x y) :: k) :=
  g_cond hc (fun h => by cases h) (fun _ => h)

/-- A test that is a comparison: two ways, each with what it says. -/
theorem g_if {c : Operand} {x y : Code} {p : Prop} [Decidable p] (hc : ev e c = some (.bool (decide p))) (ht : p → G P fn R N w0 D e M (.code x :: k)) (hf : ¬ p → G P fn R N w0 D e M (.code y :: k)) :
    G P fn R N w0 D e M (.code (.cond c x y) :: k) :=
  g_cond hc (fun h => ht (of_decide_eq_true h)) (fun h => hf (of_decide_eq_false h))
theorem g_ifn {c : Operand} {x y : Code} {p : Prop} [Decidable p] (hc : ev e c = some (.bool (!(decide p)))) (ht : ¬ p → G P fn R N w0 D e M (.code x :: k)) (hf : p → G P fn R N w0 D e M (.code y :: k)) :
    G P fn R N w0 D e M (.code (.cond c x y) :: k) :=
  g_cond hc (fun h => ht (by simpa using h)) (fun h => hf (by simpa using h))

/-- Fewer slots, less memory. -/
theorem g_sub {e' : List (Nat × Value)} {M' : List (Nat × Ck)} (he : SubE e e') (hM : SubM M M') (h : G P fn R N w0 D e' M' k) : G P fn R N w0 D e M k :=
  fun a w hs hm => h a w (hs.sub he.all) (hm.sub hM.all)

/-- A loop: for the states s of a type of our own the slots E s and the memory X s are known at each round's head, and C s holds; each round lowers m. -/
theorem g_loop {σ : Type} (E : σ → List (Nat × Value)) (X : σ → List (Nat × Ck)) (C : σ → Prop) (m : σ → Nat) (s0 : σ) {body : Code}
    (hE : SubE e (E s0)) (hX : SubM M (X s0)) (h0 : C s0)
    (hr : ∀ s, C s → G P fn R N w0 D (E s) (X s) (.code body :: .inv (fun a w => ∃ s', C s' ∧ m s' < m s ∧ Sat N (E s') a ∧ Mem w0 D (X s') w) :: k)) :
    G P fn R N w0 D e M (.code (.loop body) :: k) := by
  intro a w hs hm
  simp only [ext]
  have key : ∀ (a : Act) (w : World), (∃ s, C s ∧ Sat N (E s) a ∧ Mem w0 D (X s) w) → (Code.loop body).wp P (ext P fn R k) a w := by
    intro a w hI
    classical
    let good (n : Nat) (a : Act) (w : World) : Prop := ∃ s, C s ∧ m s = n ∧ Sat N (E s) a ∧ Mem w0 D (X s) w
    let μ (a : Act) (w : World) : Nat := if h : ∃ n, good n a w then Classical.choose (p := fun n => good n a w ∧ ∀ n', good n' a w → n ≤ n') (by
      obtain ⟨n, hn⟩ := h
      induction n using Nat.strongRecOn with
      | _ n ih =>
        by_cases hlt : ∃ n', n' < n ∧ good n' a w
        · obtain ⟨n', h1, h2⟩ := hlt; exact ih n' h1 h2
        · exact ⟨n, hn, fun n' hn' => by
            rcases Nat.lt_or_ge n' n with h1 | h1
            · exact absurd ⟨n', h1, hn'⟩ hlt
            · exact h1⟩) else 0
    have hμ : ∀ a w, (∃ n, good n a w) → good (μ a w) a w ∧ ∀ n', good n' a w → μ a w ≤ n' := by
      intro a w h
      simp only [μ, dif_pos h]
      exact Classical.choose_spec (p := fun n => good n a w ∧ ∀ n', good n' a w → n ≤ n') _
    refine wp_loop (fun a w => ∃ s, C s ∧ Sat N (E s) a ∧ Mem w0 D (X s) w) μ hI ?_
    intro a w ⟨s, hc, hsat, hmem⟩
    obtain ⟨⟨s1, hc1, hm1, hs1, hx1⟩, _⟩ := hμ a w ⟨m s, s, hc, rfl, hsat, hmem⟩
    have := hr s1 hc1 a w hs1 hx1
    simp only [ext] at this
    rw [← ext_inv] at this
    refine wp_mono this ?_
    intro x a' w' hx
    cases x with
    | normal =>
      obtain ⟨s', hc', hlt, hs', hx'⟩ := hx
      refine ⟨⟨s', hc', hs', hx'⟩, ?_⟩
      have := (hμ a' w' ⟨m s', s', hc', rfl, hs', hx'⟩).2 (m s') ⟨s', hc', rfl, hs', hx'⟩
      omega
    | _ => exact hx
  exact key a w ⟨s0, h0, hs.sub hE.all, hm.sub hX.all⟩

/-- The end of a round. -/
theorem g_round {σ : Type} {E : σ → List (Nat × Value)} {X : σ → List (Nat × Ck)} {C : σ → Prop} {m : σ → Nat} {s : σ} (s' : σ) (hc : C s') (hlt : m s' < m s)
    (hE : SubE e (E s')) (hX : SubM M (X s')) :
    G P fn R N w0 D e M (.inv (fun a w => ∃ s', C s' ∧ m s' < m s ∧ Sat N (E s') a ∧ Mem w0 D (X s') w) :: k) :=
  fun a w hs hm => by simp only [ext]; exact ⟨s', hc, hlt, hs.sub hE.all, hm.sub hX.all⟩

/-- Two ways meet: what follows is proved once, for whatever state of a type of our own. -/
theorem g_join {σ : Type} (E : σ → List (Nat × Value)) (X : σ → List (Nat × Ck)) (C : σ → Prop) {c : Code}
    (h1 : G P fn R N w0 D e M (.code c :: .inv (fun a w => ∃ s', C s' ∧ Sat N (E s') a ∧ Mem w0 D (X s') w) :: k))
    (h2 : ∀ s, C s → G P fn R N w0 D (E s) (X s) k) : G P fn R N w0 D e M (.code c :: k) := by
  intro a w hs hm
  have := h1 a w hs hm
  simp only [ext] at this ⊢
  rw [← ext_inv] at this
  refine wp_mono this ?_
  intro x a' w' hx
  cases x with
  | normal => obtain ⟨s', hc, hs', hx'⟩ := hx; exact h2 s' hc a' w' hs' hx'
  | _ => exact hx
theorem g_meet {σ : Type} {E : σ → List (Nat × Value)} {X : σ → List (Nat × Ck)} {C : σ → Prop} (s' : σ) (hc : C s')
    (hE : SubE e (E s')) (hX : SubM M (X s')) :
    G P fn R N w0 D e M (.inv (fun a w => ∃ s', C s' ∧ Sat N (E s') a ∧ Mem w0 D (X s') w) :: k) :=
  fun a w hs hm => by simp only [ext]; exact ⟨s', hc, hs.sub hE.all, hm.sub hX.all⟩

theorem g_ret_of {v : Value} (hr : ∀ a w, Sat N e a → Mem w0 D M w → (results fn a.tmps).run P w = .ok v w) (hR : ∀ w, Mem w0 D M w → R (.returned v) w) : G P fn R N w0 D e M (.code .ret :: k) :=
  fun a w hs hm => by
    simp only [ext]
    exact wp_ret (by rw [ext_ret]; exact ⟨hs.defers, v, hr a w hs hm, hR w hm⟩)

theorem g_end_of {v : Value} (hr : ∀ a w, Sat N e a → Mem w0 D M w → (results fn a.tmps).run P w = .ok v w) (hR : ∀ w, Mem w0 D M w → R (.returned v) w) : G P fn R N w0 D e M [] :=
  fun a w hs hm => by
    simp only [ext]
    exact ⟨hs.defers, v, hr a w hs hm, hR w hm⟩

theorem getD_of {a : Act} {t : Nat} {v : Value} (hs : Sat N e a) (h : get e t = some v) : a.tmps.getD t undef = v := by
  have := hs.slot t v h
  simp [this]

theorem g_ret1 {t : Nat} {v : Value} (hf : fn.results = #[.tmp t]) (hv : get e t = some v) (hR : ∀ w, Mem w0 D M w → R (.returned v) w) : G P fn R N w0 D e M (.code .ret :: k) :=
  g_ret_of (fun a w hs _ => by rw [results_tmp hf, getD_of hs hv]) hR
theorem g_ret2 {t u : Nat} {v x : Value} (hf : fn.results = #[.tmp t, .tmp u]) (hv : get e t = some v) (hx : get e u = some x) (hR : ∀ w, Mem w0 D M w → R (.returned (.tuple #[v, x])) w) : G P fn R N w0 D e M (.code .ret :: k) :=
  g_ret_of (fun a w hs _ => by rw [results_tmp2 hf, getD_of hs hv, getD_of hs hx]) hR
theorem g_ret0 (hf : fn.results = #[]) (hR : ∀ w, Mem w0 D M w → R (.returned (.tuple #[])) w) : G P fn R N w0 D e M (.code .ret :: k) :=
  g_ret_of (fun a w _ _ => results_none hf _ _ _) hR
theorem g_end0 (hf : fn.results = #[]) (hR : ∀ w, Mem w0 D M w → R (.returned (.tuple #[])) w) : G P fn R N w0 D e M [] :=
  g_end_of (fun a w _ _ => results_none hf _ _ _) hR

theorem g_region {id : Nat} {l : List Oper} (h : G P fn R N w0 D e M (.ops l.toArray l :: k)) : G P fn R N w0 D e M (.code (.region id l.toArray false) :: k) :=
  fun a w hs hm => by
    have := h a w hs hm
    simp only [ext] at this ⊢
    exact wp_region_lit this

theorem g_nil {all : Array Oper} (h : G P fn R N w0 D e M k) : G P fn R N w0 D e M (.ops all [] :: k) :=
  fun a w hs hm => by simp only [ext]; exact wpList_nil (h a w hs hm)

/-- Is an operation wanted, as far as the slots tell? -/
def wantE (ops : Array Oper) (e : List (Nat × Value)) (o : Oper) : Option Bool :=
  match o.guard with
  | none => some true
  | some (j, want) => match (ops[j]?).bind (·.dst) with
    | none => none
    | some dg => match get e dg with
      | some (.bool b) => some (b == want)
      | some _ => some false
      | none => none
theorem wantE_spec {ops : Array Oper} {o : Oper} {a : Act} {b : Bool} (hs : Sat N e a) (h : wantE ops e o = some b) : Region.wanted o (yielded ops a.tmps) = b := by
  unfold wantE at h
  unfold Region.wanted yielded
  cases hg : o.guard with
  | none => rw [hg] at h; simp only [Option.some.injEq] at h; exact h
  | some gw =>
    obtain ⟨j, want⟩ := gw
    rw [hg] at h
    simp only at h ⊢
    cases hd : (ops[j]?).bind (·.dst) with
    | none => rw [hd] at h; cases h
    | some dg =>
      rw [hd] at h
      simp only at h
      cases hv : get e dg with
      | none => rw [hv] at h; cases h
      | some v =>
        rw [hv] at h
        have h1 := hs.slot dg v hv
        simp only [Option.bind_some, h1]
        cases v <;> simp only [Option.some.injEq] at h ⊢ <;> (subst h) <;> simp

theorem wpList_want {all : Array Oper} {Q : Exit → Act → World → Prop} {a : Act} {w : World} {rest : List Oper} {o : Oper} (hw : Region.wanted o (yielded all a.tmps) = true)
    (h : ∀ K : Act → World → Prop, (∀ a w, wpList P all Q rest a w → K a w) → o.wp P a w K Q) : wpList P all Q (o :: rest) a w :=
  wpList_step fun K hK => by rw [if_pos hw]; exact h K hK

/-- The operation hands back v and leaves the world alone. -/
def Pu (P : Program) (N : Nat) (w0 : World) (D : Blocks) (e : List (Nat × Value)) (M : List (Nat × Ck)) (o : Oper) (v : Value) : Prop :=
  ∀ a w, Sat N e a → Mem w0 D M w → (execOp a.eval o).run P w = .ok (.value v) w

theorem g_pu {all : Array Oper} {o : Oper} {rest : List Oper} {d : Nat} {v : Value} (hw : wantE all e o = some true) (hd : o.dst = some d) (hN : Nat.blt d N = true) (hp : Pu P N w0 D e M o v)
    (h : G P fn R N w0 D ((d, v) :: e) M (.ops all rest :: k)) : G P fn R N w0 D e M (.ops all (o :: rest) :: k) :=
  fun a w hs hm => by
    simp only [ext]
    refine wpList_want (wantE_spec hs hw) fun K hK => ?_
    unfold Oper.wp
    rw [hp a w hs hm]
    simp only [Oper.upon, hd]
    refine hK _ _ ?_
    have := h _ w (hs.put (by simpa [Nat.blt_eq] using hN) v) hm
    simpa only [ext] using this

/-- An operation under a guard that says no. -/
theorem g_pass {all : Array Oper} {o : Oper} {rest : List Oper} {d : Nat} (hw : wantE all e o = some false) (hd : o.dst = some d) (hN : Nat.blt d N = true)
    (h : G P fn R N w0 D ((d, undef) :: e) M (.ops all rest :: k)) : G P fn R N w0 D e M (.ops all (o :: rest) :: k) :=
  fun a w hs hm => by
    simp only [ext]
    refine wpList_skip (wantE_spec hs hw) ?_
    rw [hd]
    have := h _ w (hs.put (by simpa [Nat.blt_eq] using hN) undef) hm
    simpa only [ext] using this

/-- A slot's value under another spelling. -/
theorem g_as {t : Nat} {v u : Value} (hv : get e t = some v) (hu : v = u) (hN : Nat.blt t N = true) (h : G P fn R N w0 D ((t, u) :: e) M k) : G P fn R N w0 D e M k := by
  intro a w hs hm
  refine h a w ⟨hs.size, hs.defers, fun i x hi => ?_⟩ hm
  rw [get_cons] at hi
  by_cases ht : t = i
  · subst ht; rw [if_pos rfl] at hi; cases hi; rw [← hu]; exact hs.slot _ _ hv
  · rw [if_neg ht] at hi; exact hs.slot _ _ hi

end

end Go.Sx

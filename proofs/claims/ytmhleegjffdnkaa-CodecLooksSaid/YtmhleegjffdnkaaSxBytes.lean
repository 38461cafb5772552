/-
  Slices for the judgement of Sx: what a slice reads as, slices that the run itself owns and lets grow, append, copy, slicing. No condition: they speak of any program.
-/
import Derived.Test.YtmhleegjffdnkaaSxMem
namespace Go.Sx
open Go

/-! ## What a slice reads as: its address and the cells from there on -/
def RdV (w : World) (p : Option Addr) (L : List Value) : Prop :=
  L = [] ∨ ∃ b o, p = some ⟨b, o, none⟩ ∧ ∀ i v, L[i]? = some v → w.cell? ⟨b, o + i, none⟩ = some v

def adr (p : Option Addr) (j : Nat) : Option Addr := p.map fun a => ⟨a.block, a.off + j, none⟩

theorem RdV.nil (w : World) (p : Option Addr) : RdV w p [] := .inl rfl
theorem RdV.place {w : World} {p : Option Addr} {L : List Value} (h : RdV w p L) (hn : 0 < L.length) : ∃ b o, p = some ⟨b, o, none⟩ ∧ ∀ i v, L[i]? = some v → w.cell? ⟨b, o + i, none⟩ = some v := by
  rcases h with rfl | h
  · simp at hn
  · exact h
theorem RdV.keep {w w' : World} {p : Option Addr} {L : List Value} (h : RdV w p L) (hk : ∀ b o, p = some ⟨b, o, none⟩ → L ≠ [] → w'.heap[b]? = w.heap[b]?) : RdV w' p L := by
  rcases h with rfl | ⟨b, o, rfl, hc⟩
  · exact .inl rfl
  · by_cases hL : L = []
    · exact .inl hL
    · refine .inr ⟨b, o, rfl, fun i v hi => ?_⟩
      rw [World.cell?_of_block (w := w) (a := ⟨b, o + i, none⟩) (hk b o rfl hL)]
      exact hc i v hi
theorem RdV.lt {w : World} {b o : Nat} {L : List Value} (h : RdV w (some ⟨b, o, none⟩) L) (hn : L ≠ []) : b < w.heap.size := by
  rcases h with rfl | ⟨b', o', e, hc⟩
  · exact absurd rfl hn
  · simp only [Option.some.injEq, Addr.mk.injEq, and_true] at e
    obtain ⟨rfl, rfl⟩ := e
    cases L with
    | nil => exact absurd rfl hn
    | cons v r => exact World.block_lt_of_cell? w ⟨b, o + 0, none⟩ (hc 0 v (by simp))
/-- What is old and not written reads as it did. -/
theorem RdV.mem {w0 w : World} {D : List Nat} {M : List (Nat × Ck)} {p : Option Addr} {L : List Value} (h : RdV w0 p L) (hm : Mem w0 D M w) (hD : ∀ b o, p = some ⟨b, o, none⟩ → b ∉ D) : RdV w p L :=
  h.keep fun b o e hL => by
    subst e
    exact hm.keep b (h.lt hL) (hD b o rfl)
theorem RdV.mem0 {w0 w : World} {M : List (Nat × Ck)} {p : Option Addr} {L : List Value} (h : RdV w0 p L) (hm : Mem w0 [] M w) : RdV w p L := h.mem hm fun _ _ _ => by simp
theorem RdV.grows {w w' : World} {cs : List Ck} {p : Option Addr} {L : List Value} (h : RdV w p L) (hg : Grows w [] cs w') : RdV w' p L :=
  h.keep fun b o e hL => by
    subst e
    exact hg.keep b (h.lt hL) (by simp)
theorem RdV.pt {w : World} {b off : Nat} {c : Array Value} {E : TypeId} {fz : Nat × Nat} {L : List Value} (h : w.heap[b]? = some (.cells c E fz)) (hc : ∀ i v, L[i]? = some v → c[off + i]? = some v) : RdV w (some ⟨b, off, none⟩) L :=
  .inr ⟨b, off, rfl, fun i v hi => by rw [cell_pt h]; exact hc i v hi⟩
theorem RdV.row {w : World} {b : Nat} {L J : List Value} {E : TypeId} {fz : Nat × Nat} (h : w.heap[b]? = some (.cells (L ++ J).toArray E fz)) : RdV w (some ⟨b, 0, none⟩) L :=
  RdV.pt h fun i v hi => by
    have hlt := (List.getElem?_eq_some_iff.1 hi).1
    simp [List.getElem?_append_left hlt, hi]
theorem RdV.take {w : World} {p : Option Addr} {L L' : List Value} (h : RdV w p (L ++ L')) : RdV w p L := by
  rcases h with h | ⟨b, o, rfl, hc⟩
  · exact .inl (List.append_eq_nil_iff.1 h).1
  · refine .inr ⟨b, o, rfl, fun i v hi => hc i v ?_⟩
    rw [List.getElem?_append_left (List.getElem?_eq_some_iff.1 hi).1]; exact hi
/-- For the laws of append and copy: the cells from the address on. -/
theorem RdV.cells {w : World} {p : Option Addr} {L : List Value} (h : RdV w p L) {a : Addr} (ha : p = some a) : ∀ j v, L[j]? = some v → w.cell? (a.add j) = some v := by
  rcases h with rfl | ⟨b, o, rfl, hc⟩
  · intro j v hj; simp at hj
  · cases ha; intro j v hj; rw [Addr.add_lit]; exact hc j v hj

/-! ## Bytes -/
def bs (l : List (BitVec 8)) : List Value := l.map b8
theorem bs_length (l : List (BitVec 8)) : (bs l).length = l.length := by simp [bs]
theorem bs_get {l : List (BitVec 8)} {i : Nat} {x : BitVec 8} (h : l[i]? = some x) : (bs l)[i]? = some (b8 x) := by simp [bs, h]
theorem bs_append (l m : List (BitVec 8)) : bs (l ++ m) = bs l ++ bs m := by simp [bs]
theorem bs_inj {l m : List (BitVec 8)} (h : bs l = bs m) : l = m := by
  unfold bs at h
  induction l generalizing m with
  | nil => cases m with
    | nil => rfl
    | cons y m => simp at h
  | cons x l ih => cases m with
    | nil => simp at h
    | cons y m =>
      simp only [List.map_cons, List.cons.injEq] at h
      rw [b8_inj h.1, ih h.2]
theorem oneCell_b8 (x : BitVec 8) : (b8 x).oneCell' = true := rfl
theorem oneCell_b32 (x : BitVec 32) : (b32 x).oneCell' = true := rfl
theorem oneCell_b64 (x : BitVec 64) : (b64 x).oneCell' = true := rfl
theorem oneCell_bs (l : List (BitVec 8)) : ∀ u ∈ bs l, u.oneCell' = true := by
  intro u hu
  obtain ⟨x, _, rfl⟩ := List.mem_map.1 hu
  rfl

section
variable {P : Program} {fn : Func} {R : Ending → World → Prop} {N : Nat} {w0 : World} {D : List Nat} {e : List (Nat × Value)} {M : List (Nat × Ck)} {k : List It} {o : Oper} {all : Array Oper} {rest : List Oper}

/-- The address of an element of a slice that reads as L (elements of one cell). -/
theorem pu_atR {t E : TypeId} {x ix : Operand} {p : Option Addr} {n c : Nat} {kd : IntKind} {i : Int} {L : List Value} (j : Nat) (hr : RdV w0 p L) [hu : Und P t (.slice E)] [hz : Siz P E 1] (ho : o.op = .indexAddr t x ix) (hx : ev e x = some (.slice p n c)) (hi : ev e ix = some (.int kd i))
    (hj : i = (j : Int)) (hlt : j < n) (hL : j < L.length) : Pu P N w0 D e M o (.pointer (adr p j)) := by
  obtain ⟨b, off, rfl, _⟩ := hr.place (by omega)
  exact pu_at1 j ho hx hi hj hlt
/-- Reading that element. -/
theorem pu_rd {t : TypeId} {x : Operand} {p : Option Addr} {L : List Value} {j : Nat} {v : Value} (hr : RdV w0 p L) [hu : Agg P t false] (ho : o.op = .load t x) (hx : ev e x = some (.pointer (adr p j))) (hv : L[j]? = some v) (hD : ∀ b o, p = some ⟨b, o, none⟩ → b ∉ D) : Pu P N w0 D e M o v := by
  obtain ⟨b, off, rfl, hc⟩ := hr.place (Nat.lt_of_le_of_lt (Nat.zero_le j) (List.getElem?_eq_some_iff.1 hv).1)
  exact pu_old ho hx (hc j v hv) (hD b off rfl)
theorem pu_rd0 {t : TypeId} {x : Operand} {p : Option Addr} {L : List Value} {j : Nat} {v : Value} (hr : RdV w0 p L) [hu : Agg P t false] (ho : o.op = .load t x) (hx : ev e x = some (.pointer (adr p j))) (hv : L[j]? = some v) : Pu P N w0 [] e M o v :=
  pu_rd hr ho hx hv (fun _ _ _ => by simp)

/-! ## Slices of the run's own that grow -/
/-- The slice at p with capacity c is the run's own: the cells L lie at the head of its block (s cells an element); nil, if nothing has been put into it. -/
def Own (E : TypeId) (s : Nat) (lo hi : Nat) (p : Option Addr) (c : Nat) (L : List Value) (w : World) : Prop :=
  (p = none ∧ L = [] ∧ c = 0) ∨ ∃ b J, p = some ⟨b, 0, none⟩ ∧ lo = b ∧ hi = b + 1 ∧ w.heap[b]? = some (.cells (L ++ J).toArray E (0, 0)) ∧ (L ++ J).length = c * s ∧ c ≤ 9223372036854775807

theorem Own.loc {E : TypeId} {s lo hi : Nat} {p : Option Addr} {c : Nat} {L : List Value} : Local lo hi (Own E s lo hi p c L) := by
  intro w w' h ho
  rcases ho with h1 | ⟨b, J, h1, rfl, rfl, h2, h3, h4⟩
  · exact .inl h1
  · exact .inr ⟨_, J, h1, rfl, rfl, by rw [h _ (Nat.le_refl _) (by omega)]; exact h2, h3, h4⟩
theorem Own.rd {E : TypeId} {s lo hi : Nat} {p : Option Addr} {c : Nat} {L : List Value} {w : World} (h : Own E s lo hi p c L w) : RdV w p L := by
  rcases h with ⟨_, rfl, _⟩ | ⟨b, J, rfl, _, _, h2, _⟩
  · exact .inl rfl
  · exact RdV.row h2

/-- A part of memory takes another one's place. -/
theorem Mem.swap {w w' : World} (h : Mem w0 D M w) (t : Nat) (c c' : Ck) (ht : mget M t = some c) (hab : w0.heap.size ≤ c.lo)
    (hos : w'.os = w.os) (htp : w'.tape = w.tape) (hout : w'.output = w.output) (hsz : w.heap.size ≤ w'.heap.size) (hk : ∀ j, j < w.heap.size → ¬ (c.lo ≤ j ∧ j < c.hi) → w'.heap[j]? = w.heap[j]?)
    (hc' : c'.holds w') (hst : c'.stable) (hb' : c'.hi ≤ w'.heap.size) (hfoot : (c.lo ≤ c'.lo ∧ c'.hi ≤ c.hi) ∨ w.heap.size ≤ c'.lo) : Mem w0 D ((t, c') :: M) w' := by
  have key : ∀ s d, mget ((t, c') :: M) s = some d → (s = t ∧ d = c') ∨ (s ≠ t ∧ mget M s = some d) := by
    intro s d hs
    rw [mget_cons] at hs
    by_cases hts : t = s
    · rw [if_pos hts] at hs; cases hs; exact .inl ⟨hts.symm, rfl⟩
    · rw [if_neg hts] at hs; exact .inr ⟨fun e => hts e.symm, hs⟩
  have hle := Ck.le (h.stable t c ht)
  refine ⟨hos.trans h.os, htp.trans h.tape, hout.trans h.output, Nat.le_trans h.size hsz, fun j hj hD => ?_, ?_, ?_, ?_, ?_, ?_⟩
  · rw [hk j (Nat.lt_of_lt_of_le hj h.size) (by omega)]; exact h.keep j hj hD
  · intro s d hs
    rcases key s d hs with ⟨rfl, rfl⟩ | ⟨hne, h1⟩
    · exact hc'
    · refine Ck.keep (h.stable s d h1) (fun j hj1 hj2 => hk j (Nat.lt_of_lt_of_le hj2 (h.below s d h1)) ?_) (h.holds s d h1)
      have := h.apart s d t c h1 ht hne
      simp only [Ck.apart] at this
      omega
  · intro s d hs
    rcases key s d hs with ⟨rfl, rfl⟩ | ⟨hne, h1⟩
    · exact hst
    · exact h.stable s d h1
  · intro s d hs
    rcases key s d hs with ⟨rfl, rfl⟩ | ⟨hne, h1⟩
    · exact hb'
    · exact Nat.le_trans (h.below s d h1) hsz
  · intro s d hs
    rcases key s d hs with ⟨rfl, rfl⟩ | ⟨hne, h1⟩
    · refine .inl ?_
      rcases hfoot with hf | hf
      · omega
      · exact Nat.le_trans h.size hf
    · exact h.above s d h1
  · have main : ∀ s d, s ≠ t → mget M s = some d → c'.apart d := by
      intro s d hne h1
      have h2 := h.apart t c s d ht h1 (fun e => hne e.symm)
      have h3 := h.below s d h1
      simp only [Ck.apart] at h2 ⊢
      have := Ck.le hst
      have := Ck.le (h.stable s d h1)
      rcases hfoot with hf | hf
      · omega
      · omega
    intro s d s' d' hs hs' hne
    rcases key s d hs with ⟨rfl, rfl⟩ | ⟨hn1, h1⟩ <;> rcases key s' d' hs' with ⟨rfl, rfl⟩ | ⟨hn2, h2⟩
    · exact absurd rfl hne
    · exact main s' d' hn2 h2
    · exact (main s d hn1 h1).symm
    · exact h.apart s d s' d' h1 h2 hne

/-- What is known of memory told in other words. -/
theorem g_recast (t : Nat) (c c' : Ck) (ht : mget M t = some c) (hlo : c'.lo = c.lo) (hhi : c'.hi = c.hi) (hc : ∀ w, c.holds w → c'.holds w) (hst : c'.stable) (hp : ∀ b o, c = .pt b o → b ∈ D → c' = .pt b o)
    (h : G P fn R N w0 D e ((t, c') :: M) k) : G P fn R N w0 D e M k := by
  intro a w hs hm
  refine h a w hs ?_
  have key : ∀ s d, mget ((t, c') :: M) s = some d → (s = t ∧ d = c') ∨ (s ≠ t ∧ mget M s = some d) := by
    intro s d hs
    rw [mget_cons] at hs
    by_cases hts : t = s
    · rw [if_pos hts] at hs; cases hs; exact .inl ⟨hts.symm, rfl⟩
    · rw [if_neg hts] at hs; exact .inr ⟨fun e => hts e.symm, hs⟩
  refine ⟨hm.os, hm.tape, hm.output, hm.size, hm.keep, ?_, ?_, ?_, ?_, ?_⟩
  · intro s d hs'
    rcases key s d hs' with ⟨rfl, rfl⟩ | ⟨_, h1⟩
    · exact hc w (hm.holds _ _ ht)
    · exact hm.holds s d h1
  · intro s d hs'
    rcases key s d hs' with ⟨rfl, rfl⟩ | ⟨_, h1⟩
    · exact hst
    · exact hm.stable s d h1
  · intro s d hs'
    rcases key s d hs' with ⟨rfl, rfl⟩ | ⟨_, h1⟩
    · rw [hhi]; exact hm.below _ _ ht
    · exact hm.below s d h1
  · intro s d hs'
    rcases key s d hs' with ⟨rfl, rfl⟩ | ⟨_, h1⟩
    · rcases hm.above _ _ ht with h2 | ⟨b, ob, h2, h3, h4⟩
      · exact .inl (by rw [hlo]; exact h2)
      · exact .inr ⟨b, ob, hp b ob h2 h3, h3, h4⟩
    · exact hm.above s d h1
  · intro s d s' d' hs1 hs2 hne
    have aux : ∀ s d, s ≠ t → mget M s = some d → c'.apart d := by
      intro s d hne h1
      have h2 := hm.apart t c s d ht h1 (fun e => hne e.symm)
      simp only [Ck.apart, hlo, hhi] at h2 ⊢
      exact h2
    rcases key s d hs1 with ⟨rfl, rfl⟩ | ⟨hn1, h1⟩ <;> rcases key s' d' hs2 with ⟨rfl, rfl⟩ | ⟨hn2, h2⟩
    · exact absurd rfl hne
    · exact aux s' d' hn2 h2
    · exact (aux s d hn1 h1).symm
    · exact hm.apart s d s' d' h1 h2 hne

/-- What follows from what is known. -/
theorem g_know {φ : Prop} (h : ∀ w, Mem w0 D M w → φ) (h' : φ → G P fn R N w0 D e M k) : G P fn R N w0 D e M k := fun a w hs hm => h' (h w hm) a w hs hm
theorem g_ex {σ : Type} {M' : σ → List (Nat × Ck)} (h : ∀ w, Mem w0 D M w → ∃ x, Mem w0 D (M' x) w) (h' : ∀ x, G P fn R N w0 D e (M' x) k) : G P fn R N w0 D e M k := fun a w hs hm => by
  obtain ⟨x, hx⟩ := h w hm
  exact h' x a w hs hx

/-- A made row is an own slice. -/
theorem g_own (t : Nat) {b c s : Nat} {L J : List Value} {E : TypeId} (ht : mget M t = some (.pt b (.cells (L ++ J).toArray E (0, 0)))) (hl : (L ++ J).length = c * s) (hc : c ≤ 9223372036854775807) (hb : D = [])
    (h : G P fn R N w0 D e ((t, .fact b (b + 1) (Own E s b (b + 1) (some ⟨b, 0, none⟩) c L)) :: M) k) : G P fn R N w0 D e M k :=
  g_recast t _ (.fact b (b + 1) (Own E s b (b + 1) (some ⟨b, 0, none⟩) c L)) ht rfl rfl (fun w hw => .inr ⟨b, J, rfl, rfl, rfl, hw, hl, hc⟩) ⟨by omega, Own.loc⟩ (fun b' o' e hD => by rw [hb] at hD; simp at hD) h

/-- A new own slice of nothing: nil. -/
theorem g_nilOwn (t : Nat) (E : TypeId) (s : Nat) (hf : fresh M [t] = true) (h : G P fn R N w0 D e ((t, .fact w0.heap.size w0.heap.size (Own E s w0.heap.size w0.heap.size none 0 [])) :: M) k) : G P fn R N w0 D e M k := by
  intro a w hs hm
  refine h a w hs ?_
  have hg : Grows w [] [.fact w.heap.size w.heap.size (Own E s w.heap.size w.heap.size none 0 [])] w := by
    refine ⟨rfl, rfl, rfl, Nat.le_refl _, fun _ _ _ => rfl, fun _ h => by simp at h, ?_, ?_, ?_, ?_, by simp⟩
    all_goals intro c hc; obtain rfl := List.mem_singleton.1 hc
    · exact .inl ⟨rfl, rfl, rfl⟩
    · exact ⟨Nat.le_refl _, Own.loc⟩
    · simp [Ck.lo]
    · simp [Ck.hi]
  have key : ∀ s' d, mget ((t, Ck.fact w0.heap.size w0.heap.size (Own E s w0.heap.size w0.heap.size none 0 [])) :: M) s' = some d → (s' = t ∧ d = .fact w0.heap.size w0.heap.size (Own E s w0.heap.size w0.heap.size none 0 [])) ∨ (s' ≠ t ∧ mget M s' = some d) := by
    intro s' d hs
    rw [mget_cons] at hs
    by_cases hts : t = s'
    · rw [if_pos hts] at hs; cases hs; exact .inl ⟨hts.symm, rfl⟩
    · rw [if_neg hts] at hs; exact .inr ⟨fun e => hts e.symm, hs⟩
  refine ⟨hm.os, hm.tape, hm.output, hm.size, hm.keep, ?_, ?_, ?_, ?_, ?_⟩
  · intro s' d h1
    rcases key s' d h1 with ⟨rfl, rfl⟩ | ⟨_, h1⟩
    · exact .inl ⟨rfl, rfl, rfl⟩
    · exact hm.holds _ _ h1
  · intro s' d h1
    rcases key s' d h1 with ⟨rfl, rfl⟩ | ⟨_, h1⟩
    · exact ⟨Nat.le_refl _, Own.loc⟩
    · exact hm.stable _ _ h1
  · intro s' d h1
    rcases key s' d h1 with ⟨rfl, rfl⟩ | ⟨_, h1⟩
    · exact hm.size
    · exact hm.below _ _ h1
  · intro s' d h1
    rcases key s' d h1 with ⟨rfl, rfl⟩ | ⟨_, h1⟩
    · exact .inl (Nat.le_refl _)
    · exact hm.above _ _ h1
  · have aux : ∀ d s', mget M s' = some d → (Ck.fact w0.heap.size w0.heap.size (Own E s w0.heap.size w0.heap.size none 0 [])).apart d := by
      intro d s' h1
      simp only [Ck.apart, Ck.lo, Ck.hi]
      rcases hm.above _ _ h1 with h2 | ⟨b, ob, rfl, h3, h4⟩
      · exact .inl h2
      · simp only [Ck.lo, Ck.hi]; omega
    intro s1 d1 s2 d2 h1 h2 hne
    rcases key s1 d1 h1 with ⟨rfl, rfl⟩ | ⟨_, h3⟩ <;> rcases key s2 d2 h2 with ⟨rfl, rfl⟩ | ⟨_, h4⟩
    · exact absurd rfl hne
    · exact aux _ _ h4
    · exact (aux _ _ h3).symm
    · exact hm.apart _ _ _ _ h3 h4 hne

end
end Go.Sx

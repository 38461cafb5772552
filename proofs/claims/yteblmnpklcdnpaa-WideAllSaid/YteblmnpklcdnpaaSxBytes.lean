/-
  Slices for the judgement of Sx: what a slice reads as, slices that the run itself owns and lets grow, append, copy, slicing. No condition: they speak of any program.
-/
import Derived.Test.YteblmnpklcdnpaaSxMem
set_option linter.unusedVariables false
set_option linter.unusedSimpArgs false
namespace Go.Sx
open Go

/-! ## What a slice reads as: its address and the cells from there on -/
def RdV (w : World) (p : Option Addr) (L : List Value) : Prop :=
  L = [] ∨ ∃ b o, p = some ⟨b, o, none⟩ ∧ ∀ i v, L[i]? = some v → w.cell? ⟨b, o + i, none⟩ = some v

def adr (p : Option Addr) (j : Nat) : Option Addr := p.map fun a => ⟨a.block, a.off + j, none⟩

theorem RdV.nil (w : World) (p : Option Addr) : RdV w p [] := .inl rfl
theorem RdV.place {w : World} {p : Option Addr} {L : List Value} (h : RdV w p L) (hn : 0 < L.length) : ∃ b o, p = some ⟨b, o, none⟩ ∧ ∀ i v, L[i]? = some v → w.cell? ⟨b, o + i, none⟩ = some v := by
  rcases h with rfl | h
  · simp at hn
  · exact h
theorem RdV.keep {w w' : World} {p : Option Addr} {L : List Value} (h : RdV w p L) (hk : ∀ b o, p = some ⟨b, o, none⟩ → L ≠ [] → w'.heap[b]? = w.heap[b]?) : RdV w' p L := by
  rcases h with rfl | ⟨b, o, rfl, hc⟩
  · exact .inl rfl
  · by_cases hL : L = []
    · exact .inl hL
    · refine .inr ⟨b, o, rfl, fun i v hi => ?_⟩
      rw [World.cell?_of_block (w := w) (a := ⟨b, o + i, none⟩) (hk b o rfl hL)]
      exact hc i v hi
theorem RdV.lt {w : World} {b o : Nat} {L : List Value} (h : RdV w (some ⟨b, o, none⟩) L) (hn : L ≠ []) : b < w.heap.size := by
  rcases h with rfl | ⟨b', o', e, hc⟩
  · exact absurd rfl hn
  · simp only [Option.some.injEq, Addr.mk.injEq, and_true] at e
    obtain ⟨rfl, rfl⟩ := e
    cases L with
    | nil => exact absurd rfl hn
    | cons v r => exact World.block_lt_of_cell? w ⟨b, o + 0, none⟩ (hc 0 v (by simp))
/-- What is old and not written reads as it did. -/
theorem RdV.mem {w0 w : World} {D : Blocks} {M : List (Nat × Ck)} {p : Option Addr} {L : List Value} (h : RdV w0 p L) (hm : Mem w0 D M w) (hD : ∀ b o, p = some ⟨b, o, none⟩ → ¬ D b) : RdV w p L :=
  h.keep fun b o e hL => by
    subst e
    exact hm.keep b (h.lt hL) (hD b o rfl)
theorem RdV.mem0 {w0 w : World} {M : List (Nat × Ck)} {p : Option Addr} {L : List Value} (h : RdV w0 p L) (hm : Mem w0 Nob M w) : RdV w p L := h.mem hm fun _ _ _ h => h
theorem RdV.grows {w w' : World} {cs : List Ck} {p : Option Addr} {L : List Value} (h : RdV w p L) (hg : Grows w Nob cs w') : RdV w' p L :=
  h.keep fun b o e hL => by
    subst e
    exact hg.keep b (h.lt hL) (fun h => h)
theorem RdV.pt {w : World} {b off : Nat} {c : Array Value} {E : TypeId} {fz : Nat × Nat} {L : List Value} (h : w.heap[b]? = some (.cells c E fz)) (hc : ∀ i v, L[i]? = some v → c[off + i]? = some v) : RdV w (some ⟨b, off, none⟩) L :=
  .inr ⟨b, off, rfl, fun i v hi => by rw [cell_pt h]; exact hc i v hi⟩
theorem RdV.row {w : World} {b : Nat} {L J : List Value} {E : TypeId} {fz : Nat × Nat} (h : w.heap[b]? = some (.cells (L ++ J).toArray E fz)) : RdV w (some ⟨b, 0, none⟩) L :=
  RdV.pt h fun i v hi => by
    have hlt := (List.getElem?_eq_some_iff.1 hi).1
    simp [List.getElem?_append_left hlt, hi]
theorem RdV.take {w : World} {p : Option Addr} {L L' : List Value} (h : RdV w p (L ++ L')) : RdV w p L := by
  rcases h with h | ⟨b, o, rfl, hc⟩
  · exact .inl (List.append_eq_nil_iff.1 h).1
  · refine .inr ⟨b, o, rfl, fun i v hi => hc i v ?_⟩
    rw [List.getElem?_append_left (List.getElem?_eq_some_iff.1 hi).1]; exact hi
/-- For the laws of append and copy: the cells from the address on. -/
theorem RdV.cells {w : World} {p : Option Addr} {L : List Value} (h : RdV w p L) {a : Addr} (ha : p = some a) : ∀ j v, L[j]? = some v → w.cell? (a.add j) = some v := by
  rcases h with rfl | ⟨b, o, rfl, hc⟩
  · intro j v hj; simp at hj
  · cases ha; intro j v hj; rw [Addr.add_lit]; exact hc j v hj

/-! ## Bytes -/
def bs (l : List (BitVec 8)) : List Value := l.map b8
theorem bs_length (l : List (BitVec 8)) : (bs l).length = l.length := by simp [bs]
theorem bs_get {l : List (BitVec 8)} {i : Nat} {x : BitVec 8} (h : l[i]? = some x) : (bs l)[i]? = some (b8 x) := by simp [bs, h]
theorem bs_append (l m : List (BitVec 8)) : bs (l ++ m) = bs l ++ bs m := by simp [bs]
theorem bs_inj {l m : List (BitVec 8)} (h : bs l = bs m) : l = m := by
  unfold bs at h
  induction l generalizing m with
  | nil => cases m with
    | nil => rfl
    | cons y m => simp at h
  | cons x l ih => cases m with
    | nil => simp at h
    | cons y m =>
      simp only [List.map_cons, List.cons.injEq] at h
      rw [b8_inj h.1, ih h.2]
theorem oneCell_b8 (x : BitVec 8) : (b8 x).oneCell' = true := rfl
theorem oneCell_b32 (x : BitVec 32) : (b32 x).oneCell' = true := rfl
theorem oneCell_b64 (x : BitVec 64) : (b64 x).oneCell' = true := rfl
theorem oneCell_bs (l : List (BitVec 8)) : ∀ u ∈ bs l, u.oneCell' = true := by
  intro u hu
  obtain ⟨x, _, rfl⟩ := List.mem_map.1 hu
  rfl

section
variable {P : Program} {fn : Func} {R : Ending → World → Prop} {N : Nat} {w0 : World} {D : Blocks} {e : List (Nat × Value)} {M : List (Nat × Ck)} {k : List It} {o : Oper} {all : Array Oper} {rest : List Oper}

/-- The address of an element of a slice that reads as L (elements of one cell). -/
theorem pu_atR {t E : TypeId} {x ix : Operand} {p : Option Addr} {n c : Nat} {kd : IntKind} {i : Int} {L : List Value} (j : Nat) (hr : RdV w0 p L) [hu : Und P t (.slice E)] [hz : Siz P E 1] (ho : o.op = .indexAddr t x ix) (hx : ev e x = some (.slice p n c)) (hi : ev e ix = some (.int kd i))
    (hj : i = (j : Int)) (hlt : j < n) (hL : j < L.length) : Pu P N w0 D e M o (.pointer (adr p j)) := by
  obtain ⟨b, off, rfl, _⟩ := hr.place (by omega)
  exact pu_at1 j ho hx hi hj hlt
/-- Reading that element. -/
theorem pu_rd {t : TypeId} {x : Operand} {p : Option Addr} {L : List Value} {j : Nat} {v : Value} (hr : RdV w0 p L) [hu : Agg P t false] (ho : o.op = .load t x) (hx : ev e x = some (.pointer (adr p j))) (hv : L[j]? = some v) (hD : ∀ b o, p = some ⟨b, o, none⟩ → ¬ D b) : Pu P N w0 D e M o v := by
  obtain ⟨b, off, rfl, hc⟩ := hr.place (Nat.lt_of_le_of_lt (Nat.zero_le j) (List.getElem?_eq_some_iff.1 hv).1)
  exact pu_old ho hx (hc j v hv) (hD b off rfl)
theorem pu_rd0 {t : TypeId} {x : Operand} {p : Option Addr} {L : List Value} {j : Nat} {v : Value} (hr : RdV w0 p L) [hu : Agg P t false] (ho : o.op = .load t x) (hx : ev e x = some (.pointer (adr p j))) (hv : L[j]? = some v) : Pu P N w0 Nob e M o v :=
  pu_rd hr ho hx hv (fun _ _ _ h => h)

/-! ## Slices of the run's own that grow -/
/-- The slice at p with capacity c is the run's own: the cells L lie at the head of its block (s cells an element); nil, if nothing has been put into it. -/
def Own (E : TypeId) (s : Nat) (p : Option Addr) (c : Nat) (L : List Value) (w : World) : Prop :=
  (p = none ∧ L = [] ∧ c = 0) ∨ ∃ b J, p = some ⟨b, 0, none⟩ ∧ w.heap[b]? = some (.cells (L ++ J).toArray E (0, 0)) ∧ (L.length ≤ c * s ∧ c * s ≤ (L ++ J).length) ∧ c ≤ 9223372036854775807
/-- The block that a slice lies in. -/
def At (p : Option Addr) : Blocks := fun j => ∃ a, p = some a ∧ a.block = j
theorem At.some {b o : Nat} {x : Option Nat} {j : Nat} : At (some ⟨b, o, x⟩) j ↔ j = b := by
  constructor
  · rintro ⟨a, h, rfl⟩; cases h; rfl
  · rintro rfl; exact ⟨_, rfl, rfl⟩
theorem At.none {j : Nat} : ¬ At none j := by rintro ⟨a, h, _⟩; cases h

theorem Own.loc {E : TypeId} {s : Nat} {p : Option Addr} {c : Nat} {L : List Value} : Local (At p) (Own E s p c L) := by
  intro w w' h ho
  rcases ho with h1 | ⟨b, J, rfl, h2, h3, h4⟩
  · exact .inl h1
  · exact .inr ⟨_, J, rfl, by rw [h b (At.some.2 rfl)]; exact h2, h3, h4⟩
theorem Own.rd {E : TypeId} {s : Nat} {p : Option Addr} {c : Nat} {L : List Value} {w : World} (h : Own E s p c L w) : RdV w p L := by
  rcases h with ⟨_, rfl, _⟩ | ⟨b, J, rfl, h2, _⟩
  · exact .inl rfl
  · exact RdV.row h2

/-- What is known of memory told in other words. -/
theorem g_recast (t : Nat) (c c' : Ck) (ht : mget M t = some c) (hc : ∀ w, c.holds w → c'.holds w) (hst : c'.stable) (hin : ∀ j, c'.has j → c.has j)
    (h : G P fn R N w0 D e ((t, c') :: M) k) : G P fn R N w0 D e M k := fun a w hs hm =>
  h a w hs (hm.swap t c c' ht rfl rfl rfl (Nat.le_refl _) (fun _ _ _ => rfl) (hc w (hm.holds _ _ ht)) hst (fun j hj => hm.below _ _ ht j (hin j hj)) (fun j hj => .inl (hin j hj)))

/-- What follows from what is known. -/
theorem g_know {φ : Prop} (h : ∀ w, Mem w0 D M w → φ) (h' : φ → G P fn R N w0 D e M k) : G P fn R N w0 D e M k := fun a w hs hm => h' (h w hm) a w hs hm
theorem g_ex {σ : Type} {M' : σ → List (Nat × Ck)} (h : ∀ w, Mem w0 D M w → ∃ x, Mem w0 D (M' x) w) (h' : ∀ x, G P fn R N w0 D e (M' x) k) : G P fn R N w0 D e M k := fun a w hs hm => by
  obtain ⟨x, hx⟩ := h w hm
  exact h' x a w hs hx

/-- A made row is an own slice. -/
theorem g_own (t : Nat) {b c s : Nat} {L J : List Value} {E : TypeId} (ht : mget M t = some (.pt b (.cells (L ++ J).toArray E (0, 0)))) (hl : L.length ≤ c * s ∧ c * s ≤ (L ++ J).length) (hc : c ≤ 9223372036854775807)
    (h : G P fn R N w0 D e ((t, .fact (At (some ⟨b, 0, none⟩)) (Own E s (some ⟨b, 0, none⟩) c L)) :: M) k) : G P fn R N w0 D e M k :=
  g_recast t _ (.fact (At (some ⟨b, 0, none⟩)) (Own E s (some ⟨b, 0, none⟩) c L)) ht (fun w hw => .inr ⟨b, J, rfl, hw, hl, hc⟩) Own.loc (fun j hj => At.some.1 hj) h

/-- An own slice that isn't nil is a row. -/
theorem g_row (t : Nat) {c s : Nat} {p : Option Addr} {L : List Value} {E : TypeId} (ht : mget M t = some (.fact (At p) (Own E s p c L))) (hL : 0 < L.length)
    (h : ∀ b J, p = some ⟨b, 0, none⟩ → (L.length ≤ c * s ∧ c * s ≤ (L ++ J).length) → c ≤ 9223372036854775807 → G P fn R N w0 D e ((t, .pt b (.cells (L ++ J).toArray E (0, 0))) :: M) k) : G P fn R N w0 D e M k := by
  intro a w hs hm
  have h1 : Own E s p c L w := hm.holds _ _ ht
  rcases h1 with ⟨_, rfl, _⟩ | ⟨b, J, rfl, h2, h3, h4⟩
  · simp at hL
  · exact h b J rfl h3 h4 a w hs (hm.swap t _ (.pt b (.cells (L ++ J).toArray E (0, 0))) ht rfl rfl rfl (Nat.le_refl _) (fun _ _ _ => rfl) h2 trivial (fun j hj => hm.below _ _ ht j (At.some.2 hj)) (fun j hj => .inl (At.some.2 hj)))

/-- A new own slice of nothing: nil. -/
theorem g_nilOwn (t : Nat) (E : TypeId) (s : Nat) (hf : fresh M [t] = true) (h : G P fn R N w0 D e ((t, .fact (At none) (Own E s none 0 [])) :: M) k) : G P fn R N w0 D e M k :=
  fun a w hs hm => h a w hs (hm.free t _ hf (.inl ⟨rfl, rfl, rfl⟩) Own.loc (fun _ => At.none))

end
end Go.Sx

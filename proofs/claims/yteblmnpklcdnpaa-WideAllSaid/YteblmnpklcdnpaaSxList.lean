/-
  Slices of slices of bytes for the judgement of Sx. No condition: they speak of any program.
-/
import Derived.Test.YteblmnpklcdnpaaSxN
set_option linter.unusedVariables false
set_option linter.unusedSimpArgs false
namespace Go.Sx
open Go

/-- Element by element. -/
def All2 {α β : Type} (R : α → β → Prop) (xs : List α) (ys : List β) : Prop := xs.length = ys.length ∧ ∀ (i : Nat) x y, xs[i]? = some x → ys[i]? = some y → R x y
theorem All2.nil {α β : Type} {R : α → β → Prop} : All2 R [] [] := ⟨rfl, fun i x y h => by simp at h⟩
theorem All2.cons {α β : Type} {R : α → β → Prop} {xs : List α} {ys : List β} {x : α} {y : β} (hx : R x y) (h : All2 R xs ys) : All2 R (x :: xs) (y :: ys) := by
  refine ⟨by simp [h.1], fun i a b ha hb => ?_⟩
  cases i with
  | zero => cases ha; cases hb; exact hx
  | succ i => exact h.2 i a b ha hb
theorem All2.snoc {α β : Type} {R R' : α → β → Prop} {xs : List α} {ys : List β} {x : α} {y : β} (h : All2 R xs ys) (hR : ∀ x y, R x y → R' x y) (hx : R' x y) : All2 R' (xs ++ [x]) (ys ++ [y]) := by
  refine ⟨by simp [h.1], fun i a b ha hb => ?_⟩
  by_cases hi : i < xs.length
  · rw [List.getElem?_append_left hi] at ha
    rw [List.getElem?_append_left (by rw [← h.1]; exact hi)] at hb
    exact hR _ _ (h.2 i a b ha hb)
  · rw [List.getElem?_append_right (by omega)] at ha
    rw [List.getElem?_append_right (by rw [← h.1]; omega), ← h.1] at hb
    have h0 : i - xs.length = 0 := by
      have := (List.getElem?_eq_some_iff.1 ha).1
      simp at this; omega
    rw [h0] at ha hb
    simp only [List.getElem?_cons_zero, Option.some.injEq] at ha hb
    subst ha; subst hb; exact hx
theorem All2.append {α β : Type} {R : α → β → Prop} {xs xs' : List α} {ys ys' : List β} (h : All2 R xs ys) (h' : All2 R xs' ys') : All2 R (xs ++ xs') (ys ++ ys') := by
  refine ⟨by simp [h.1, h'.1], fun i a b ha hb => ?_⟩
  by_cases hi : i < xs.length
  · rw [List.getElem?_append_left hi] at ha
    rw [List.getElem?_append_left (by rw [← h.1]; exact hi)] at hb
    exact h.2 i a b ha hb
  · rw [List.getElem?_append_right (by omega)] at ha
    rw [List.getElem?_append_right (by rw [← h.1]; omega), ← h.1] at hb
    exact h'.2 _ a b ha hb
theorem All2.imp {α β : Type} {R R' : α → β → Prop} {xs : List α} {ys : List β} (h : All2 R xs ys) (hR : ∀ x y, R x y → R' x y) : All2 R' xs ys := ⟨h.1, fun i x y hx hy => hR _ _ (h.2 i x y hx hy)⟩

/-- The cell is a slice that reads as the bytes l, its block among S. -/
def IsB (S : Blocks) (w : World) (v : Value) (l : List (BitVec 8)) : Prop := ∃ q m c, v = .slice q m c ∧ By w q m l ∧ ∀ j, At q j → S j
def Any : Blocks := fun _ => True
theorem IsB.imp {S S' : Blocks} {w : World} {v : Value} {l : List (BitVec 8)} (h : IsB S w v l) (hS : ∀ j, S j → S' j) : IsB S' w v l := by
  obtain ⟨q, m, c, h1, h2, h3⟩ := h
  exact ⟨q, m, c, h1, h2, fun j hj => hS j (h3 j hj)⟩
theorem IsB.keep {S : Blocks} {w w' : World} {v : Value} {l : List (BitVec 8)} (h : IsB S w v l) (hk : ∀ j, S j → w'.heap[j]? = w.heap[j]?) : IsB S w' v l := by
  obtain ⟨q, m, c, h1, h2, h3⟩ := h
  refine ⟨q, m, c, h1, ⟨h2.rd.keep fun b o e hL => hk b (h3 b ?_), h2.len, h2.big⟩, h3⟩
  subst e; exact At.some.2 rfl
theorem Els.loc {S : Blocks} {L : List Value} {ls : List (List (BitVec 8))} : Local S (fun w => All2 (IsB S w) L ls) := fun w w' hk h => h.imp fun _ _ hx => hx.keep hk

/-- A slice of slices of bytes: its cells L, read as ls. -/
structure ByL (w : World) (p : Option Addr) (n : Nat) (L : List Value) (ls : List (List (BitVec 8))) : Prop where
  rd : RdV w p L
  len : L.length = n
  els : All2 (IsB Any w) L ls
  big : n * 24 ≤ 140737488355328

theorem ByL.lenL {w : World} {p : Option Addr} {n : Nat} {L : List Value} {ls : List (List (BitVec 8))} (h : ByL w p n L ls) : ls.length = n := by rw [← h.els.1, h.len]
/-- One element. -/
theorem ByL.at {w : World} {p : Option Addr} {n : Nat} {L : List Value} {ls : List (List (BitVec 8))} (h : ByL w p n L ls) {i : Nat} {l : List (BitVec 8)} (hl : ls[i]? = some l) : ∃ q m c, L[i]? = some (.slice q m c) ∧ By w q m l := by
  have hi : i < L.length := by rw [h.els.1]; exact (List.getElem?_eq_some_iff.1 hl).1
  obtain ⟨q, m, c, h1, h2, _⟩ := h.els.2 i L[i] l (List.getElem?_eq_getElem hi) hl
  exact ⟨q, m, c, by rw [List.getElem?_eq_getElem hi, h1], h2⟩
theorem ByL.by {w : World} {p : Option Addr} {n : Nat} {L : List Value} {ls : List (List (BitVec 8))} (h : ByL w p n L ls) {i : Nat} {l : List (BitVec 8)} {q : Option Addr} {m c : Nat} (hL : L[i]? = some (.slice q m c)) (hl : ls[i]? = some l) : By w q m l := by
  obtain ⟨q', m', c', h1, h2⟩ := h.at hl
  rw [hL] at h1; cases h1; exact h2

/-- An own slice of slices of bytes, with all that it leads to: its cells, and the blocks of its elements. -/
structure Owl where
  p : Option Addr
  c : Nat
  L : List Value
  S : Blocks
def Owl.sl (x : Owl) (n : Nat) : Value := .slice x.p n x.c
def Owl.ck (E : TypeId) (x : Owl) : Ck := .fact (At x.p) (Own E 1 x.p x.c x.L)
def Owl.ckE (ls : List (List (BitVec 8))) (x : Owl) : Ck := .fact x.S (fun w => All2 (IsB x.S w) x.L ls)
def isSl : Value → Bool
  | .slice _ _ _ => true
  | _ => false
/-- Its cells are slices, n of them. -/
def Owl.ok (n : Nat) (x : Owl) : Prop := x.L.length = n ∧ x.L.all isSl = true

section
variable {P : Program} {fn : Func} {R : Ending → World → Prop} {N : Nat} {w0 : World} {D : Blocks} {e : List (Nat × Value)} {M : List (Nat × Ck)} {k : List It} {o : Oper} {all : Array Oper} {rest : List Oper}

theorem ByL.m {w : World} {p : Option Addr} {n : Nat} {L : List Value} {ls : List (List (BitVec 8))} (h : ByL w0 p n L ls) (hm : Mem w0 Nob M w) : ByL w p n L ls := by
  refine ⟨h.rd.mem0 hm, h.len, h.els.imp fun v l hx => ?_, h.big⟩
  obtain ⟨q, m, c, h1, h2, h3⟩ := hx
  exact ⟨q, m, c, h1, h2.m hm, h3⟩
theorem Owl.by (t t' : Nat) {w : World} {E : TypeId} {x : Owl} {n : Nat} {ls : List (List (BitVec 8))} (hM : mget M t = some (x.ck E)) (hM' : mget M t' = some (x.ckE ls)) (hm : Mem w0 D M w) (hn : x.L.length = n) (hb : n * 24 ≤ 140737488355328) : ByL w x.p n x.L ls :=
  ⟨Own.rd (hm.holds _ _ hM), hn, (hm.holds _ _ hM' : All2 (IsB x.S w) x.L ls).imp fun _ _ hx => hx.imp fun _ _ => trivial, hb⟩

theorem Own.le {w : World} {E : TypeId} {p : Option Addr} {c : Nat} {L : List Value} (h : Own E 1 p c L w) : L.length ≤ c := by
  rcases h with ⟨_, rfl, rfl⟩ | ⟨b, J, _, _, h3, _⟩
  · simp
  · omega
theorem Owl.le (t : Nat) {w : World} {E : TypeId} {x : Owl} (hM : mget M t = some (x.ck E)) (hm : Mem w0 D M w) : x.L.length ≤ x.c := Own.le (hm.holds _ _ hM)
theorem IsB.own (t : Nat) {w : World} {E : TypeId} {x : Ow} {n : Nat} {l : List (BitVec 8)} (hM : mget M t = some (x.ck E 1 (bs l))) (hm : Mem w0 D M w) (hn : l.length = n) (hb : n ≤ 140737488355328) : IsB Any w (x.sl n) l := ⟨x.p, n, x.c, rfl, By.ow t hM hm hn hb, fun _ _ => trivial⟩
theorem IsB.full (t : Nat) {w : World} {b n c : Nat} {E : TypeId} {fz : Nat × Nat} {l : List (BitVec 8)} (hM : mget M t = some (.pt b (.cells (bs l).toArray E fz))) (hm : Mem w0 D M w) (hn : l.length = n) (hb : n ≤ 140737488355328) : IsB Any w (.slice (some ⟨b, 0, none⟩) n c) l := ⟨_, n, c, rfl, By.full t hM hm hn hb, fun _ _ => trivial⟩
theorem Mem.rowA {w : World} (hm : Mem w0 D M w) (t : Nat) {b : Nat} {L : List Value} {E : TypeId} {fz : Nat × Nat} (h : mget M t = some (.pt b (.cells L.toArray E fz))) : RdV w (some ⟨b, 0, none⟩) L := hm.row (J := []) t (by rw [List.append_nil]; exact h)

/-- The new element l, in a part of its own, joins the elements of the list. -/
theorem g_join_el (tE tx : Nat) {E : TypeId} {S : Blocks} {L : List Value} {ls : List (List (BitVec 8))} {x : Ow} {n : Nat} {l : List (BitVec 8)} (hME : mget M tE = some (.fact S (fun w => All2 (IsB S w) L ls))) (hMx : mget M tx = some (x.ck E 1 (bs l))) (hn : l.length = n) (hb : n ≤ 140737488355328)
    (hf : fresh (gone [tE, tx] M) [tE] = true)
    (h : G P fn R N w0 D e ((tE, .fact (fun j => S j ∨ At x.p j) (fun w => All2 (IsB (fun j => S j ∨ At x.p j) w) (L ++ [x.sl n]) (ls ++ [l]))) :: gone [tE, tx] M) k) : G P fn R N w0 D e M k := by
  refine g_merge [tE, tx] tE (.fact (fun j => S j ∨ At x.p j) (fun w => All2 (IsB (fun j => S j ∨ At x.p j) w) (L ++ [x.sl n]) (ls ++ [l]))) hf (fun w hm => ?_) Els.loc (fun j hj => ?_) h
  · have h1 : All2 (IsB S w) L ls := hm.holds _ _ hME
    exact h1.snoc (fun _ _ hx => hx.imp fun _ => .inl) ⟨x.p, n, x.c, rfl, ⟨Ow.rd hMx hm, hn, hb⟩, fun j hj => .inr hj⟩
  · rcases hj with hj | hj
    · exact ⟨tE, by simp, _, hME, hj⟩
    · exact ⟨tx, by simp, _, hMx, hj⟩

/-- No elements yet. -/
theorem g_noEls (t : Nat) (hf : fresh M [t] = true) (h : G P fn R N w0 D e ((t, .fact Nob (fun w => All2 (IsB Nob w) [] [])) :: M) k) : G P fn R N w0 D e M k :=
  fun a w hs hm => h a w hs (hm.free t _ hf All2.nil Els.loc (fun _ hj => hj))

/-- Is a slice nil? -/
theorem run_eqNil {t E : TypeId} (w : World) (hu : P.underlying t = some (.slice E)) (p : Option Addr) (n c : Nat) : (Op.equal t (.slice p n c) (.slice none 0 0)).run P w = .ok p.isNone w := by
  obtain ⟨d, hd⟩ : ∃ d, Op.maxDepth = d + 1 := ⟨_, rfl⟩
  cases p <;> simp [Op.equal, hd, Op.equalIn, run_und hu]
theorem run_guardN {op : BinOp} {t : TypeId} {x y : Operand} {p q : Option Addr} {n c n' c' : Nat} (w : World) : (eqGuard op t x y (.slice p n c) (.slice q n' c')).run P w = .ok () w := by
  unfold eqGuard
  split <;> simp
theorem pu_eqlN {t u E : TypeId} {x y : Operand} {p : Option Addr} {n c : Nat} [hu : Und P t (.slice E)] (ho : o.op = .binOp .eql t x y u) (hx : ev e x = some (.slice p n c)) (hy : ev e y = some (.slice none 0 0)) : Pu P N w0 D e M o (.bool p.isNone) := fun ac w hs hm => by
  simp [execOp, ho, hs.eval hx, hs.eval hy, run_guardN, binOp, run_eqNil _ hu.h]
theorem pu_neqN {t u E : TypeId} {x y : Operand} {p : Option Addr} {n c : Nat} [hu : Und P t (.slice E)] (ho : o.op = .binOp .neq t x y u) (hx : ev e x = some (.slice p n c)) (hy : ev e y = some (.slice none 0 0)) : Pu P N w0 D e M o (.bool (!p.isNone)) := fun ac w hs hm => by
  simp [execOp, ho, hs.eval hx, hs.eval hy, run_guardN, binOp, run_eqNil _ hu.h]
end
end Go.Sx

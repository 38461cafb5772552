/-
  A statement whose order Go leaves open, where the last load may come ahead of a store or behind it. No condition: it speaks of any program.
-/
import Derived.Test.YteblmnpklcdnpaaSxAnyK
import Derived.Test.YteblmnpklcdnpaaSxArr
set_option linter.unusedVariables false
set_option linter.unusedSimpArgs false
namespace Go.Sx
open Go

section
variable {P : Program} {fn : Func} {R : Ending → World → Prop} {N : Nat} {w0 : World} {D : Blocks} {e : List (Nat × Value)} {M : List (Nat × Ck)} {k : List It} {ops : Array Oper} {m : Nat × List Nat} {f : Nat} {L : Array Bool}

theorem st_rowF (tag : Nat) {o : Oper} {t : TypeId} {x y : Operand} {b s : Nat} {L C : List Value} {E : TypeId} [hz : Siz P t s] (ho : o.op = .store t x y) (hx : ev e x = some (.pointer (some ⟨b, 0, none⟩))) (hy : ev e y = some (.agg C.toArray))
    (hM : mget M tag = some (.pt b (.cells L.toArray E (0, 0)))) (hC : C.length = s) (hL : L.length = s) (hv : ∀ u ∈ C, u.oneCell' = true) : St P N w0 D e M o ((tag, .pt b (.cells C.toArray E (0, 0))) :: M) := by
  intro a w hs hm
  subst hC
  have h1 := hm.holds _ _ hM
  simp only [Ck.holds] at h1
  have hst := run_storeCells_at P b 0 E C 0 L.toArray w h1 (by simp; omega) hv
  have e1 : (L.toArray.toList.take (0 + 0) ++ C ++ L.toArray.toList.drop (0 + 0 + C.length)).toArray = C.toArray := by
    congr 1
    simp [← hL]
  rw [e1] at hst
  refine ⟨_, ?_, hm.setRow tag hM⟩
  simp [execOp, ho, hs.eval hx, hs.eval hy, Instr.storeAt, Instr.sureAddr, storeVar, run_size hz.h, Value.cells]
  rw [hst]
  rfl

theorem wpOp_pu {Q : Exit → Act → World → Prop} {i d : Nat} {o : Oper} {v : Value} {a : Act} {w : World} {K : Act → World → Prop} (hi : ops[i]? = some o) (hd : o.dst = some d) (hw : wantE ops e o = some true) (hp : Pu P N w0 D e M o v) (hs : Sat N e a) (hm : Mem w0 D M w) (h : K (a.put (some d) v) w) : wpOp P ops Q i K a w := by
  unfold wpOp
  simp only [hi, wantE_spec hs hw, if_true]
  refine .inl ?_
  unfold Oper.wp
  rw [hp a w hs hm]
  simp only [Oper.upon, hd]
  exact h
theorem wpOp_st {Q : Exit → Act → World → Prop} {i : Nat} {o : Oper} {M' : List (Nat × Ck)} {a : Act} {w : World} {K : Act → World → Prop} (hi : ops[i]? = some o) (hd : o.dst = none) (hw : wantE ops e o = some true) (hp : St P N w0 D e M o M') (hs : Sat N e a) (hm : Mem w0 D M w) (h : ∀ w', Mem w0 D M' w' → K a w') : wpOp P ops Q i K a w := by
  obtain ⟨w', hrun, hm'⟩ := hp a w hs hm
  unfold wpOp
  simp only [hi, wantE_spec hs hw, if_true]
  refine .inl ?_
  unfold Oper.wp
  rw [hrun]
  simp only [Oper.upon, hd, Act.put]
  exact h w' hm'

theorem a_fork (i j : Nat) (js : List Nat) {d : Nat} {o oj : Oper} {v : Value} {M' : List (Nat × Ck)} (hf : Nat.beq (js.length + 2) f = true) (hi : ops[i]? = some o) (hj : ops[j]? = some oj) (hd : o.dst = some d) (hdj : oj.dst = none) (hN : Nat.blt d N = true)
    (hw : wantE ops e o = some true) (hwj : wantE ops e oj = some true) (hwj' : wantE ops ((d, v) :: e) oj = some true) (hX : m.2.contains i = true) (hmj : (Nat.ble m.1 j && !(m.2.contains j)) = true)
    (hp : Pu P N w0 D e M o v) (hst : St P N w0 D e M oj M') (hp' : Pu P N w0 D e M' o v) (hst' : St P N w0 D ((d, v) :: e) M oj M')
    (hr : Region.ready .any ops L = [i, j]) (hri : Region.ready .any ops (L.setIfInBounds i true) = [j]) (hrj : Region.ready .any ops (L.setIfInBounds j true) = [i])
    (hne : i ≠ j) (hl : (js.all fun j => Nat.blt j ops.size) = true) (hm : (js.all fun j => Nat.ble m.1 j && !(m.2.contains j)) = true) (hs : seqOk ops js ((L.setIfInBounds i true).setIfInBounds j true) = true)
    (h : G P fn R N w0 D ((d, v) :: e) M' (.ops ops (opsOf ops js) :: k)) : GP P fn R N w0 D e M k ops m [] f L := by
  intro dn hdn a w hsat hmem
  have : dn = [] := by
    cases dn with
    | nil => rfl
    | cons x r => have := (hdn.1 x (by simp)).1; simp at this
  subst this
  obtain rfl : js.length + 2 = f := Nat.eq_of_beq_eq_true hf
  have hN' : d < N := by simpa [Nat.blt_eq] using hN
  have hmj1 : m.1 ≤ j := by simp only [Bool.and_eq_true, Nat.ble_eq] at hmj; exact hmj.1
  have hmj2 : m.2.contains j = false := by simp only [Bool.and_eq_true, Bool.not_eq_true'] at hmj; exact hmj.2
  have hfin : ∀ w', Mem w0 D M' w' → anyC P ops (ext P fn R k) m (Mem w0 D M) js.length ((L.setIfInBounds i true).setIfInBounds j true) (a.put (some d) v) w' := by
    intro w' hm'
    have h1 := h (a.put (some d) v) w' (hsat.put hN' v) hm'
    simp only [ext] at h1
    exact anyC_seq js _ _ _ _ (opsOf_map hl) (fun j hj => by have := List.all_eq_true.1 hm j hj; simpa [Nat.ble_eq] using this) hs h1
  show anyC P ops (ext P fn R k) m (Mem w0 D M) (js.length + 1 + 1) L a w
  refine ⟨fun h0 => (by rw [hr] at h0; cases h0), fun x hx => ?_⟩
  rw [hr] at hx
  rcases List.mem_cons.1 hx with rfl | hx
  · refine wpOp_pu hi hd hw hp hsat hmem ⟨⟨fun hc => (by rw [hX] at hc; cases hc), fun _ => rfl⟩, ?_⟩
    refine ⟨fun h0 => (by rw [hri] at h0; cases h0), fun y hy => ?_⟩
    rw [hri] at hy
    obtain rfl := List.mem_singleton.1 hy
    exact wpOp_st hj hdj hwj' hst' (hsat.put hN' v) hmem fun w' hm' => ⟨⟨fun _ hlt => absurd hmj1 (by omega), fun hc => (by rw [hmj2] at hc; cases hc)⟩, hfin w' hm'⟩
  · obtain rfl := List.mem_singleton.1 hx
    refine wpOp_st hj hdj hwj hst hsat hmem fun w' hm' => ⟨⟨fun _ hlt => absurd hmj1 (by omega), fun hc => (by rw [hmj2] at hc; cases hc)⟩, ?_⟩
    refine ⟨fun h0 => (by rw [hrj] at h0; cases h0), fun y hy => ?_⟩
    rw [hrj] at hy
    obtain rfl := List.mem_singleton.1 hy
    refine wpOp_pu hi hd hw hp' hsat hm' ⟨⟨fun hc => (by rw [hX] at hc; cases hc), fun _ => rfl⟩, ?_⟩
    rw [← Array.setIfInBounds_comm _ _ hne]
    exact hfin w' hm'
/-- A block of s cells, with whatever in them. -/
def Room (E : TypeId) (s b : Nat) (w : World) : Prop := ∃ L : List Value, w.heap[b]? = some (.cells L.toArray E (0, 0)) ∧ L.length = s
abbrev roomC (E : TypeId) (s b : Nat) : Ck := .fact (fun j => j = b) (Room E s b)
theorem Room.loc {E : TypeId} {s b : Nat} : Local (fun j => j = b) (Room E s b) := fun w w' hk ⟨L, h1, h2⟩ => ⟨L, by rw [hk b rfl]; exact h1, h2⟩
/-- A pending alloc whose block may be stored into while loads are left. -/
def PR (i d tag : Nat) (E : TypeId) (s : Nat) (w0 : World) : PU := ⟨i, d, [tag], fun v cs => ∃ b : Nat, w0.heap.size ≤ b ∧ v = .pointer (some ⟨b, 0, none⟩) ∧ cs = [roomC E s b]⟩
theorem grows_room {w w' : World} {E : TypeId} {b : Nat} {L : List Value} (h : Grows w Nob [.pt b (.cells L.toArray E (0, 0))] w') : Grows w Nob [roomC E L.length b] w' := by
  have h1 := h.holds _ (List.mem_singleton.2 rfl)
  have h2 := h.above _ (List.mem_singleton.2 rfl)
  have h3 := h.below _ (List.mem_singleton.2 rfl)
  refine ⟨h.os, h.tape, h.output, h.size, h.keep, ?_, ?_, ?_, ?_, by simp⟩
  · intro c hc; obtain rfl := List.mem_singleton.1 hc; exact ⟨L, h1, rfl⟩
  · intro c hc; obtain rfl := List.mem_singleton.1 hc; exact Room.loc
  · intro c hc j hj; obtain rfl := List.mem_singleton.1 hc; exact h2 j hj
  · intro c hc j hj; obtain rfl := List.mem_singleton.1 hc; exact h3 j hj
theorem lo_room {o : Oper} {t : TypeId} {z : Value} {s : Nat} [hz : Zer P t z] (hs : z.cells.size = s) (ho : o.op = .alloc t) :
    Lo P N w0 D e M o (σ := Nat) (fun b => w0.heap.size ≤ b) (fun b => .pointer (some ⟨b, 0, none⟩)) (fun b => [roomC t s b]) := fun a w hs' hm => by
  obtain ⟨x, w', h1, h2, h3⟩ := lo_alloc (P := P) (z := z) (N := N) (D := D) (e := e) (M := M) (w0 := w0) ho a w hs' hm
  refine ⟨x, w', h1, h2, ?_⟩
  have h4 := grows_room (L := z.cells.toList) (by simpa using h3)
  rwa [show z.cells.toList.length = s by simpa using hs] at h4
theorem does_PR {Q : Exit → Act → World → Prop} {i d tag s : Nat} {t : TypeId} {z : Value} {o : Oper} [hz : Zer P t z] (hs : z.cells.size = s) (hi : ops[i]? = some o) (hd : o.dst = some d) (hw : wantE ops e o = some true) (ho : o.op = .alloc t) : Does P ops Q N w0 D e M i d (PR i d tag t s w0).out :=
  does_lo hi hd hw (lo_room hs ho)
theorem a_pendR {ps : List PU} (i d tag : Nat) (E : TypeId) (s : Nat) (h : GP P fn R N w0 D e M k ops m (PR i d tag E s w0 :: ps) f L) : GP P fn R N w0 D e M k ops m ps f L := a_pend _ h
theorem st_room (tag : Nat) {o : Oper} {t : TypeId} {x y : Operand} {b s : Nat} {C : List Value} {E : TypeId} [hz : Siz P t s] (ho : o.op = .store t x y) (hx : ev e x = some (.pointer (some ⟨b, 0, none⟩))) (hy : ev e y = some (.agg C.toArray))
    (hM : mget M tag = some (roomC E s b)) (hC : C.length = s) (hv : ∀ u ∈ C, u.oneCell' = true) : St P N w0 D e M o ((tag, .pt b (.cells C.toArray E (0, 0))) :: M) := by
  intro a w hs hm
  subst hC
  obtain ⟨L, h1, hL⟩ := hm.holds _ _ hM
  have hm2 : Mem w0 D ((tag, .pt b (.cells L.toArray E (0, 0))) :: M) w := hm.swap tag _ (.pt b (.cells L.toArray E (0, 0))) hM rfl rfl rfl (Nat.le_refl _) (fun _ _ _ => rfl) h1 trivial (fun j hj => hm.below _ _ hM j hj) (fun j hj => .inl hj)
  have hg : mget ((tag, Ck.pt b (.cells L.toArray E (0, 0))) :: M) tag = some (.pt b (.cells L.toArray E (0, 0))) := by rw [mget_cons, if_pos rfl]
  have hst := run_storeCells_at P b 0 E C 0 L.toArray w h1 (by simp; omega) hv
  have e1 : (L.toArray.toList.take (0 + 0) ++ C ++ L.toArray.toList.drop (0 + 0 + C.length)).toArray = C.toArray := by
    congr 1
    simp [← hL]
  rw [e1] at hst
  refine ⟨_, ?_, (hm2.setRow tag hg (c' := C.toArray)).of_get fun t' c ht => by
    rw [mget_cons] at ht ⊢
    split
    · rename_i h; rw [if_pos h] at ht; exact ht
    · rename_i h; rw [if_neg h] at ht; rw [mget_cons, if_neg h]; exact ht⟩
  simp [execOp, ho, hs.eval hx, hs.eval hy, Instr.storeAt, Instr.sureAddr, storeVar, run_size hz.h, Value.cells]
  rw [hst]
  rfl
theorem mem_room {tag b s : Nat} {C : List Value} {E : TypeId} (hM : mget M tag = some (roomC E s b)) (hC : C.length = s) {w : World} (hm : Mem w0 D ((tag, .pt b (.cells C.toArray E (0, 0))) :: M) w) : Mem w0 D M w := by
  have hg : mget ((tag, Ck.pt b (.cells C.toArray E (0, 0))) :: M) tag = some (.pt b (.cells C.toArray E (0, 0))) := by rw [mget_cons, if_pos rfl]
  have h1 := hm.holds _ _ hg
  have h2 : Mem w0 D ((tag, roomC E s b) :: (tag, .pt b (.cells C.toArray E (0, 0))) :: M) w := hm.swap tag _ (roomC E s b) hg rfl rfl rfl (Nat.le_refl _) (fun _ _ _ => rfl) ⟨C, h1, hC⟩ Room.loc (fun j hj => hm.below _ _ hg j hj) (fun j hj => .inl hj)
  refine h2.of_get fun t c ht => ?_
  rw [mget_cons]
  split
  · rename_i h; rw [← h, hM] at ht; exact ht
  · rename_i h; rw [mget_cons, if_neg h]; exact ht
/-- A store into a room, as an operation that keeps what the loads look at. -/
theorem a_stR (j tag : Nat) {oj : Oper} {t : TypeId} {x y : Operand} {b s : Nat} {C : List Value} {E : TypeId} [hz : Siz P t s] (hj : ops[j]? = some oj) (hdj : oj.dst = none) (hw : wantE ops e oj = some true) (hX : m.2.contains j = false) (hr : Region.ready .any ops L = [j])
    (ho : oj.op = .store t x y) (hx : ev e x = some (.pointer (some ⟨b, 0, none⟩))) (hy : ev e y = some (.agg C.toArray)) (hM : mget M tag = some (roomC E s b)) (hC : C.length = s) (hv : ∀ u ∈ C, u.oneCell' = true)
    (h : GP P fn R N w0 D e ((tag, .pt b (.cells C.toArray E (0, 0))) :: M) k ops m [] f (L.setIfInBounds j true)) : GP P fn R N w0 D e M k ops m [] (f + 1) L := by
  intro dn hdn a w hsat hmem
  have : dn = [] := by
    cases dn with
    | nil => rfl
    | cons x r => have := (hdn.1 x (by simp)).1; simp at this
  subst this
  show anyC P ops (ext P fn R k) m (Mem w0 D M) (f + 1) L a w
  refine ⟨fun h0 => (by rw [hr] at h0; cases h0), fun i hi => ?_⟩
  rw [hr] at hi
  obtain rfl := List.mem_singleton.1 hi
  refine wpOp_st hj hdj hw (st_room tag ho hx hy hM hC hv) hsat hmem fun w' hm' => ⟨⟨fun _ _ => mem_room hM hC hm', fun hc => (by rw [hX] at hc; cases hc)⟩, ?_⟩
  exact anyC_mono (fun u hu => mem_room hM hC hu) _ _ _ _ (h [] ⟨by simp, by simp⟩ a w' hsat hm')
end
end Go.Sx

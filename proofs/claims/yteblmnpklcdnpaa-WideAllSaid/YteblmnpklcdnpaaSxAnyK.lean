/-
  A statement whose order Go leaves open, where a store may come ahead of a load of another block: what the loads look at is a part of memory that all operations keep. No condition: it speaks of any program.
-/
import Derived.Test.YteblmnpklcdnpaaSxAny
set_option linter.unusedVariables false
set_option linter.unusedSimpArgs false
namespace Go.Sx
open Go

section
variable {P : Program} {fn : Func} {R : Ending → World → Prop} {N : Nat} {w0 : World} {D : Blocks} {e : List (Nat × Value)} {M : List (Nat × Ck)} {k : List It} {ops : Array Oper} {f : Nat} {L : Array Bool}

/-- The region goes well in whatever order from here on; all operations keep what M0 tells. -/
def GPK (P : Program) (fn : Func) (R : Ending → World → Prop) (N : Nat) (w0 : World) (D : Blocks) (M0 : List (Nat × Ck)) (e : List (Nat × Value)) (M : List (Nat × Ck)) (k : List It) (ops : Array Oper) (f : Nat) (L : Array Bool) : Prop :=
  ∀ a w, Sat N e a → Mem w0 D M w → anyC P ops (ext P fn R k) (ops.size, []) (Mem w0 D M0) f L a w

theorem g_anyK {id : Nat} {l : List Oper} (M0 : List (Nat × Ck)) [hmix : Mix P] (h : GPK P fn R N w0 D M0 e M k l.toArray l.length (Array.replicate l.length false)) : G P fn R N w0 D e M (.code (.region id l.toArray true) :: k) := by
  intro a w hs hm
  simp only [ext]
  refine wp_region_any hmix.h ?_
  have := anyC_any _ _ _ _ (h a { w with drawn := w.drawn + 1 } hs hm.drawn)
  simpa using this

def firstK (ops : Array Oper) (L : Array Bool) (i : Nat) : Bool := Region.noSelect ops && closedB ops L && (Region.ready .any ops L).contains i && Region.free .any ops L i
theorem a_puK {M0 : List (Nat × Ck)} (i : Nat) {d : Nat} {o : Oper} {v : Value} (hi : ops[i]? = some o) (hd : o.dst = some d) (hN : Nat.blt d N = true) (hw : wantE ops e o = some true) (hM : SubM M M0) (hp : Pu P N w0 D e M0 o v)
    (hB : firstK ops L i = true) (h : GPK P fn R N w0 D M0 ((d, v) :: e) M k ops f (L.setIfInBounds i true)) : GPK P fn R N w0 D M0 e M k ops (f + 1) L := by
  simp only [firstK, Bool.and_eq_true] at hB
  obtain ⟨⟨⟨hsel, hcl⟩, hr⟩, hfr⟩ := hB
  intro a w hs hm
  refine anyC_first hi (fun j hj _ hjs _ => absurd hj (Nat.not_le.2 hjs)) (Region.noSelect_spec hsel) ?_ _ _ a w (hm.sub hM.all) (closed_of hcl) ?_ (by simpa using hr) (.inl ⟨wantE_spec hs hw, fun w hm => hp a w hs hm⟩) ?_
  · intro c b w' hb
    rw [ext_panic] at hb ⊢
    rw [hd] at hb
    exact hb
  · intro j oj hj hji hu hno
    exact Region.free_spec hi hfr j oj hj hji hu hno
  · rw [hd]
    exact h _ w (hs.put (by simpa [Nat.blt_eq] using hN) v) hm

/-- The operation turns memory, and hands back nothing. -/
def St (P : Program) (N : Nat) (w0 : World) (D : Blocks) (e : List (Nat × Value)) (M : List (Nat × Ck)) (o : Oper) (M' : List (Nat × Ck)) : Prop :=
  ∀ a w, Sat N e a → Mem w0 D M w → ∃ w', (execOp a.eval o).run P w = .ok .skip w' ∧ Mem w0 D M' w'
theorem st_store (tag : Nat) {o : Oper} {t : TypeId} {x y : Operand} {b off : Nat} {L : List Value} {E : TypeId} {v : Value} [hz : Siz P t 1] (ho : o.op = .store t x y) (hx : ev e x = some (.pointer (some ⟨b, off, none⟩))) (hy : ev e y = some v)
    (hM : mget M tag = some (.pt b (.cells L.toArray E (0, 0)))) (hv : v.oneCell' = true) (hl : off < L.length) : St P N w0 D e M o ((tag, .pt b (.cells (L.set off v).toArray E (0, 0))) :: M) := by
  intro a w hs hm
  have h1 := hm.holds _ _ hM
  simp only [Ck.holds] at h1
  have hc : v.cells = #[v] := by cases v <;> simp_all [Value.cells, Value.oneCell']
  have hst := run_storeCells_at P b off E [v] 0 L.toArray w h1 (by simp; omega) (by simpa using hv)
  have e1 : (L.toArray.toList.take (off + 0) ++ [v] ++ L.toArray.toList.drop (off + 0 + [v].length)).toArray = (L.set off v).toArray := by
    congr 1
    simp only [Nat.add_zero, List.length_cons, List.length_nil, Nat.zero_add]
    rw [List.set_eq_take_append_cons_drop, if_pos hl]
    simp
  rw [e1] at hst
  refine ⟨_, ?_, hm.setRow tag hM⟩
  simp [execOp, ho, hs.eval hx, hs.eval hy, Instr.storeAt, Instr.sureAddr, storeVar, run_size hz.h, hc]
  rw [hst]
  rfl
theorem a_stK {M0 M' : List (Nat × Ck)} (i : Nat) {o : Oper} (hi : ops[i]? = some o) (hd : o.dst = none) (hw : wantE ops e o = some true) (hp : St P N w0 D e M o M') (hM : SubM M' M0)
    (hr : Region.ready .any ops L = [i]) (h : GPK P fn R N w0 D M0 e M' k ops f (L.setIfInBounds i true)) : GPK P fn R N w0 D M0 e M k ops (f + 1) L := by
  intro a w hs hm
  refine ⟨fun h0 => (by rw [hr] at h0; cases h0), fun j hj => ?_⟩
  rw [hr] at hj
  obtain rfl := List.mem_singleton.1 hj
  obtain ⟨w', hrun, hm'⟩ := hp a w hs hm
  unfold wpOp
  simp only [hi, wantE_spec hs hw, if_true]
  refine .inl ?_
  unfold Oper.wp
  rw [hrun]
  simp only [Oper.upon, hd, Act.put]
  exact ⟨⟨fun _ _ => hm'.sub hM.all, fun hx => (by cases hx)⟩, h a w' hs hm'⟩
theorem a_doneK {M0 : List (Nat × Ck)} (hr : (Region.ready .any ops L).isEmpty = true) (h : G P fn R N w0 D e M k) : GPK P fn R N w0 D M0 e M k ops 0 L :=
  fun a w hs hm => ⟨by show Region.ready .any ops L = []; simpa using hr, h a w hs hm⟩
end
end Go.Sx

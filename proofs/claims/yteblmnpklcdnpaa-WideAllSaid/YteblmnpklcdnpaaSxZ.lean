/-
  Slicing, copy, quotients of words, small builtins, strings, and equality of arrays, for the judgement of Sx. No condition: they speak of any program.
-/
import Derived.Test.YteblmnpklcdnpaaSxMore
set_option linter.unusedVariables false
set_option linter.unusedSimpArgs false
namespace Go.Sx
open Go

section
variable {P : Program} {fn : Func} {R : Ending → World → Prop} {N : Nat} {w0 : World} {D : Blocks} {e : List (Nat × Value)} {M : List (Nat × Ck)} {k : List It} {o : Oper} {all : Array Oper} {rest : List Oper}

/-! ## append(s, make([]T, m)...) -/
theorem zeroCells1 (z : Value) (m : Nat) : Builtin.zeroCells #[z] m = (List.replicate m z).toArray := by
  unfold Builtin.zeroCells
  apply Array.ext
  · simp
  · intro i h1 h2
    simp [Nat.mod_one]

theorem own_appendZ {w : World} {t ti ty E : TypeId} {by' n c m : Nat} {k ki : IntKind} {z : Value} {p : Option Addr} {L : List Value} [hu : Und P t (.slice E)] [hi2 : Und P ti (.int ki)] [hz : Siz P E 1] [hzz : Zer P E z] [hb : Byt P E by'] (hzc : z.cells = #[z]) (hz1 : z.oneCell' = true)
    (hown : Own E 1 p c L w) (hL : L.length = n) (hbig : (n + m) * by' ≤ 140737488355328) (hnm : n + m ≤ 9223372036854775807) (hbel : ∀ j, At p j → j < w.heap.size) :
    ∃ p' cc w', (Builtin.append_ #[t, ti] ty #[.slice p n c, .int k (m : Int)]).run P w = .ok (.slice p' (n + m) cc) w' ∧ Own E 1 p' cc (L ++ List.replicate m z) w' ∧ (∀ j, At p' j → j < w'.heap.size) ∧ (∀ j, At p' j → At p j ∨ w.heap.size ≤ j) ∧ w'.os = w.os ∧ w'.tape = w.tape ∧ w'.output = w.output ∧ w.heap.size ≤ w'.heap.size ∧ (∀ j, j < w.heap.size → ¬ At p j → w'.heap[j]? = w.heap[j]?) := by
  obtain ⟨i, hinf, hsz, hz', hby⟩ := info_of (P := P) (E := E)
  have e1 : IntKind.i64.wrap (m : Int) = (m : Int) := IntWalk.i64_in _ (by omega)
  have e2 : ¬ ((m : Int) * (by' : Int) > 2 ^ 48) := by
    rw [show ((m : Int) * (by' : Int)) = ((m * by' : Nat) : Int) from rfl]
    have : m * by' ≤ (n + m) * by' := Nat.mul_le_mul_right _ (by omega)
    simp; omega
  have e3 : ¬ (m : Int) < 0 := by omega
  have hti : ∀ w, (typeInfo E).run P w = .ok i w := fun w => by simp [typeInfo, hinf]
  have hzv := run_zero hzz.h
  have hcapge := grownCap_ge w (n + m) c E
  have hcaple := grownCap_le_maxLen w (n + m) c E (by unfold maxLen; omega)
  have e63 : ¬ (((n + m : Nat) : Int) > IntKind.i64.max) := by simp [IntKind.max, IntKind.signed, IntKind.bits]; omega
  have hfirst : ∀ (u : World), RdV u p L → (Builtin.firstCells 1 n (.slice p n c)).run P u = .ok L.toArray u := by
    intro u hr
    rcases hr with h2 | ⟨bq, oq, rfl, hc⟩
    · have hn0 : n = 0 := by rw [← hL, h2]; rfl
      subst hn0
      rw [h2]
      cases p with
      | none => simp [Builtin.firstCells]
      | some ad => simp [Builtin.firstCells, loadCells, loadCellsFrom]
    · exact run_firstCells_some (P := P) u 1 n ⟨bq, oq, none⟩ n c L (by omega) (fun j v hj => by rw [Addr.add_lit]; exact hc j v hj)
  have hrd : RdV w p L := Own.rd hown
  have hnc : n ≤ c := by
    rcases hown with ⟨_, rfl, rfl⟩ | ⟨b, J, _, _, h3, _⟩
    · simp at hL; omega
    · rw [hL] at h3; omega
  have pre : (Builtin.append_ #[t, ti] ty #[.slice p n c, .int k (m : Int)]).run P w =
      if n + m ≤ c then ((match p with | some a => storeCells (a.add (n * 1)) (List.replicate m z) | none => pure ()) : Sem Unit).run P w |>.andThen fun _ w' => .ok (.slice p (n + m) c) w'
      else .ok (.slice (some ⟨w.heap.size, 0, none⟩) (n + m) (grownCap w (n + m) c E)) (w.drew.alloc (.cells (L ++ List.replicate m z ++ List.replicate (grownCap w (n + m) c E - (n + m)) z).toArray E)) := by
    have hzs : ∀ (u : World), (if m * 1 = 0 then (pure #[] : Sem (Array Value)) else do pure (Builtin.zeroCells (← zeroValue E).cells m)).run P u = .ok (List.replicate m z).toArray u := by
      intro u
      by_cases h0 : m = 0
      · subst h0; simp
      · simp [h0, hzv, hzc, zeroCells1]
    by_cases hroom : n + m ≤ c
    · rw [if_pos hroom]
      simp only [Builtin.append_, List.getElem?_toArray, List.getElem?_cons_zero, List.getElem?_cons_succ, Sem.run_bind, run_und hu.h, run_und hi2.h, Result.andThen_ok, run_size hz.h, Sem.run_pure, asInt, asIntOf, e1, if_true, Sem.run_ite, e3, if_false, hti, hby, e2, Int.toNat_natCast, hroom, Bool.not_true, Bool.false_eq_true]
      by_cases h0 : m = 0
      · subst h0
        cases p <;> simp [storeCells]
      · simp only [Nat.mul_one, h0, if_false, hzv, Result.andThen_ok, hzc, zeroCells1]
        cases p <;> simp
    · rw [if_neg hroom]
      have hns : ¬ (Builtin.nextslicecap (n + m) c * by' > 2 ^ 48) := by
        have := growslice_fits (need := n + m) (old := c) (bytes := by') (by omega) hbig
        simp; omega
      have hq : (Question.appendCap (n + m) c E).forced = false := rfl
      simp only [Builtin.append_, List.getElem?_toArray, List.getElem?_cons_zero, List.getElem?_cons_succ, Sem.run_bind, run_und hu.h, run_und hi2.h, Result.andThen_ok, run_size hz.h, Sem.run_pure, asInt, asIntOf, e1, if_true, Sem.run_ite, e3, if_false, hti, hby, e2, Int.toNat_natCast, hroom, Bool.not_true, Bool.false_eq_true, e63, false_and, hns, run_choose, hq, run_askRoom]
      rw [hfirst { w with drawn := w.drawn + 1 } hrd]
      by_cases h0 : m = 0
      · omega
      · simp only [Result.andThen_ok, Nat.mul_one, h0, if_false, hzv, hzc, zeroCells1, newRow, run_newObj, Sem.run_bind, Sem.run_pure]
        simp only [List.append_toArray]
        rfl
  rw [pre]
  by_cases hroom : n + m ≤ c
  · rw [if_pos hroom]
    rcases hown with ⟨rfl, rfl, rfl⟩ | ⟨b, J, rfl, hbk, hlen, hcm⟩
    · have hm0 : m = 0 := by omega
      subst hm0
      exact ⟨none, 0, w, by simp, by simpa using .inl ⟨rfl, rfl, rfl⟩, hbel, fun j hj => .inl hj, rfl, rfl, rfl, Nat.le_refl _, fun _ _ _ => rfl⟩
    · have hst := run_storeCells_at P b n E (List.replicate m z) 0 (L ++ J).toArray w hbk (by simp at hlen ⊢; omega) (fun u hu => by rw [List.eq_of_mem_replicate hu]; exact hz1)
      simp only [Addr.add_lit, Nat.zero_add, Nat.mul_one]
      rw [hst]
      refine ⟨_, _, _, rfl, .inr ⟨b, J.drop m, rfl, ?_, ?_, hcm⟩, fun j hj => by rw [setRow_size]; exact hbel j hj, fun j hj => .inl hj, rfl, rfl, rfl, by simp [World.setRow], fun j _ hj2 => setRow_other w b _ j (fun e => hj2 (At.some.2 e))⟩
      · rw [setRow_heap w b _ _ E _ hbk]
        congr 2
        apply Array.ext'
        have e4 : (L ++ J).take n = L := by rw [← hL, List.take_left]
        have e5 : (L ++ J).drop (n + m) = J.drop m := by rw [← hL, List.drop_length_add_append]
        simp [e4, e5, List.append_assoc]
      · simp at hlen ⊢; omega
  · rw [if_neg hroom]
    refine ⟨_, _, _, rfl, .inr ⟨w.heap.size, List.replicate (grownCap w (n + m) c E - (n + m)) z, rfl, ?_, ?_, ?_⟩, fun j hj => by rw [At.some] at hj; simp [hj], fun j hj => by rw [At.some] at hj; omega, rfl, rfl, rfl, by simp, fun j hj _ => heap_alloc_old w.drew _ hj⟩
    · show (w.drew.alloc _).heap[w.drew.heap.size]? = _
      rw [heap_alloc_new w.drew]
    · simp [hL]; omega
    · unfold maxLen at hcaple; omega

theorem g_appendZ (tag : Nat) {t ti E : TypeId} {x y : Operand} {by' n c d : Nat} {k' : List It} {z : Value} {k ki : IntKind} {mi : Int} {p : Option Addr} {L : List Value} (m : Nat) (hg : wantE all e o = some true) (hd : o.dst = some d) (hN : Nat.blt d N = true) [hu : Und P t (.slice E)] [hi2 : Und P ti (.int ki)] [hz : Siz P E 1] [hzz : Zer P E z] [hb : Byt P E by'] (hzc : z.cells = #[z]) (hz1 : z.oneCell' = true)
    (ho : o.op = .call ⟨.builtin .append, #[x, y], #[t, ti]⟩) (hx : ev e x = some (.slice p n c)) (hy : ev e y = some (.int k mi)) (hmi : mi = (m : Int))
    (hM : mget M tag = some (.fact (At p) (Own E 1 p c L))) (hL : L.length = n) (hbig : (n + m) * by' ≤ 140737488355328) (hnm : n + m ≤ 9223372036854775807)
    (h : ∀ p' c'', G P fn R N w0 D ((d, .slice p' (n + m) c'') :: e) ((tag, .fact (At p') (Own E 1 p' c'' (L ++ List.replicate m z))) :: M) (.ops all rest :: k')) : G P fn R N w0 D e M (.ops all (o :: rest) :: k') := by
  subst hmi
  refine g_val (σ := Option Addr × Nat) (pr := fun _ => True) (val := fun r => .slice r.1 (n + m) r.2) (M' := fun r => (tag, .fact (At r.1) (Own E 1 r.1 r.2 (L ++ List.replicate m z))) :: M) hg hd hN ?_ ?_
  · intro a w hs hm
    obtain ⟨p', cc, w', hr, ho', h3, h4, h5, h6, h7, h8, h9⟩ := own_appendZ (P := P) (w := w) (t := t) (ti := ti) (ty := o.type) (k := k) hzc hz1 (hm.holds _ _ hM) hL hbig hnm (hm.below _ _ hM)
    refine ⟨(p', cc), w', trivial, ?_, ?_⟩
    · simp only [execOp, ho, resolve, invoke, builtin, Sem.run_bind, Sem.run_pure, Result.andThen_ok, List.map_toArray, List.map_cons, List.map_nil, hs.eval hx, hs.eval hy]
      rw [hr]
      rfl
    · exact hm.swap tag _ _ hM h5 h6 h7 h8 (fun j hj hn => h9 j hj hn) ho' Own.loc h3 h4
  · rintro ⟨p', cc⟩ _
    exact h p' cc
end
end Go.Sx

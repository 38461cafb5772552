/-
  append, copy and slicing for the judgement of Sx. No condition: they speak of any program.
-/
import Derived.Test.YteblmnpklcdnpaaSxBytes
set_option linter.unusedVariables false
set_option linter.unusedSimpArgs false
namespace Go.Sx
open Go

section
variable {P : Program} {fn : Func} {R : Ending → World → Prop} {N : Nat} {w0 : World} {D : Blocks} {e : List (Nat × Value)} {M : List (Nat × Ck)} {k : List It} {o : Oper} {all : Array Oper} {rest : List Oper}

theorem info_of {E : TypeId} {s by' : Nat} {z : Value} [hz : Siz P E s] [hzz : Zer P E z] [hb : Byt P E by'] : ∃ i, P.info? E = some i ∧ i.size = s ∧ i.zero = some z ∧ i.bytes = by' := by
  obtain ⟨i, hi, h1⟩ := Option.map_eq_some_iff.1 hz.h
  obtain ⟨i', hi', h2⟩ := Option.map_eq_some_iff.1 hb.h
  have hzz := hzz.h
  unfold zero? at hzz
  obtain ⟨i'', hi'', h3⟩ := Option.bind_eq_some_iff.1 hzz
  rw [hi] at hi' hi''
  cases hi'; cases hi''
  exact ⟨i, hi, h1, h3, h2⟩

theorem run_append_empty (w : World) {t ty E : TypeId} {s : Nat} [hu : Und P t (.slice E)] [hz : Siz P E s] (p q : Option Addr) (n c c' : Nat) (hnc : n ≤ c) :
    (Builtin.append_ #[t, t] ty #[.slice p n c, .slice q 0 c']).run P w = .ok (.slice p n c) w := by
  have hf : (Builtin.firstCells s 0 (.slice q 0 c')).run P w = .ok #[] w := by
    cases q with
    | none => simp [Builtin.firstCells]
    | some a => simp [Builtin.firstCells, loadCells, loadCellsFrom]
  simp only [Builtin.append_, List.getElem?_toArray, List.getElem?_cons_zero, List.getElem?_cons_succ, Sem.run_bind, run_und hu.h, Result.andThen_ok, run_size hz.h, Sem.run_pure, Bool.false_eq_true, if_false, Builtin.lenOf, Nat.add_zero, hnc, if_true, hf, Sem.run_ite, Bool.not_false]
  cases p <;> simp [storeCells]

/-- An own slice: its address, its capacity. -/
structure Ow where
  p : Option Addr
  c : Nat
def Ow.sl (x : Ow) (n : Nat) : Value := .slice x.p n x.c
def Ow.ck (E : TypeId) (s : Nat) (L : List Value) (x : Ow) : Ck := .fact (At x.p) (Own E s x.p x.c L)
theorem Ow.rd {w0 w : World} {D : Blocks} {M : List (Nat × Ck)} {E : TypeId} {s : Nat} {L : List Value} {x : Ow} {t : Nat} (hM : mget M t = some (x.ck E s L)) (hm : Mem w0 D M w) : RdV w x.p L := Own.rd (hm.holds _ _ hM)

/-- append to an own slice, of one that reads as S: the own slice has grown, in its place or in a new one. -/
theorem own_append {w : World} {t ty E : TypeId} {s by' n c m c' : Nat} {z : Value} {p q : Option Addr} {L S : List Value} [hu : Und P t (.slice E)] [hz : Siz P E s] [hzz : Zer P E z] [hb : Byt P E by'] (hs0 : 0 < s) (hzc : z.cells.size = s)
    (hown : Own E s p c L w) (hL : L.length = n * s) (hS : RdV w q S) (hSl : S.length = m * s) (h1 : ∀ u ∈ S, u.oneCell' = true) (hbig : (n + m) * by' ≤ 140737488355328) (hnm : n + m ≤ 9223372036854775807) (hbel : ∀ j, At p j → j < w.heap.size) :
    ∃ p' cc w', (Builtin.append_ #[t, t] ty #[.slice p n c, .slice q m c']).run P w = .ok (.slice p' (n + m) cc) w' ∧ Own E s p' cc (L ++ S) w' ∧ (∀ j, At p' j → j < w'.heap.size) ∧ (∀ j, At p' j → At p j ∨ w.heap.size ≤ j) ∧ w'.os = w.os ∧ w'.tape = w.tape ∧ w'.output = w.output ∧ w.heap.size ≤ w'.heap.size ∧ (∀ j, j < w.heap.size → ¬ At p j → w'.heap[j]? = w.heap[j]?) := by
  obtain ⟨i, hi', hsz, hz', hby⟩ := info_of (P := P) (E := E)
  have hnc : n ≤ c := by
    rcases hown with ⟨_, rfl, rfl⟩ | ⟨b, J, _, _, h3, _⟩
    · simp only [List.length_nil] at hL
      have : n = 0 := by
        rcases Nat.eq_zero_or_pos n with h | h
        · exact h
        · have := Nat.mul_pos h hs0; omega
      omega
    · rw [hL] at h3
      exact Nat.le_of_mul_le_mul_right h3.1 hs0
  by_cases hm : m = 0
  · subst hm
    have hS0 : S = [] := List.eq_nil_of_length_eq_zero (by simpa using hSl)
    subst hS0
    exact ⟨p, c, w, run_append_empty (P := P) (E := E) w p q n c c' hnc, by simpa using hown, hbel, fun j hj => .inl hj, rfl, rfl, rfl, Nat.le_refl _, fun _ _ _ => rfl⟩
  · have hSn : 0 < S.length := by rw [hSl]; exact Nat.mul_pos (by omega) hs0
    obtain ⟨qb, qo, rfl, _⟩ := hS.place hSn
    have hcells := hS.cells (a := ⟨qb, qo, none⟩) rfl
    have hcapge := grownCap_ge w (n + m) c E
    have hcaple := grownCap_le_maxLen w (n + m) c E (by unfold maxLen; omega)
    have fresh : ∀ (pre : List Value), pre = L → ∃ w' : World, w' = (w.drew.alloc (.cells (pre.toArray ++ S.toArray ++ Builtin.zeroCells z.cells (grownCap w (n + m) c E - (n + m))) E)) ∧
        Own E s (some ⟨w.heap.size, 0, none⟩) (grownCap w (n + m) c E) (L ++ S) w' ∧ w'.os = w.os ∧ w'.tape = w.tape ∧ w'.output = w.output ∧ w'.heap.size = w.heap.size + 1 ∧ (∀ j, j < w.heap.size → w'.heap[j]? = w.heap[j]?) := by
      intro pre hpre
      subst hpre
      refine ⟨_, rfl, .inr ⟨w.heap.size, (Builtin.zeroCells z.cells (grownCap w (n + m) c E - (n + m))).toList, rfl, ?_, ?_, ?_⟩, rfl, rfl, rfl, by simp, fun j hj => heap_alloc_old w.drew _ hj⟩
      · show (w.drew.alloc _).heap[w.drew.heap.size]? = _
        rw [heap_alloc_new w.drew]
        congr 2
        apply Array.ext'
        simp
      · have hz2 : (Builtin.zeroCells z.cells (grownCap w (n + m) c E - (n + m))).size = (grownCap w (n + m) c E - (n + m)) * s := by rw [size_zeroCells, hzc]
        have hg : (grownCap w (n + m) c E - (n + m)) * s + (n + m) * s = grownCap w (n + m) c E * s := by rw [← Nat.add_mul]; congr 1; omega
        have hg2 : (n + m) * s = n * s + m * s := Nat.add_mul ..
        simp only [List.length_append, hL, hSl, Array.length_toList, hz2]
        omega
      · unfold maxLen at hcaple; omega
    rcases hown with ⟨rfl, rfl, rfl⟩ | ⟨b, J, rfl, hbk, hlen, hcm⟩
    · have hn : n = 0 := by omega
      subst hn
      have hr := run_append_nil (P := P) w t ty E i z hu.h hi' hz' ⟨qb, qo, none⟩ m c' S (by rw [hSl, hsz]) hcells (by omega) (by omega) (by rw [hby]; simp only [Nat.zero_add] at hbig; omega)
      obtain ⟨w', hw', ho, h2, h3, h4, h5, h6⟩ := fresh [] rfl
      simp only [Nat.zero_add, Array.empty_append] at hw' ho hr ⊢
      refine ⟨_, _, w', ?_, ho, fun j hj => by rw [At.some] at hj; omega, fun j hj => by rw [At.some] at hj; omega, h2, h3, h4, by omega, fun j hj _ => h6 j hj⟩
      rw [hr, hw']
    · by_cases hroom : n + m ≤ c
      · have hcur : c * s ≤ (L ++ J).toArray.size := by simpa using hlen.2
        have hfit : n * i.size + S.length ≤ (L ++ J).toArray.size := by rw [hsz, hSl, ← Nat.add_mul]; exact Nat.le_trans (Nat.mul_le_mul_right _ hroom) hcur
        have hr := run_append_room (P := P) w t ty E i hu.h hi' b n c (L ++ J).toArray hbk ⟨qb, qo, none⟩ m c' S (by rw [hSl, hsz]) hcells h1 hroom hfit
        refine ⟨_, _, _, hr, .inr ⟨b, J.drop S.length, rfl, ?_, ?_, hcm⟩, fun j hj => by rw [setRow_size]; exact hbel j hj, fun j hj => .inl hj, rfl, rfl, rfl, by simp [World.setRow], fun j _ hj2 => setRow_other w b _ j (fun e => hj2 (At.some.2 e))⟩
        · rw [setRow_heap w b _ _ E _ hbk]
          congr 2
          apply Array.ext'
          have e1 : (L ++ J).take (n * s) = L := by rw [← hL, List.take_left]
          have e2 : (L ++ J).drop (n * s + S.length) = J.drop S.length := by rw [← hL, List.drop_length_add_append]
          simp [hsz, e1, e2, List.append_assoc]
        · have h5 : L.length + S.length ≤ c * s := by rw [hL, hSl, ← Nat.add_mul]; exact Nat.mul_le_mul_right _ hroom
          simp only [List.length_append, List.length_drop] at hlen ⊢
          omega
      · have hr := run_append_grow (P := P) w t ty E i z hu.h hi' hz' ⟨b, 0, none⟩ n c L (by rw [hL, hsz]) (fun j v hj => by
            rw [Addr.add_lit, cell_pt hbk]
            have hlt := (List.getElem?_eq_some_iff.1 hj).1
            simp [List.getElem?_append_left hlt, hj]) ⟨qb, qo, none⟩ m c' S (by rw [hSl, hsz]) hcells (by omega) (by omega) (growslice_fits (by omega) (by rw [hby]; exact hbig))
        obtain ⟨w', hw', ho, h2, h3, h4, h5, h6⟩ := fresh L rfl
        refine ⟨_, _, w', ?_, ho, fun j hj => by rw [At.some] at hj; omega, fun j hj => by rw [At.some] at hj; omega, h2, h3, h4, by omega, fun j hj _ => h6 j hj⟩
        rw [hr, hw']

/-- The law for the walk: append to an own slice. -/
theorem g_append (tag : Nat) {t E : TypeId} {x y : Operand} {s by' n c m c' d : Nat} {z : Value} {p q : Option Addr} {L : List Value} (S : List Value) (hg : wantE all e o = some true) (hd : o.dst = some d) (hN : Nat.blt d N = true) [hu : Und P t (.slice E)] [hz : Siz P E s] [hzz : Zer P E z] [hb : Byt P E by'] (hs0 : 0 < s) (hzc : z.cells.size = s)
    (ho : o.op = .call ⟨.builtin .append, #[x, y], #[t, t]⟩) (hx : ev e x = some (.slice p n c)) (hy : ev e y = some (.slice q m c'))
    (hM : mget M tag = some (.fact (At p) (Own E s p c L))) (hL : L.length = n * s) (hS : ∀ w, Mem w0 D M w → RdV w q S) (hSl : S.length = m * s) (h1 : ∀ u ∈ S, u.oneCell' = true) (hbig : (n + m) * by' ≤ 140737488355328) (hnm : n + m ≤ 9223372036854775807)
    (h : ∀ p' c'', G P fn R N w0 D ((d, .slice p' (n + m) c'') :: e) ((tag, .fact (At p') (Own E s p' c'' (L ++ S))) :: M) (.ops all rest :: k)) : G P fn R N w0 D e M (.ops all (o :: rest) :: k) := by
  refine g_val (σ := Option Addr × Nat) (pr := fun _ => True) (val := fun r => .slice r.1 (n + m) r.2) (M' := fun r => (tag, .fact (At r.1) (Own E s r.1 r.2 (L ++ S))) :: M) hg hd hN ?_ ?_
  · intro a w hs hm
    obtain ⟨p', cc, w', hr, ho', h3, h4, h5, h6, h7, h8, h9⟩ := own_append (P := P) (w := w) (t := t) (ty := o.type) (c' := c') hs0 hzc (hm.holds _ _ hM) hL (hS w hm) hSl h1 hbig hnm (hm.below _ _ hM)
    refine ⟨(p', cc), w', trivial, ?_, ?_⟩
    · simp only [execOp, ho, resolve, invoke, builtin, Sem.run_bind, Sem.run_pure, Result.andThen_ok, List.map_toArray, List.map_cons, List.map_nil, hs.eval hx, hs.eval hy]
      rw [hr]
      rfl
    · exact hm.swap tag _ _ hM h5 h6 h7 h8 (fun j hj hn => h9 j hj hn) ho' Own.loc h3 h4
  · rintro ⟨p', cc⟩ _
    exact h p' cc

/-- The same for elements of one cell. -/
theorem g_append1 (tag : Nat) {t E : TypeId} {x y : Operand} {by' n c m c' d : Nat} {z : Value} {p q : Option Addr} {L : List Value} (S : List Value) (hg : wantE all e o = some true) (hd : o.dst = some d) (hN : Nat.blt d N = true) [hu : Und P t (.slice E)] [hz : Siz P E 1] [hzz : Zer P E z] [hb : Byt P E by'] (hzc : z.cells.size = 1)
    (ho : o.op = .call ⟨.builtin .append, #[x, y], #[t, t]⟩) (hx : ev e x = some (.slice p n c)) (hy : ev e y = some (.slice q m c'))
    (hM : mget M tag = some (.fact (At p) (Own E 1 p c L))) (hL : L.length = n) (hS : ∀ w, Mem w0 D M w → RdV w q S) (hSl : S.length = m) (h1 : ∀ u ∈ S, u.oneCell' = true) (hbig : (n + m) * by' ≤ 140737488355328) (hnm : n + m ≤ 9223372036854775807)
    (h : ∀ p' c'', G P fn R N w0 D ((d, .slice p' (n + m) c'') :: e) ((tag, .fact (At p') (Own E 1 p' c'' (L ++ S))) :: M) (.ops all rest :: k)) : G P fn R N w0 D e M (.ops all (o :: rest) :: k) :=
  g_append tag (s := 1) S hg hd hN (by omega) hzc ho hx hy hM (by omega) hS (by omega) h1 hbig hnm h

/-- What a known row reads as. -/
theorem Mem.row {w : World} (hm : Mem w0 D M w) (t : Nat) {b : Nat} {L J : List Value} {E : TypeId} {fz : Nat × Nat} (h : mget M t = some (.pt b (.cells (L ++ J).toArray E fz))) : RdV w (some ⟨b, 0, none⟩) L := RdV.row (hm.holds t _ h)
/-- The state's slots told in other words, or fewer of them; the same of memory. -/
theorem g_to (e' : List (Nat × Value)) (M' : List (Nat × Ck)) (he : SubE e e') (hM : SubM M M') (h : G P fn R N w0 D e' M' k) : G P fn R N w0 D e M k := g_sub he hM h

end
end Go.Sx

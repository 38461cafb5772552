/-
  append, copy and slicing for the judgement of Sx. No condition: they speak of any program.
-/
import Derived.Test.YtmhleegjffdnkaaSxBytes
namespace Go.Sx
open Go

section
variable {P : Program} {fn : Func} {R : Ending → World → Prop} {N : Nat} {w0 : World} {D : List Nat} {e : List (Nat × Value)} {M : List (Nat × Ck)} {k : List It} {o : Oper} {all : Array Oper} {rest : List Oper}

theorem info_of {E : TypeId} {s by' : Nat} {z : Value} [hz : Siz P E s] [hzz : Zer P E z] [hb : Byt P E by'] : ∃ i, P.info? E = some i ∧ i.size = s ∧ i.zero = some z ∧ i.bytes = by' := by
  obtain ⟨i, hi, h1⟩ := Option.map_eq_some_iff.1 hz.h
  obtain ⟨i', hi', h2⟩ := Option.map_eq_some_iff.1 hb.h
  have hzz := hzz.h
  unfold zero? at hzz
  obtain ⟨i'', hi'', h3⟩ := Option.bind_eq_some_iff.1 hzz
  rw [hi] at hi' hi''
  cases hi'; cases hi''
  exact ⟨i, hi, h1, h3, h2⟩

theorem run_append_empty (w : World) {t ty E : TypeId} {s : Nat} [hu : Und P t (.slice E)] [hz : Siz P E s] (p q : Option Addr) (n c c' : Nat) (hnc : n ≤ c) :
    (Builtin.append_ #[t, t] ty #[.slice p n c, .slice q 0 c']).run P w = .ok (.slice p n c) w := by
  have hf : (Builtin.firstCells s 0 (.slice q 0 c')).run P w = .ok #[] w := by
    cases q with
    | none => simp [Builtin.firstCells]
    | some a => simp [Builtin.firstCells, loadCells, loadCellsFrom]
  simp only [Builtin.append_, List.getElem?_toArray, List.getElem?_cons_zero, List.getElem?_cons_succ, Sem.run_bind, run_und hu.h, Result.andThen_ok, run_size hz.h, Sem.run_pure, Bool.false_eq_true, if_false, Builtin.lenOf, Nat.add_zero, hnc, if_true, hf, Sem.run_ite, Bool.not_false]
  cases p <;> simp [storeCells]

/-- An own slice: its address, its capacity, the blocks in which it lies. -/
structure Ow where
  p : Option Addr
  c : Nat
  lo : Nat
  hi : Nat
def Ow.sl (x : Ow) (n : Nat) : Value := .slice x.p n x.c
def Ow.ck (E : TypeId) (s : Nat) (L : List Value) (x : Ow) : Ck := .fact x.lo x.hi (Own E s x.lo x.hi x.p x.c L)
theorem Ow.rd {w0 w : World} {D : List Nat} {M : List (Nat × Ck)} {E : TypeId} {s : Nat} {L : List Value} {x : Ow} {t : Nat} (hM : mget M t = some (x.ck E s L)) (hm : Mem w0 D M w) : RdV w x.p L := Own.rd (hm.holds _ _ hM)

/-- append to an own slice, of one that reads as S: the own slice has grown, in its place or in a new one. -/
theorem own_append {w : World} {t ty E : TypeId} {s by' n c m c' lo hi : Nat} {z : Value} {p q : Option Addr} {L S : List Value} [hu : Und P t (.slice E)] [hz : Siz P E s] [hzz : Zer P E z] [hb : Byt P E by'] (hs0 : 0 < s) (hzc : z.cells.size = s)
    (hown : Own E s lo hi p c L w) (hL : L.length = n * s) (hS : RdV w q S) (hSl : S.length = m * s) (h1 : ∀ u ∈ S, u.oneCell' = true) (hbig : (n + m) * by' ≤ 140737488355328) (hnm : n + m ≤ 9223372036854775807) (hlo : lo ≤ hi) :
    ∃ p' cc lo' hi' w', (Builtin.append_ #[t, t] ty #[.slice p n c, .slice q m c']).run P w = .ok (.slice p' (n + m) cc) w' ∧ Own E s lo' hi' p' cc (L ++ S) w' ∧ lo' ≤ hi' ∧ hi' ≤ w'.heap.size + (hi - w'.heap.size) ∧
      ((lo' = lo ∧ hi' = hi) ∨ (w.heap.size ≤ lo' ∧ hi' ≤ w'.heap.size)) ∧ w'.os = w.os ∧ w'.tape = w.tape ∧ w'.output = w.output ∧ w.heap.size ≤ w'.heap.size ∧ (∀ j, j < w.heap.size → ¬ (lo ≤ j ∧ j < hi) → w'.heap[j]? = w.heap[j]?) := by
  obtain ⟨i, hi', hsz, hz', hby⟩ := info_of (P := P) (E := E)
  have hnc : n ≤ c := by
    rcases hown with ⟨_, rfl, rfl⟩ | ⟨b, J, _, _, _, _, h3, _⟩
    · simp only [List.length_nil] at hL
      have : n = 0 := by
        rcases Nat.eq_zero_or_pos n with h | h
        · exact h
        · have := Nat.mul_pos h hs0; omega
      omega
    · rw [List.length_append, hL] at h3
      exact Nat.le_of_mul_le_mul_right (by omega : n * s ≤ c * s) hs0
  by_cases hm : m = 0
  · subst hm
    have hS0 : S = [] := List.eq_nil_of_length_eq_zero (by simpa using hSl)
    subst hS0
    exact ⟨p, c, lo, hi, w, run_append_empty (P := P) (E := E) w p q n c c' hnc, by simpa using hown, hlo, by omega, .inl ⟨rfl, rfl⟩, rfl, rfl, rfl, Nat.le_refl _, fun _ _ _ => rfl⟩
  · have hSn : 0 < S.length := by rw [hSl]; exact Nat.mul_pos (by omega) hs0
    obtain ⟨qb, qo, rfl, _⟩ := hS.place hSn
    have hcells := hS.cells (a := ⟨qb, qo, none⟩) rfl
    have hcapge := grownCap_ge w (n + m) c E
    have hcaple := grownCap_le_maxLen w (n + m) c E (by unfold maxLen; omega)
    have fresh : ∀ (pre : List Value), pre = L → ∃ w' : World, w' = (w.drew.alloc (.cells (pre.toArray ++ S.toArray ++ Builtin.zeroCells z.cells (grownCap w (n + m) c E - (n + m))) E)) ∧
        Own E s w.heap.size (w.heap.size + 1) (some ⟨w.heap.size, 0, none⟩) (grownCap w (n + m) c E) (L ++ S) w' ∧ w'.os = w.os ∧ w'.tape = w.tape ∧ w'.output = w.output ∧ w'.heap.size = w.heap.size + 1 ∧ (∀ j, j < w.heap.size → w'.heap[j]? = w.heap[j]?) := by
      intro pre hpre
      subst hpre
      refine ⟨_, rfl, .inr ⟨w.heap.size, (Builtin.zeroCells z.cells (grownCap w (n + m) c E - (n + m))).toList, rfl, rfl, rfl, ?_, ?_, ?_⟩, rfl, rfl, rfl, by simp, fun j hj => heap_alloc_old w.drew _ hj⟩
      · show (w.drew.alloc _).heap[w.drew.heap.size]? = _
        rw [heap_alloc_new w.drew]
        congr 2
        apply Array.ext'
        simp
      · have hz2 : (Builtin.zeroCells z.cells (grownCap w (n + m) c E - (n + m))).size = (grownCap w (n + m) c E - (n + m)) * s := by rw [size_zeroCells, hzc]
        rw [List.length_append, List.length_append, hL, hSl, Array.length_toList, hz2, ← Nat.add_mul, ← Nat.add_mul]
        congr 1; omega
      · unfold maxLen at hcaple; omega
    rcases hown with ⟨rfl, rfl, rfl⟩ | ⟨b, J, rfl, rfl, rfl, hbk, hlen, hcm⟩
    · have hn : n = 0 := by omega
      subst hn
      have hr := run_append_nil (P := P) w t ty E i z hu.h hi' hz' ⟨qb, qo, none⟩ m c' S (by rw [hSl, hsz]) hcells (by omega) (by omega) (by rw [hby]; simp only [Nat.zero_add] at hbig; omega)
      obtain ⟨w', hw', ho, h2, h3, h4, h5, h6⟩ := fresh [] rfl
      simp only [Nat.zero_add, Array.empty_append] at hw' ho hr ⊢
      refine ⟨_, _, _, _, w', ?_, ho, by omega, by omega, .inr ⟨Nat.le_refl _, by omega⟩, h2, h3, h4, by omega, fun j hj _ => h6 j hj⟩
      rw [hr, hw']
    · by_cases hroom : n + m ≤ c
      · have hcur : (L ++ J).toArray.size = c * s := by simpa using hlen
        have hfit : n * i.size + S.length ≤ (L ++ J).toArray.size := by rw [hsz, hSl, hcur, ← Nat.add_mul]; exact Nat.mul_le_mul_right _ hroom
        have hr := run_append_room (P := P) w t ty E i hu.h hi' lo n c (L ++ J).toArray hbk ⟨qb, qo, none⟩ m c' S (by rw [hSl, hsz]) hcells h1 hroom hfit
        refine ⟨_, _, _, _, _, hr,   .inr ⟨lo, J.drop S.length, rfl, rfl, rfl, ?_, ?_, hcm⟩, by omega, by omega, .inl ⟨rfl, rfl⟩, rfl, rfl, rfl, by simp [World.setRow], fun j _ hj2 => setRow_other w lo _ j (by omega)⟩
        · rw [setRow_heap w lo _ _ E _ hbk]
          congr 2
          apply Array.ext'
          have e1 : (L ++ J).take (n * s) = L := by rw [← hL, List.take_left]
          have e2 : (L ++ J).drop (n * s + S.length) = J.drop S.length := by rw [← hL, List.drop_length_add_append]
          simp [hsz, e1, e2, List.append_assoc]
        · rw [List.length_append, List.length_append, List.length_drop]
          rw [List.length_append] at hlen
          have : S.length ≤ J.length := by
            have h5 : L.length + S.length ≤ c * s := by rw [hL, hSl, ← Nat.add_mul]; exact Nat.mul_le_mul_right _ hroom
            omega
          omega
      · have hr := run_append_grow (P := P) w t ty E i z hu.h hi' hz' ⟨lo, 0, none⟩ n c L (by rw [hL, hsz]) (fun j v hj => by
            rw [Addr.add_lit, cell_pt hbk]
            have hlt := (List.getElem?_eq_some_iff.1 hj).1
            simp [List.getElem?_append_left hlt, hj]) ⟨qb, qo, none⟩ m c' S (by rw [hSl, hsz]) hcells (by omega) (by omega) (growslice_fits (by omega) (by rw [hby]; exact hbig))
        obtain ⟨w', hw', ho, h2, h3, h4, h5, h6⟩ := fresh L rfl
        refine ⟨_, _, _, _, w', ?_, ho, by omega, by omega, .inr ⟨Nat.le_refl _, by omega⟩, h2, h3, h4, by omega, fun j hj _ => h6 j hj⟩
        rw [hr, hw']

/-- The law for the walk: append to an own slice. -/
theorem g_append (tag : Nat) {t E : TypeId} {x y : Operand} {s by' n c m c' lo hi d : Nat} {z : Value} {p q : Option Addr} {L : List Value} (S : List Value) (hg : wantE all e o = some true) (hd : o.dst = some d) (hN : Nat.blt d N = true) [hu : Und P t (.slice E)] [hz : Siz P E s] [hzz : Zer P E z] [hb : Byt P E by'] (hs0 : 0 < s) (hzc : z.cells.size = s)
    (ho : o.op = .call ⟨.builtin .append, #[x, y], #[t, t]⟩) (hx : ev e x = some (.slice p n c)) (hy : ev e y = some (.slice q m c'))
    (hM : mget M tag = some (.fact lo hi (Own E s lo hi p c L))) (hL : L.length = n * s) (hS : ∀ w, Mem w0 D M w → RdV w q S) (hSl : S.length = m * s) (h1 : ∀ u ∈ S, u.oneCell' = true) (hbig : (n + m) * by' ≤ 140737488355328) (hnm : n + m ≤ 9223372036854775807)
    (h : ∀ p' c'' lo' hi', G P fn R N w0 D ((d, .slice p' (n + m) c'') :: e) ((tag, .fact lo' hi' (Own E s lo' hi' p' c'' (L ++ S))) :: M) (.ops all rest :: k)) : G P fn R N w0 D e M (.ops all (o :: rest) :: k) := by
  refine g_val (σ := Option Addr × Nat × Nat × Nat) (pr := fun r => w0.heap.size ≤ r.2.2.1 ∧ r.2.2.1 ≤ r.2.2.2) (val := fun r => .slice r.1 (n + m) r.2.1) (M' := fun r => (tag, .fact r.2.2.1 r.2.2.2 (Own E s r.2.2.1 r.2.2.2 r.1 r.2.1 (L ++ S))) :: M) hg hd hN ?_ ?_
  · intro a w hs hm
    have hlo : lo ≤ hi := (hm.stable _ _ hM).1
    have hhi : hi ≤ w.heap.size := hm.below _ _ hM
    have hab : w0.heap.size ≤ lo := by
      rcases hm.above _ _ hM with h | ⟨b, ob, h, _⟩
      · exact h
      · cases h
    obtain ⟨p', cc, lo', hi', w', hr, ho', h2, h3, h4, h5, h6, h7, h8, h9⟩ := own_append (P := P) (w := w) (t := t) (ty := o.type) (c' := c') hs0 hzc (hm.holds _ _ hM) hL (hS w hm) hSl h1 hbig hnm hlo
    have habove : w0.heap.size ≤ lo' := by
      have := hm.size
      rcases h4 with ⟨rfl, rfl⟩ | ⟨h4, _⟩
      · exact hab
      · omega
    refine ⟨(p', cc, lo', hi'), w', ⟨habove, h2⟩, ?_, ?_⟩
    · simp only [execOp, ho, resolve, invoke, builtin, Sem.run_bind, Sem.run_pure, Result.andThen_ok, List.map_toArray, List.map_cons, List.map_nil, hs.eval hx, hs.eval hy]
      rw [hr]
      rfl
    · refine hm.swap tag _ _ hM hab h5 h6 h7 h8 (fun j hj hn => h9 j hj hn) ho' ⟨h2, Own.loc⟩ ?_ ?_
      · simp only [Ck.hi]; omega
      · simp only [Ck.lo, Ck.hi]
        rcases h4 with ⟨rfl, rfl⟩ | ⟨h4, _⟩
        · exact .inl ⟨Nat.le_refl _, Nat.le_refl _⟩
        · exact .inr h4
  · rintro ⟨p', cc, lo', hi'⟩ ⟨h2, h3⟩
    exact h p' cc lo' hi'

/-- The same for elements of one cell. -/
theorem g_append1 (tag : Nat) {t E : TypeId} {x y : Operand} {by' n c m c' lo hi d : Nat} {z : Value} {p q : Option Addr} {L : List Value} (S : List Value) (hg : wantE all e o = some true) (hd : o.dst = some d) (hN : Nat.blt d N = true) [hu : Und P t (.slice E)] [hz : Siz P E 1] [hzz : Zer P E z] [hb : Byt P E by'] (hzc : z.cells.size = 1)
    (ho : o.op = .call ⟨.builtin .append, #[x, y], #[t, t]⟩) (hx : ev e x = some (.slice p n c)) (hy : ev e y = some (.slice q m c'))
    (hM : mget M tag = some (.fact lo hi (Own E 1 lo hi p c L))) (hL : L.length = n) (hS : ∀ w, Mem w0 D M w → RdV w q S) (hSl : S.length = m) (h1 : ∀ u ∈ S, u.oneCell' = true) (hbig : (n + m) * by' ≤ 140737488355328) (hnm : n + m ≤ 9223372036854775807)
    (h : ∀ p' c'' lo' hi', G P fn R N w0 D ((d, .slice p' (n + m) c'') :: e) ((tag, .fact lo' hi' (Own E 1 lo' hi' p' c'' (L ++ S))) :: M) (.ops all rest :: k)) : G P fn R N w0 D e M (.ops all (o :: rest) :: k) :=
  g_append tag (s := 1) S hg hd hN (by omega) hzc ho hx hy hM (by omega) hS (by omega) h1 hbig hnm h

/-- What a known row reads as. -/
theorem Mem.row {w : World} (hm : Mem w0 D M w) (t : Nat) {b : Nat} {L J : List Value} {E : TypeId} {fz : Nat × Nat} (h : mget M t = some (.pt b (.cells (L ++ J).toArray E fz))) : RdV w (some ⟨b, 0, none⟩) L := RdV.row (hm.holds t _ h)
/-- The state's slots told in other words, or fewer of them; the same of memory. -/
theorem g_to (e' : List (Nat × Value)) (M' : List (Nat × Ck)) (he : SubE e e') (hM : SubM M M') (h : G P fn R N w0 D e' M' k) : G P fn R N w0 D e M k := g_sub he hM h

end
end Go.Sx

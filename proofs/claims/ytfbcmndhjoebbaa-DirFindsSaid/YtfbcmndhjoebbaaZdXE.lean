import Derived.Test.YtfbcmndhjoebbaaZdSxLaw
import Derived.Test.YtfbcmndhjoebbaaZdXC
import Derived.Test.YtfbcmndhjoebbaaZdXB
import Derived.Lib.AppendStr
set_option linter.unusedVariables false
set_option linter.unusedSimpArgs false
/-
  Slices of the run's own that begin within their block: they grow, and are cut at the front. No condition: they speak of any program. Elements have one cell.
-/
namespace Go.Sx
open Go

section
variable {P : Program} {fn : Func} {R : Ending → World → Prop} {N : Nat} {w0 : World} {D : Blocks} {e : List (Nat × Value)} {M : List (Nat × Ck)} {k : List It} {o : Oper} {all : Array Oper} {rest : List Oper}

theorem run_append_roomO (w : World) (t ty e : TypeId) (i : TypeInfo) (ht : P.underlying t = some (.slice e)) (hi : P.info? e = some i)
    (g off sLen sCap : Nat) (cur : Array Value) (hg : w.heap[g]? = some (.cells cur e (0, 0)))
    (a : Addr) (m c : Nat) (news : List Value) (hl : news.length = m * i.size) (hnews : ∀ j u, news[j]? = some u → w.cell? (a.add j) = some u) (h1 : ∀ u ∈ news, u.oneCell' = true)
    (hroom : sLen + m ≤ sCap) (hfit : off + sLen * i.size + news.length ≤ cur.size) :
    (Builtin.append_ #[t, t] ty #[.slice (some ⟨g, off, none⟩) sLen sCap, .slice (some a) m c]).run P w =
      .ok (.slice (some ⟨g, off, none⟩) (sLen + m) sCap) (w.setRow g (cur.toList.take (off + sLen * i.size) ++ news ++ cur.toList.drop (off + sLen * i.size + news.length)).toArray) := by
  have hf := run_firstCells_some (P := P) w i.size m a m c news hl hnews
  have hst := run_storeCells_at P g (off + sLen * i.size) e news 0 cur w hg (by simpa using hfit) h1
  simp only [Nat.add_zero] at hst
  simp [Builtin.append_, run_underlying ht, sizeOf, typeInfo, hi, Builtin.lenOf, hroom, hf, Addr.add_lit, hst]

/-- The slice at p with capacity c is the run's own: the cells L lie at its place; nil, if nothing has been put into it. -/
def OwnO (E : TypeId) (p : Option Addr) (c : Nat) (L : List Value) (w : World) : Prop :=
  (p = none ∧ L = [] ∧ c = 0) ∨ ∃ b I J, p = some ⟨b, I.length, none⟩ ∧ w.heap[b]? = some (.cells (I ++ L ++ J).toArray E (0, 0)) ∧ (L.length ≤ c ∧ c ≤ (L ++ J).length) ∧ c ≤ 9223372036854775807
def Ow.ckO (E : TypeId) (L : List Value) (x : Ow) : Ck := .fact (At x.p) (OwnO E x.p x.c L)
theorem OwnO.loc {E : TypeId} {p : Option Addr} {c : Nat} {L : List Value} : Local (At p) (OwnO E p c L) := by
  intro w w' h ho
  rcases ho with h1 | ⟨b, I, J, rfl, h2, h3, h4⟩
  · exact .inl h1
  · exact .inr ⟨_, I, J, rfl, by rw [h b (At.some.2 rfl)]; exact h2, h3, h4⟩
theorem OwnO.rd {E : TypeId} {p : Option Addr} {c : Nat} {L : List Value} {w : World} (h : OwnO E p c L w) : RdV w p L := by
  rcases h with ⟨_, rfl, _⟩ | ⟨b, I, J, rfl, h2, _⟩
  · exact .inl rfl
  · refine RdV.pt h2 (fun i v hv => ?_)
    have hlt := (List.getElem?_eq_some_iff.1 hv).1
    rw [List.getElem?_toArray, List.append_assoc, List.getElem?_append_right (by omega), List.getElem?_append_left (by omega), Nat.add_sub_cancel_left]
    exact hv
theorem OwnO.le {E : TypeId} {p : Option Addr} {c : Nat} {L : List Value} {w : World} (h : OwnO E p c L w) : L.length ≤ c := by
  rcases h with ⟨_, rfl, rfl⟩ | ⟨b, I, J, rfl, h2, h3, _⟩
  · simp
  · exact h3.1
theorem OwnO.of {E : TypeId} {p : Option Addr} {c : Nat} {L : List Value} {w : World} (h : Own E 1 p c L w) : OwnO E p c L w := by
  rcases h with h1 | ⟨b, J, rfl, h2, h3, h4⟩
  · exact .inl h1
  · exact .inr ⟨b, [], J, rfl, h2, by omega, h4⟩
theorem OwnO.cut {E : TypeId} {p : Option Addr} {c : Nat} {L : List Value} {w : World} (h : OwnO E p c L w) {l : Nat} (hl : l ≤ L.length) : OwnO E (cutp p c l 1) (c - l) (L.drop l) w := by
  rcases h with ⟨rfl, rfl, rfl⟩ | ⟨b, I, J, rfl, h2, h3, h4⟩
  · have : l = 0 := by simpa using hl
    subst this
    exact .inl ⟨rfl, rfl, rfl⟩
  · unfold cutp
    by_cases hc : c = l
    · rw [if_pos hc]
      subst hc
      have hd : L.drop c = [] := List.drop_eq_nil_of_le (by omega)
      rw [hd]
      exact .inr ⟨b, I, L ++ J, rfl, by rw [h2]; simp, by simp, by omega⟩
    · rw [if_neg hc]
      refine .inr ⟨b, I ++ L.take l, J, ?_, ?_, ?_, by omega⟩
      · simp only [Option.map_some, Addr.add_lit, List.length_append, List.length_take]
        congr 2
        omega
      · rw [h2]
        congr 2
        congr 1
        rw [List.append_assoc I (List.take l L), List.take_append_drop]
      · simp only [List.length_append, List.length_drop] at h3 ⊢
        omega
theorem At.cut {p : Option Addr} {c l : Nat} {j : Nat} : At (cutp p c l 1) j ↔ At p j := by
  unfold cutp
  split
  · exact Iff.rfl
  · cases p with
    | none => exact Iff.rfl
    | some a =>
      simp only [At, Option.map_some, Option.some.injEq, exists_eq_left', Addr.add]
      split <;> exact Iff.rfl

theorem ownO_append {w : World} {t ty E : TypeId} {by' n c m c' : Nat} {z : Value} {p q : Option Addr} {L S : List Value} [hu : Und P t (.slice E)] [hz : Siz P E 1] [hzz : Zer P E z] [hb : Byt P E by'] (hzc : z.cells.size = 1)
    (hown : OwnO E p c L w) (hL : L.length = n) (hS : RdV w q S) (hSl : S.length = m) (h1 : ∀ u ∈ S, u.oneCell' = true) (hbig : (n + m) * by' ≤ 140737488355328) (hnm : n + m ≤ 9223372036854775807) (hbel : ∀ j, At p j → j < w.heap.size) :
    ∃ p' cc w', (Builtin.append_ #[t, t] ty #[.slice p n c, .slice q m c']).run P w = .ok (.slice p' (n + m) cc) w' ∧ OwnO E p' cc (L ++ S) w' ∧ (∀ j, At p' j → j < w'.heap.size) ∧ (∀ j, At p' j → At p j ∨ w.heap.size ≤ j) ∧ w'.os = w.os ∧ w'.tape = w.tape ∧ w'.output = w.output ∧ w.heap.size ≤ w'.heap.size ∧ (∀ j, j < w.heap.size → ¬ At p j → w'.heap[j]? = w.heap[j]?) := by
  obtain ⟨i, hi', hsz, hz', hby⟩ := info_of (P := P) (E := E)
  have hnc : n ≤ c := by rw [← hL]; exact hown.le
  by_cases hm : m = 0
  · subst hm
    have hS0 : S = [] := List.eq_nil_of_length_eq_zero hSl
    subst hS0
    exact ⟨p, c, w, run_append_empty (P := P) (E := E) w p q n c c' hnc, by simpa using hown, hbel, fun j hj => .inl hj, rfl, rfl, rfl, Nat.le_refl _, fun _ _ _ => rfl⟩
  · have hSn : 0 < S.length := by omega
    obtain ⟨qb, qo, rfl, _⟩ := hS.place hSn
    have hcells := hS.cells (a := ⟨qb, qo, none⟩) rfl
    have hcapge := grownCap_ge w (n + m) c E
    have hcaple := grownCap_le_maxLen w (n + m) c E (by unfold maxLen; omega)
    have fresh : ∃ w' : World, w' = (w.drew.alloc (.cells (L.toArray ++ S.toArray ++ Builtin.zeroCells z.cells (grownCap w (n + m) c E - (n + m))) E)) ∧
        OwnO E (some ⟨w.heap.size, 0, none⟩) (grownCap w (n + m) c E) (L ++ S) w' ∧ w'.os = w.os ∧ w'.tape = w.tape ∧ w'.output = w.output ∧ w'.heap.size = w.heap.size + 1 ∧ (∀ j, j < w.heap.size → w'.heap[j]? = w.heap[j]?) := by
      refine ⟨_, rfl, .inr ⟨w.heap.size, [], (Builtin.zeroCells z.cells (grownCap w (n + m) c E - (n + m))).toList, rfl, ?_, ?_, ?_⟩, rfl, rfl, rfl, by simp, fun j hj => heap_alloc_old w.drew _ hj⟩
      · show (w.drew.alloc _).heap[w.drew.heap.size]? = _
        rw [heap_alloc_new w.drew]
        congr 2
        apply Array.ext'
        simp
      · have hz2 : (Builtin.zeroCells z.cells (grownCap w (n + m) c E - (n + m))).size = (grownCap w (n + m) c E - (n + m)) * 1 := by rw [size_zeroCells, hzc]
        simp only [List.length_append, hL, hSl, Array.length_toList, hz2]
        omega
      · unfold maxLen at hcaple; omega
    rcases hown with ⟨rfl, rfl, rfl⟩ | ⟨b, I, J, rfl, hbk, hlen, hcm⟩
    · have hn : n = 0 := by omega
      subst hn
      have hr := run_append_nil (P := P) w t ty E i z hu.h hi' hz' ⟨qb, qo, none⟩ m c' S (by rw [hSl, hsz]; omega) hcells (by omega) (by omega) (by rw [hby]; simp only [Nat.zero_add] at hbig; omega)
      obtain ⟨w', hw', ho, h2, h3, h4, h5, h6⟩ := fresh
      simp only [Nat.zero_add, Array.empty_append] at hw' ho hr ⊢
      refine ⟨_, _, w', ?_, ho, fun j hj => by rw [At.some] at hj; omega, fun j hj => by rw [At.some] at hj; omega, h2, h3, h4, by omega, fun j hj _ => h6 j hj⟩
      rw [hr, hw']
    · by_cases hroom : n + m ≤ c
      · have hcur : I.length + n + m ≤ (I ++ L ++ J).toArray.size := by simp only [List.size_toArray, List.length_append] at hlen ⊢; omega
        have hr := run_append_roomO (P := P) w t ty E i hu.h hi' b I.length n c (I ++ L ++ J).toArray hbk ⟨qb, qo, none⟩ m c' S (by rw [hSl, hsz]; omega) hcells h1 hroom (by rw [hsz, hSl]; omega)
        refine ⟨_, _, _, hr, .inr ⟨b, I, J.drop S.length, rfl, ?_, ?_, hcm⟩, fun j hj => by rw [setRow_size]; exact hbel j (At.some.2 (At.some.1 hj)), fun j hj => .inl (At.some.2 (At.some.1 hj)), rfl, rfl, rfl, by simp [World.setRow], fun j _ hj2 => setRow_other w b _ j (fun e => hj2 (At.some.2 e))⟩
        · rw [setRow_heap w b _ _ E _ hbk]
          congr 2
          apply Array.ext'
          have e0 : I.length + n * i.size = (I ++ L).length := by rw [hsz, List.length_append, hL]; omega
          have e1 : (I ++ L ++ J).take (I.length + n * i.size) = I ++ L := by rw [e0, List.take_left]
          have e2 : (I ++ L ++ J).drop (I.length + n * i.size + S.length) = J.drop S.length := by rw [e0, List.drop_length_add_append]
          show (I ++ L ++ J).take (I.length + n * i.size) ++ S ++ (I ++ L ++ J).drop (I.length + n * i.size + S.length) = I ++ (L ++ S) ++ J.drop S.length
          rw [e1, e2]
          simp [List.append_assoc]
        · simp only [List.length_append, List.length_drop] at hlen ⊢
          omega
      · have hr := run_append_grow (P := P) w t ty E i z hu.h hi' hz' ⟨b, I.length, none⟩ n c L (by rw [hL, hsz]; omega) (fun j v hj => by
            rw [Addr.add_lit, cell_pt hbk]
            have hlt := (List.getElem?_eq_some_iff.1 hj).1
            rw [List.getElem?_toArray, List.append_assoc, List.getElem?_append_right (by omega), List.getElem?_append_left (by omega), Nat.add_sub_cancel_left]
            exact hj) ⟨qb, qo, none⟩ m c' S (by rw [hSl, hsz]; omega) hcells (by omega) (by omega) (growslice_fits (by omega) (by rw [hby]; exact hbig))
        obtain ⟨w', hw', ho, h2, h3, h4, h5, h6⟩ := fresh
        refine ⟨_, _, w', ?_, ho, fun j hj => by rw [At.some] at hj; omega, fun j hj => by rw [At.some] at hj; omega, h2, h3, h4, by omega, fun j hj _ => h6 j hj⟩
        rw [hr, hw']

/-- The law for the walk: append to such a slice. -/
theorem g_appendO (tag : Nat) {t E : TypeId} {x y : Operand} {by' n c m c' d : Nat} {z : Value} {p q : Option Addr} {L : List Value} (S : List Value) (hg : wantE all e o = some true) (hd : o.dst = some d) (hN : Nat.blt d N = true) [hu : Und P t (.slice E)] [hz : Siz P E 1] [hzz : Zer P E z] [hb : Byt P E by'] (hzc : z.cells.size = 1)
    (ho : o.op = .call ⟨.builtin .append, #[x, y], #[t, t]⟩) (hx : ev e x = some (.slice p n c)) (hy : ev e y = some (.slice q m c'))
    (hM : mget M tag = some (.fact (At p) (OwnO E p c L))) (hL : L.length = n) (hS : ∀ w, Mem w0 D M w → RdV w q S) (hSl : S.length = m) (h1 : ∀ u ∈ S, u.oneCell' = true) (hbig : (n + m) * by' ≤ 140737488355328) (hnm : n + m ≤ 9223372036854775807)
    (h : ∀ p' c'', G P fn R N w0 D ((d, .slice p' (n + m) c'') :: e) ((tag, .fact (At p') (OwnO E p' c'' (L ++ S))) :: M) (.ops all rest :: k)) : G P fn R N w0 D e M (.ops all (o :: rest) :: k) := by
  refine g_val (σ := Option Addr × Nat) (pr := fun _ => True) (val := fun r => .slice r.1 (n + m) r.2) (M' := fun r => (tag, .fact (At r.1) (OwnO E r.1 r.2 (L ++ S))) :: M) hg hd hN ?_ ?_
  · intro a w hs hm
    obtain ⟨p', cc, w', hr, ho', h3, h4, h5, h6, h7, h8, h9⟩ := ownO_append (P := P) (w := w) (t := t) (ty := o.type) (c' := c') hzc (hm.holds _ _ hM) hL (hS w hm) hSl h1 hbig hnm (hm.below _ _ hM)
    refine ⟨(p', cc), w', trivial, ?_, ?_⟩
    · simp only [execOp, ho, resolve, invoke, builtin, Sem.run_bind, Sem.run_pure, Result.andThen_ok, List.map_toArray, List.map_cons, List.map_nil, hs.eval hx, hs.eval hy]
      rw [hr]
      rfl
    · exact hm.swap tag _ _ hM h5 h6 h7 h8 (fun j hj hn => h9 j hj hn) ho' OwnO.loc h3 h4
  · rintro ⟨p', cc⟩ _
    exact h p' cc

theorem Mem.oldC {w : World} (hm : Mem w0 D M w) {b : Nat} {ob : Obj} (h : w0.heap[b]? = some ob) (hD : ¬ D b) : w.heap[b]? = some ob := by rw [hm.keep b (lt_of_some h) hD]; exact h

/-- copy into a block whose type is another one than the elements'. -/
theorem g_copyF (tag : Nat) {t : TypeId} {E F : TypeId} {x y : Operand} {b off n c m c' d : Nat} {L : List Value} {q : Option Addr} (S : List Value) (hg : wantE all e o = some true) (hd : o.dst = some d) (hN : Nat.blt d N = true) [hu : Und P t (.slice E)] [hz : Siz P E 1]
    (ho : o.op = .call ⟨.builtin .copy, #[x, y], #[t, t]⟩) (hx : ev e x = some (.slice (some ⟨b, off, none⟩) n c)) (hy : ev e y = some (.slice q m c'))
    (hM : mget M tag = some (.pt b (.cells L.toArray F (0, 0)))) (hS : ∀ w, Mem w0 D M w → RdV w q S) (hSl : S.length = m) (hl : off + n ≤ L.length) (h1 : ∀ u ∈ S, u.oneCell' = true)
    (h : G P fn R N w0 D ((d, .int .i64 ((Nat.min m n : Nat) : Int)) :: e) ((tag, .pt b (.cells (L.take off ++ S.take (Nat.min m n) ++ L.drop (off + Nat.min m n)).toArray F (0, 0))) :: M) (.ops all rest :: k)) : G P fn R N w0 D e M (.ops all (o :: rest) :: k) := by
  refine g_val (σ := Unit) (pr := fun _ => True) (val := fun _ => .int .i64 ((Nat.min m n : Nat) : Int)) (M' := fun _ => (tag, .pt b (.cells (L.take off ++ S.take (Nat.min m n) ++ L.drop (off + Nat.min m n)).toArray F (0, 0))) :: M) hg hd hN ?_ (fun _ _ => h)
  intro a w hs hm
  have hb := hm.holds _ _ hM
  simp only [Ck.holds] at hb
  have hk : Nat.min m n ≤ m := Nat.min_le_left _ _
  have hk2 : Nat.min m n ≤ n := Nat.min_le_right _ _
  have htk : (S.take (Nat.min m n)).length = Nat.min m n := by rw [List.length_take]; omega
  have hf : (Builtin.firstCells 1 (Nat.min m n) (.slice q m c')).run P w = .ok (S.take (Nat.min m n)).toArray w := by
    rcases hS w hm with h2 | ⟨bq, oq, rfl, hc⟩
    · have hm0 : m = 0 := by rw [← hSl, h2]; rfl
      have : Nat.min m n = 0 := by omega
      rw [this, h2]
      cases q with
      | none => simp [Builtin.firstCells]
      | some ad => simp [Builtin.firstCells, loadCells, loadCellsFrom]
    · refine run_firstCells_some (P := P) w 1 (Nat.min m n) ⟨bq, oq, none⟩ m c' (S.take (Nat.min m n)) (by omega) (fun j v hj => ?_)
      rw [Addr.add_lit]
      refine hc j v ?_
      rw [List.getElem?_take] at hj
      split at hj
      · exact hj
      · cases hj
  have hst := run_storeCells_at P b off F (S.take (Nat.min m n)) 0 L.toArray w hb (by simp; omega) (fun u hu => h1 u (List.mem_of_mem_take hu))
  refine ⟨(), _, trivial, ?_, hm.setRow tag hM⟩
  simp only [execOp, ho, resolve, invoke, builtin, Sem.run_bind, Sem.run_pure, Result.andThen_ok, List.map_toArray, List.map_cons, List.map_nil, hs.eval hx, hs.eval hy, Builtin.copy_, List.getElem?_toArray, List.getElem?_cons_zero, List.getElem?_cons_succ, run_und hu.h, Builtin.lenOf, run_size hz.h, hf]
  rw [hst]
  simp only [Result.andThen_ok, Nat.add_zero, htk, goInt]

/-- Cut at the front. -/
theorem g_cutO (tag l : Nat) {E : TypeId} {p : Option Addr} {c : Nat} {L : List Value} (hM : mget M tag = some (.fact (At p) (OwnO E p c L))) (hl : l ≤ L.length)
    (h : G P fn R N w0 D e ((tag, .fact (At (cutp p c l 1)) (OwnO E (cutp p c l 1) (c - l) (L.drop l))) :: M) k) : G P fn R N w0 D e M k :=
  g_recast tag _ (.fact (At (cutp p c l 1)) (OwnO E (cutp p c l 1) (c - l) (L.drop l))) hM (fun _ hw => OwnO.cut hw hl) OwnO.loc (fun _ hj => At.cut.1 hj) h
theorem g_toO (tag : Nat) {E : TypeId} {p : Option Addr} {c : Nat} {L : List Value} (hM : mget M tag = some (.fact (At p) (Own E 1 p c L)))
    (h : G P fn R N w0 D e ((tag, .fact (At p) (OwnO E p c L)) :: M) k) : G P fn R N w0 D e M k :=
  g_recast tag _ (.fact (At p) (OwnO E p c L)) hM (fun _ hw => OwnO.of hw) OwnO.loc (fun _ hj => hj) h
theorem g_nilO (t : Nat) (E : TypeId) (hf : fresh M [t] = true) (h : G P fn R N w0 D e ((t, .fact (At none) (OwnO E none 0 [])) :: M) k) : G P fn R N w0 D e M k :=
  fun a w hs hm => h a w hs (hm.free t _ hf (.inl ⟨rfl, rfl, rfl⟩) OwnO.loc (fun _ => At.none))

end
end Go.Sx

/-
  Pointers held against nil. No condition: it speaks of any program.
-/
namespace Go.Sx
open Go

section
variable {P : Program} {fn : Func} {R : Ending → World → Prop} {N : Nat} {w0 : World} {D : Blocks} {e : List (Nat × Value)} {M : List (Nat × Ck)} {k : List It} {o : Oper} {all : Array Oper} {rest : List Oper}

theorem pu_eqlS_t {t u : TypeId} {x y : Operand} {a b : ByteArray} (ho : o.op = .binOp .eql t x y u) (hx : ev e x = some (.string a)) (hy : ev e y = some (.string b)) (h : a = b) : Pu P N w0 D e M o (.bool true) := by
  have := pu_eqlS (P := P) (N := N) (w0 := w0) (D := D) (M := M) ho hx hy
  rwa [decide_eq_true h] at this
theorem ByL.lt1 {w : World} {p : Option Addr} {n : Nat} {L : List Value} {ls : List (List (BitVec 8))} (ha : ByL w p n L ls) : 0 < n → ∀ b o, p = some ⟨b, o, none⟩ → b < w.heap.size := fun h0 b o e => by
  have h1 := ha.rd
  rw [e] at h1
  exact h1.lt (fun h => by have h2 := ha.len; rw [h] at h2; simp at h2; omega)
theorem By.lt {w : World} {p : Option Addr} {n : Nat} {l : List (BitVec 8)} (hby : By w p n l) (h0 : 0 < n) {j : Nat} (hj : At p j) : j < w.heap.size := by
  obtain ⟨b, o, e, _⟩ := hby.rd.place (by rw [bs_length, hby.len]; exact h0)
  rw [e] at hj
  obtain rfl := At.some.1 hj
  have h1 := hby.rd
  rw [e] at h1
  refine h1.lt (fun h => ?_)
  have h4 : (bs l).length = 0 := by rw [h]; rfl
  rw [bs_length, hby.len] at h4; omega
theorem ByL.lt2 {w : World} {p : Option Addr} {n : Nat} {L : List Value} {ls : List (List (BitVec 8))} (ha : ByL w p n L ls) : ∀ q m c, Value.slice q m c ∈ L → 0 < m → ∀ j, At q j → j < w.heap.size := fun q m c hv h0 j hj => by
  obtain ⟨i, hi⟩ := List.mem_iff_getElem?.1 hv
  obtain ⟨l, hl⟩ : ∃ l, ls[i]? = some l := ⟨_, List.getElem?_eq_getElem (by have := (List.getElem?_eq_some_iff.1 hi).1; have := ha.els.1; omega)⟩
  obtain ⟨q', m', c', he, hby, _⟩ := ha.els.2 i _ l hi hl
  cases he
  exact hby.lt h0 hj
end
end Go.Sx

/-
  A bag of writable slices of bytes, each in a block of its own, into which marks are written. No condition: it speaks of any program.
-/
namespace Go.Sx
open Go

section
variable {P : Program} {fn : Func} {R : Ending → World → Prop} {N : Nat} {w0 : World} {D : Blocks} {e : List (Nat × Value)} {M : List (Nat × Ck)} {k : List It} {o : Oper} {all : Array Oper} {rest : List Oper}

end
end Go.Sx

/-
  append of a string's bytes, and strings that are fields. No condition: it speaks of any program.
-/
namespace Go.Sx
open Go

section
variable {P : Program} {fn : Func} {R : Ending → World → Prop} {N : Nat} {w0 : World} {D : Blocks} {e : List (Nat × Value)} {M : List (Nat × Ck)} {k : List It} {o : Oper} {all : Array Oper} {rest : List Oper}

end
end Go.Sx

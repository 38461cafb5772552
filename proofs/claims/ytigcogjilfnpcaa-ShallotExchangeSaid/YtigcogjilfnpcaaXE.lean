import Derived.Test.YtigcogjilfnpcaaSxLaw
import Derived.Test.YtigcogjilfnpcaaXC
import Derived.Test.YtigcogjilfnpcaaXB
import Derived.Lib.AppendStr
set_option linter.unusedVariables false
set_option linter.unusedSimpArgs false
/-
  Slices of the run's own that begin within their block: they grow, and are cut at the front. No condition: they speak of any program. Elements have one cell.
-/
namespace Go.Sx
open Go

section
variable {P : Program} {fn : Func} {R : Ending → World → Prop} {N : Nat} {w0 : World} {D : Blocks} {e : List (Nat × Value)} {M : List (Nat × Ck)} {k : List It} {o : Oper} {all : Array Oper} {rest : List Oper}

theorem run_append_roomO (w : World) (t ty e : TypeId) (i : TypeInfo) (ht : P.underlying t = some (.slice e)) (hi : P.info? e = some i)
    (g off sLen sCap : Nat) (cur : Array Value) (hg : w.heap[g]? = some (.cells cur e (0, 0)))
    (a : Addr) (m c : Nat) (news : List Value) (hl : news.length = m * i.size) (hnews : ∀ j u, news[j]? = some u → w.cell? (a.add j) = some u) (h1 : ∀ u ∈ news, u.oneCell' = true)
    (hroom : sLen + m ≤ sCap) (hfit : off + sLen * i.size + news.length ≤ cur.size) :
    (Builtin.append_ #[t, t] ty #[.slice (some ⟨g, off, none⟩) sLen sCap, .slice (some a) m c]).run P w =
      .ok (.slice (some ⟨g, off, none⟩) (sLen + m) sCap) (w.setRow g (cur.toList.take (off + sLen * i.size) ++ news ++ cur.toList.drop (off + sLen * i.size + news.length)).toArray) := by
  have hf := run_firstCells_some (P := P) w i.size m a m c news hl hnews
  have hst := run_storeCells_at P g (off + sLen * i.size) e news 0 cur w hg (by simpa using hfit) h1
  simp only [Nat.add_zero] at hst
  simp [Builtin.append_, run_underlying ht, sizeOf, typeInfo, hi, Builtin.lenOf, hroom, hf, Addr.add_lit, hst]

/-- The slice at p with capacity c is the run's own: the cells L lie at its place; nil, if nothing has been put into it. -/
def OwnO (E : TypeId) (p : Option Addr) (c : Nat) (L : List Value) (w : World) : Prop :=
  (p = none ∧ L = [] ∧ c = 0) ∨ ∃ b I J, p = some ⟨b, I.length, none⟩ ∧ w.heap[b]? = some (.cells (I ++ L ++ J).toArray E (0, 0)) ∧ (L.length ≤ c ∧ c ≤ (L ++ J).length) ∧ c ≤ 9223372036854775807
def Ow.ckO (E : TypeId) (L : List Value) (x : Ow) : Ck := .fact (At x.p) (OwnO E x.p x.c L)
theorem OwnO.loc {E : TypeId} {p : Option Addr} {c : Nat} {L : List Value} : Local (At p) (OwnO E p c L) := by
  intro w w' h ho
  rcases ho with h1 | ⟨b, I, J, rfl, h2, h3, h4⟩
  · exact .inl h1
  · exact .inr ⟨_, I, J, rfl, by rw [h b (At.some.2 rfl)]; exact h2, h3, h4⟩
theorem OwnO.rd {E : TypeId} {p : Option Addr} {c : Nat} {L : List Value} {w : World} (h : OwnO E p c L w) : RdV w p L := by
  rcases h with ⟨_, rfl, _⟩ | ⟨b, I, J, rfl, h2, _⟩
  · exact .inl rfl
  · refine RdV.pt h2 (fun i v hv => ?_)
    have hlt := (List.getElem?_eq_some_iff.1 hv).1
    rw [List.getElem?_toArray, List.append_assoc, List.getElem?_append_right (by omega), List.getElem?_append_left (by omega), Nat.add_sub_cancel_left]
    exact hv
theorem OwnO.le {E : TypeId} {p : Option Addr} {c : Nat} {L : List Value} {w : World} (h : OwnO E p c L w) : L.length ≤ c := by
  rcases h with ⟨_, rfl, rfl⟩ | ⟨b, I, J, rfl, h2, h3, _⟩
  · simp
  · exact h3.1
theorem OwnO.of {E : TypeId} {p : Option Addr} {c : Nat} {L : List Value} {w : World} (h : Own E 1 p c L w) : OwnO E p c L w := by
  rcases h with h1 | ⟨b, J, rfl, h2, h3, h4⟩
  · exact .inl h1
  · exact .inr ⟨b, [], J, rfl, h2, by omega, h4⟩
theorem OwnO.cut {E : TypeId} {p : Option Addr} {c : Nat} {L : List Value} {w : World} (h : OwnO E p c L w) {l : Nat} (hl : l ≤ L.length) : OwnO E (cutp p c l 1) (c - l) (L.drop l) w := by
  rcases h with ⟨rfl, rfl, rfl⟩ | ⟨b, I, J, rfl, h2, h3, h4⟩
  · have : l = 0 := by simpa using hl
    subst this
    exact .inl ⟨rfl, rfl, rfl⟩
  · unfold cutp
    by_cases hc : c = l
    · rw [if_pos hc]
      subst hc
      have hd : L.drop c = [] := List.drop_eq_nil_of_le (by omega)
      rw [hd]
      exact .inr ⟨b, I, L ++ J, rfl, by rw [h2]; simp, by simp, by omega⟩
    · rw [if_neg hc]
      refine .inr ⟨b, I ++ L.take l, J, ?_, ?_, ?_, by omega⟩
      · simp only [Option.map_some, Addr.add_lit, List.length_append, List.length_take]
        congr 2
        omega
      · rw [h2]
        congr 2
        congr 1
        rw [List.append_assoc I (List.take l L), List.take_append_drop]
      · simp only [List.length_append, List.length_drop] at h3 ⊢
        omega
theorem At.cut {p : Option Addr} {c l : Nat} {j : Nat} : At (cutp p c l 1) j ↔ At p j := by
  unfold cutp
  split
  · exact Iff.rfl
  · cases p with
    | none => exact Iff.rfl
    | some a =>
      simp only [At, Option.map_some, Option.some.injEq, exists_eq_left', Addr.add]
      split <;> exact Iff.rfl

theorem ownO_append {w : World} {t ty E : TypeId} {by' n c m c' : Nat} {z : Value} {p q : Option Addr} {L S : List Value} [hu : Und P t (.slice E)] [hz : Siz P E 1] [hzz : Zer P E z] [hb : Byt P E by'] (hzc : z.cells.size = 1)
    (hown : OwnO E p c L w) (hL : L.length = n) (hS : RdV w q S) (hSl : S.length = m) (h1 : ∀ u ∈ S, u.oneCell' = true) (hbig : (n + m) * by' ≤ 140737488355328) (hnm : n + m ≤ 9223372036854775807) (hbel : ∀ j, At p j → j < w.heap.size) :
    ∃ p' cc w', (Builtin.append_ #[t, t] ty #[.slice p n c, .slice q m c']).run P w = .ok (.slice p' (n + m) cc) w' ∧ OwnO E p' cc (L ++ S) w' ∧ (∀ j, At p' j → j < w'.heap.size) ∧ (∀ j, At p' j → At p j ∨ w.heap.size ≤ j) ∧ w'.os = w.os ∧ w'.tape = w.tape ∧ w'.output = w.output ∧ w.heap.size ≤ w'.heap.size ∧ (∀ j, j < w.heap.size → ¬ At p j → w'.heap[j]? = w.heap[j]?) := by
  obtain ⟨i, hi', hsz, hz', hby⟩ := info_of (P := P) (E := E)
  have hnc : n ≤ c := by rw [← hL]; exact hown.le
  by_cases hm : m = 0
  · subst hm
    have hS0 : S = [] := List.eq_nil_of_length_eq_zero hSl
    subst hS0
    exact ⟨p, c, w, run_append_empty (P := P) (E := E) w p q n c c' hnc, by simpa using hown, hbel, fun j hj => .inl hj, rfl, rfl, rfl, Nat.le_refl _, fun _ _ _ => rfl⟩
  · have hSn : 0 < S.length := by omega
    obtain ⟨qb, qo, rfl, _⟩ := hS.place hSn
    have hcells := hS.cells (a := ⟨qb, qo, none⟩) rfl
    have hcapge := grownCap_ge w (n + m) c E
    have hcaple := grownCap_le_maxLen w (n + m) c E (by unfold maxLen; omega)
    have fresh : ∃ w' : World, w' = (w.drew.alloc (.cells (L.toArray ++ S.toArray ++ Builtin.zeroCells z.cells (grownCap w (n + m) c E - (n + m))) E)) ∧
        OwnO E (some ⟨w.heap.size, 0, none⟩) (grownCap w (n + m) c E) (L ++ S) w' ∧ w'.os = w.os ∧ w'.tape = w.tape ∧ w'.output = w.output ∧ w'.heap.size = w.heap.size + 1 ∧ (∀ j, j < w.heap.size → w'.heap[j]? = w.heap[j]?) := by
      refine ⟨_, rfl, .inr ⟨w.heap.size, [], (Builtin.zeroCells z.cells (grownCap w (n + m) c E - (n + m))).toList, rfl, ?_, ?_, ?_⟩, rfl, rfl, rfl, by simp, fun j hj => heap_alloc_old w.drew _ hj⟩
      · show (w.drew.alloc _).heap[w.drew.heap.size]? = _
        rw [heap_alloc_new w.drew]
        congr 2
        apply Array.ext'
        simp
      · have hz2 : (Builtin.zeroCells z.cells (grownCap w (n + m) c E - (n + m))).size = (grownCap w (n + m) c E - (n + m)) * 1 := by rw [size_zeroCells, hzc]
        simp only [List.length_append, hL, hSl, Array.length_toList, hz2]
        omega
      · unfold maxLen at hcaple; omega
    rcases hown with ⟨rfl, rfl, rfl⟩ | ⟨b, I, J, rfl, hbk, hlen, hcm⟩
    · have hn : n = 0 := by omega
      subst hn
      have hr := run_append_nil (P := P) w t ty E i z hu.h hi' hz' ⟨qb, qo, none⟩ m c' S (by rw [hSl, hsz]; omega) hcells (by omega) (by omega) (by rw [hby]; simp only [Nat.zero_add] at hbig; omega)
      obtain ⟨w', hw', ho, h2, h3, h4, h5, h6⟩ := fresh
      simp only [Nat.zero_add, Array.empty_append] at hw' ho hr ⊢
      refine ⟨_, _, w', ?_, ho, fun j hj => by rw [At.some] at hj; omega, fun j hj => by rw [At.some] at hj; omega, h2, h3, h4, by omega, fun j hj _ => h6 j hj⟩
      rw [hr, hw']
    · by_cases hroom : n + m ≤ c
      · have hcur : I.length + n + m ≤ (I ++ L ++ J).toArray.size := by simp only [List.size_toArray, List.length_append] at hlen ⊢; omega
        have hr := run_append_roomO (P := P) w t ty E i hu.h hi' b I.length n c (I ++ L ++ J).toArray hbk ⟨qb, qo, none⟩ m c' S (by rw [hSl, hsz]; omega) hcells h1 hroom (by rw [hsz, hSl]; omega)
        refine ⟨_, _, _, hr, .inr ⟨b, I, J.drop S.length, rfl, ?_, ?_, hcm⟩, fun j hj => by rw [setRow_size]; exact hbel j (At.some.2 (At.some.1 hj)), fun j hj => .inl (At.some.2 (At.some.1 hj)), rfl, rfl, rfl, by simp [World.setRow], fun j _ hj2 => setRow_other w b _ j (fun e => hj2 (At.some.2 e))⟩
        · rw [setRow_heap w b _ _ E _ hbk]
          congr 2
          apply Array.ext'
          have e0 : I.length + n * i.size = (I ++ L).length := by rw [hsz, List.length_append, hL]; omega
          have e1 : (I ++ L ++ J).take (I.length + n * i.size) = I ++ L := by rw [e0, List.take_left]
          have e2 : (I ++ L ++ J).drop (I.length + n * i.size + S.length) = J.drop S.length := by rw [e0, List.drop_length_add_append]
          show (I ++ L ++ J).take (I.length + n * i.size) ++ S ++ (I ++ L ++ J).drop (I.length + n * i.size + S.length) = I ++ (L ++ S) ++ J.drop S.length
          rw [e1, e2]
          simp [List.append_assoc]
        · simp only [List.length_append, List.length_drop] at hlen ⊢
          omega
      · have hr := run_append_grow (P := P) w t ty E i z hu.h hi' hz' ⟨b, I.length, none⟩ n c L (by rw [hL, hsz]; omega) (fun j v hj => by
            rw [Addr.add_lit, cell_pt hbk]
            have hlt := (List.getElem?_eq_some_iff.1 hj).1
            rw [List.getElem?_toArray, List.append_assoc, List.getElem?_append_right (by omega), List.getElem?_append_left (by omega), Nat.add_sub_cancel_left]
            exact hj) ⟨qb, qo, none⟩ m c' S (by rw [hSl, hsz]; omega) hcells (by omega) (by omega) (growslice_fits (by omega) (by rw [hby]; exact hbig))
        obtain ⟨w', hw', ho, h2, h3, h4, h5, h6⟩ := fresh
        refine ⟨_, _, w', ?_, ho, fun j hj => by rw [At.some] at hj; omega, fun j hj => by rw [At.some] at hj; omega, h2, h3, h4, by omega, fun j hj _ => h6 j hj⟩
        rw [hr, hw']

/-- The law for the walk: append to such a slice. -/
theorem g_appendO (tag : Nat) {t E : TypeId} {x y : Operand} {by' n c m c' d : Nat} {z : Value} {p q : Option Addr} {L : List Value} (S : List Value) (hg : wantE all e o = some true) (hd : o.dst = some d) (hN : Nat.blt d N = true) [hu : Und P t (.slice E)] [hz : Siz P E 1] [hzz : Zer P E z] [hb : Byt P E by'] (hzc : z.cells.size = 1)
    (ho : o.op = .call ⟨.builtin .append, #[x, y], #[t, t]⟩) (hx : ev e x = some (.slice p n c)) (hy : ev e y = some (.slice q m c'))
    (hM : mget M tag = some (.fact (At p) (OwnO E p c L))) (hL : L.length = n) (hS : ∀ w, Mem w0 D M w → RdV w q S) (hSl : S.length = m) (h1 : ∀ u ∈ S, u.oneCell' = true) (hbig : (n + m) * by' ≤ 140737488355328) (hnm : n + m ≤ 9223372036854775807)
    (h : ∀ p' c'', G P fn R N w0 D ((d, .slice p' (n + m) c'') :: e) ((tag, .fact (At p') (OwnO E p' c'' (L ++ S))) :: M) (.ops all rest :: k)) : G P fn R N w0 D e M (.ops all (o :: rest) :: k) := by
  refine g_val (σ := Option Addr × Nat) (pr := fun _ => True) (val := fun r => .slice r.1 (n + m) r.2) (M' := fun r => (tag, .fact (At r.1) (OwnO E r.1 r.2 (L ++ S))) :: M) hg hd hN ?_ ?_
  · intro a w hs hm
    obtain ⟨p', cc, w', hr, ho', h3, h4, h5, h6, h7, h8, h9⟩ := ownO_append (P := P) (w := w) (t := t) (ty := o.type) (c' := c') hzc (hm.holds _ _ hM) hL (hS w hm) hSl h1 hbig hnm (hm.below _ _ hM)
    refine ⟨(p', cc), w', trivial, ?_, ?_⟩
    · simp only [execOp, ho, resolve, invoke, builtin, Sem.run_bind, Sem.run_pure, Result.andThen_ok, List.map_toArray, List.map_cons, List.map_nil, hs.eval hx, hs.eval hy]
      rw [hr]
      rfl
    · exact hm.swap tag _ _ hM h5 h6 h7 h8 (fun j hj hn => h9 j hj hn) ho' OwnO.loc h3 h4
  · rintro ⟨p', cc⟩ _
    exact h p' cc

theorem Mem.oldC {w : World} (hm : Mem w0 D M w) {b : Nat} {ob : Obj} (h : w0.heap[b]? = some ob) (hD : ¬ D b) : w.heap[b]? = some ob := by rw [hm.keep b (lt_of_some h) hD]; exact h

/-- copy into a block whose type is another one than the elements'. -/
theorem g_copyF (tag : Nat) {t : TypeId} {E F : TypeId} {x y : Operand} {b off n c m c' d : Nat} {L : List Value} {q : Option Addr} (S : List Value) (hg : wantE all e o = some true) (hd : o.dst = some d) (hN : Nat.blt d N = true) [hu : Und P t (.slice E)] [hz : Siz P E 1]
    (ho : o.op = .call ⟨.builtin .copy, #[x, y], #[t, t]⟩) (hx : ev e x = some (.slice (some ⟨b, off, none⟩) n c)) (hy : ev e y = some (.slice q m c'))
    (hM : mget M tag = some (.pt b (.cells L.toArray F (0, 0)))) (hS : ∀ w, Mem w0 D M w → RdV w q S) (hSl : S.length = m) (hl : off + n ≤ L.length) (h1 : ∀ u ∈ S, u.oneCell' = true)
    (h : G P fn R N w0 D ((d, .int .i64 ((Nat.min m n : Nat) : Int)) :: e) ((tag, .pt b (.cells (L.take off ++ S.take (Nat.min m n) ++ L.drop (off + Nat.min m n)).toArray F (0, 0))) :: M) (.ops all rest :: k)) : G P fn R N w0 D e M (.ops all (o :: rest) :: k) := by
  refine g_val (σ := Unit) (pr := fun _ => True) (val := fun _ => .int .i64 ((Nat.min m n : Nat) : Int)) (M' := fun _ => (tag, .pt b (.cells (L.take off ++ S.take (Nat.min m n) ++ L.drop (off + Nat.min m n)).toArray F (0, 0))) :: M) hg hd hN ?_ (fun _ _ => h)
  intro a w hs hm
  have hb := hm.holds _ _ hM
  simp only [Ck.holds] at hb
  have hk : Nat.min m n ≤ m := Nat.min_le_left _ _
  have hk2 : Nat.min m n ≤ n := Nat.min_le_right _ _
  have htk : (S.take (Nat.min m n)).length = Nat.min m n := by rw [List.length_take]; omega
  have hf : (Builtin.firstCells 1 (Nat.min m n) (.slice q m c')).run P w = .ok (S.take (Nat.min m n)).toArray w := by
    rcases hS w hm with h2 | ⟨bq, oq, rfl, hc⟩
    · have hm0 : m = 0 := by rw [← hSl, h2]; rfl
      have : Nat.min m n = 0 := by omega
      rw [this, h2]
      cases q with
      | none => simp [Builtin.firstCells]
      | some ad => simp [Builtin.firstCells, loadCells, loadCellsFrom]
    · refine run_firstCells_some (P := P) w 1 (Nat.min m n) ⟨bq, oq, none⟩ m c' (S.take (Nat.min m n)) (by omega) (fun j v hj => ?_)
      rw [Addr.add_lit]
      refine hc j v ?_
      rw [List.getElem?_take] at hj
      split at hj
      · exact hj
      · cases hj
  have hst := run_storeCells_at P b off F (S.take (Nat.min m n)) 0 L.toArray w hb (by simp; omega) (fun u hu => h1 u (List.mem_of_mem_take hu))
  refine ⟨(), _, trivial, ?_, hm.setRow tag hM⟩
  simp only [execOp, ho, resolve, invoke, builtin, Sem.run_bind, Sem.run_pure, Result.andThen_ok, List.map_toArray, List.map_cons, List.map_nil, hs.eval hx, hs.eval hy, Builtin.copy_, List.getElem?_toArray, List.getElem?_cons_zero, List.getElem?_cons_succ, run_und hu.h, Builtin.lenOf, run_size hz.h, hf]
  rw [hst]
  simp only [Result.andThen_ok, Nat.add_zero, htk, goInt]

/-- Cut at the front. -/
theorem g_cutO (tag l : Nat) {E : TypeId} {p : Option Addr} {c : Nat} {L : List Value} (hM : mget M tag = some (.fact (At p) (OwnO E p c L))) (hl : l ≤ L.length)
    (h : G P fn R N w0 D e ((tag, .fact (At (cutp p c l 1)) (OwnO E (cutp p c l 1) (c - l) (L.drop l))) :: M) k) : G P fn R N w0 D e M k :=
  g_recast tag _ (.fact (At (cutp p c l 1)) (OwnO E (cutp p c l 1) (c - l) (L.drop l))) hM (fun _ hw => OwnO.cut hw hl) OwnO.loc (fun _ hj => At.cut.1 hj) h
theorem g_toO (tag : Nat) {E : TypeId} {p : Option Addr} {c : Nat} {L : List Value} (hM : mget M tag = some (.fact (At p) (Own E 1 p c L)))
    (h : G P fn R N w0 D e ((tag, .fact (At p) (OwnO E p c L)) :: M) k) : G P fn R N w0 D e M k :=
  g_recast tag _ (.fact (At p) (OwnO E p c L)) hM (fun _ hw => OwnO.of hw) OwnO.loc (fun _ hj => hj) h
theorem g_nilO (t : Nat) (E : TypeId) (hf : fresh M [t] = true) (h : G P fn R N w0 D e ((t, .fact (At none) (OwnO E none 0 [])) :: M) k) : G P fn R N w0 D e M k :=
  fun a w hs hm => h a w hs (hm.free t _ hf (.inl ⟨rfl, rfl, rfl⟩) OwnO.loc (fun _ => At.none))

end
end Go.Sx

/-
  Pointers held against nil. No condition: it speaks of any program.
-/
namespace Go.Sx
open Go

section
variable {P : Program} {fn : Func} {R : Ending → World → Prop} {N : Nat} {w0 : World} {D : Blocks} {e : List (Nat × Value)} {M : List (Nat × Ck)} {k : List It} {o : Oper} {all : Array Oper} {rest : List Oper}

theorem run_eqNilP {t E : TypeId} (w : World) (hu : P.underlying t = some (.pointer E)) (p : Option Addr) : (Op.equal t (.pointer p) (.pointer none)).run P w = .ok p.isNone w := by
  obtain ⟨d, hd⟩ : ∃ d, Op.maxDepth = d + 1 := ⟨_, rfl⟩
  cases p <;> simp [Op.equal, hd, Op.equalIn, run_und hu]
theorem run_guardP {op : BinOp} {t : TypeId} {x y : Operand} {p q : Option Addr} (w : World) : (eqGuard op t x y (.pointer p) (.pointer q)).run P w = .ok () w := by
  unfold eqGuard
  split <;> simp
theorem pu_eqlP {t u E : TypeId} {x y : Operand} {p : Option Addr} [hu : Und P t (.pointer E)] (ho : o.op = .binOp .eql t x y u) (hx : ev e x = some (.pointer p)) (hy : ev e y = some (.pointer none)) : Pu P N w0 D e M o (.bool p.isNone) := fun ac w hs hm => by
  simp [execOp, ho, hs.eval hx, hs.eval hy, run_guardP, binOp, run_eqNilP _ hu.h]
theorem pu_neqP {t u E : TypeId} {x y : Operand} {p : Option Addr} [hu : Und P t (.pointer E)] (ho : o.op = .binOp .neq t x y u) (hx : ev e x = some (.pointer p)) (hy : ev e y = some (.pointer none)) : Pu P N w0 D e M o (.bool (!p.isNone)) := fun ac w hs hm => by
  simp [execOp, ho, hs.eval hx, hs.eval hy, run_guardP, binOp, run_eqNilP _ hu.h]
theorem pu_eqlS_t {t u : TypeId} {x y : Operand} {a b : ByteArray} (ho : o.op = .binOp .eql t x y u) (hx : ev e x = some (.string a)) (hy : ev e y = some (.string b)) (h : a = b) : Pu P N w0 D e M o (.bool true) := by
  have := pu_eqlS (P := P) (N := N) (w0 := w0) (D := D) (M := M) ho hx hy
  rwa [decide_eq_true h] at this
theorem pu_neqS_f {t u : TypeId} {x y : Operand} {a b : ByteArray} (ho : o.op = .binOp .neq t x y u) (hx : ev e x = some (.string a)) (hy : ev e y = some (.string b)) (h : a = b) : Pu P N w0 D e M o (.bool false) := by
  have := pu_neqS (P := P) (N := N) (w0 := w0) (D := D) (M := M) ho hx hy
  rwa [decide_eq_false (fun h' => h' h)] at this

/-- A list's slices lie in its set of blocks. -/
theorem elsS {S : Blocks} {w : World} {L : List Value} {ls : List (List (BitVec 8))} (h : All2 (IsB S w) L ls) {q : Option Addr} {m c : Nat} (hv : Value.slice q m c ∈ L) {j : Nat} (hj : At q j) : S j := by
  obtain ⟨i, hi⟩ := List.mem_iff_getElem?.1 hv
  obtain ⟨l, hl⟩ : ∃ l, ls[i]? = some l := ⟨_, List.getElem?_eq_getElem (by have := (List.getElem?_eq_some_iff.1 hi).1; have := h.1; omega)⟩
  obtain ⟨q', m', c', he, _, hS⟩ := h.2 i _ l hi hl
  cases he
  exact hS j hj
/-- Slices of slices behind a piece that turns blocks of its own. -/
theorem ByL.mD {w : World} {p : Option Addr} {n : Nat} {L : List Value} {ls : List (List (BitVec 8))} (h : ByL w0 p n L ls) (hm : Mem w0 D M w) (hD : 0 < n → ∀ b o, p = some ⟨b, o, none⟩ → ¬ D b) (hE : ∀ q m c, Value.slice q m c ∈ L → 0 < m → ∀ j, At q j → ¬ D j) : ByL w p n L ls := by
  refine ⟨?_, h.len, ⟨h.els.1, fun i x y hx hy => ?_⟩, h.big⟩
  · rcases Nat.eq_zero_or_pos n with h0 | h0
    · have : L = [] := List.eq_nil_of_length_eq_zero (by rw [h.len, h0])
      rw [this]; exact RdV.nil _ _
    · exact h.rd.mem hm (hD h0)
  · obtain ⟨q, m, c, rfl, hb, _⟩ := h.els.2 i x y hx hy
    refine ⟨q, m, c, rfl, ?_, fun _ _ => trivial⟩
    rcases Nat.eq_zero_or_pos m with h0 | h0
    · subst h0
      have : y = [] := List.eq_nil_of_length_eq_zero hb.len
      rw [this]; exact By.nil _ _
    · exact hb.mD hm (fun b o e => hE q m c (List.mem_of_getElem? hx) h0 b (by rw [e]; exact At.some.2 rfl))
theorem ByL.lt1 {w : World} {p : Option Addr} {n : Nat} {L : List Value} {ls : List (List (BitVec 8))} (ha : ByL w p n L ls) : 0 < n → ∀ b o, p = some ⟨b, o, none⟩ → b < w.heap.size := fun h0 b o e => by
  have h1 := ha.rd
  rw [e] at h1
  exact h1.lt (fun h => by have h2 := ha.len; rw [h] at h2; simp at h2; omega)
theorem By.lt {w : World} {p : Option Addr} {n : Nat} {l : List (BitVec 8)} (hby : By w p n l) (h0 : 0 < n) {j : Nat} (hj : At p j) : j < w.heap.size := by
  obtain ⟨b, o, e, _⟩ := hby.rd.place (by rw [bs_length, hby.len]; exact h0)
  rw [e] at hj
  obtain rfl := At.some.1 hj
  have h1 := hby.rd
  rw [e] at h1
  refine h1.lt (fun h => ?_)
  have h4 : (bs l).length = 0 := by rw [h]; rfl
  rw [bs_length, hby.len] at h4; omega
theorem ByL.lt2 {w : World} {p : Option Addr} {n : Nat} {L : List Value} {ls : List (List (BitVec 8))} (ha : ByL w p n L ls) : ∀ q m c, Value.slice q m c ∈ L → 0 < m → ∀ j, At q j → j < w.heap.size := fun q m c hv h0 j hj => by
  obtain ⟨i, hi⟩ := List.mem_iff_getElem?.1 hv
  obtain ⟨l, hl⟩ : ∃ l, ls[i]? = some l := ⟨_, List.getElem?_eq_getElem (by have := (List.getElem?_eq_some_iff.1 hi).1; have := ha.els.1; omega)⟩
  obtain ⟨q', m', c', he, hby, _⟩ := ha.els.2 i _ l hi hl
  cases he
  exact hby.lt h0 hj
end
end Go.Sx

/-
  A bag of writable slices of bytes, each in a block of its own, into which marks are written. No condition: it speaks of any program.
-/
namespace Go.Sx
open Go

/-- What list i holds at place j. -/
def mk (i j : Nat) : BitVec 8 := BitVec.ofInt 8 (17 * (i : Int) + 3 * (j : Int) + 1)
def mks (i m : Nat) : List (BitVec 8) := (List.range m).map (mk i)
def seg (i n k : Nat) : List (BitVec 8) := (List.range k).map fun t => mk i (n + t)
theorem mks_length (i m : Nat) : (mks i m).length = m := by simp [mks]
theorem seg_length (i n k : Nat) : (seg i n k).length = k := by simp [seg]
theorem mks_add (i n k : Nat) : mks i (n + k) = mks i n ++ seg i n k := by
  simp only [mks, seg, List.range_add, List.map_append, List.map_map]
  rfl
theorem mks_get {i m j : Nat} (h : j < m) : (mks i m)[j]? = some (mk i j) := by simp [mks, h]
theorem mks_over (A J : List Value) (i m n k : Nat) (h : n ≤ m) (hk : n + k ≤ m + J.length) :
    (A ++ bs (mks i m) ++ J).take (A.length + n) ++ bs (seg i n k) ++ (A ++ bs (mks i m) ++ J).drop (A.length + n + k) = A ++ bs (mks i (max m (n + k))) ++ J.drop (n + k - m) := by
  have e1 : (A ++ bs (mks i m) ++ J).take (A.length + n) = A ++ bs (mks i n) := by
    have e2 : mks i m = mks i n ++ seg i n (m - n) := by rw [← mks_add, show n + (m - n) = m by omega]
    rw [e2, bs_append, ← List.append_assoc, List.append_assoc (A ++ bs (mks i n))]
    rw [List.take_append_of_le_length (by simp [bs_length, mks_length]), List.take_of_length_le (by simp [bs_length, mks_length])]
  rw [e1, List.append_assoc A, ← bs_append, ← mks_add]
  by_cases hc : n + k ≤ m
  · have e3 : mks i m = mks i (n + k) ++ seg i (n + k) (m - (n + k)) := by rw [← mks_add, show n + k + (m - (n + k)) = m by omega]
    rw [show max m (n + k) = m by omega, show n + k - m = 0 by omega, List.drop_zero]
    rw [show (A ++ bs (mks i m) ++ J).drop (A.length + n + k) = bs (seg i (n + k) (m - (n + k))) ++ J by
      rw [e3, bs_append, ← List.append_assoc, List.append_assoc (A ++ bs (mks i (n + k)))]
      rw [List.drop_append_of_le_length (by simp [bs_length, mks_length]; omega), List.drop_eq_nil_of_le (by simp [bs_length, mks_length]; omega), List.nil_append]]
    rw [e3, bs_append]
    simp [List.append_assoc]
  · rw [show max m (n + k) = n + k by omega]
    congr 1
    rw [List.drop_append, List.drop_eq_nil_of_le (by simp [bs_length, mks_length]; omega), List.nil_append]
    congr 1
    simp [bs_length, mks_length]; omega

structure Itm where
  id : Nat
  m : Nat
  p : Option Addr
  c : Nat
/-- A writable slice whose first m bytes are marks. -/
def Wr (y : Itm) (w : World) : Prop :=
  (y.p = none ∧ y.m = 0 ∧ y.c = 0) ∨ ∃ b A J F, y.p = some ⟨b, A.length, none⟩ ∧ w.heap[b]? = some (.cells (A ++ bs (mks y.id y.m) ++ J).toArray F (0, 0)) ∧ y.m ≤ y.c ∧ y.c ≤ y.m + J.length ∧ y.c ≤ 9223372036854775807
theorem Wr.keep {y : Itm} {w w' : World} (h : Wr y w) (hk : ∀ j, At y.p j → w'.heap[j]? = w.heap[j]?) : Wr y w' := by
  rcases h with h | ⟨b, A, J, F, h1, h2, h3⟩
  · exact .inl h
  · exact .inr ⟨b, A, J, F, h1, by rw [hk b (by rw [h1]; exact At.some.2 rfl)]; exact h2, h3⟩
theorem Wr.rd {y : Itm} {w : World} (h : Wr y w) : RdV w y.p (bs (mks y.id y.m)) := by
  rcases h with ⟨_, h2, _⟩ | ⟨b, A, J, F, h1, h2, _⟩
  · rw [h2]; exact .inl rfl
  · rw [h1]
    refine RdV.pt h2 (fun i v hv => ?_)
    have hlt := (List.getElem?_eq_some_iff.1 hv).1
    rw [List.getElem?_toArray, List.append_assoc, List.getElem?_append_right (by omega), List.getElem?_append_left (by omega), Nat.add_sub_cancel_left]
    exact hv
theorem Wr.ex {y : Itm} {w : World} (h : Wr y w) (hc : 0 < y.c) : ∃ b o, y.p = some ⟨b, o, none⟩ := by
  rcases h with ⟨_, _, h3⟩ | ⟨b, A, J, F, h1, _⟩
  · omega
  · exact ⟨b, _, h1⟩
theorem Wr.le {y : Itm} {w : World} (h : Wr y w) : y.m ≤ y.c := by
  rcases h with ⟨_, h2, h3⟩ | ⟨b, A, J, F, h1, _, h4, _⟩ <;> omega
/-- Of an own slice. -/
theorem Wr.own {E : TypeId} {p : Option Addr} {c i : Nat} {L : List Value} {w : World} (h : Own E 1 p c L w) : Wr ⟨i, 0, p, c⟩ w := by
  rcases h with ⟨h1, _, h3⟩ | ⟨b, J, h1, h2, h3, h4⟩
  · exact .inl ⟨h1, rfl, h3⟩
  · exact .inr ⟨b, [], L ++ J, E, h1, by rw [h2]; simp [mks, bs], Nat.zero_le _, by simp only; omega, h4⟩
theorem Wr.ownO {E : TypeId} {p : Option Addr} {c i : Nat} {L : List Value} {w : World} (h : OwnO E p c L w) : Wr ⟨i, 0, p, c⟩ w := by
  rcases h with ⟨h1, _, h3⟩ | ⟨b, A, J, h1, h2, h3, h4⟩
  · exact .inl ⟨h1, rfl, h3⟩
  · exact .inr ⟨b, A, L ++ J, E, h1, by rw [h2]; simp [mks, bs], Nat.zero_le _, by simp only; omega, h4⟩
/-- Of a row. -/
theorem Wr.row {b c i : Nat} {L : List Value} {F : TypeId} {w : World} (h : w.heap[b]? = some (.cells L.toArray F (0, 0))) (hc : c ≤ L.length) (hm : c ≤ 9223372036854775807) : Wr ⟨i, 0, some ⟨b, 0, none⟩, c⟩ w :=
  .inr ⟨b, [], L, F, rfl, by rw [h]; simp [mks, bs], Nat.zero_le _, by simp only; omega, hm⟩

def BS (ys : List Itm) : Blocks := fun j => ∃ y ∈ ys, At y.p j
def Bag (ys : List Itm) (w : World) : Prop := (∀ y ∈ ys, Wr y w) ∧ ys.Pairwise (fun a b => ∀ j, At a.p j → ¬ At b.p j)
theorem Bag.loc {ys : List Itm} : Local (BS ys) (Bag ys) := fun w w' hk h => ⟨fun y hy => (h.1 y hy).keep (fun j hj => hk j ⟨y, hy, hj⟩), h.2⟩
theorem Bag.nil (w : World) : Bag [] w := ⟨fun y hy => by simp at hy, List.Pairwise.nil⟩
theorem Bag.cons {y : Itm} {ys : List Itm} {w : World} (h : Wr y w) (hb : Bag ys w) (hd : ∀ j, At y.p j → ¬ BS ys j) : Bag (y :: ys) w :=
  ⟨fun z hz => (List.mem_cons.1 hz).elim (fun e => e ▸ h) (hb.1 z), List.pairwise_cons.2 ⟨fun z hz j hj hz2 => hd j hj ⟨z, hz, hz2⟩, hb.2⟩⟩

/-- The later bag holds all slices of the earlier one, with as many marks at least. -/
def Ext (ys zs : List Itm) : Prop := ∀ (r : Nat) y, ys[r]? = some y → ∃ z, zs[r]? = some z ∧ z.id = y.id ∧ z.p = y.p ∧ z.c = y.c ∧ y.m ≤ z.m
theorem Ext.refl (ys : List Itm) : Ext ys ys := fun _ y h => ⟨y, h, rfl, rfl, rfl, Nat.le_refl _⟩
theorem Ext.trans {xs ys zs : List Itm} (h : Ext xs ys) (h' : Ext ys zs) : Ext xs zs := fun r y hy => by
  obtain ⟨z, hz, h1, h2, h3, h4⟩ := h r y hy
  obtain ⟨u, hu, g1, g2, g3, g4⟩ := h' r z hz
  exact ⟨u, hu, g1.trans h1, g2.trans h2, g3.trans h3, Nat.le_trans h4 g4⟩
theorem Ext.set {ys : List Itm} {r : Nat} {y : Itm} {m : Nat} (h : ys[r]? = some y) (hm : y.m ≤ m) : Ext ys (ys.set r ⟨y.id, m, y.p, y.c⟩) := fun q x hx => by
  by_cases hq : r = q
  · subst hq
    rw [h] at hx; cases hx
    exact ⟨_, List.getElem?_set_self (List.getElem?_eq_some_iff.1 h).1, rfl, rfl, rfl, hm⟩
  · exact ⟨x, by rw [List.getElem?_set_ne hq]; exact hx, rfl, rfl, rfl, Nat.le_refl _⟩
theorem Ext.app (ys : List Itm) (z : Itm) : Ext ys (ys ++ [z]) := fun q x hx => ⟨x, by rw [List.getElem?_append_left (List.getElem?_eq_some_iff.1 hx).1]; exact hx, rfl, rfl, rfl, Nat.le_refl _⟩
theorem BS.set {ys : List Itm} {r : Nat} {y : Itm} {m : Nat} (h : ys[r]? = some y) {j : Nat} (hj : BS (ys.set r ⟨y.id, m, y.p, y.c⟩) j) : BS ys j := by
  obtain ⟨z, hz, hz2⟩ := hj
  rcases List.mem_or_eq_of_mem_set hz with h1 | rfl
  · exact ⟨z, h1, hz2⟩
  · exact ⟨y, List.mem_of_getElem? h, hz2⟩

section
variable {P : Program} {fn : Func} {R : Ending → World → Prop} {N : Nat} {w0 : World} {D : Blocks} {e : List (Nat × Value)} {M : List (Nat × Ck)} {k : List It} {o : Oper} {all : Array Oper} {rest : List Oper}

/-- Marks are written into one slice of the bag. -/
theorem Bag.write {ys : List Itm} {w : World} (hb : Bag ys w) {r : Nat} {y : Itm} (hr : ys[r]? = some y) {b : Nat} {A J : List Value} {F : TypeId} (hp : y.p = some ⟨b, A.length, none⟩) (hh : w.heap[b]? = some (.cells (A ++ bs (mks y.id y.m) ++ J).toArray F (0, 0))) {n q : Nat} (hn : n ≤ y.m) (hq : n + q ≤ y.c) (hc : y.c ≤ y.m + J.length) (hx : y.c ≤ 9223372036854775807) :
    Bag (ys.set r ⟨y.id, max y.m (n + q), y.p, y.c⟩) (w.setRow b ((A ++ bs (mks y.id y.m) ++ J).take (A.length + n) ++ bs (seg y.id n q) ++ (A ++ bs (mks y.id y.m) ++ J).drop (A.length + n + q)).toArray) := by
  have hlt := (List.getElem?_eq_some_iff.1 hr).1
  have hle := (hb.1 y (List.mem_of_getElem? hr)).le
  constructor
  · intro z hz
    obtain ⟨s, hs⟩ := List.mem_iff_getElem?.1 hz
    by_cases hrs : r = s
    · subst hrs
      rw [List.getElem?_set_self hlt] at hs
      cases hs
      refine .inr ⟨b, A, J.drop (n + q - y.m), F, hp, ?_, by simp only; omega, by simp only [List.length_drop]; omega, hx⟩
      rw [setRow_heap w b _ _ F _ hh, mks_over A J y.id y.m n q hn (by omega)]
    · rw [List.getElem?_set_ne hrs] at hs
      refine (hb.1 z (List.mem_of_getElem? hs)).keep (fun j hj => setRow_other w b _ j (fun e => ?_))
      subst e
      have hpw := List.pairwise_iff_getElem.1 hb.2
      have hs2 := List.getElem?_eq_some_iff.1 hs
      have hr2 := List.getElem?_eq_some_iff.1 hr
      rcases Nat.lt_or_gt_of_ne hrs with h1 | h1
      · exact hpw r s hlt hs2.1 h1 j (by rw [hr2.2, hp]; exact At.some.2 rfl) (by rw [hs2.2]; exact hj)
      · exact hpw s r hs2.1 hlt h1 j (by rw [hs2.2]; exact hj) (by rw [hr2.2, hp]; exact At.some.2 rfl)
  · have hpw := List.pairwise_iff_getElem.1 hb.2
    refine List.pairwise_iff_getElem.2 (fun i j hi hj hij => ?_)
    rw [List.length_set] at hi hj
    have gp : ∀ i (hi : i < ys.length) (hi' : i < (ys.set r ⟨y.id, max y.m (n + q), y.p, y.c⟩).length), (ys.set r ⟨y.id, max y.m (n + q), y.p, y.c⟩)[i].p = ys[i].p := by
      intro i hi hi'
      rw [List.getElem_set]
      split
      · rename_i h; subst h
        have := (List.getElem?_eq_some_iff.1 hr).2
        rw [this]
      · rfl
    rw [gp i hi, gp j hj]
    exact hpw i j hi hj hij

/-- A mark is stored. -/
theorem g_bagStore (tag : Nat) {t : TypeId} {x y : Operand} {ys : List Itm} {r : Nat} {z : Itm} (q : Nat) (hg : wantE all e o = some true) (hd : o.dst = none) [hz : Siz P t 1] (ho : o.op = .store t x y) (hx : ev e x = some (.pointer (adr z.p q))) (hy : ev e y = some (b8 (mk z.id q)))
    (hM : mget M tag = some (.fact (BS ys) (Bag ys))) (hr : ys[r]? = some z) (hq : q ≤ z.m) (hc : q < z.c)
    (h : G P fn R N w0 D e ((tag, .fact (BS (ys.set r ⟨z.id, max z.m (q + 1), z.p, z.c⟩)) (Bag (ys.set r ⟨z.id, max z.m (q + 1), z.p, z.c⟩))) :: M) (.ops all rest :: k)) : G P fn R N w0 D e M (.ops all (o :: rest) :: k) := by
  refine g_do hg hd (fun a w hs hm => ?_) h
  have hb : Bag ys w := hm.holds _ _ hM
  rcases hb.1 z (List.mem_of_getElem? hr) with ⟨_, _, h3⟩ | ⟨b, A, J, F, hp, hh, h4, h5, h6⟩
  · omega
  · have hst := run_storeCells_at P b (A.length + q) F [b8 (mk z.id q)] 0 (A ++ bs (mks z.id z.m) ++ J).toArray w hh (by simp [bs_length, mks_length]; omega) (by intro u hu; obtain rfl := List.mem_singleton.1 hu; rfl)
    have hw := hb.write hr hp hh (n := q) (q := 1) hq (by omega) h5 h6
    rw [show seg z.id q 1 = [mk z.id q] by simp [seg]] at hw
    refine ⟨w.setRow b ((A ++ bs (mks z.id z.m) ++ J).take (A.length + q) ++ bs [mk z.id q] ++ (A ++ bs (mks z.id z.m) ++ J).drop (A.length + q + 1)).toArray, ?_, hm.swap tag _ (.fact (BS (ys.set r ⟨z.id, max z.m (q + 1), z.p, z.c⟩)) (Bag (ys.set r ⟨z.id, max z.m (q + 1), z.p, z.c⟩))) hM rfl rfl rfl (by rw [setRow_size]; exact Nat.le_refl _) (fun j _ hj => setRow_other w b _ j (fun e => hj ?_)) hw Bag.loc (fun j hj => by rw [setRow_size]; exact hm.below _ _ hM j (BS.set hr hj)) (fun j hj => .inl (BS.set hr hj))⟩
    · rw [hp] at hx
      simp [execOp, ho, hs.eval hx, hs.eval hy, adr, Instr.storeAt, Instr.sureAddr, storeVar, run_size hz.h, b8, Value.cells]
      simp [b8] at hst
      rw [hst]
      simp [bs]
      rfl
    · subst e
      exact ⟨z, List.mem_of_getElem? hr, by rw [hp]; exact At.some.2 rfl⟩

theorem run_append_roomF (w : World) (t ty e F : TypeId) (i : TypeInfo) (ht : P.underlying t = some (.slice e)) (hi : P.info? e = some i)
    (g off sLen sCap : Nat) (cur : Array Value) (hg : w.heap[g]? = some (.cells cur F (0, 0)))
    (a : Addr) (m c : Nat) (news : List Value) (hl : news.length = m * i.size) (hnews : ∀ j u, news[j]? = some u → w.cell? (a.add j) = some u) (h1 : ∀ u ∈ news, u.oneCell' = true)
    (hroom : sLen + m ≤ sCap) (hfit : off + sLen * i.size + news.length ≤ cur.size) :
    (Builtin.append_ #[t, t] ty #[.slice (some ⟨g, off, none⟩) sLen sCap, .slice (some a) m c]).run P w =
      .ok (.slice (some ⟨g, off, none⟩) (sLen + m) sCap) (w.setRow g (cur.toList.take (off + sLen * i.size) ++ news ++ cur.toList.drop (off + sLen * i.size + news.length)).toArray) := by
  have hf := run_firstCells_some (P := P) w i.size m a m c news hl hnews
  have hst := run_storeCells_at P g (off + sLen * i.size) F news 0 cur w hg (by simpa using hfit) h1
  simp only [Nat.add_zero] at hst
  simp [Builtin.append_, run_underlying ht, sizeOf, typeInfo, hi, Builtin.lenOf, hroom, hf, Addr.add_lit, hst]

theorem bag_append {w : World} {t ty E : TypeId} {n m c' : Nat} {q : Option Addr} {ys : List Itm} {r : Nat} {z : Itm} [hu : Und P t (.slice E)] [hz : Siz P E 1] [hzz : Zer P E (b8 0#8)] [hb : Byt P E 1]
    (hbag : Bag ys w) (hr : ys[r]? = some z) (hn : n ≤ z.m) (hS : RdV w q (bs (seg z.id n m))) (hbig : n + m ≤ 140737488355328) (hbel : ∀ j, BS ys j → j < w.heap.size) :
    ∃ (r' : Nat) (z' : Itm) (ys' : List Itm) (w' : World), (Builtin.append_ #[t, t] ty #[.slice z.p n z.c, .slice q m c']).run P w = .ok (.slice z'.p (n + m) z'.c) w' ∧ Bag ys' w' ∧ Ext ys ys' ∧ ys'[r']? = some z' ∧ z'.id = z.id ∧ n + m ≤ z'.m ∧ (∀ j, BS ys' j → j < w'.heap.size) ∧ (∀ j, BS ys' j → BS ys j ∨ w.heap.size ≤ j) ∧ w'.os = w.os ∧ w'.tape = w.tape ∧ w'.output = w.output ∧ w.heap.size ≤ w'.heap.size ∧ (∀ j, j < w.heap.size → ¬ BS ys j → w'.heap[j]? = w.heap[j]?) := by
  obtain ⟨i, hi', hsz, hz', hby⟩ := info_of (P := P) (E := E)
  have hw := hbag.1 z (List.mem_of_getElem? hr)
  have hle := hw.le
  have hSl := seg_length z.id n m
  by_cases hm : m = 0
  · subst hm
    exact ⟨r, z, ys, w, run_append_empty (P := P) (E := E) w z.p q n z.c c' (by omega), hbag, Ext.refl _, hr, rfl, by omega, hbel, fun j hj => .inl hj, rfl, rfl, rfl, Nat.le_refl _, fun _ _ _ => rfl⟩
  · have hSn : 0 < (bs (seg z.id n m)).length := by rw [bs_length, hSl]; omega
    obtain ⟨qb, qo, rfl, _⟩ := hS.place hSn
    have hcells := hS.cells (a := ⟨qb, qo, none⟩) rfl
    have hcapge := grownCap_ge w (n + m) z.c E
    have hcaple := grownCap_le_maxLen w (n + m) z.c E (by unfold maxLen; omega)
    have fresh : ∃ w' : World, w' = (w.drew.alloc (.cells ((bs (mks z.id n)).toArray ++ (bs (seg z.id n m)).toArray ++ Builtin.zeroCells (b8 0#8).cells (grownCap w (n + m) z.c E - (n + m))) E)) ∧
        Bag (ys ++ [⟨z.id, n + m, some ⟨w.heap.size, 0, none⟩, grownCap w (n + m) z.c E⟩]) w' ∧ w'.os = w.os ∧ w'.tape = w.tape ∧ w'.output = w.output ∧ w'.heap.size = w.heap.size + 1 ∧ (∀ j, j < w.heap.size → w'.heap[j]? = w.heap[j]?) := by
      refine ⟨_, rfl, ⟨fun y hy => ?_, ?_⟩, rfl, rfl, rfl, by simp, fun j hj => heap_alloc_old w.drew _ hj⟩
      · rcases List.mem_append.1 hy with h1 | h1
        · exact (hbag.1 y h1).keep (fun j hj => heap_alloc_old w.drew _ (hbel j ⟨y, h1, hj⟩))
        · obtain rfl := List.mem_singleton.1 h1
          refine .inr ⟨w.heap.size, [], (Builtin.zeroCells (b8 0#8).cells (grownCap w (n + m) z.c E - (n + m))).toList, E, rfl, ?_, by simp only; omega, ?_, by unfold maxLen at hcaple; exact hcaple⟩
          · show (w.drew.alloc _).heap[w.drew.heap.size]? = _
            rw [heap_alloc_new w.drew, mks_add, bs_append]
            congr 2
            apply Array.ext'
            simp
          · have hz2 : (Builtin.zeroCells (b8 0#8).cells (grownCap w (n + m) z.c E - (n + m))).size = (grownCap w (n + m) z.c E - (n + m)) * 1 := by rw [size_zeroCells]; rfl
            simp only [Array.length_toList, hz2]
            omega
      · refine List.pairwise_append.2 ⟨hbag.2, List.pairwise_singleton _ _, fun a ha b hb j hj hj2 => ?_⟩
        obtain rfl := List.mem_singleton.1 hb
        have := At.some.1 hj2
        have := hbel j ⟨a, ha, hj⟩
        omega
    have new : ∀ w' : World, w'.heap.size = w.heap.size + 1 → (∀ j, BS (ys ++ [⟨z.id, n + m, some ⟨w.heap.size, 0, none⟩, grownCap w (n + m) z.c E⟩]) j → j < w'.heap.size) ∧ (∀ j, BS (ys ++ [⟨z.id, n + m, some ⟨w.heap.size, 0, none⟩, grownCap w (n + m) z.c E⟩]) j → BS ys j ∨ w.heap.size ≤ j) := by
      intro w' hs
      have key : ∀ j, BS (ys ++ [⟨z.id, n + m, some ⟨w.heap.size, 0, none⟩, grownCap w (n + m) z.c E⟩]) j → BS ys j ∨ j = w.heap.size := by
        rintro j ⟨y, hy, hj⟩
        rcases List.mem_append.1 hy with h1 | h1
        · exact .inl ⟨y, h1, hj⟩
        · obtain rfl := List.mem_singleton.1 h1
          exact .inr (At.some.1 hj)
      exact ⟨fun j hj => (key j hj).elim (fun h => by have := hbel j h; omega) (fun h => by omega), fun j hj => (key j hj).imp id (fun h => by omega)⟩
    have hget : (ys ++ [(⟨z.id, n + m, some ⟨w.heap.size, 0, none⟩, grownCap w (n + m) z.c E⟩ : Itm)])[ys.length]? = some ⟨z.id, n + m, some ⟨w.heap.size, 0, none⟩, grownCap w (n + m) z.c E⟩ := by simp
    have hw2 := hw
    rcases hw2 with ⟨h1, h2, h3⟩ | ⟨b, A, J, F, hp, hh, h4, h5, h6⟩
    · have hn0 : n = 0 := by omega
      subst hn0
      have hr2 := run_append_nil (P := P) w t ty E i (b8 0#8) hu.h hi' hz' ⟨qb, qo, none⟩ m c' (bs (seg z.id 0 m)) (by rw [bs_length, hSl, hsz]; omega) hcells (by omega) (by omega) (by rw [hby]; omega)
      obtain ⟨w', hw', ho, g2, g3, g4, g5, g6⟩ := fresh
      obtain ⟨n1, n2⟩ := new w' g5
      refine ⟨_, _, _, w', ?_, ho, Ext.app _ _, hget, rfl, Nat.le_refl _, n1, n2, g2, g3, g4, by omega, fun j hj _ => g6 j hj⟩
      rw [h1, h3, hr2, hw']
      simp [mks, bs, h3]
    · by_cases hroom : n + m ≤ z.c
      · have hr2 := run_append_roomF (P := P) w t ty E F i hu.h hi' b A.length n z.c (A ++ bs (mks z.id z.m) ++ J).toArray hh ⟨qb, qo, none⟩ m c' (bs (seg z.id n m)) (by rw [bs_length, hSl, hsz]; omega) hcells (oneCell_bs _) hroom (by rw [hsz, bs_length, hSl]; simp [bs_length, mks_length]; omega)
        have hbw := hbag.write hr hp hh (n := n) (q := m) hn hroom h5 h6
        refine ⟨r, ⟨z.id, max z.m (n + m), z.p, z.c⟩, _, _, ?_, hbw, Ext.set hr (by omega), List.getElem?_set_self (List.getElem?_eq_some_iff.1 hr).1, rfl, by simp only; omega, fun j hj => by rw [setRow_size]; exact hbel j (BS.set hr hj), fun j hj => .inl (BS.set hr hj), rfl, rfl, rfl, by simp [World.setRow], fun j _ hj2 => setRow_other w b _ j (fun e => hj2 (by subst e; exact ⟨z, List.mem_of_getElem? hr, by rw [hp]; exact At.some.2 rfl⟩))⟩
        rw [hp, hr2]
        simp only [hsz, Nat.mul_one, bs_length, hSl]
      · have hrd := hw.rd
        rw [hp] at hrd
        have hr2 := run_append_grow (P := P) w t ty E i (b8 0#8) hu.h hi' hz' ⟨b, A.length, none⟩ n z.c (bs (mks z.id n)) (by rw [bs_length, mks_length, hsz]; omega) (fun j v hj => by
            have e2 : mks z.id z.m = mks z.id n ++ seg z.id n (z.m - n) := by rw [← mks_add, show n + (z.m - n) = z.m by omega]
            refine hrd.cells (a := ⟨b, A.length, none⟩) rfl j v ?_
            rw [e2, bs_append, List.getElem?_append_left (List.getElem?_eq_some_iff.1 hj).1]
            exact hj) ⟨qb, qo, none⟩ m c' (bs (seg z.id n m)) (by rw [bs_length, hSl, hsz]; omega) hcells (by omega) (by omega) (growslice_fits (by omega) (by rw [hby]; omega))
        obtain ⟨w', hw', ho, g2, g3, g4, g5, g6⟩ := fresh
        obtain ⟨n1, n2⟩ := new w' g5
        refine ⟨_, _, _, w', ?_, ho, Ext.app _ _, hget, rfl, Nat.le_refl _, n1, n2, g2, g3, g4, by omega, fun j hj _ => g6 j hj⟩
        rw [hp, hr2, hw']

/-- Marks are appended to a slice of the bag, behind its first n. -/
theorem g_bagApp (tag : Nat) {t E : TypeId} {x y : Operand} {n m c' d : Nat} {q : Option Addr} {ys : List Itm} {r : Nat} {z : Itm} (hg : wantE all e o = some true) (hd : o.dst = some d) (hN : Nat.blt d N = true) [hu : Und P t (.slice E)] [hz : Siz P E 1] [hzz : Zer P E (b8 0#8)] [hb : Byt P E 1]
    (ho : o.op = .call ⟨.builtin .append, #[x, y], #[t, t]⟩) (hx : ev e x = some (.slice z.p n z.c)) (hy : ev e y = some (.slice q m c'))
    (hM : mget M tag = some (.fact (BS ys) (Bag ys))) (hr : ys[r]? = some z) (hn : n ≤ z.m) (hS : ∀ w, Mem w0 D M w → RdV w q (bs (seg z.id n m))) (hbig : n + m ≤ 140737488355328)
    (h : ∀ (r' : Nat) (z' : Itm) (ys' : List Itm), Ext ys ys' → ys'[r']? = some z' → z'.id = z.id → n + m ≤ z'.m → G P fn R N w0 D ((d, .slice z'.p (n + m) z'.c) :: e) ((tag, .fact (BS ys') (Bag ys')) :: M) (.ops all rest :: k)) : G P fn R N w0 D e M (.ops all (o :: rest) :: k) := by
  refine g_val (σ := Nat × Itm × List Itm) (pr := fun s => Ext ys s.2.2 ∧ s.2.2[s.1]? = some s.2.1 ∧ s.2.1.id = z.id ∧ n + m ≤ s.2.1.m) (val := fun s => .slice s.2.1.p (n + m) s.2.1.c) (M' := fun s => (tag, .fact (BS s.2.2) (Bag s.2.2)) :: M) hg hd hN ?_ ?_
  · intro a w hs hm
    obtain ⟨r', z', ys', w', hr', hbag', hext, hget, hid, hmm, h3, h4, h5, h6, h7, h8, h9⟩ := bag_append (P := P) (w := w) (t := t) (ty := o.type) (c' := c') (hm.holds _ _ hM) hr hn (hS w hm) hbig (hm.below _ _ hM)
    refine ⟨(r', z', ys'), w', ⟨hext, hget, hid, hmm⟩, ?_, ?_⟩
    · simp only [execOp, ho, resolve, invoke, builtin, Sem.run_bind, Sem.run_pure, Result.andThen_ok, List.map_toArray, List.map_cons, List.map_nil, hs.eval hx, hs.eval hy]
      rw [hr']
      rfl
    · exact hm.swap tag _ _ hM h5 h6 h7 h8 (fun j hj hn => h9 j hj hn) hbag' Bag.loc h3 h4
  · rintro ⟨r', z', ys'⟩ ⟨h1, h2, h3, h4⟩
    exact h r' z' ys' h1 h2 h3 h4

/-- The place of an element, of a slice that isn't nil. -/
theorem pu_atP {t E : TypeId} {x ix : Operand} {p : Option Addr} {n c : Nat} {kd : IntKind} {i : Int} (j : Nat) (hp : ∃ b o, p = some ⟨b, o, none⟩) [hu : Und P t (.slice E)] [hz : Siz P E 1] (ho : o.op = .indexAddr t x ix) (hx : ev e x = some (.slice p n c)) (hi : ev e ix = some (.int kd i)) (hj : i = (j : Int)) (hlt : j < n) : Pu P N w0 D e M o (.pointer (adr p j)) := by
  obtain ⟨b, of, rfl⟩ := hp
  exact pu_at1 j ho hx hi hj hlt
end
end Go.Sx

/-
  append of a string's bytes, and strings that are fields. No condition: it speaks of any program.
-/
namespace Go.Sx
open Go

section
variable {P : Program} {fn : Func} {R : Ending → World → Prop} {N : Nat} {w0 : World} {D : Blocks} {e : List (Nat × Value)} {M : List (Nat × Ck)} {k : List It} {o : Oper} {all : Array Oper} {rest : List Oper}

theorem strCells_bs (s : ByteArray) : Lib.strCells s = bs (bytesOf s) := by
  simp only [Lib.strCells, bs, bytesOf, List.map_map]
  rfl

theorem ownS_append {w : World} {t ts ty E : TypeId} {n c : Nat} {p : Option Addr} {L : List Value} (s : ByteArray) [hu : Und P t (.slice E)] [hus : Und P ts .string] [hz : Siz P E 1] [hzz : Zer P E (b8 0#8)] [hb : Byt P E 1]
    (hown : Own E 1 p c L w) (hL : L.length = n) (hbig : n + s.size ≤ 140737488355328) (hbel : ∀ j, At p j → j < w.heap.size) :
    ∃ p' cc w', (Builtin.append_ #[t, ts] ty #[.slice p n c, .string s]).run P w = .ok (.slice p' (n + s.size) cc) w' ∧ Own E 1 p' cc (L ++ bs (bytesOf s)) w' ∧ (∀ j, At p' j → j < w'.heap.size) ∧ (∀ j, At p' j → At p j ∨ w.heap.size ≤ j) ∧ w'.os = w.os ∧ w'.tape = w.tape ∧ w'.output = w.output ∧ w.heap.size ≤ w'.heap.size ∧ (∀ j, j < w.heap.size → ¬ At p j → w'.heap[j]? = w.heap[j]?) := by
  obtain ⟨i, hi', hsz, hz', hby⟩ := info_of (P := P) (E := E)
  have hbl := bytesOf_length s
  have hcapge := grownCap_ge w (n + s.size) c E
  have hcaple := grownCap_le_maxLen w (n + s.size) c E (by unfold maxLen; omega)
  have fresh : ∃ w' : World, w' = (w.drew.alloc (.cells (L.toArray ++ (Lib.strCells s).toArray ++ Builtin.zeroCells (b8 0#8).cells (grownCap w (n + s.size) c E - (n + s.size))) E)) ∧
      Own E 1 (some ⟨w.heap.size, 0, none⟩) (grownCap w (n + s.size) c E) (L ++ bs (bytesOf s)) w' ∧ w'.os = w.os ∧ w'.tape = w.tape ∧ w'.output = w.output ∧ w'.heap.size = w.heap.size + 1 ∧ (∀ j, j < w.heap.size → w'.heap[j]? = w.heap[j]?) := by
    refine ⟨_, rfl, .inr ⟨w.heap.size, (Builtin.zeroCells (b8 0#8).cells (grownCap w (n + s.size) c E - (n + s.size))).toList, rfl, ?_, ?_, ?_⟩, rfl, rfl, rfl, by simp, fun j hj => heap_alloc_old w.drew _ hj⟩
    · show (w.drew.alloc _).heap[w.drew.heap.size]? = _
      rw [heap_alloc_new w.drew, strCells_bs]
      congr 2
      apply Array.ext'
      simp
    · have hz2 : (Builtin.zeroCells (b8 0#8).cells (grownCap w (n + s.size) c E - (n + s.size))).size = (grownCap w (n + s.size) c E - (n + s.size)) * 1 := by rw [size_zeroCells]; rfl
      simp only [List.length_append, hL, bs_length, hbl, Array.length_toList, hz2]
      omega
    · unfold maxLen at hcaple; omega
  rcases hown with ⟨rfl, rfl, rfl⟩ | ⟨b, J, rfl, hbk, hlen, hcm⟩
  · have hn : n = 0 := by simpa using hL.symm
    subst hn
    by_cases h0 : s.size = 0
    · have hs0 : bs (bytesOf s) = [] := List.eq_nil_of_length_eq_zero (by rw [bs_length, hbl, h0])
      refine ⟨none, 0, w, ?_, by rw [hs0]; exact .inl ⟨rfl, rfl, rfl⟩, fun j hj => absurd hj At.none, fun j hj => .inl hj, rfl, rfl, rfl, Nat.le_refl _, fun _ _ _ => rfl⟩
      have hf := Lib.run_firstCells_string (P := P) w 1 s
      have hc0 : Lib.strCells s = [] := by rw [strCells_bs, hs0]
      rw [hc0] at hf
      simp [Builtin.append_, run_und hu.h, run_und hus.h, run_size hz.h, Builtin.lenOf, h0, hf, storeCells]
      rw [h0] at hf
      simp [hf]
    · have hr := run_append_nil_string (P := P) w t ts ty E i (b8 0#8) hu.h hus.h hi' hz' s (by omega) (by omega) (by rw [hby]; omega)
      obtain ⟨w', hw', ho, h2, h3, h4, h5, h6⟩ := fresh
      simp only [Nat.zero_add, Array.empty_append] at hw' ho hr ⊢
      refine ⟨_, _, w', ?_, ho, fun j hj => by rw [At.some] at hj; omega, fun j hj => by rw [At.some] at hj; omega, h2, h3, h4, by omega, fun j hj _ => h6 j hj⟩
      have hmap : Array.map (fun b : UInt8 => Value.int IntKind.u8 (b.toNat : Int)) s.data = (Lib.strCells s).toArray := by
        apply Array.ext'
        simp [Lib.strCells]
      rw [hr, hw', hmap]
  · by_cases hroom : n + s.size ≤ c
    · have hr := Lib.run_append_room_string (P := P) w t ts ty E i hu.h hus.h hi' hsz b n c (L ++ J).toArray hbk s hroom (by simp only [List.size_toArray, List.length_append] at hlen ⊢; omega)
      refine ⟨_, _, _, hr, .inr ⟨b, J.drop s.size, rfl, ?_, ?_, hcm⟩, fun j hj => by rw [setRow_size]; exact hbel j hj, fun j hj => .inl hj, rfl, rfl, rfl, by simp [World.setRow], fun j _ hj2 => setRow_other w b _ j (fun e => hj2 (At.some.2 e))⟩
      · rw [setRow_heap w b _ _ E _ hbk, strCells_bs]
        congr 2
        apply Array.ext'
        have e1 : (L ++ J).take n = L := by rw [← hL, List.take_left]
        have e2 : (L ++ J).drop (n + s.size) = J.drop s.size := by rw [← hL, List.drop_length_add_append]
        simp [e1, e2, List.append_assoc]
      · simp only [List.length_append, List.length_drop, bs_length, hbl] at hlen ⊢
        omega
    · have hr := Lib.run_append_grow_string (P := P) w t ts ty E i (b8 0#8) hu.h hus.h hi' hz' ⟨b, 0, none⟩ n c L (by rw [hL, hsz]; omega) (fun j v hj => by
          rw [Addr.add_lit, cell_pt hbk]
          have hlt := (List.getElem?_eq_some_iff.1 hj).1
          simp [List.getElem?_append_left hlt, hj]) s (by omega) (by omega) (growslice_fits (by omega) (by rw [hby]; omega))
      obtain ⟨w', hw', ho, h2, h3, h4, h5, h6⟩ := fresh
      refine ⟨_, _, w', ?_, ho, fun j hj => by rw [At.some] at hj; omega, fun j hj => by rw [At.some] at hj; omega, h2, h3, h4, by omega, fun j hj _ => h6 j hj⟩
      rw [hr, hw']

/-- The law for the walk: append a string to an own slice of bytes. -/
theorem g_appendS (tag : Nat) {t ts E : TypeId} {x y : Operand} {n c d : Nat} {p : Option Addr} {L : List Value} (s : ByteArray) (hg : wantE all e o = some true) (hd : o.dst = some d) (hN : Nat.blt d N = true) [hu : Und P t (.slice E)] [hus : Und P ts .string] [hz : Siz P E 1] [hzz : Zer P E (b8 0#8)] [hb : Byt P E 1]
    (ho : o.op = .call ⟨.builtin .append, #[x, y], #[t, ts]⟩) (hx : ev e x = some (.slice p n c)) (hy : ev e y = some (.string s))
    (hM : mget M tag = some (.fact (At p) (Own E 1 p c L))) (hL : L.length = n) (hbig : n + s.size ≤ 140737488355328)
    (h : ∀ p' c'', G P fn R N w0 D ((d, .slice p' (n + s.size) c'') :: e) ((tag, .fact (At p') (Own E 1 p' c'' (L ++ bs (bytesOf s)))) :: M) (.ops all rest :: k)) : G P fn R N w0 D e M (.ops all (o :: rest) :: k) := by
  refine g_val (σ := Option Addr × Nat) (pr := fun _ => True) (val := fun r => .slice r.1 (n + s.size) r.2) (M' := fun r => (tag, .fact (At r.1) (Own E 1 r.1 r.2 (L ++ bs (bytesOf s)))) :: M) hg hd hN ?_ ?_
  · intro a w hs hm
    obtain ⟨p', cc, w', hr, ho', h3, h4, h5, h6, h7, h8, h9⟩ := ownS_append (P := P) (w := w) (t := t) (ts := ts) (ty := o.type) s (hm.holds _ _ hM) hL hbig (hm.below _ _ hM)
    refine ⟨(p', cc), w', trivial, ?_, ?_⟩
    · simp only [execOp, ho, resolve, invoke, builtin, Sem.run_bind, Sem.run_pure, Result.andThen_ok, List.map_toArray, List.map_cons, List.map_nil, hs.eval hx, hs.eval hy]
      rw [hr]
      rfl
    · exact hm.swap tag _ _ hM h5 h6 h7 h8 (fun j hj hn => h9 j hj hn) ho' Own.loc h3 h4
  · rintro ⟨p', cc⟩ _
    exact h p' cc
end
end Go.Sx

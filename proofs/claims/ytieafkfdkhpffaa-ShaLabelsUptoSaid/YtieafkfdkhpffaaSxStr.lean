/-
  append of a string's bytes, and strings that are fields. No condition: it speaks of any program.
-/
import Derived.Test.YtieafkfdkhpffaaSxOff
import Derived.Lib.AppendStr
set_option linter.unusedVariables false
set_option linter.unusedSimpArgs false
namespace Go.Sx
open Go

section
variable {P : Program} {fn : Func} {R : Ending → World → Prop} {N : Nat} {w0 : World} {D : Blocks} {e : List (Nat × Value)} {M : List (Nat × Ck)} {k : List It} {o : Oper} {all : Array Oper} {rest : List Oper}

theorem strCells_bs (s : ByteArray) : Lib.strCells s = bs (bytesOf s) := by
  simp only [Lib.strCells, bs, bytesOf, List.map_map]
  rfl

theorem ownS_append {w : World} {t ts ty E : TypeId} {n c : Nat} {p : Option Addr} {L : List Value} (s : ByteArray) [hu : Und P t (.slice E)] [hus : Und P ts .string] [hz : Siz P E 1] [hzz : Zer P E (b8 0#8)] [hb : Byt P E 1]
    (hown : Own E 1 p c L w) (hL : L.length = n) (hbig : n + s.size ≤ 140737488355328) (hbel : ∀ j, At p j → j < w.heap.size) :
    ∃ p' cc w', (Builtin.append_ #[t, ts] ty #[.slice p n c, .string s]).run P w = .ok (.slice p' (n + s.size) cc) w' ∧ Own E 1 p' cc (L ++ bs (bytesOf s)) w' ∧ (∀ j, At p' j → j < w'.heap.size) ∧ (∀ j, At p' j → At p j ∨ w.heap.size ≤ j) ∧ w'.os = w.os ∧ w'.tape = w.tape ∧ w'.output = w.output ∧ w.heap.size ≤ w'.heap.size ∧ (∀ j, j < w.heap.size → ¬ At p j → w'.heap[j]? = w.heap[j]?) := by
  obtain ⟨i, hi', hsz, hz', hby⟩ := info_of (P := P) (E := E)
  have hbl := bytesOf_length s
  have hcapge := grownCap_ge w (n + s.size) c E
  have hcaple := grownCap_le_maxLen w (n + s.size) c E (by unfold maxLen; omega)
  have fresh : ∃ w' : World, w' = (w.drew.alloc (.cells (L.toArray ++ (Lib.strCells s).toArray ++ Builtin.zeroCells (b8 0#8).cells (grownCap w (n + s.size) c E - (n + s.size))) E)) ∧
      Own E 1 (some ⟨w.heap.size, 0, none⟩) (grownCap w (n + s.size) c E) (L ++ bs (bytesOf s)) w' ∧ w'.os = w.os ∧ w'.tape = w.tape ∧ w'.output = w.output ∧ w'.heap.size = w.heap.size + 1 ∧ (∀ j, j < w.heap.size → w'.heap[j]? = w.heap[j]?) := by
    refine ⟨_, rfl, .inr ⟨w.heap.size, (Builtin.zeroCells (b8 0#8).cells (grownCap w (n + s.size) c E - (n + s.size))).toList, rfl, ?_, ?_, ?_⟩, rfl, rfl, rfl, by simp, fun j hj => heap_alloc_old w.drew _ hj⟩
    · show (w.drew.alloc _).heap[w.drew.heap.size]? = _
      rw [heap_alloc_new w.drew, strCells_bs]
      congr 2
      apply Array.ext'
      simp
    · have hz2 : (Builtin.zeroCells (b8 0#8).cells (grownCap w (n + s.size) c E - (n + s.size))).size = (grownCap w (n + s.size) c E - (n + s.size)) * 1 := by rw [size_zeroCells]; rfl
      simp only [List.length_append, hL, bs_length, hbl, Array.length_toList, hz2]
      omega
    · unfold maxLen at hcaple; omega
  rcases hown with ⟨rfl, rfl, rfl⟩ | ⟨b, J, rfl, hbk, hlen, hcm⟩
  · have hn : n = 0 := by simpa using hL.symm
    subst hn
    by_cases h0 : s.size = 0
    · have hs0 : bs (bytesOf s) = [] := List.eq_nil_of_length_eq_zero (by rw [bs_length, hbl, h0])
      refine ⟨none, 0, w, ?_, by rw [hs0]; exact .inl ⟨rfl, rfl, rfl⟩, fun j hj => absurd hj At.none, fun j hj => .inl hj, rfl, rfl, rfl, Nat.le_refl _, fun _ _ _ => rfl⟩
      have hf := Lib.run_firstCells_string (P := P) w 1 s
      have hc0 : Lib.strCells s = [] := by rw [strCells_bs, hs0]
      rw [hc0] at hf
      simp [Builtin.append_, run_und hu.h, run_und hus.h, run_size hz.h, Builtin.lenOf, h0, hf, storeCells]
      rw [h0] at hf
      simp [hf]
    · have hr := run_append_nil_string (P := P) w t ts ty E i (b8 0#8) hu.h hus.h hi' hz' s (by omega) (by omega) (by rw [hby]; omega)
      obtain ⟨w', hw', ho, h2, h3, h4, h5, h6⟩ := fresh
      simp only [Nat.zero_add, Array.empty_append] at hw' ho hr ⊢
      refine ⟨_, _, w', ?_, ho, fun j hj => by rw [At.some] at hj; omega, fun j hj => by rw [At.some] at hj; omega, h2, h3, h4, by omega, fun j hj _ => h6 j hj⟩
      have hmap : Array.map (fun b : UInt8 => Value.int IntKind.u8 (b.toNat : Int)) s.data = (Lib.strCells s).toArray := by
        apply Array.ext'
        simp [Lib.strCells]
      rw [hr, hw', hmap]
  · by_cases hroom : n + s.size ≤ c
    · have hr := Lib.run_append_room_string (P := P) w t ts ty E i hu.h hus.h hi' hsz b n c (L ++ J).toArray hbk s hroom (by simp only [List.size_toArray, List.length_append] at hlen ⊢; omega)
      refine ⟨_, _, _, hr, .inr ⟨b, J.drop s.size, rfl, ?_, ?_, hcm⟩, fun j hj => by rw [setRow_size]; exact hbel j hj, fun j hj => .inl hj, rfl, rfl, rfl, by simp [World.setRow], fun j _ hj2 => setRow_other w b _ j (fun e => hj2 (At.some.2 e))⟩
      · rw [setRow_heap w b _ _ E _ hbk, strCells_bs]
        congr 2
        apply Array.ext'
        have e1 : (L ++ J).take n = L := by rw [← hL, List.take_left]
        have e2 : (L ++ J).drop (n + s.size) = J.drop s.size := by rw [← hL, List.drop_length_add_append]
        simp [e1, e2, List.append_assoc]
      · simp only [List.length_append, List.length_drop, bs_length, hbl] at hlen ⊢
        omega
    · have hr := Lib.run_append_grow_string (P := P) w t ts ty E i (b8 0#8) hu.h hus.h hi' hz' ⟨b, 0, none⟩ n c L (by rw [hL, hsz]; omega) (fun j v hj => by
          rw [Addr.add_lit, cell_pt hbk]
          have hlt := (List.getElem?_eq_some_iff.1 hj).1
          simp [List.getElem?_append_left hlt, hj]) s (by omega) (by omega) (growslice_fits (by omega) (by rw [hby]; omega))
      obtain ⟨w', hw', ho, h2, h3, h4, h5, h6⟩ := fresh
      refine ⟨_, _, w', ?_, ho, fun j hj => by rw [At.some] at hj; omega, fun j hj => by rw [At.some] at hj; omega, h2, h3, h4, by omega, fun j hj _ => h6 j hj⟩
      rw [hr, hw']

/-- The law for the walk: append a string to an own slice of bytes. -/
theorem g_appendS (tag : Nat) {t ts E : TypeId} {x y : Operand} {n c d : Nat} {p : Option Addr} {L : List Value} (s : ByteArray) (hg : wantE all e o = some true) (hd : o.dst = some d) (hN : Nat.blt d N = true) [hu : Und P t (.slice E)] [hus : Und P ts .string] [hz : Siz P E 1] [hzz : Zer P E (b8 0#8)] [hb : Byt P E 1]
    (ho : o.op = .call ⟨.builtin .append, #[x, y], #[t, ts]⟩) (hx : ev e x = some (.slice p n c)) (hy : ev e y = some (.string s))
    (hM : mget M tag = some (.fact (At p) (Own E 1 p c L))) (hL : L.length = n) (hbig : n + s.size ≤ 140737488355328)
    (h : ∀ p' c'', G P fn R N w0 D ((d, .slice p' (n + s.size) c'') :: e) ((tag, .fact (At p') (Own E 1 p' c'' (L ++ bs (bytesOf s)))) :: M) (.ops all rest :: k)) : G P fn R N w0 D e M (.ops all (o :: rest) :: k) := by
  refine g_val (σ := Option Addr × Nat) (pr := fun _ => True) (val := fun r => .slice r.1 (n + s.size) r.2) (M' := fun r => (tag, .fact (At r.1) (Own E 1 r.1 r.2 (L ++ bs (bytesOf s)))) :: M) hg hd hN ?_ ?_
  · intro a w hs hm
    obtain ⟨p', cc, w', hr, ho', h3, h4, h5, h6, h7, h8, h9⟩ := ownS_append (P := P) (w := w) (t := t) (ts := ts) (ty := o.type) s (hm.holds _ _ hM) hL hbig (hm.below _ _ hM)
    refine ⟨(p', cc), w', trivial, ?_, ?_⟩
    · simp only [execOp, ho, resolve, invoke, builtin, Sem.run_bind, Sem.run_pure, Result.andThen_ok, List.map_toArray, List.map_cons, List.map_nil, hs.eval hx, hs.eval hy]
      rw [hr]
      rfl
    · exact hm.swap tag _ _ hM h5 h6 h7 h8 (fun j hj hn => h9 j hj hn) ho' Own.loc h3 h4
  · rintro ⟨p', cc⟩ _
    exact h p' cc
end
end Go.Sx

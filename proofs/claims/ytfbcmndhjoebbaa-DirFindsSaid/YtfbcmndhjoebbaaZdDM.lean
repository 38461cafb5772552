import Derived.Test.YtfbcmndhjoebbaaZdXE
import Derived.MapKept
set_option linter.unusedVariables false
set_option linter.unusedSimpArgs false
/-
  Maps that count: their entries, and the operations on them. A map has at most 2^63 entries.
-/
namespace Go.Sx
open Go Go.Proofs

section
variable {K : Type} [DecidableEq K]
/-- The entries, each with the tick at which it came. -/
def entL (κ : K → Value) : Nat → List (K × Int) → List MapEntry
  | _, [] => []
  | i, p :: r => ⟨κ p.1, .int .i64 p.2, i⟩ :: entL κ (i + 1) r
def entM (κ : K → Value) (ps : List (K × Int)) : Obj := .map (entL κ 0 ps).toArray ps.length
def lookP (a : K) : List (K × Int) → Option Int
  | [] => none
  | p :: r => if a = p.1 then some p.2 else lookP a r
def putP (a : K) (z : Int) : List (K × Int) → List (K × Int)
  | [] => [(a, z)]
  | p :: r => if a = p.1 then (a, z) :: r else p :: putP a z r
def getP (a : K) (ps : List (K × Int)) : Int := (lookP a ps).getD 0
structure KeyW (κ : K → Value) (d : TypeDesc) : Prop where
  same : ∀ a b, Instr.sameNow d (κ a) (κ b) = some (decide (a = b))
  is : ∀ a, MapKept.IsKey d (κ a)
variable {κ : K → Value} {d : TypeDesc}
theorem findP_none (h : KeyW κ d) (a : K) : ∀ (ps : List (K × Int)) (j i : Nat), lookP a ps = none → Instr.findNow d (κ a) (entL κ j ps) i = some none
  | [], _, _, _ => rfl
  | p :: r, j, i, hl => by
    unfold lookP at hl
    split at hl
    · cases hl
    · rename_i hne
      simp only [entL, Instr.findNow, h.same, decide_eq_false hne]
      exact findP_none h a r (j + 1) (i + 1) hl
theorem findP_some (h : KeyW κ d) (a : K) : ∀ (ps : List (K × Int)) (j i : Nat) (z : Int), lookP a ps = some z → ∃ n, n < ps.length ∧ Instr.findNow d (κ a) (entL κ j ps) i = some (some (i + n, .int .i64 z)) ∧ (entL κ j ps)[n]? = some ⟨κ a, .int .i64 z, j + n⟩ ∧ ∀ z', (entL κ j ps).set n ⟨κ a, .int .i64 z', j + n⟩ = entL κ j (putP a z' ps)
  | [], _, _, _, hl => by cases hl
  | p :: r, j, i, z, hl => by
    unfold lookP at hl
    split at hl
    · rename_i he
      cases hl
      refine ⟨0, by simp, ?_, ?_, fun z' => ?_⟩
      · simp only [entL, Instr.findNow, h.same, decide_eq_true he, Nat.add_zero]
      · subst he; rfl
      · simp only [entL, putP, if_pos he, List.set_cons_zero, Nat.add_zero]
    · rename_i hne
      obtain ⟨n, h1, h2, h3, h4⟩ := findP_some h a r (j + 1) (i + 1) z hl
      refine ⟨n + 1, by simp; omega, ?_, ?_, fun z' => ?_⟩
      · simp only [entL, Instr.findNow, h.same, decide_eq_false hne, h2]
        rw [show i + 1 + n = i + (n + 1) by omega]
      · rw [show j + (n + 1) = j + 1 + n by omega, ← h3]; rfl
      · simp only [entL, putP, if_neg hne, List.set_cons_succ]
        rw [show j + (n + 1) = j + 1 + n by omega, h4 z']
omit [DecidableEq K] in
theorem entL_append (κ : K → Value) (p : K × Int) : ∀ (ps : List (K × Int)) (j : Nat), entL κ j (ps ++ [p]) = entL κ j ps ++ [⟨κ p.1, .int .i64 p.2, j + ps.length⟩]
  | [], _ => rfl
  | q :: r, j => by
    simp only [List.cons_append, entL, entL_append κ p r (j + 1), List.length_cons]
    rw [show j + 1 + r.length = j + (r.length + 1) by omega]
omit [DecidableEq K] in
theorem entL_length (κ : K → Value) : ∀ (ps : List (K × Int)) (j : Nat), (entL κ j ps).length = ps.length
  | [], _ => rfl
  | _ :: r, j => by simp [entL, entL_length κ r (j + 1)]
theorem putP_none {a : K} {z : Int} : ∀ {ps : List (K × Int)}, lookP a ps = none → putP a z ps = ps ++ [(a, z)]
  | [], _ => rfl
  | p :: r, h => by
    unfold lookP at h
    split at h
    · cases h
    · rename_i hne
      simp only [putP, if_neg hne, List.cons_append, putP_none h]
theorem putP_len {a : K} {z z' : Int} : ∀ {ps : List (K × Int)}, lookP a ps = some z → (putP a z' ps).length = ps.length
  | [], h => by cases h
  | p :: r, h => by
    unfold lookP at h
    split at h
    · rename_i he; simp [putP, he]
    · rename_i hne; simp [putP, hne, putP_len h]
theorem lookP_put {a b : K} {z : Int} : ∀ {ps : List (K × Int)}, lookP b (putP a z ps) = if b = a then some z else lookP b ps
  | [] => by simp [putP, lookP]
  | p :: r => by
    by_cases h : a = p.1
    · simp only [putP, if_pos h, lookP]
      by_cases h2 : b = a
      · simp [h2]
      · simp [h2, show ¬ b = p.1 from fun e => h2 (by rw [e, h])]
    · simp only [putP, if_neg h, lookP, lookP_put (ps := r)]
      by_cases h2 : b = p.1
      · simp [h2, show ¬ p.1 = a from fun e => h e.symm]
      · simp [h2]

/-- A map that has counted the elements of xs. -/
structure Cnt (xs : List K) (ps : List (K × Int)) : Prop where
  none : ∀ a, lookP a ps = none ↔ a ∉ xs
  le : ∀ a, 0 ≤ getP a ps ∧ getP a ps ≤ (xs.length : Int)
  len : ps.length ≤ xs.length
  nodup : ps.length = xs.length ↔ xs.Nodup
theorem Cnt.nil : Cnt ([] : List K) [] := ⟨fun a => by simp [lookP], fun a => by simp [getP, lookP], by simp, by simp⟩
theorem Cnt.snoc {xs : List K} {ps : List (K × Int)} (h : Cnt xs ps) (a : K) : Cnt (xs ++ [a]) (putP a (getP a ps + 1) ps) := by
  have hle := h.le a
  refine ⟨fun b => ?_, fun b => ?_, ?_, ?_⟩
  · rw [lookP_put]
    by_cases hb : b = a
    · simp [hb]
    · simp [hb, h.none b]
  · have h2 := h.le b
    unfold getP at h2 hle ⊢
    rw [lookP_put, List.length_append]
    by_cases hb : b = a
    · rw [if_pos hb]; simp only [Option.getD_some, List.length_singleton]; omega
    · rw [if_neg hb]; simp only [List.length_singleton]; omega
  · rw [List.length_append]
    cases hl : lookP a ps with
    | none => rw [putP_none hl]; simp; exact h.len
    | some z => rw [putP_len hl]; have := h.len; omega
  · rw [List.length_append, List.nodup_append]
    cases hl : lookP a ps with
    | none =>
      rw [putP_none hl, List.length_append]
      have h1 := (h.none a).1 hl
      have h2 := h.nodup
      constructor
      · intro e
        refine ⟨h2.1 (by simp only [List.length_singleton] at e; omega), by simp, fun x hx y hy e2 => ?_⟩
        rw [List.mem_singleton] at hy
        exact h1 (by rw [← hy, ← e2]; exact hx)
      · intro ⟨e, _⟩
        have := h2.2 e
        simp only [List.length_singleton]; omega
    | some z =>
      rw [putP_len hl]
      have h1 : a ∈ xs := by
        by_cases hx : a ∈ xs
        · exact hx
        · have := (h.none a).2 hx
          rw [hl] at this; cases this
      constructor
      · intro e
        have := h.len
        simp only [List.length_singleton] at e; omega
      · intro ⟨_, _, e⟩
        exact absurd rfl (e a h1 a (by simp))
end

theorem keyS : KeyW Value.string .string := ⟨fun a b => by
  show some (a.data == b.data) = some (decide (a = b))
  congr 1
  by_cases h : a = b
  · subst h; simp
  · have h2 : ¬ a.data = b.data := fun e => h (ByteArray.ext e)
    simp [h, h2], fun _ => trivial⟩
theorem keyI : KeyW b64 (.int .u64) := ⟨fun a b => by
  show (if IntKind.u64 = IntKind.u64 then some (((a.toNat : Int)) == ((b.toNat : Int))) else none) = some (decide (a = b))
  rw [if_pos rfl]
  congr 1
  by_cases h : a = b
  · subst h; simp
  · have : ¬ ((a.toNat : Int) = (b.toNat : Int)) := fun e => h (BitVec.eq_of_toNat_eq (by omega))
    simp [h, this], fun _ => rfl⟩

section
variable {P : Program} {fn : Func} {R : Ending → World → Prop} {N : Nat} {w0 : World} {D : Blocks} {e : List (Nat × Value)} {M : List (Nat × Ck)} {k : List It} {o : Oper} {all : Array Oper} {rest : List Oper}
variable {K : Type} [DecidableEq K] {κ : K → Value} {d : TypeDesc}

theorem Mem.setMap {w : World} (h : Mem w0 D M w) (t : Nat) {b : Nat} {ob ob' : Obj} (ht : mget M t = some (.pt b ob)) :
    Mem w0 D ((t, .pt b ob') :: M) { w with heap := w.heap.setIfInBounds b ob' } := by
  have hb : w.heap[b]? = some ob := h.holds _ _ ht
  have hs := MapKept.heap_set (o' := ob') hb
  exact h.turn t b _ ob' ht rfl rfl rfl (by simp) hs.1 (fun j hj => hs.2 j hj)

omit [DecidableEq K] in
theorem lo_makeMap {t : TypeId} (κ : K → Value) (ho : o.op = .makeMap t none) : Lo P N w0 D e M o (σ := Nat) (fun b => w0.heap.size ≤ b) (fun b => .map (some b)) (fun b => [.pt b (entM κ [])]) := fun a w hs hm =>
  ⟨w.heap.size, w.alloc (.map #[] 0), hm.size, by
    have hr : (Instr.makeMap t none).run P w = .ok (.map (some w.heap.size)) (w.alloc (.map #[] 0)) := rfl
    simp [execOp, ho, hr], Grows.new w _⟩

theorem pu_lookup {t kt et : TypeId} {x y : Operand} {b : Nat} {ps : List (K × Int)} (a : K) (tag : Nat) (hk : KeyW κ d) (hM : mget M tag = some (.pt b (entM κ ps))) [hu : Und P t (.map kt et)] [hd : Und P kt d] [hz : Zer P et (.int .i64 0)] (ho : o.op = .lookup t x y false) (hx : ev e x = some (.map (some b))) (hy : ev e y = some (κ a)) : Pu P N w0 D e M o (.int .i64 (getP a ps)) := fun ac w hs hm => by
  have hb : w.heap[b]? = some (.map (entL κ 0 ps).toArray ps.length) := hm.holds _ _ hM
  have hc := fun em => MapKept.run_checkKey (w := w) hd.h (hk.is a) em 9999
  cases hl : lookP a ps with
  | none =>
    have hf := MapKept.run_findKey (P := P) (w := w) hd.h (findP_none hk a ps 0 0 hl)
    simp [execOp, ho, hs.eval hx, hs.eval hy, Instr.lookup, run_und hu.h, MapKept.run_getObj_map hb, hc, hf, run_zero hz.h, getP, hl]
  | some z =>
    obtain ⟨n, _, h2, _, _⟩ := findP_some hk a ps 0 0 z hl
    have hf := MapKept.run_findKey (P := P) (w := w) hd.h h2
    simp [execOp, ho, hs.eval hx, hs.eval hy, Instr.lookup, run_und hu.h, MapKept.run_getObj_map hb, hc, hf, getP, hl]

theorem g_mapUpdate (tag : Nat) {t kt et : TypeId} {x y v : Operand} {b : Nat} {ps : List (K × Int)} {z : Int} (a : K) (hk : KeyW κ d) (hg : wantE all e o = some true) (hdst : o.dst = none) [hu : Und P t (.map kt et)] [hd : Und P kt d] (ho : o.op = .mapUpdate t x y v) (hx : ev e x = some (.map (some b))) (hy : ev e y = some (κ a)) (hv : ev e v = some (.int .i64 z))
    (hM : mget M tag = some (.pt b (entM κ ps)))
    (h : G P fn R N w0 D e ((tag, .pt b (entM κ (putP a z ps))) :: M) (.ops all rest :: k)) : G P fn R N w0 D e M (.ops all (o :: rest) :: k) := by
  refine g_do hg hdst (fun ac w hs hm => ?_) h
  have hb : w.heap[b]? = some (.map (entL κ 0 ps).toArray ps.length) := hm.holds _ _ hM
  have hc := fun em => MapKept.run_checkKey (w := w) hd.h (hk.is a) em 9999
  refine ⟨_, ?_, hm.setMap tag hM⟩
  cases hl : lookP a ps with
  | none =>
    have hf := MapKept.run_findKey (P := P) (w := w) hd.h (findP_none hk a ps 0 0 hl)
    have he : entM κ (putP a z ps) = .map ((entL κ 0 ps).toArray.push ⟨κ a, .int .i64 z, ps.length⟩) (ps.length + 1) := by
      unfold entM
      rw [putP_none hl, entL_append, Nat.zero_add, List.length_append]
      simp
    rw [he]
    simp [execOp, ho, hs.eval hx, hs.eval hy, hs.eval hv, Instr.mapUpdate, run_und hu.h, MapKept.run_getObj_map hb, hc, hf, MapKept.run_setObj_map _ hb]
  | some z0 =>
    obtain ⟨n, h1, h2, h3, h4⟩ := findP_some hk a ps 0 0 z0 hl
    have hf := MapKept.run_findKey (P := P) (w := w) hd.h h2
    rw [Nat.zero_add] at hf h3
    have hst := MapKept.run_keyThatStays (P := P) (w := w) (hk.is a)
    have hlen := entL_length κ ps 0
    have hn : n < (entL κ 0 ps).length := by omega
    have hmod : (entL κ 0 ps).toArray.modify n (fun en => { en with key := κ a, val := .int .i64 z }) = (entL κ 0 (putP a z ps)).toArray := by
      apply Array.ext'
      rw [← h4 z, Nat.zero_add]
      simp only [Array.toList_modify]
      rw [ChangeMaps.modify_eq_set _ _ _ _ h3]
    have he : entM κ (putP a z ps) = .map ((entL κ 0 ps).toArray.modify n (fun en => { en with key := κ a, val := .int .i64 z })) ps.length := by
      unfold entM
      rw [hmod, putP_len hl]
    rw [he]
    have h3' : (entL κ 0 ps).toArray[n]? = some ⟨κ a, .int .i64 z0, n⟩ := by rw [List.getElem?_toArray]; exact h3
    simp [execOp, ho, hs.eval hx, hs.eval hy, hs.eval hv, Instr.mapUpdate, run_und hu.h, MapKept.run_getObj_map hb, hc, hf, h3, hst, MapKept.run_setObj_map _ hb]

omit [DecidableEq K] in
theorem pu_lenM {t kt et : TypeId} {x : Operand} {b : Nat} {ps : List (K × Int)} (tag : Nat) (hM : mget M tag = some (.pt b (entM κ ps))) [hu : Und P t (.map kt et)] (ho : o.op = .call ⟨.builtin .len, #[x], #[t]⟩) (hx : ev e x = some (.map (some b))) : Pu P N w0 D e M o (.int .i64 (ps.length : Int)) := fun ac w hs hm => by
  have hb : w.heap[b]? = some (.map (entL κ 0 ps).toArray ps.length) := hm.holds _ _ hM
  simp [execOp, ho, resolve, invoke, builtin, hs.eval hx, Builtin.len_, run_und hu.h, MapKept.run_getObj_map hb, entL_length, goInt]
end
end Go.Sx

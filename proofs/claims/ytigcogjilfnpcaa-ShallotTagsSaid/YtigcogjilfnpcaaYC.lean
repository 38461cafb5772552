import Derived.Test.YtigcogjilfnpcaaYA
import Derived.Test.YtigcogjilfnpcaaXE
import Derived.Test.YtigcogjilfnpcaaYB
set_option linter.unusedVariables false
set_option linter.unusedSimpArgs false
/-
  Turning every byte of a list: of the reference. No condition.
-/
namespace Go.Sx
open Go Go.Proofs

def overL (l : List (BitVec 8)) (i : Nat) : List (BitVec 8) := (l.take i).map (· ^^^ 90#8) ++ l.drop i
theorem overL_length (l : List (BitVec 8)) (i : Nat) : (overL l i).length = l.length := by simp [overL]; omega
theorem overL_get {l : List (BitVec 8)} {i : Nat} {x : BitVec 8} (h : l[i]? = some x) : (overL l i)[i]? = some x := by
  have hi := (List.getElem?_eq_some_iff.1 h).1
  unfold overL
  rw [List.getElem?_append_right (by simp; omega)]
  simp [List.getElem?_drop]
  rw [show i + (i - min i l.length) = i by omega, h]
theorem overL_set {l : List (BitVec 8)} {i : Nat} {x : BitVec 8} (h : l[i]? = some x) : (overL l i).set i (x ^^^ 90#8) = overL l (i + 1) := by
  have hi := (List.getElem?_eq_some_iff.1 h).1
  unfold overL
  rw [List.set_append_right _ _ (by simp; omega)]
  have e1 : i - ((l.take i).map (· ^^^ 90#8)).length = 0 := by simp; omega
  have e2 : l.drop i = x :: l.drop (i + 1) := by
    rw [List.drop_eq_getElem_cons hi]
    rw [List.getElem?_eq_getElem hi] at h
    cases h; rfl
  rw [e1, e2, List.set_cons_zero, List.take_add_one, h]
  simp


end Go.Sx

/-
  The reference's spare room, its looking after it, and its looking whether lists share memory. Conditions: the lists are writable, in blocks of their own.
-/
namespace Go.Sx
open Go Go.Proofs


def spareB (j : Nat) : BitVec 8 := BitVec.ofInt 8 (160 + (j : Int) % 31)
/-- A list with marked room behind it, up to place j. -/
def spareL (l : List (BitVec 8)) (j : Nat) : List (BitVec 8) := l ++ (List.range j).map fun t => spareB (l.length + t)
theorem spareL_length (l : List (BitVec 8)) (j : Nat) : (spareL l j).length = l.length + j := by simp [spareL]
theorem spareL_succ (l : List (BitVec 8)) (j : Nat) : spareL l (j + 1) = spareL l j ++ [spareB (l.length + j)] := by
  simp [spareL, List.range_succ]


end Go.Sx

/-
  The reference's looking whether lists share memory: of lists that are writable, each in a block of its own, it says no. Conditions: at most 1000000 lists of at most 2^46 bytes.
-/
namespace Go.Sx
open Go Go.Proofs

/-- The first i lists are marked whole. -/
def Ph (xs ys : List Itm) (nf : Nat → Nat) (i : Nat) : Prop := Ext xs ys ∧ ∀ k y, xs[k]? = some y → k < i → ∃ z, ys[k]? = some z ∧ nf k ≤ z.m
theorem Ph.ext {xs ys zs : List Itm} {nf : Nat → Nat} {i : Nat} (h : Ph xs ys nf i) (he : Ext ys zs) : Ph xs zs nf i :=
  ⟨h.1.trans he, fun k y hy hk => by
    obtain ⟨z, hz, hm⟩ := h.2 k y hy hk
    obtain ⟨u, hu, _, _, _, hm2⟩ := he k z hz
    exact ⟨u, hu, Nat.le_trans hm hm2⟩⟩
/-- Each grown list is marked. -/
def Good (n : Nat) (ys : List Itm) (GL : List Value) : Prop := ∀ (k : Nat) v, GL[k]? = some v → ∃ (r : Nat) (z : Itm) (nn : Nat), ys[r]? = some z ∧ v = .slice z.p nn z.c ∧ nn ≤ z.m ∧ z.id = k % n ∧ nn ≤ 140737488355328
theorem Good.ext {n : Nat} {ys zs : List Itm} {GL : List Value} (h : Good n ys GL) (he : Ext ys zs) : Good n zs GL := fun k v hv => by
  obtain ⟨r, z, nn, hz, rfl, h1, h2, h3⟩ := h k v hv
  obtain ⟨u, hu, e1, e2, e3, e4⟩ := he r z hz
  exact ⟨r, u, nn, hu, by rw [e2, e3], by omega, by rw [e1]; exact h2, h3⟩
theorem Good.snoc {n : Nat} {ys : List Itm} {GL : List Value} (h : Good n ys GL) {r : Nat} {z : Itm} {nn : Nat} (hz : ys[r]? = some z) (h1 : nn ≤ z.m) (h2 : z.id = GL.length % n) (h3 : nn ≤ 140737488355328) : Good n ys (GL ++ [.slice z.p nn z.c]) := fun k v hv => by
  by_cases hk : k < GL.length
  · rw [List.getElem?_append_left hk] at hv
    exact h k v hv
  · rw [List.getElem?_append_right (by omega)] at hv
    have hk2 : k = GL.length := by
      rcases Nat.lt_or_ge (k - GL.length) 1 with h4 | h4
      · omega
      · rw [List.getElem?_eq_none (by simpa using h4)] at hv; cases hv
    subst hk2
    rw [Nat.sub_self] at hv
    cases hv
    exact ⟨r, z, nn, hz, rfl, h1, h2, h3⟩

end Go.Sx

/-
  Handing known parts of memory to the look whether lists share memory. No condition.
-/
namespace Go.Sx
open Go Go.Proofs

/-- The parts under these numbers are writable, item by item. -/
def Tg (M : List (Nat × Ck)) : List Nat → List Itm → Prop
  | [], [] => True
  | t :: ts, y :: ys => (∃ c, mget M t = some c ∧ (∀ w, c.holds w → Wr y w) ∧ ∀ j, At y.p j → c.has j) ∧ ts.contains t = false ∧ Tg M ts ys
  | _, _ => False
theorem Tg.nil {M : List (Nat × Ck)} : Tg M [] [] := trivial
theorem Tg.ch {M : List (Nat × Ck)} : ∀ {ts : List Nat} {ys : List Itm}, Tg M ts ys → ∀ j, BS ys j → ∃ u ∈ ts, ∃ c, mget M u = some c ∧ c.has j
  | [], [], _, j, ⟨y, hy, _⟩ => by simp at hy
  | t :: ts, y :: ys, h, j, ⟨z, hz, hj⟩ => by
    rcases List.mem_cons.1 hz with rfl | h1
    · obtain ⟨c, hc, _, hh⟩ := h.1
      exact ⟨t, by simp, c, hc, hh j hj⟩
    · obtain ⟨u, hu, r⟩ := Tg.ch h.2.2 j ⟨z, h1, hj⟩
      exact ⟨u, List.mem_cons_of_mem _ hu, r⟩
theorem Tg.not {w0 w : World} {D : Blocks} {M : List (Nat × Ck)} (hm : Mem w0 D M w) {ts : List Nat} {ys : List Itm} (h : Tg M ts ys) {t : Nat} {c : Ck} (hc : mget M t = some c) (ht : ts.contains t = false) {j : Nat} (hj : c.has j) : ¬ BS ys j := fun hb => by
  obtain ⟨u, hu, d, hd, hj2⟩ := h.ch j hb
  have hne : t ≠ u := fun e => by subst e; simp at ht; exact ht hu
  exact hm.apart t c u d hc hd hne j hj hj2
theorem Tg.bag {w0 w : World} {D : Blocks} {M : List (Nat × Ck)} (hm : Mem w0 D M w) : ∀ {ts : List Nat} {ys : List Itm}, Tg M ts ys → Bag ys w
  | [], [], _ => Bag.nil w
  | t :: ts, y :: ys, h => by
    obtain ⟨⟨c, hc, hw, hh⟩, hn, hr⟩ := h
    exact Bag.cons (hw w (hm.holds t c hc)) (Tg.bag hm hr) (fun j hj => Tg.not hm hr hc hn (hh j hj))
theorem Tg.below {w0 w : World} {D : Blocks} {M : List (Nat × Ck)} (hm : Mem w0 D M w) {ts : List Nat} {ys : List Itm} (h : Tg M ts ys) : ∀ j, BS ys j → j < w.heap.size := fun j hj => by
  obtain ⟨u, _, c, hc, hj2⟩ := h.ch j hj
  exact hm.below u c hc j hj2
theorem Tg.own {M : List (Nat × Ck)} {ts : List Nat} {ys : List Itm} (t i : Nat) {E : TypeId} {x : Ow} {L : List Value} (ht : mget M t = some (x.ck E 1 L)) (hn : ts.contains t = false) (h : Tg M ts ys) : Tg M (t :: ts) (⟨i, 0, x.p, x.c⟩ :: ys) :=
  ⟨⟨_, ht, fun _ hw => Wr.own hw, fun _ hj => hj⟩, hn, h⟩
theorem Tg.row {M : List (Nat × Ck)} {ts : List Nat} {ys : List Itm} (t i n : Nat) {b : Nat} {F : TypeId} {L : List Value} (ht : mget M t = some (.pt b (.cells L.toArray F (0, 0)))) (hl : n ≤ L.length) (hm : n ≤ 9223372036854775807) (hn : ts.contains t = false) (h : Tg M ts ys) : Tg M (t :: ts) (⟨i, 0, some ⟨b, 0, none⟩, n⟩ :: ys) :=
  ⟨⟨_, ht, fun _ hw => Wr.row hw hl hm, fun _ hj => At.some.1 hj⟩, hn, h⟩

def HxL : Nat → List Itm → List Value → List Nat → Prop
  | _, [], [], [] => True
  | k, y :: ys, v :: vs, n :: ns => (y.id = k ∧ y.m = 0 ∧ v = .slice y.p n y.c ∧ n ≤ y.c ∧ n ≤ 140737488355200) ∧ HxL (k + 1) ys vs ns
  | _, _, _, _ => False
theorem HxL.len : ∀ {k : Nat} {xs : List Itm} {LL : List Value} {ns : List Nat}, HxL k xs LL ns → xs.length = LL.length
  | _, [], [], [], _ => rfl
  | k, y :: ys, v :: vs, n :: ns, h => by simp [HxL.len h.2]
theorem HxL.at : ∀ {k : Nat} {xs : List Itm} {LL : List Value} {ns : List Nat}, HxL k xs LL ns → ∀ i y, xs[i]? = some y → y.id = k + i ∧ y.m = 0 ∧ LL[i]? = some (.slice y.p (ns.getD i 0) y.c) ∧ ns.getD i 0 ≤ y.c ∧ ns.getD i 0 ≤ 140737488355200
  | _, [], [], [], _, i, y, hi => by simp at hi
  | k, x :: ys, v :: vs, n :: ns, h, 0, y, hi => by
    simp only [List.getElem?_cons_zero, Option.some.injEq] at hi
    subst hi
    obtain ⟨h1, h2, h3, h4, h5⟩ := h.1
    exact ⟨by omega, h2, by rw [h3]; rfl, h4, h5⟩
  | k, x :: ys, v :: vs, n :: ns, h, i + 1, y, hi => by
    have := HxL.at h.2 i y (by simpa using hi)
    obtain ⟨h1, h2, h3, h4, h5⟩ := this
    exact ⟨by omega, h2, by simpa using h3, by simpa using h4, by simpa using h5⟩


theorem By.spare (t : Nat) {w0 w : World} {D : Blocks} {M : List (Nat × Ck)} {b n : Nat} {E : TypeId} {fz : Nat × Nat} {l : List (BitVec 8)} (hM : mget M t = some (.pt b (.cells (bs (spareL l 40)).toArray E fz))) (hm : Mem w0 D M w) (hn : l.length = n) (hb : n ≤ 140737488355328) : By w (some ⟨b, 0, none⟩) n l := by
  have h1 := hm.holds t _ hM
  simp only [Ck.holds, spareL, bs_append] at h1
  exact ⟨RdV.row h1, hn, hb⟩
end Go.Sx

/-
  Lists of slices of the run's own, each in a block of its own, with their contents; handing them to the look whether lists share memory. No condition.
-/
namespace Go.Sx
open Go Go.Proofs

abbrev Otm := Ow × List (BitVec 8)
def BSC (xs : List Otm) : Blocks := fun j => ∃ x ∈ xs, At x.1.p j
def BagC (_ : TypeId) (xs : List Otm) (w : World) : Prop := (∀ x ∈ xs, ∃ F, OwnO F x.1.p x.1.c (bs x.2) w) ∧ xs.Pairwise (fun a b => ∀ j, At a.1.p j → ¬ At b.1.p j)
def vals (xs : List Otm) : List Value := xs.map fun x => x.1.sl x.2.length
def conts (xs : List Otm) : List (List (BitVec 8)) := xs.map (·.2)
theorem vals_length (xs : List Otm) : (vals xs).length = xs.length := by simp [vals]
theorem conts_length (xs : List Otm) : (conts xs).length = xs.length := by simp [conts]
theorem BagC.loc {E : TypeId} {xs : List Otm} : Local (BSC xs) (BagC E xs) := fun w w' hk h => ⟨fun x hx => by obtain ⟨F, hF⟩ := h.1 x hx; exact ⟨F, OwnO.loc w w' (fun j hj => hk j ⟨x, hx, hj⟩) hF⟩, h.2⟩
theorem BagC.els {E : TypeId} {xs : List Otm} {w : World} (h : BagC E xs w) (hb : ∀ x ∈ xs, x.2.length ≤ 140737488355328) : All2 (IsB (BSC xs) w) (vals xs) (conts xs) := by
  refine ⟨by simp [vals, conts], fun i v l hv hl => ?_⟩
  simp only [vals, conts, List.getElem?_map, Option.map_eq_some_iff] at hv hl
  obtain ⟨x, hx, rfl⟩ := hv
  obtain ⟨y, hy, rfl⟩ := hl
  rw [hx] at hy; cases hy
  have hm := List.mem_of_getElem? hx
  obtain ⟨F, hF⟩ := h.1 x hm
  exact ⟨x.1.p, x.2.length, x.1.c, rfl, ⟨hF.rd, rfl, hb x hm⟩, fun j hj => ⟨x, hm, hj⟩⟩
theorem isSl_vals (xs : List Otm) : (vals xs).all isSl = true := by
  rw [List.all_eq_true]
  intro v hv
  obtain ⟨x, _, rfl⟩ := List.mem_map.1 hv
  rfl
/-- The outer row and the contents, as slices of slices. -/
theorem BagC.byl (t t' : Nat) {w0 w : World} {D : Blocks} {M : List (Nat × Ck)} {F E : TypeId} {x : Ow} {xs : List Otm} {n : Nat} (h : mget M t = some (x.ck F 1 (vals xs))) (h' : mget M t' = some (.fact (BSC xs) (BagC E xs))) (hm : Mem w0 D M w) (hn : xs.length = n) (hb : ∀ x ∈ xs, x.2.length ≤ 140737488355328) (hnb : n * 24 ≤ 140737488355328) : ByL w x.p n (vals xs) (conts xs) :=
  ⟨Own.rd (hm.holds t _ h), by rw [vals_length, hn], (BagC.els (E := E) (hm.holds t' _ h') hb).imp (fun _ _ h => h.imp (fun _ _ => trivial)), hnb⟩

def itms : Nat → List Otm → List Itm
  | _, [] => []
  | k, x :: r => ⟨k, 0, x.1.p, x.1.c⟩ :: itms (k + 1) r
theorem itms_length : ∀ (k : Nat) (xs : List Otm), (itms k xs).length = xs.length
  | _, [] => rfl
  | k, _ :: r => by simp [itms, itms_length (k + 1) r]
theorem itms_mem : ∀ {k : Nat} {xs : List Otm} {y : Itm}, y ∈ itms k xs → ∃ x ∈ xs, y.p = x.1.p ∧ y.c = x.1.c ∧ y.m = 0
  | _, [], y, h => by simp [itms] at h
  | k, x :: r, y, h => by
    rcases List.mem_cons.1 h with rfl | h1
    · exact ⟨x, by simp, rfl, rfl, rfl⟩
    · obtain ⟨z, hz, r⟩ := itms_mem h1
      exact ⟨z, List.mem_cons_of_mem _ hz, r⟩
theorem itms_BS {k : Nat} {xs : List Otm} {j : Nat} (h : BS (itms k xs) j) : BSC xs j := by
  obtain ⟨y, hy, hj⟩ := h
  obtain ⟨x, hx, e, _⟩ := itms_mem hy
  exact ⟨x, hx, by rw [← e]; exact hj⟩
theorem BagC.bag {E : TypeId} {w : World} : ∀ {k : Nat} {xs : List Otm}, BagC E xs w → Bag (itms k xs) w
  | _, [], _ => Bag.nil w
  | k, x :: r, h => by
    have hp := List.pairwise_cons.1 h.2
    obtain ⟨F, hF⟩ := h.1 x (by simp)
    refine Bag.cons (Wr.ownO hF) (BagC.bag (E := E) ⟨fun z hz => h.1 z (List.mem_cons_of_mem _ hz), hp.2⟩) (fun j hj hb => ?_)
    obtain ⟨z, hz, hz2⟩ := itms_BS hb
    exact hp.1 z hz j hj hz2
theorem BagC.le {E : TypeId} {xs : List Otm} {w : World} (h : BagC E xs w) : ∀ x ∈ xs, x.2.length ≤ x.1.c := fun x hx => by
  obtain ⟨F, hF⟩ := h.1 x hx
  have := hF.le
  rwa [bs_length] at this
def lens' (xs : List Otm) : List Nat := xs.map fun x => x.2.length
theorem HxL.otm : ∀ {k : Nat} {xs : List Otm}, (∀ x ∈ xs, x.2.length ≤ x.1.c) → (∀ x ∈ xs, x.2.length ≤ 140737488355200) → HxL k (itms k xs) (vals xs) (lens' xs)
  | _, [], _, _ => trivial
  | k, x :: r, h, h2 => ⟨⟨rfl, rfl, rfl, h x (by simp), h2 x (by simp)⟩, HxL.otm (fun z hz => h z (List.mem_cons_of_mem _ hz)) (fun z hz => h2 z (List.mem_cons_of_mem _ hz))⟩
theorem HxL.app : ∀ {k : Nat} {xs ys : List Itm} {V U : List Value} {n m : List Nat}, HxL k xs V n → HxL (k + xs.length) ys U m → HxL k (xs ++ ys) (V ++ U) (n ++ m)
  | _, [], _, [], _, [], _, _, h => by simpa using h
  | k, y :: xs, ys, v :: V, U, n :: ns, m, h, h' => ⟨h.1, HxL.app h.2 (by rw [List.length_cons] at h'; rw [show k + 1 + xs.length = k + (xs.length + 1) by omega]; exact h')⟩

/-- Two rows and three lists. -/
theorem HxL.five {y1 y2 : Itm} {v1 v2 : Value} {n1 n2 : Nat} {X Y Z : List Otm} (h0 : HxL 0 [y1, y2] [v1, v2] [n1, n2]) (hX : (∀ x ∈ X, x.2.length ≤ x.1.c) ∧ ∀ x ∈ X, x.2.length ≤ 140737488355200) (hY : (∀ x ∈ Y, x.2.length ≤ x.1.c) ∧ ∀ x ∈ Y, x.2.length ≤ 140737488355200) (hZ : (∀ x ∈ Z, x.2.length ≤ x.1.c) ∧ ∀ x ∈ Z, x.2.length ≤ 140737488355200) :
    HxL 0 (List.flatten [[y1], [y2], itms 2 X, itms (2 + X.length) Y, itms (2 + X.length + Y.length) Z]) ([v1, v2] ++ vals X ++ vals Y ++ vals Z) ([n1, n2] ++ lens' X ++ lens' Y ++ lens' Z) := by
  rw [show List.flatten [[y1], [y2], itms 2 X, itms (2 + X.length) Y, itms (2 + X.length + Y.length) Z] = [y1, y2] ++ itms 2 X ++ itms (2 + X.length) Y ++ itms (2 + X.length + Y.length) Z by simp]
  refine HxL.app (HxL.app (HxL.app h0 (HxL.otm hX.1 hX.2)) ?_) ?_
  · rw [show 0 + ([y1, y2] ++ itms 2 X).length = 2 + X.length by simp [itms_length]; omega]
    exact HxL.otm hY.1 hY.2
  · rw [show 0 + ([y1, y2] ++ itms 2 X ++ itms (2 + X.length) Y).length = 2 + X.length + Y.length by simp [itms_length]; omega]
    exact HxL.otm hZ.1 hZ.2

/-- The parts under these numbers are writable, list by list. -/
def TgL (M : List (Nat × Ck)) : List Nat → List (List Itm) → Prop
  | [], [] => True
  | t :: ts, ys :: yss => (∃ c, mget M t = some c ∧ (∀ w, c.holds w → Bag ys w) ∧ ∀ j, BS ys j → c.has j) ∧ ts.contains t = false ∧ TgL M ts yss
  | _, _ => False
theorem TgL.nil {M : List (Nat × Ck)} : TgL M [] [] := trivial
theorem TgL.ch {M : List (Nat × Ck)} : ∀ {ts : List Nat} {yss : List (List Itm)}, TgL M ts yss → ∀ j, BS yss.flatten j → ∃ u ∈ ts, ∃ c, mget M u = some c ∧ c.has j
  | [], [], _, j, ⟨y, hy, _⟩ => by simp at hy
  | t :: ts, ys :: yss, h, j, ⟨z, hz, hj⟩ => by
    rw [List.flatten_cons] at hz
    rcases List.mem_append.1 hz with h1 | h1
    · obtain ⟨c, hc, _, hh⟩ := h.1
      exact ⟨t, by simp, c, hc, hh j ⟨z, h1, hj⟩⟩
    · obtain ⟨u, hu, r⟩ := TgL.ch h.2.2 j ⟨z, h1, hj⟩
      exact ⟨u, List.mem_cons_of_mem _ hu, r⟩
theorem TgL.not {w0 w : World} {D : Blocks} {M : List (Nat × Ck)} (hm : Mem w0 D M w) {ts : List Nat} {yss : List (List Itm)} (h : TgL M ts yss) {t : Nat} {c : Ck} (hc : mget M t = some c) (ht : ts.contains t = false) {j : Nat} (hj : c.has j) : ¬ BS yss.flatten j := fun hb => by
  obtain ⟨u, hu, d, hd, hj2⟩ := h.ch j hb
  have hne : t ≠ u := fun e => by subst e; simp at ht; exact ht hu
  exact hm.apart t c u d hc hd hne j hj hj2
theorem Bag.app {xs ys : List Itm} {w : World} (h : Bag xs w) (h' : Bag ys w) (hd : ∀ j, BS xs j → ¬ BS ys j) : Bag (xs ++ ys) w :=
  ⟨fun y hy => (List.mem_append.1 hy).elim (h.1 y) (h'.1 y), List.pairwise_append.2 ⟨h.2, h'.2, fun a ha b hb j hj hj2 => hd j ⟨a, ha, hj⟩ ⟨b, hb, hj2⟩⟩⟩
theorem TgL.bag {w0 w : World} {D : Blocks} {M : List (Nat × Ck)} (hm : Mem w0 D M w) : ∀ {ts : List Nat} {yss : List (List Itm)}, TgL M ts yss → Bag yss.flatten w
  | [], [], _ => Bag.nil w
  | t :: ts, ys :: yss, h => by
    obtain ⟨⟨c, hc, hw, hh⟩, hn, hr⟩ := h
    rw [List.flatten_cons]
    exact Bag.app (hw w (hm.holds t c hc)) (TgL.bag hm hr) (fun j hj => TgL.not hm hr hc hn (hh j hj))
theorem TgL.below {w0 w : World} {D : Blocks} {M : List (Nat × Ck)} (hm : Mem w0 D M w) {ts : List Nat} {yss : List (List Itm)} (h : TgL M ts yss) : ∀ j, BS yss.flatten j → j < w.heap.size := fun j hj => by
  obtain ⟨u, _, c, hc, hj2⟩ := h.ch j hj
  exact hm.below u c hc j hj2
theorem BS.one {y : Itm} {j : Nat} (h : BS [y] j) : At y.p j := by
  obtain ⟨z, hz, hj⟩ := h
  obtain rfl := List.mem_singleton.1 hz
  exact hj
theorem TgL.own {M : List (Nat × Ck)} {ts : List Nat} {yss : List (List Itm)} (t i : Nat) {E : TypeId} {x : Ow} {L : List Value} (ht : mget M t = some (x.ck E 1 L)) (hn : ts.contains t = false) (h : TgL M ts yss) : TgL M (t :: ts) ([⟨i, 0, x.p, x.c⟩] :: yss) :=
  ⟨⟨_, ht, fun _ hw => Bag.cons (Wr.own hw) (Bag.nil _) (fun _ _ ⟨_, h, _⟩ => by simp at h), fun _ hj => BS.one hj⟩, hn, h⟩
theorem TgL.row {M : List (Nat × Ck)} {ts : List Nat} {yss : List (List Itm)} (t i n : Nat) {b : Nat} {F : TypeId} {L : List Value} (ht : mget M t = some (.pt b (.cells L.toArray F (0, 0)))) (hl : n ≤ L.length) (hm : n ≤ 9223372036854775807) (hn : ts.contains t = false) (h : TgL M ts yss) : TgL M (t :: ts) ([⟨i, 0, some ⟨b, 0, none⟩, n⟩] :: yss) :=
  ⟨⟨_, ht, fun _ hw => Bag.cons (Wr.row hw hl hm) (Bag.nil _) (fun _ _ ⟨_, h, _⟩ => by simp at h), fun _ hj => At.some.1 (BS.one hj)⟩, hn, h⟩
theorem TgL.otm {M : List (Nat × Ck)} {ts : List Nat} {yss : List (List Itm)} (t i : Nat) {E : TypeId} {xs : List Otm} (ht : mget M t = some (.fact (BSC xs) (BagC E xs))) (hn : ts.contains t = false) (h : TgL M ts yss) : TgL M (t :: ts) (itms i xs :: yss) :=
  ⟨⟨_, ht, fun _ hw => BagC.bag (E := E) hw, fun _ hj => itms_BS hj⟩, hn, h⟩


/-- The parts under these numbers are own slices of these contents. -/
def TgC (E : TypeId) (M : List (Nat × Ck)) : List Nat → List Otm → Prop
  | [], [] => True
  | t :: ts, x :: xs => (mget M t = some (x.1.ck E 1 (bs x.2)) ∨ ∃ F, mget M t = some (x.1.ck F 1 (bs x.2))) ∧ ts.contains t = false ∧ TgC E M ts xs
  | _, _ => False
theorem TgC.ch {E : TypeId} {M : List (Nat × Ck)} : ∀ {ts : List Nat} {xs : List Otm}, TgC E M ts xs → ∀ j, BSC xs j → ∃ u ∈ ts, ∃ c, mget M u = some c ∧ c.has j
  | [], [], _, j, ⟨y, hy, _⟩ => by simp at hy
  | t :: ts, x :: xs, h, j, ⟨z, hz, hj⟩ => by
    rcases List.mem_cons.1 hz with rfl | h1
    · rcases h.1 with h2 | ⟨F, h2⟩
      · exact ⟨t, by simp, _, h2, hj⟩
      · exact ⟨t, by simp, _, h2, hj⟩
    · obtain ⟨u, hu, r⟩ := TgC.ch h.2.2 j ⟨z, h1, hj⟩
      exact ⟨u, List.mem_cons_of_mem _ hu, r⟩
theorem TgC.bag {E : TypeId} {w0 w : World} {D : Blocks} {M : List (Nat × Ck)} (hm : Mem w0 D M w) : ∀ {ts : List Nat} {xs : List Otm}, TgC E M ts xs → BagC E xs w
  | [], [], _ => ⟨fun _ h => by simp at h, List.Pairwise.nil⟩
  | t :: ts, x :: xs, h => by
    have ih := TgC.bag hm h.2.2
    obtain ⟨c, hc, ho, hh⟩ : ∃ c, mget M t = some c ∧ (c.holds w → ∃ F, OwnO F x.1.p x.1.c (bs x.2) w) ∧ ∀ j, At x.1.p j → c.has j := by
      rcases h.1 with h2 | ⟨F, h2⟩
      · exact ⟨_, h2, fun h => ⟨E, OwnO.of h⟩, fun _ h => h⟩
      · exact ⟨_, h2, fun h => ⟨F, OwnO.of h⟩, fun _ h => h⟩
    refine ⟨fun z hz => (List.mem_cons.1 hz).elim (fun e => by rw [e]; exact ho (hm.holds t c hc)) (ih.1 z), List.pairwise_cons.2 ⟨fun z hz j hj hj2 => ?_, ih.2⟩⟩
    obtain ⟨u, hu, d, hd, hj3⟩ := h.2.2.ch j ⟨z, hz, hj2⟩
    have hne : t ≠ u := fun e => by subst e; have := h.2.1; simp at this; exact this hu
    exact hm.apart t c u d hc hd hne j (hh j hj) hj3
section
variable {P : Program} {fn : Func} {R : Ending → World → Prop} {N : Nat} {w0 : World} {D : Blocks} {e : List (Nat × Value)} {M : List (Nat × Ck)} {k : List It}
/-- Own slices become one part. -/
theorem g_bagC (us : List Nat) (t : Nat) {E : TypeId} {xs : List Otm} (h0 : TgC E M us xs) (hf : fresh (gone us M) [t] = true) (h : G P fn R N w0 D e ((t, .fact (BSC xs) (BagC E xs)) :: gone us M) k) : G P fn R N w0 D e M k :=
  g_merge us t (.fact (BSC xs) (BagC E xs)) hf (fun _ hm => h0.bag hm) BagC.loc h0.ch h
theorem oneCell_vals (xs : List Otm) : ∀ u ∈ vals xs, u.oneCell' = true := by
  intro u hu
  obtain ⟨x, _, rfl⟩ := List.mem_map.1 hu
  rfl
end
end Go.Sx

/-
  Handing known parts of memory to the look whether lists share memory. No condition.
-/
import Derived.Test.YteblmnpklcdnpaaCA
set_option linter.unusedVariables false
set_option linter.unusedSimpArgs false
namespace Go.Sx
open Go Go.Proofs

/-- The parts under these numbers are writable, item by item. -/
def Tg (M : List (Nat × Ck)) : List Nat → List Itm → Prop
  | [], [] => True
  | t :: ts, y :: ys => (∃ c, mget M t = some c ∧ (∀ w, c.holds w → Wr y w) ∧ ∀ j, At y.p j → c.has j) ∧ ts.contains t = false ∧ Tg M ts ys
  | _, _ => False
theorem Tg.nil {M : List (Nat × Ck)} : Tg M [] [] := trivial
theorem Tg.ch {M : List (Nat × Ck)} : ∀ {ts : List Nat} {ys : List Itm}, Tg M ts ys → ∀ j, BS ys j → ∃ u ∈ ts, ∃ c, mget M u = some c ∧ c.has j
  | [], [], _, j, ⟨y, hy, _⟩ => by simp at hy
  | t :: ts, y :: ys, h, j, ⟨z, hz, hj⟩ => by
    rcases List.mem_cons.1 hz with rfl | h1
    · obtain ⟨c, hc, _, hh⟩ := h.1
      exact ⟨t, by simp, c, hc, hh j hj⟩
    · obtain ⟨u, hu, r⟩ := Tg.ch h.2.2 j ⟨z, h1, hj⟩
      exact ⟨u, List.mem_cons_of_mem _ hu, r⟩
theorem Tg.not {w0 w : World} {D : Blocks} {M : List (Nat × Ck)} (hm : Mem w0 D M w) {ts : List Nat} {ys : List Itm} (h : Tg M ts ys) {t : Nat} {c : Ck} (hc : mget M t = some c) (ht : ts.contains t = false) {j : Nat} (hj : c.has j) : ¬ BS ys j := fun hb => by
  obtain ⟨u, hu, d, hd, hj2⟩ := h.ch j hb
  have hne : t ≠ u := fun e => by subst e; simp at ht; exact ht hu
  exact hm.apart t c u d hc hd hne j hj hj2
theorem Tg.bag {w0 w : World} {D : Blocks} {M : List (Nat × Ck)} (hm : Mem w0 D M w) : ∀ {ts : List Nat} {ys : List Itm}, Tg M ts ys → Bag ys w
  | [], [], _ => Bag.nil w
  | t :: ts, y :: ys, h => by
    obtain ⟨⟨c, hc, hw, hh⟩, hn, hr⟩ := h
    exact Bag.cons (hw w (hm.holds t c hc)) (Tg.bag hm hr) (fun j hj => Tg.not hm hr hc hn (hh j hj))
theorem Tg.below {w0 w : World} {D : Blocks} {M : List (Nat × Ck)} (hm : Mem w0 D M w) {ts : List Nat} {ys : List Itm} (h : Tg M ts ys) : ∀ j, BS ys j → j < w.heap.size := fun j hj => by
  obtain ⟨u, _, c, hc, hj2⟩ := h.ch j hj
  exact hm.below u c hc j hj2
theorem Tg.own {M : List (Nat × Ck)} {ts : List Nat} {ys : List Itm} (t i : Nat) {E : TypeId} {x : Ow} {L : List Value} (ht : mget M t = some (x.ck E 1 L)) (hn : ts.contains t = false) (h : Tg M ts ys) : Tg M (t :: ts) (⟨i, 0, x.p, x.c⟩ :: ys) :=
  ⟨⟨_, ht, fun _ hw => Wr.own hw, fun _ hj => hj⟩, hn, h⟩
theorem Tg.row {M : List (Nat × Ck)} {ts : List Nat} {ys : List Itm} (t i n : Nat) {b : Nat} {F : TypeId} {L : List Value} (ht : mget M t = some (.pt b (.cells L.toArray F (0, 0)))) (hl : n ≤ L.length) (hm : n ≤ 9223372036854775807) (hn : ts.contains t = false) (h : Tg M ts ys) : Tg M (t :: ts) (⟨i, 0, some ⟨b, 0, none⟩, n⟩ :: ys) :=
  ⟨⟨_, ht, fun _ hw => Wr.row hw hl hm, fun _ hj => At.some.1 hj⟩, hn, h⟩

def HxL : Nat → List Itm → List Value → List Nat → Prop
  | _, [], [], [] => True
  | k, y :: ys, v :: vs, n :: ns => (y.id = k ∧ y.m = 0 ∧ v = .slice y.p n y.c ∧ n ≤ y.c ∧ n ≤ 140737488355200) ∧ HxL (k + 1) ys vs ns
  | _, _, _, _ => False
theorem HxL.len : ∀ {k : Nat} {xs : List Itm} {LL : List Value} {ns : List Nat}, HxL k xs LL ns → xs.length = LL.length
  | _, [], [], [], _ => rfl
  | k, y :: ys, v :: vs, n :: ns, h => by simp [HxL.len h.2]
theorem HxL.at : ∀ {k : Nat} {xs : List Itm} {LL : List Value} {ns : List Nat}, HxL k xs LL ns → ∀ i y, xs[i]? = some y → y.id = k + i ∧ y.m = 0 ∧ LL[i]? = some (.slice y.p (ns.getD i 0) y.c) ∧ ns.getD i 0 ≤ y.c ∧ ns.getD i 0 ≤ 140737488355200
  | _, [], [], [], _, i, y, hi => by simp at hi
  | k, x :: ys, v :: vs, n :: ns, h, 0, y, hi => by
    simp only [List.getElem?_cons_zero, Option.some.injEq] at hi
    subst hi
    obtain ⟨h1, h2, h3, h4, h5⟩ := h.1
    exact ⟨by omega, h2, by rw [h3]; rfl, h4, h5⟩
  | k, x :: ys, v :: vs, n :: ns, h, i + 1, y, hi => by
    have := HxL.at h.2 i y (by simpa using hi)
    obtain ⟨h1, h2, h3, h4, h5⟩ := this
    exact ⟨by omega, h2, by simpa using h3, by simpa using h4, by simpa using h5⟩

/-- The call, of known parts. -/
theorem Apart_t {w0 w : World} {D : Blocks} {M : List (Nat × Ck)} (hm : Mem w0 D M w) {ts : List Nat} {xs : List Itm} (tg : Tg M ts xs) (t0 : Nat) {b n : Nat} (c : Nat) {LL : List Value} {ns : List Nat} {E : TypeId} {fz : Nat × Nat} (h0 : mget M t0 = some (.pt b (.cells LL.toArray E fz))) (hn0 : ts.contains t0 = false) (hx : HxL 0 xs LL ns) (hn : LL.length = n) (hnb : n ≤ 1000000) :
    Spec Try.prog 26 #[.slice (some ⟨b, 0, none⟩) n c] w (σ := Unit) (fun _ => True) (fun _ => .bool true) (BS xs) (fun _ => []) :=
  Apart_b w c (nf := fun i => ns.getD i 0) (hm.rowA t0 h0) hn (by rw [hx.len, hn]) (fun i y hi => by have := hx.at i y hi; simpa using this) (tg.bag hm) (tg.below hm) (fun b' o e => by cases e; exact tg.not hm h0 hn0 rfl) hnb

theorem By.spare (t : Nat) {w0 w : World} {D : Blocks} {M : List (Nat × Ck)} {b n : Nat} {E : TypeId} {fz : Nat × Nat} {l : List (BitVec 8)} (hM : mget M t = some (.pt b (.cells (bs (spareL l 40)).toArray E fz))) (hm : Mem w0 D M w) (hn : l.length = n) (hb : n ≤ 140737488355328) : By w (some ⟨b, 0, none⟩) n l := by
  have h1 := hm.holds t _ hM
  simp only [Ck.holds, spareL, bs_append] at h1
  exact ⟨RdV.row h1, hn, hb⟩
end Go.Sx

/-
  The reference's looking whether lists share memory: of lists that are writable, each in a block of its own, it says no. Conditions: at most 1000000 lists of at most 2^46 bytes.
-/
import Derived.Test.YteblmnpklcdnpaaCK
set_option linter.unusedVariables false
set_option linter.unusedSimpArgs false
namespace Go.Sx
open Go Go.Proofs

/-- The first i lists are marked whole. -/
def Ph (xs ys : List Itm) (nf : Nat → Nat) (i : Nat) : Prop := Ext xs ys ∧ ∀ k y, xs[k]? = some y → k < i → ∃ z, ys[k]? = some z ∧ nf k ≤ z.m
theorem Ph.ext {xs ys zs : List Itm} {nf : Nat → Nat} {i : Nat} (h : Ph xs ys nf i) (he : Ext ys zs) : Ph xs zs nf i :=
  ⟨h.1.trans he, fun k y hy hk => by
    obtain ⟨z, hz, hm⟩ := h.2 k y hy hk
    obtain ⟨u, hu, _, _, _, hm2⟩ := he k z hz
    exact ⟨u, hu, Nat.le_trans hm hm2⟩⟩
/-- Each grown list is marked. -/
def Good (n : Nat) (ys : List Itm) (GL : List Value) : Prop := ∀ (k : Nat) v, GL[k]? = some v → ∃ (r : Nat) (z : Itm) (nn : Nat), ys[r]? = some z ∧ v = .slice z.p nn z.c ∧ nn ≤ z.m ∧ z.id = k % n ∧ nn ≤ 140737488355328
theorem Good.ext {n : Nat} {ys zs : List Itm} {GL : List Value} (h : Good n ys GL) (he : Ext ys zs) : Good n zs GL := fun k v hv => by
  obtain ⟨r, z, nn, hz, rfl, h1, h2, h3⟩ := h k v hv
  obtain ⟨u, hu, e1, e2, e3, e4⟩ := he r z hz
  exact ⟨r, u, nn, hu, by rw [e2, e3], by omega, by rw [e1]; exact h2, h3⟩
theorem Good.snoc {n : Nat} {ys : List Itm} {GL : List Value} (h : Good n ys GL) {r : Nat} {z : Itm} {nn : Nat} (hz : ys[r]? = some z) (h1 : nn ≤ z.m) (h2 : z.id = GL.length % n) (h3 : nn ≤ 140737488355328) : Good n ys (GL ++ [.slice z.p nn z.c]) := fun k v hv => by
  by_cases hk : k < GL.length
  · rw [List.getElem?_append_left hk] at hv
    exact h k v hv
  · rw [List.getElem?_append_right (by omega)] at hv
    have hk2 : k = GL.length := by
      rcases Nat.lt_or_ge (k - GL.length) 1 with h4 | h4
      · omega
      · rw [List.getElem?_eq_none (by simpa using h4)] at hv; cases hv
    subst hk2
    rw [Nat.sub_self] at hv
    cases hv
    exact ⟨r, z, nn, hz, rfl, h1, h2, h3⟩

theorem Apart_b (w : World) {p : Option Addr} {n : Nat} (c : Nat) {LL : List Value} {xs : List Itm} {nf : Nat → Nat} (hr : RdV w p LL) (hn : LL.length = n) (hxl : xs.length = n) (hx0 : ∀ i y, xs[i]? = some y → y.id = i ∧ y.m = 0 ∧ LL[i]? = some (.slice y.p (nf i) y.c) ∧ nf i ≤ y.c ∧ nf i ≤ 140737488355200)
    (hB : Bag xs w) (hb : ∀ j, BS xs j → j < w.heap.size) (hq : ∀ b o, p = some ⟨b, o, none⟩ → ¬ BS xs b) (hnb : n ≤ 1000000) :
    Spec Try.prog 26 #[.slice p n c] w (σ := Unit) (fun _ => True) (fun _ => .bool true) (BS xs) (fun _ => []) := by
  refine enter Try.func26 rfl rfl (Mem.start1 (.fact (BS xs) (Bag xs)) hB Bag.loc hb) ?_
  have hxs : ∀ i, i < n → ∃ y, xs[i]? = some y := fun i hi => ⟨_, List.getElem?_eq_getElem (by omega)⟩
  have hpn : 0 < n → ∃ b o, p = some ⟨b, o, none⟩ := fun h0 => by
    obtain ⟨b, o, e, _⟩ := hr.place (by omega)
    exact ⟨b, o, e⟩
  have hel : ∀ {i : Nat} {ys : List Itm}, i < n → Ext xs ys → ∃ z, ys[i]? = some z ∧ z.id = i ∧ LL[i]? = some (.slice z.p (nf i) z.c) ∧ nf i ≤ z.c ∧ nf i ≤ 140737488355200 := by
    intro i ys hi he
    obtain ⟨y, hy⟩ := hxs i hi
    obtain ⟨h1, h2, h3, h4, h5⟩ := hx0 i y hy
    obtain ⟨z, hz, e1, e2, e3, e4⟩ := he i y hy
    exact ⟨z, hz, by rw [e1, h1], by rw [e2, e3]; exact h3, by rw [e3]; exact h4, h5⟩
  (repeat refine g_seq ?_)
  refine g_region ?_
  refine g_pu rfl rfl rfl (pu_assign rfl rfl) ?_
  refine g_nil ?_
  (repeat refine g_seq ?_)
  refine g_region ?_
  refine g_pu rfl rfl rfl (pu_assign rfl rfl) ?_
  refine g_nil ?_
  (repeat refine g_seq ?_)
  refine g_block (g_loop2 (fun (i : Nat) (_ : List Itm) => [(0, .slice p n c), (3, .int .i64 (i : Int))]) (fun _ ys => [(0, .fact (BS ys) (Bag ys))]) (fun i ys => i ≤ n ∧ Ph xs ys nf i) (fun i _ => n - i) 0 xs ⟨rfl, rfl, trivial⟩ ⟨rfl, trivial⟩ ⟨by omega, Ext.refl _, fun k y _ hk => by omega⟩ ?_)
  intro i ys ⟨hi, hph⟩
  by_cases hlt : i < n
  · (repeat refine g_seq ?_)
    refine g_region ?_
    refine g_pu rfl rfl rfl (pu_move rfl rfl) ?_
    refine g_pu rfl rfl rfl (pu_move rfl rfl) ?_
    first | refine g_pu rfl rfl rfl (pu_len rfl rfl) ?_ | refine g_pu rfl rfl rfl (pu_lenS rfl rfl) ?_
    first | refine g_pu rfl rfl rfl (pu_lss_t rfl rfl rfl (by omega)) ?_ | refine g_pu rfl rfl rfl (pu_lss_f rfl rfl rfl (by omega)) ?_ | refine g_pu rfl rfl rfl (pu_lss rfl rfl rfl) ?_
    refine g_nil ?_
    (repeat refine g_seq ?_)
    refine g_cond_t rfl (g_skip ?_)
    have hpn := hpn (by omega)
    obtain ⟨z0, hz0, hid0, hLL, hc0, hnf⟩ := hel hlt hph.1
    (repeat refine g_seq ?_); refine g_block ?_
    (repeat refine g_seq ?_)
    refine g_region ?_
    refine g_pu rfl rfl rfl (pu_assign rfl rfl) ?_
    refine g_nil ?_
    (repeat refine g_seq ?_)
    refine g_block (g_loop3 (fun (_ : List Itm) (z : Itm) (j : Nat) => [(0, .slice p n c), (3, .int .i64 (i : Int)), (4, .int .i64 (j : Int))]) (fun ys _ _ => [(0, .fact (BS ys) (Bag ys))]) (fun ys z j => Ph xs ys nf i ∧ ys[i]? = some z ∧ z.id = i ∧ LL[i]? = some (.slice z.p (nf i) z.c) ∧ nf i ≤ z.c ∧ j ≤ nf i ∧ j ≤ z.m) (fun _ _ j => nf i - j) ys z0 0 ⟨rfl, rfl, rfl, trivial⟩ ⟨rfl, trivial⟩ ⟨hph, hz0, hid0, hLL, hc0, by omega, by omega⟩ ?_)
    clear hph hz0 hid0 hLL hc0
    intro ys z j ⟨hph, hz, hid, hLL, hc, hj, hjm⟩
    by_cases hlj : j < nf i
    · refine g_know (φ := ∃ b o, z.p = some ⟨b, o, none⟩) (fun w' hm => ((hm.holds 0 _ rfl).1 z (List.mem_of_getElem? hz)).ex (by omega)) (fun hzn => ?_)
      (repeat refine g_seq ?_)
      refine g_region ?_
      refine g_pu rfl rfl rfl (pu_move rfl rfl) ?_
      refine g_pu rfl rfl rfl (pu_move rfl rfl) ?_
      refine g_pu rfl rfl rfl (pu_move rfl rfl) ?_
      refine g_pu rfl rfl rfl (pu_atP i hpn rfl rfl rfl rfl hlt) ?_
      refine g_pu rfl rfl rfl (pu_rdM (fun w' hm => hr.mem hm hq) rfl rfl hLL) ?_
      first | refine g_pu rfl rfl rfl (pu_len rfl rfl) ?_ | refine g_pu rfl rfl rfl (pu_lenS rfl rfl) ?_
      first | refine g_pu rfl rfl rfl (pu_lss_t rfl rfl rfl (by omega)) ?_ | refine g_pu rfl rfl rfl (pu_lss_f rfl rfl rfl (by omega)) ?_ | refine g_pu rfl rfl rfl (pu_lss rfl rfl rfl) ?_
      refine g_nil ?_
      (repeat refine g_seq ?_)
      refine g_cond_t rfl (g_skip ?_)
      (repeat refine g_seq ?_); refine g_block ?_
      (repeat refine g_seq ?_)
      refine g_any (9, []) ?_
      refine a_pu 0 rfl rfl rfl rfl (pu_move rfl rfl) rfl rfl (by kernel_rfl) ?_
      refine a_pu 1 rfl rfl rfl rfl (pu_move rfl rfl) rfl rfl (by kernel_rfl) ?_
      refine a_pu 2 rfl rfl rfl rfl (pu_atP i hpn rfl rfl rfl rfl hlt) rfl rfl (by kernel_rfl) ?_
      refine a_pu 3 rfl rfl rfl rfl (pu_rdM (fun w' hm => hr.mem hm hq) rfl rfl hLL) rfl rfl (by kernel_rfl) ?_
      refine a_pu 4 rfl rfl rfl rfl (pu_move rfl rfl) rfl rfl (by kernel_rfl) ?_
      refine a_pu 5 rfl rfl rfl rfl (pu_move rfl rfl) rfl rfl (by kernel_rfl) ?_
      refine a_pu 6 rfl rfl rfl rfl (pu_move rfl rfl) rfl rfl (by kernel_rfl) ?_
      refine a_do 7 38 [] (does_call rfl rfl rfl rfl rfl (fun w' hm => mark_b w' i j (by omega) (by omega))) rfl rfl (by kernel_rfl) rfl rfl (by kernel_rfl) (by kernel_rfl) (by kernel_rfl) rfl (fun p hp => by cases hp) ?_; rintro v_ cs_ ⟨_, _, rfl, rfl⟩
      refine a_pu 8 rfl rfl rfl rfl (pu_atP j hzn rfl rfl rfl rfl hlj) rfl rfl (by kernel_rfl) ?_
      refine a_tail [9] (by kernel_rfl) rfl rfl (by kernel_rfl) ?_
      refine g_bagStore 0 (r := i) (z := z) j rfl rfl rfl rfl (by rw [hid]; rfl) rfl hz hjm (by omega) ?_
      refine g_nil ?_
      refine g_blk ?_
      (repeat refine g_seq ?_)
      refine g_region ?_
      refine g_pu rfl rfl rfl (pu_move rfl rfl) ?_
      refine g_pu rfl rfl rfl (pu_addI rfl rfl rfl (by omega)) ?_
      refine g_pu rfl rfl rfl (pu_assign rfl rfl) ?_
      refine g_nil ?_
      have he : Ext ys (ys.set i ⟨z.id, max z.m (j + 1), z.p, z.c⟩) := Ext.set hz (by omega)
      exact g_round3 (ys.set i ⟨z.id, max z.m (j + 1), z.p, z.c⟩) (⟨z.id, max z.m (j + 1), z.p, z.c⟩ : Itm) (j + 1) ⟨hph.ext he, List.getElem?_set_self (List.getElem?_eq_some_iff.1 hz).1, hid, hLL, hc, by omega, by simp only; omega⟩ (by omega) ⟨rfl, rfl, rfl, trivial⟩ ⟨rfl, trivial⟩
    · (repeat refine g_seq ?_)
      refine g_region ?_
      refine g_pu rfl rfl rfl (pu_move rfl rfl) ?_
      refine g_pu rfl rfl rfl (pu_move rfl rfl) ?_
      refine g_pu rfl rfl rfl (pu_move rfl rfl) ?_
      refine g_pu rfl rfl rfl (pu_atP i hpn rfl rfl rfl rfl hlt) ?_
      refine g_pu rfl rfl rfl (pu_rdM (fun w' hm => hr.mem hm hq) rfl rfl hLL) ?_
      first | refine g_pu rfl rfl rfl (pu_len rfl rfl) ?_ | refine g_pu rfl rfl rfl (pu_lenS rfl rfl) ?_
      first | refine g_pu rfl rfl rfl (pu_lss_t rfl rfl rfl (by omega)) ?_ | refine g_pu rfl rfl rfl (pu_lss_f rfl rfl rfl (by omega)) ?_ | refine g_pu rfl rfl rfl (pu_lss rfl rfl rfl) ?_
      refine g_nil ?_
      (repeat refine g_seq ?_)
      refine g_cond_f rfl (g_exit rfl ?_)
      refine g_blk ?_
      (repeat refine g_seq ?_)
      refine g_region ?_
      refine g_pu rfl rfl rfl (pu_move rfl rfl) ?_
      refine g_pu rfl rfl rfl (pu_addI rfl rfl rfl (by omega)) ?_
      refine g_pu rfl rfl rfl (pu_assign rfl rfl) ?_
      refine g_nil ?_
      refine g_round2 (i + 1) ys ⟨by omega, hph.1, fun k y hy hk => ?_⟩ (by omega) ⟨rfl, rfl, trivial⟩ ⟨rfl, trivial⟩
      by_cases hki : k < i
      · exact hph.2 k y hy hki
      · have : k = i := by omega
        subst this
        exact ⟨z, hz, by omega⟩
  · (repeat refine g_seq ?_)
    refine g_region ?_
    refine g_pu rfl rfl rfl (pu_move rfl rfl) ?_
    refine g_pu rfl rfl rfl (pu_move rfl rfl) ?_
    first | refine g_pu rfl rfl rfl (pu_len rfl rfl) ?_ | refine g_pu rfl rfl rfl (pu_lenS rfl rfl) ?_
    first | refine g_pu rfl rfl rfl (pu_lss_t rfl rfl rfl (by omega)) ?_ | refine g_pu rfl rfl rfl (pu_lss_f rfl rfl rfl (by omega)) ?_ | refine g_pu rfl rfl rfl (pu_lss rfl rfl rfl) ?_
    refine g_nil ?_
    (repeat refine g_seq ?_)
    refine g_cond_f rfl (g_exit rfl ?_)
    have e1 : i = n := by omega
    subst e1
    clear hi hlt
    (repeat refine g_seq ?_)
    refine g_region ?_
    refine g_pu rfl rfl rfl (pu_assign rfl rfl) ?_
    refine g_nil ?_
    (repeat refine g_seq ?_)
    refine g_region ?_
    refine g_pu rfl rfl rfl (pu_assign rfl rfl) ?_
    refine g_nil ?_
    refine g_nilOwn 90 22 1 rfl ?_
    (repeat refine g_seq ?_)
    refine g_block (g_loop4 (fun (a : Nat) (_ : List Itm) (GL : List Value) (x : Ow) => [(0, .slice p i c), (5, x.sl a), (6, .int .i64 (a : Int))]) (fun _ ys GL x => [(0, .fact (BS ys) (Bag ys)), (90, x.ck 22 1 GL)]) (fun a ys GL _ => a ≤ i ∧ Ph xs ys nf i ∧ GL.length = a ∧ Good i ys GL ∧ GL.all isSl = true) (fun a _ _ _ => i - a) 0 ys [] ⟨none, 0⟩ ⟨rfl, rfl, rfl, trivial⟩ ⟨rfl, rfl, trivial⟩ ⟨by omega, hph, rfl, fun k v hv => by simp at hv, rfl⟩ ?_)
    clear hph
    intro a ys GL x ⟨ha, hph, hGl, hgood, hsl⟩
    by_cases hlt : a < i
    · (repeat refine g_seq ?_)
      refine g_region ?_
      refine g_pu rfl rfl rfl (pu_move rfl rfl) ?_
      refine g_pu rfl rfl rfl (pu_move rfl rfl) ?_
      first | refine g_pu rfl rfl rfl (pu_len rfl rfl) ?_ | refine g_pu rfl rfl rfl (pu_lenS rfl rfl) ?_
      first | refine g_pu rfl rfl rfl (pu_lss_t rfl rfl rfl (by omega)) ?_ | refine g_pu rfl rfl rfl (pu_lss_f rfl rfl rfl (by omega)) ?_ | refine g_pu rfl rfl rfl (pu_lss rfl rfl rfl) ?_
      refine g_nil ?_
      (repeat refine g_seq ?_)
      refine g_cond_t rfl (g_skip ?_)
      have hpn := hpn (by omega)
      obtain ⟨z0, hz0, hid0, hLL, hc0, hnf⟩ := hel hlt hph.1
      obtain ⟨y0, hy0⟩ := hxs a hlt
      obtain ⟨z1, hz1, hm1⟩ := hph.2 a y0 hy0 hlt
      rw [hz0] at hz1
      cases hz1
      (repeat refine g_seq ?_); refine g_block ?_
      (repeat refine g_seq ?_)
      refine g_region ?_
      refine g_pu rfl rfl rfl (pu_move rfl rfl) ?_
      refine g_pu rfl rfl rfl (pu_move rfl rfl) ?_
      refine g_pu rfl rfl rfl (pu_atP a hpn rfl rfl rfl rfl hlt) ?_
      refine g_pu rfl rfl rfl (pu_rdM (fun w' hm => hr.mem hm hq) rfl rfl hLL) ?_
      refine g_pu rfl rfl rfl (pu_assign rfl rfl) ?_
      refine g_nil ?_
      (repeat refine g_seq ?_)
      refine g_region ?_
      refine g_pu rfl rfl rfl (pu_assign rfl rfl) ?_
      refine g_nil ?_
      (repeat refine g_seq ?_)
      refine g_block (g_loop4 (fun (k : Nat) (_ : Nat) (z : Itm) (_ : List Itm) => [(0, .slice p i c), (5, x.sl a), (6, .int .i64 (a : Int)), (7, .slice z.p (nf a + k) z.c), (8, .int .i64 (k : Int))]) (fun _ _ _ ys => [(0, .fact (BS ys) (Bag ys)), (90, x.ck 22 1 GL)]) (fun k r z ys => k ≤ 16 ∧ Ph xs ys nf i ∧ Good i ys GL ∧ ys[r]? = some z ∧ z.id = a ∧ nf a + k ≤ z.m) (fun k _ _ _ => 16 - k) 0 a z0 ys ⟨rfl, rfl, rfl, rfl, rfl, trivial⟩ ⟨rfl, rfl, trivial⟩ ⟨by omega, hph, hgood, hz0, hid0, by omega⟩ ?_)
      clear hph hgood hz0 hm1
      intro k r z ys ⟨hk, hph, hgood, hz, hid, hm⟩
      obtain ⟨z2, hz2, hid2, hLL2, hc2, _⟩ := hel hlt hph.1
      by_cases hk16 : k < 16
      · (repeat refine g_seq ?_)
        refine g_region ?_
        refine g_pu rfl rfl rfl (pu_move rfl rfl) ?_
        first | refine g_pu rfl rfl rfl (pu_lss_t rfl rfl rfl (by omega)) ?_ | refine g_pu rfl rfl rfl (pu_lss_f rfl rfl rfl (by omega)) ?_ | refine g_pu rfl rfl rfl (pu_lss rfl rfl rfl) ?_
        refine g_nil ?_
        (repeat refine g_seq ?_)
        refine g_cond_t rfl (g_skip ?_)
        (repeat refine g_seq ?_); refine g_block ?_
        (repeat refine g_seq ?_)
        refine g_region ?_
        refine g_pu rfl rfl rfl (pu_move rfl rfl) ?_
        refine g_pu rfl rfl rfl (pu_move rfl rfl) ?_
        refine g_pu rfl rfl rfl (pu_move rfl rfl) ?_
        refine g_pu rfl rfl rfl (pu_move rfl rfl) ?_
        refine g_pu rfl rfl rfl (pu_atP a hpn rfl rfl rfl rfl hlt) ?_
        refine g_pu rfl rfl rfl (pu_rdM (fun w' hm => hr.mem hm hq) rfl rfl hLL2) ?_
        first | refine g_pu rfl rfl rfl (pu_len rfl rfl) ?_ | refine g_pu rfl rfl rfl (pu_lenS rfl rfl) ?_
        refine g_pu rfl rfl rfl (pu_move rfl rfl) ?_
        refine g_pu rfl rfl rfl (pu_addI rfl rfl rfl (by omega)) ?_
        refine g_call [] rfl rfl rfl rfl rfl rfl (fun w' hm => mark_b w' a (nf a + k) (by omega) (by omega)) (fun _ _ => ?_)
        refine g_lo [64] rfl rfl rfl rfl (lo_buildSlice rfl rfl (by decide) (by decide) rfl rfl) (fun q64 hb64 => ?_)
        refine g_bagApp 0 (r := r) (z := z) (n := nf a + k) (m := 1) rfl rfl rfl rfl rfl rfl rfl hz hm (fun w' hm => by rw [show seg z.id (nf a + k) 1 = [mk a (nf a + k)] by simp [seg, hid]]; exact hm.rowA 64 rfl) (by omega) (fun r' z' ys' hext hget hid' hm' => ?_)
        refine g_pu rfl rfl rfl (pu_assign rfl rfl) ?_
        refine g_nil ?_
        refine g_blk ?_
        (repeat refine g_seq ?_)
        refine g_region ?_
        refine g_pu rfl rfl rfl (pu_move rfl rfl) ?_
        refine g_pu rfl rfl rfl (pu_addI rfl rfl rfl (by omega)) ?_
        refine g_pu rfl rfl rfl (pu_assign rfl rfl) ?_
        refine g_nil ?_
        exact g_round4 (k + 1) r' z' ys' ⟨by omega, hph.ext hext, hgood.ext hext, hget, by rw [hid', hid], by omega⟩ (by omega) ⟨rfl, rfl, rfl, rfl, rfl, trivial⟩ ⟨rfl, rfl, trivial⟩
      · (repeat refine g_seq ?_)
        refine g_region ?_
        refine g_pu rfl rfl rfl (pu_move rfl rfl) ?_
        first | refine g_pu rfl rfl rfl (pu_lss_t rfl rfl rfl (by omega)) ?_ | refine g_pu rfl rfl rfl (pu_lss_f rfl rfl rfl (by omega)) ?_ | refine g_pu rfl rfl rfl (pu_lss rfl rfl rfl) ?_
        refine g_nil ?_
        (repeat refine g_seq ?_)
        refine g_cond_f rfl (g_exit rfl ?_)
        have ek : k = 16 := by omega
        subst ek
        (repeat refine g_seq ?_)
        refine g_region ?_
        refine g_pu rfl rfl rfl (pu_move rfl rfl) ?_
        refine g_pu rfl rfl rfl (pu_move rfl rfl) ?_
        refine g_lo [68] rfl rfl rfl rfl (lo_buildSlice rfl rfl (by decide) (by decide) rfl rfl) (fun b68 hb68 => ?_)
        refine g_append1 90 [.slice z.p (nf a + 16) z.c] rfl rfl rfl rfl rfl rfl rfl rfl (by omega) (fun w' hm => hm.rowA 68 rfl) rfl (fun u hu => by obtain rfl := List.mem_singleton.1 hu; rfl) (by omega) (by omega) (fun p' c' => ?_)
        refine g_pu rfl rfl rfl (pu_assign rfl rfl) ?_
        refine g_nil ?_
        refine g_blk ?_
        (repeat refine g_seq ?_)
        refine g_region ?_
        refine g_pu rfl rfl rfl (pu_move rfl rfl) ?_
        refine g_pu rfl rfl rfl (pu_addI rfl rfl rfl (by omega)) ?_
        refine g_pu rfl rfl rfl (pu_assign rfl rfl) ?_
        refine g_nil ?_
        exact g_round4 (a + 1) ys (GL ++ [.slice z.p (nf a + 16) z.c]) (⟨p', c'⟩ : Ow) ⟨by omega, hph, by simp [hGl], hgood.snoc hz hm (by rw [hid, hGl, Nat.mod_eq_of_lt hlt]) (by omega), by rw [List.all_append, hsl]; rfl⟩ (by omega) ⟨rfl, rfl, rfl, trivial⟩ ⟨rfl, rfl, trivial⟩
    · (repeat refine g_seq ?_)
      refine g_region ?_
      refine g_pu rfl rfl rfl (pu_move rfl rfl) ?_
      refine g_pu rfl rfl rfl (pu_move rfl rfl) ?_
      first | refine g_pu rfl rfl rfl (pu_len rfl rfl) ?_ | refine g_pu rfl rfl rfl (pu_lenS rfl rfl) ?_
      first | refine g_pu rfl rfl rfl (pu_lss_t rfl rfl rfl (by omega)) ?_ | refine g_pu rfl rfl rfl (pu_lss_f rfl rfl rfl (by omega)) ?_ | refine g_pu rfl rfl rfl (pu_lss rfl rfl rfl) ?_
      refine g_nil ?_
      (repeat refine g_seq ?_)
      refine g_cond_f rfl (g_exit rfl ?_)
      have e1 : a = i := by omega
      subst e1
      clear ha hlt
      (repeat refine g_seq ?_)
      refine g_region ?_
      refine g_pu rfl rfl rfl (pu_assign rfl rfl) ?_
      refine g_nil ?_
      (repeat refine g_seq ?_)
      refine g_block (g_loop4 (fun (b : Nat) (_ : List Itm) (GL : List Value) (x : Ow) => [(0, .slice p a c), (5, x.sl (a + b)), (9, .int .i64 (b : Int))]) (fun _ ys GL x => [(0, .fact (BS ys) (Bag ys)), (90, x.ck 22 1 GL)]) (fun b ys GL _ => b ≤ a ∧ Ph xs ys nf a ∧ GL.length = a + b ∧ Good a ys GL ∧ GL.all isSl = true) (fun b _ _ _ => a - b) 0 ys GL x ⟨rfl, rfl, rfl, trivial⟩ ⟨rfl, rfl, trivial⟩ ⟨by omega, hph, hGl, hgood, hsl⟩ ?_)
      clear hph hgood hsl hGl
      intro b ys GL x ⟨hb2, hph, hGl, hgood, hsl⟩
      by_cases hlt : b < a
      · (repeat refine g_seq ?_)
        refine g_region ?_
        refine g_pu rfl rfl rfl (pu_move rfl rfl) ?_
        refine g_pu rfl rfl rfl (pu_move rfl rfl) ?_
        first | refine g_pu rfl rfl rfl (pu_len rfl rfl) ?_ | refine g_pu rfl rfl rfl (pu_lenS rfl rfl) ?_
        first | refine g_pu rfl rfl rfl (pu_lss_t rfl rfl rfl (by omega)) ?_ | refine g_pu rfl rfl rfl (pu_lss_f rfl rfl rfl (by omega)) ?_ | refine g_pu rfl rfl rfl (pu_lss rfl rfl rfl) ?_
        refine g_nil ?_
        (repeat refine g_seq ?_)
        refine g_cond_t rfl (g_skip ?_)
        have hpn := hpn (by omega)
        obtain ⟨z0, hz0, hid0, hLL, hc0, hnf⟩ := hel hlt hph.1
        obtain ⟨y0, hy0⟩ := hxs b hlt
        obtain ⟨z1, hz1, hm1⟩ := hph.2 b y0 hy0 hlt
        rw [hz0] at hz1
        cases hz1
        have hsgl := seg_length b (nf b) 40
        (repeat refine g_seq ?_); refine g_block ?_
        (repeat refine g_seq ?_)
        refine g_region ?_
        refine g_lo [76] rfl rfl rfl rfl (lo_make (n := 40) (c := 40) rfl rfl rfl (by omega) (by omega) (by omega) rfl) (fun b76 hb76 => ?_)
        refine g_pu rfl rfl rfl (pu_assign rfl rfl) ?_
        refine g_nil ?_
        (repeat refine g_seq ?_)
        refine g_region ?_
        refine g_pu rfl rfl rfl (pu_assign rfl rfl) ?_
        refine g_nil ?_
        (repeat refine g_seq ?_)
        refine g_block (g_loop (σ := Nat) (fun k => [(0, .slice p a c), (5, x.sl (a + b)), (9, .int .i64 (b : Int)), (10, .slice (some ⟨b76, 0, none⟩) 40 40), (11, .int .i64 (k : Int))]) (fun k => [(0, .fact (BS ys) (Bag ys)), (90, x.ck 22 1 GL), (76, .pt b76 (.cells (bs (fillW 0#8 (seg b (nf b) 40) k)).toArray 5 (0, 0)))]) (fun k => k ≤ 40) (fun k => 40 - k) 0 ⟨rfl, rfl, rfl, rfl, rfl, trivial⟩ ⟨rfl, rfl, by rw [show fillW 0#8 (seg b (nf b) 40) 0 = List.replicate 40 0#8 by simp [fillW, hsgl]]; rfl, trivial⟩ (by omega) ?_)
        intro k hk
        by_cases hk40 : k < 40
        · (repeat refine g_seq ?_)
          refine g_region ?_
          refine g_pu rfl rfl rfl (pu_move rfl rfl) ?_
          first | refine g_pu rfl rfl rfl (pu_lss_t rfl rfl rfl (by omega)) ?_ | refine g_pu rfl rfl rfl (pu_lss_f rfl rfl rfl (by omega)) ?_ | refine g_pu rfl rfl rfl (pu_lss rfl rfl rfl) ?_
          refine g_nil ?_
          (repeat refine g_seq ?_)
          refine g_cond_t rfl (g_skip ?_)
          have hsg : (seg b (nf b) 40)[k]? = some (mk b (nf b + k)) := by simp [seg, hk40]
          (repeat refine g_seq ?_); refine g_block ?_
          (repeat refine g_seq ?_)
          refine g_region ?_
          refine g_pu rfl rfl rfl (pu_move rfl rfl) ?_
          refine g_pu rfl rfl rfl (pu_move rfl rfl) ?_
          refine g_pu rfl rfl rfl (pu_move rfl rfl) ?_
          refine g_pu rfl rfl rfl (pu_move rfl rfl) ?_
          refine g_pu rfl rfl rfl (pu_move rfl rfl) ?_
          refine g_pu rfl rfl rfl (pu_atP b hpn rfl rfl rfl rfl hlt) ?_
          refine g_pu rfl rfl rfl (pu_rdM (fun w' hm => hr.mem hm hq) rfl rfl hLL) ?_
          first | refine g_pu rfl rfl rfl (pu_len rfl rfl) ?_ | refine g_pu rfl rfl rfl (pu_lenS rfl rfl) ?_
          refine g_pu rfl rfl rfl (pu_move rfl rfl) ?_
          refine g_pu rfl rfl rfl (pu_addI rfl rfl rfl (by omega)) ?_
          refine g_call [] rfl rfl rfl rfl rfl rfl (fun w' hm => mark_b w' b (nf b + k) (by omega) (by omega)) (fun _ _ => ?_)
          refine g_pu rfl rfl rfl (pu_at1 k rfl rfl rfl rfl hk40) ?_
          refine g_store 76 (v := b8 (mk b (nf b + k))) rfl rfl rfl rfl rfl rfl rfl (by rw [bs_length, fillW_length, hsgl]; omega) ?_
          rw [bs_setW, fillW_set hsg]
          refine g_nil ?_
          refine g_blk ?_
          (repeat refine g_seq ?_)
          refine g_region ?_
          refine g_pu rfl rfl rfl (pu_move rfl rfl) ?_
          refine g_pu rfl rfl rfl (pu_addI rfl rfl rfl (by omega)) ?_
          refine g_pu rfl rfl rfl (pu_assign rfl rfl) ?_
          refine g_nil ?_
          exact g_round (k + 1) (by omega) (by omega) ⟨rfl, rfl, rfl, rfl, rfl, trivial⟩ ⟨rfl, rfl, rfl, trivial⟩
        · (repeat refine g_seq ?_)
          refine g_region ?_
          refine g_pu rfl rfl rfl (pu_move rfl rfl) ?_
          first | refine g_pu rfl rfl rfl (pu_lss_t rfl rfl rfl (by omega)) ?_ | refine g_pu rfl rfl rfl (pu_lss_f rfl rfl rfl (by omega)) ?_ | refine g_pu rfl rfl rfl (pu_lss rfl rfl rfl) ?_
          refine g_nil ?_
          (repeat refine g_seq ?_)
          refine g_cond_f rfl (g_exit rfl ?_)
          have ek : k = 40 := by omega
          subst ek
          have hfe : fillW 0#8 (seg b (nf b) 40) 40 = seg b (nf b) 40 := by have := fillW_end 0#8 (seg b (nf b) 40); rwa [hsgl] at this
          rw [hfe]
          (repeat refine g_seq ?_)
          refine g_region ?_
          refine g_pu rfl rfl rfl (pu_move rfl rfl) ?_
          refine g_pu rfl rfl rfl (pu_move rfl rfl) ?_
          refine g_pu rfl rfl rfl (pu_move rfl rfl) ?_
          refine g_pu rfl rfl rfl (pu_atP b hpn rfl rfl rfl rfl hlt) ?_
          refine g_pu rfl rfl rfl (pu_rdM (fun w' hm => hr.mem hm hq) rfl rfl hLL) ?_
          refine g_pu rfl rfl rfl (pu_move rfl rfl) ?_
          refine g_bagApp 0 (r := b) (z := z0) (n := nf b) (m := 40) rfl rfl rfl rfl rfl rfl rfl hz0 hm1 (fun w' hm => by rw [hid0]; exact hm.rowA 76 rfl) (by omega) (fun r' z' ys' hext hget hid' hm' => ?_)
          refine g_lo [100] rfl rfl rfl rfl (lo_buildSlice rfl rfl (by decide) (by decide) rfl rfl) (fun b100 hb100 => ?_)
          refine g_append1 90 [.slice z'.p (nf b + 40) z'.c] rfl rfl rfl rfl rfl rfl rfl rfl (by omega) (fun w' hm => hm.rowA 100 rfl) rfl (fun u hu => by obtain rfl := List.mem_singleton.1 hu; rfl) (by omega) (by omega) (fun p' c' => ?_)
          refine g_pu rfl rfl rfl (pu_assign rfl rfl) ?_
          refine g_nil ?_
          refine g_blk ?_
          (repeat refine g_seq ?_)
          refine g_region ?_
          refine g_pu rfl rfl rfl (pu_move rfl rfl) ?_
          refine g_pu rfl rfl rfl (pu_addI rfl rfl rfl (by omega)) ?_
          refine g_pu rfl rfl rfl (pu_assign rfl rfl) ?_
          refine g_nil ?_
          have hmod : (a + b) % a = b := by rw [Nat.add_mod_left]; exact Nat.mod_eq_of_lt hlt
          exact g_round4 (b + 1) ys' (GL ++ [.slice z'.p (nf b + 40) z'.c]) (⟨p', c'⟩ : Ow) ⟨by omega, hph.ext hext, by simp [hGl]; omega, (hgood.ext hext).snoc hget hm' (by rw [hid', hid0, hGl, hmod]) (by omega), by rw [List.all_append, hsl]; rfl⟩ (by omega) ⟨rfl, rfl, rfl, trivial⟩ ⟨rfl, rfl, trivial⟩
      · (repeat refine g_seq ?_)
        refine g_region ?_
        refine g_pu rfl rfl rfl (pu_move rfl rfl) ?_
        refine g_pu rfl rfl rfl (pu_move rfl rfl) ?_
        first | refine g_pu rfl rfl rfl (pu_len rfl rfl) ?_ | refine g_pu rfl rfl rfl (pu_lenS rfl rfl) ?_
        first | refine g_pu rfl rfl rfl (pu_lss_t rfl rfl rfl (by omega)) ?_ | refine g_pu rfl rfl rfl (pu_lss_f rfl rfl rfl (by omega)) ?_ | refine g_pu rfl rfl rfl (pu_lss rfl rfl rfl) ?_
        refine g_nil ?_
        (repeat refine g_seq ?_)
        refine g_cond_f rfl (g_exit rfl ?_)
        have e1 : b = a := by omega
        subst e1
        clear hb2 hlt
        (repeat refine g_seq ?_)
        refine g_region ?_
        refine g_pu rfl rfl rfl (pu_assign rfl rfl) ?_
        refine g_nil ?_
        (repeat refine g_seq ?_)
        refine g_block (g_loop (σ := Nat) (fun u => [(0, .slice p b c), (5, x.sl (b + b)), (12, .int .i64 (u : Int))]) (fun _ => [(0, .fact (BS ys) (Bag ys)), (90, x.ck 22 1 GL)]) (fun u => u ≤ b + b) (fun u => b + b - u) 0 ⟨rfl, rfl, rfl, trivial⟩ ⟨rfl, rfl, trivial⟩ (by omega) ?_)
        intro u hu
        by_cases hlt : u < b + b
        · (repeat refine g_seq ?_)
          refine g_region ?_
          refine g_pu rfl rfl rfl (pu_move rfl rfl) ?_
          refine g_pu rfl rfl rfl (pu_move rfl rfl) ?_
          first | refine g_pu rfl rfl rfl (pu_len rfl rfl) ?_ | refine g_pu rfl rfl rfl (pu_lenS rfl rfl) ?_
          first | refine g_pu rfl rfl rfl (pu_lss_t rfl rfl rfl (by omega)) ?_ | refine g_pu rfl rfl rfl (pu_lss_f rfl rfl rfl (by omega)) ?_ | refine g_pu rfl rfl rfl (pu_lss rfl rfl rfl) ?_
          refine g_nil ?_
          (repeat refine g_seq ?_)
          refine g_cond_t rfl (g_skip ?_)
          obtain ⟨v, hv⟩ : ∃ v, GL[u]? = some v := ⟨_, List.getElem?_eq_getElem (by omega)⟩
          obtain ⟨r, z, nn, hz, rfl, hnm, hid, hnn⟩ := hgood u v hv
          refine g_know (φ := ∃ b o, x.p = some ⟨b, o, none⟩) (fun w' hm => by obtain ⟨b, o, e, _⟩ := (Ow.rd (t := 90) rfl hm : RdV w' x.p GL).place (by omega); exact ⟨b, o, e⟩) (fun hxn => ?_)
          (repeat refine g_seq ?_); refine g_block ?_
          (repeat refine g_seq ?_)
          refine g_region ?_
          refine g_pu rfl rfl rfl (pu_assign rfl rfl) ?_
          refine g_nil ?_
          (repeat refine g_seq ?_)
          refine g_block (g_loop (σ := Nat) (fun j => [(0, .slice p b c), (5, x.sl (b + b)), (12, .int .i64 (u : Int)), (13, .int .i64 (j : Int))]) (fun _ => [(0, .fact (BS ys) (Bag ys)), (90, x.ck 22 1 GL)]) (fun j => j ≤ nn) (fun j => nn - j) 0 ⟨rfl, rfl, rfl, rfl, trivial⟩ ⟨rfl, rfl, trivial⟩ (by omega) ?_)
          intro j hj
          by_cases hlj : j < nn
          · refine g_know (φ := ∃ b o, z.p = some ⟨b, o, none⟩) (fun w' hm => ((hm.holds 0 _ rfl).1 z (List.mem_of_getElem? hz)).ex (by have := ((hm.holds 0 _ rfl).1 z (List.mem_of_getElem? hz)).le; omega)) (fun hzn => ?_)
            (repeat refine g_seq ?_)
            refine g_region ?_
            refine g_pu rfl rfl rfl (pu_move rfl rfl) ?_
            refine g_pu rfl rfl rfl (pu_move rfl rfl) ?_
            refine g_pu rfl rfl rfl (pu_move rfl rfl) ?_
            refine g_pu rfl rfl rfl (pu_atP u hxn rfl rfl rfl rfl hlt) ?_
            refine g_pu rfl rfl rfl (pu_rdM (fun w' hm => Ow.rd (t := 90) rfl hm) rfl rfl hv) ?_
            first | refine g_pu rfl rfl rfl (pu_len rfl rfl) ?_ | refine g_pu rfl rfl rfl (pu_lenS rfl rfl) ?_
            first | refine g_pu rfl rfl rfl (pu_lss_t rfl rfl rfl (by omega)) ?_ | refine g_pu rfl rfl rfl (pu_lss_f rfl rfl rfl (by omega)) ?_ | refine g_pu rfl rfl rfl (pu_lss rfl rfl rfl) ?_
            refine g_nil ?_
            (repeat refine g_seq ?_)
            refine g_cond_t rfl (g_skip ?_)
            (repeat refine g_seq ?_); refine g_block ?_
            (repeat refine g_seq ?_)
            refine g_any (14, []) ?_
            refine a_pu 0 rfl rfl rfl rfl (pu_move rfl rfl) rfl rfl (by kernel_rfl) ?_
            refine a_pu 1 rfl rfl rfl rfl (pu_move rfl rfl) rfl rfl (by kernel_rfl) ?_
            refine a_pu 2 rfl rfl rfl rfl (pu_atP u hxn rfl rfl rfl rfl hlt) rfl rfl (by kernel_rfl) ?_
            refine a_pu 3 rfl rfl rfl rfl (pu_rdM (fun w' hm => Ow.rd (t := 90) rfl hm) rfl rfl hv) rfl rfl (by kernel_rfl) ?_
            refine a_pu 4 rfl rfl rfl rfl (pu_move rfl rfl) rfl rfl (by kernel_rfl) ?_
            refine a_pu 5 rfl rfl rfl rfl (pu_atP j hzn rfl rfl rfl rfl hlj) rfl rfl (by kernel_rfl) ?_
            refine a_pu 6 rfl rfl rfl rfl (pu_rdM (j := j) (fun w' hm => ((hm.holds 0 _ rfl).1 z (List.mem_of_getElem? hz)).rd) rfl rfl (bs_get (mks_get (by omega)))) rfl rfl (by kernel_rfl) ?_
            refine a_pu 7 rfl rfl rfl rfl (pu_move rfl rfl) rfl rfl (by kernel_rfl) ?_
            refine a_pu 8 rfl rfl rfl rfl (pu_move rfl rfl) rfl rfl (by kernel_rfl) ?_
            first | refine a_pu 9 rfl rfl rfl rfl (pu_len rfl rfl) rfl rfl (by kernel_rfl) ?_ | refine a_pu 9 rfl rfl rfl rfl (pu_lenS rfl rfl) rfl rfl (by kernel_rfl) ?_
            refine a_pu 10 rfl rfl rfl rfl (pu_remI rfl rfl rfl (by omega)) rfl rfl (by kernel_rfl) ?_
            refine a_pu 11 rfl rfl rfl rfl (pu_move rfl rfl) rfl rfl (by kernel_rfl) ?_
            refine a_do 12 129 [] (does_call rfl rfl rfl rfl rfl (fun w' hm => mark_b w' (u % b) j (by have := Nat.mod_le u b; omega) (by omega))) rfl rfl (by kernel_rfl) rfl rfl (by kernel_rfl) (by kernel_rfl) (by kernel_rfl) rfl (fun p hp => by cases hp) ?_; rintro v_ cs_ ⟨_, _, rfl, rfl⟩
            refine a_pu 13 rfl rfl rfl rfl (pu_neq8_f rfl rfl rfl (by rw [hid])) rfl rfl (by kernel_rfl) ?_
            refine a_done (by kernel_rfl) ?_
            (repeat refine g_seq ?_)
            refine g_cond_f rfl (g_skip ?_)
            refine g_blk ?_
            (repeat refine g_seq ?_)
            refine g_region ?_
            refine g_pu rfl rfl rfl (pu_move rfl rfl) ?_
            refine g_pu rfl rfl rfl (pu_addI rfl rfl rfl (by omega)) ?_
            refine g_pu rfl rfl rfl (pu_assign rfl rfl) ?_
            refine g_nil ?_
            exact g_round (j + 1) (by omega) (by omega) ⟨rfl, rfl, rfl, rfl, trivial⟩ ⟨rfl, rfl, trivial⟩
          · (repeat refine g_seq ?_)
            refine g_region ?_
            refine g_pu rfl rfl rfl (pu_move rfl rfl) ?_
            refine g_pu rfl rfl rfl (pu_move rfl rfl) ?_
            refine g_pu rfl rfl rfl (pu_move rfl rfl) ?_
            refine g_pu rfl rfl rfl (pu_atP u hxn rfl rfl rfl rfl hlt) ?_
            refine g_pu rfl rfl rfl (pu_rdM (fun w' hm => Ow.rd (t := 90) rfl hm) rfl rfl hv) ?_
            first | refine g_pu rfl rfl rfl (pu_len rfl rfl) ?_ | refine g_pu rfl rfl rfl (pu_lenS rfl rfl) ?_
            first | refine g_pu rfl rfl rfl (pu_lss_t rfl rfl rfl (by omega)) ?_ | refine g_pu rfl rfl rfl (pu_lss_f rfl rfl rfl (by omega)) ?_ | refine g_pu rfl rfl rfl (pu_lss rfl rfl rfl) ?_
            refine g_nil ?_
            (repeat refine g_seq ?_)
            refine g_cond_f rfl (g_exit rfl ?_)
            refine g_blk ?_
            (repeat refine g_seq ?_)
            refine g_region ?_
            refine g_pu rfl rfl rfl (pu_move rfl rfl) ?_
            refine g_pu rfl rfl rfl (pu_addI rfl rfl rfl (by omega)) ?_
            refine g_pu rfl rfl rfl (pu_assign rfl rfl) ?_
            refine g_nil ?_
            exact g_round (u + 1) (by omega) (by omega) ⟨rfl, rfl, rfl, trivial⟩ ⟨rfl, rfl, trivial⟩
        · (repeat refine g_seq ?_)
          refine g_region ?_
          refine g_pu rfl rfl rfl (pu_move rfl rfl) ?_
          refine g_pu rfl rfl rfl (pu_move rfl rfl) ?_
          first | refine g_pu rfl rfl rfl (pu_len rfl rfl) ?_ | refine g_pu rfl rfl rfl (pu_lenS rfl rfl) ?_
          first | refine g_pu rfl rfl rfl (pu_lss_t rfl rfl rfl (by omega)) ?_ | refine g_pu rfl rfl rfl (pu_lss_f rfl rfl rfl (by omega)) ?_ | refine g_pu rfl rfl rfl (pu_lss rfl rfl rfl) ?_
          refine g_nil ?_
          (repeat refine g_seq ?_)
          refine g_cond_f rfl (g_exit rfl ?_)
          (repeat refine g_seq ?_)
          refine g_region ?_
          refine g_pu rfl rfl rfl (pu_assign rfl rfl) ?_
          refine g_nil ?_
          (repeat refine g_seq ?_)
          refine g_block (g_loop (σ := Nat) (fun u => [(0, .slice p b c), (14, .int .i64 (u : Int))]) (fun _ => [(0, .fact (BS ys) (Bag ys))]) (fun u => u ≤ b) (fun u => b - u) 0 ⟨rfl, rfl, trivial⟩ ⟨rfl, trivial⟩ (by omega) ?_)
          clear hu hlt
          intro u hu
          by_cases hlt : u < b
          · (repeat refine g_seq ?_)
            refine g_region ?_
            refine g_pu rfl rfl rfl (pu_move rfl rfl) ?_
            refine g_pu rfl rfl rfl (pu_move rfl rfl) ?_
            first | refine g_pu rfl rfl rfl (pu_len rfl rfl) ?_ | refine g_pu rfl rfl rfl (pu_lenS rfl rfl) ?_
            first | refine g_pu rfl rfl rfl (pu_lss_t rfl rfl rfl (by omega)) ?_ | refine g_pu rfl rfl rfl (pu_lss_f rfl rfl rfl (by omega)) ?_ | refine g_pu rfl rfl rfl (pu_lss rfl rfl rfl) ?_
            refine g_nil ?_
            (repeat refine g_seq ?_)
            refine g_cond_t rfl (g_skip ?_)
            have hpn := hpn (by omega)
            obtain ⟨z, hz, hid, hLL, hc0, hnf⟩ := hel hlt hph.1
            obtain ⟨y0, hy0⟩ := hxs u hlt
            obtain ⟨z1, hz1, hm1⟩ := hph.2 u y0 hy0 hlt
            rw [hz] at hz1
            cases hz1
            (repeat refine g_seq ?_); refine g_block ?_
            (repeat refine g_seq ?_)
            refine g_region ?_
            refine g_pu rfl rfl rfl (pu_assign rfl rfl) ?_
            refine g_nil ?_
            (repeat refine g_seq ?_)
            refine g_block (g_loop (σ := Nat) (fun j => [(0, .slice p b c), (14, .int .i64 (u : Int)), (15, .int .i64 (j : Int))]) (fun _ => [(0, .fact (BS ys) (Bag ys))]) (fun j => j ≤ nf u) (fun j => nf u - j) 0 ⟨rfl, rfl, rfl, trivial⟩ ⟨rfl, trivial⟩ (by omega) ?_)
            intro j hj
            by_cases hlj : j < nf u
            · refine g_know (φ := ∃ b o, z.p = some ⟨b, o, none⟩) (fun w' hm => ((hm.holds 0 _ rfl).1 z (List.mem_of_getElem? hz)).ex (by omega)) (fun hzn => ?_)
              (repeat refine g_seq ?_)
              refine g_region ?_
              refine g_pu rfl rfl rfl (pu_move rfl rfl) ?_
              refine g_pu rfl rfl rfl (pu_move rfl rfl) ?_
              refine g_pu rfl rfl rfl (pu_move rfl rfl) ?_
              refine g_pu rfl rfl rfl (pu_atP u hpn rfl rfl rfl rfl hlt) ?_
              refine g_pu rfl rfl rfl (pu_rdM (fun w' hm => hr.mem hm hq) rfl rfl hLL) ?_
              first | refine g_pu rfl rfl rfl (pu_len rfl rfl) ?_ | refine g_pu rfl rfl rfl (pu_lenS rfl rfl) ?_
              first | refine g_pu rfl rfl rfl (pu_lss_t rfl rfl rfl (by omega)) ?_ | refine g_pu rfl rfl rfl (pu_lss_f rfl rfl rfl (by omega)) ?_ | refine g_pu rfl rfl rfl (pu_lss rfl rfl rfl) ?_
              refine g_nil ?_
              (repeat refine g_seq ?_)
              refine g_cond_t rfl (g_skip ?_)
              (repeat refine g_seq ?_); refine g_block ?_
              (repeat refine g_seq ?_)
              refine g_any (11, []) ?_
              refine a_pu 0 rfl rfl rfl rfl (pu_move rfl rfl) rfl rfl (by kernel_rfl) ?_
              refine a_pu 1 rfl rfl rfl rfl (pu_move rfl rfl) rfl rfl (by kernel_rfl) ?_
              refine a_pu 2 rfl rfl rfl rfl (pu_atP u hpn rfl rfl rfl rfl hlt) rfl rfl (by kernel_rfl) ?_
              refine a_pu 3 rfl rfl rfl rfl (pu_rdM (fun w' hm => hr.mem hm hq) rfl rfl hLL) rfl rfl (by kernel_rfl) ?_
              refine a_pu 4 rfl rfl rfl rfl (pu_move rfl rfl) rfl rfl (by kernel_rfl) ?_
              refine a_pu 5 rfl rfl rfl rfl (pu_atP j hzn rfl rfl rfl rfl hlj) rfl rfl (by kernel_rfl) ?_
              refine a_pu 6 rfl rfl rfl rfl (pu_rdM (j := j) (fun w' hm => ((hm.holds 0 _ rfl).1 z (List.mem_of_getElem? hz)).rd) rfl rfl (bs_get (mks_get (by omega)))) rfl rfl (by kernel_rfl) ?_
              refine a_pu 7 rfl rfl rfl rfl (pu_move rfl rfl) rfl rfl (by kernel_rfl) ?_
              refine a_pu 8 rfl rfl rfl rfl (pu_move rfl rfl) rfl rfl (by kernel_rfl) ?_
              refine a_do 9 155 [] (does_call rfl rfl rfl rfl rfl (fun w' hm => mark_b w' u j (by omega) (by omega))) rfl rfl (by kernel_rfl) rfl rfl (by kernel_rfl) (by kernel_rfl) (by kernel_rfl) rfl (fun p hp => by cases hp) ?_; rintro v_ cs_ ⟨_, _, rfl, rfl⟩
              refine a_pu 10 rfl rfl rfl rfl (pu_neq8_f rfl rfl rfl (by rw [hid])) rfl rfl (by kernel_rfl) ?_
              refine a_done (by kernel_rfl) ?_
              (repeat refine g_seq ?_)
              refine g_cond_f rfl (g_skip ?_)
              refine g_blk ?_
              (repeat refine g_seq ?_)
              refine g_region ?_
              refine g_pu rfl rfl rfl (pu_move rfl rfl) ?_
              refine g_pu rfl rfl rfl (pu_addI rfl rfl rfl (by omega)) ?_
              refine g_pu rfl rfl rfl (pu_assign rfl rfl) ?_
              refine g_nil ?_
              exact g_round (j + 1) (by omega) (by omega) ⟨rfl, rfl, rfl, trivial⟩ ⟨rfl, trivial⟩
            · (repeat refine g_seq ?_)
              refine g_region ?_
              refine g_pu rfl rfl rfl (pu_move rfl rfl) ?_
              refine g_pu rfl rfl rfl (pu_move rfl rfl) ?_
              refine g_pu rfl rfl rfl (pu_move rfl rfl) ?_
              refine g_pu rfl rfl rfl (pu_atP u hpn rfl rfl rfl rfl hlt) ?_
              refine g_pu rfl rfl rfl (pu_rdM (fun w' hm => hr.mem hm hq) rfl rfl hLL) ?_
              first | refine g_pu rfl rfl rfl (pu_len rfl rfl) ?_ | refine g_pu rfl rfl rfl (pu_lenS rfl rfl) ?_
              first | refine g_pu rfl rfl rfl (pu_lss_t rfl rfl rfl (by omega)) ?_ | refine g_pu rfl rfl rfl (pu_lss_f rfl rfl rfl (by omega)) ?_ | refine g_pu rfl rfl rfl (pu_lss rfl rfl rfl) ?_
              refine g_nil ?_
              (repeat refine g_seq ?_)
              refine g_cond_f rfl (g_exit rfl ?_)
              refine g_blk ?_
              (repeat refine g_seq ?_)
              refine g_region ?_
              refine g_pu rfl rfl rfl (pu_move rfl rfl) ?_
              refine g_pu rfl rfl rfl (pu_addI rfl rfl rfl (by omega)) ?_
              refine g_pu rfl rfl rfl (pu_assign rfl rfl) ?_
              refine g_nil ?_
              exact g_round (u + 1) (by omega) (by omega) ⟨rfl, rfl, trivial⟩ ⟨rfl, trivial⟩
          · (repeat refine g_seq ?_)
            refine g_region ?_
            refine g_pu rfl rfl rfl (pu_move rfl rfl) ?_
            refine g_pu rfl rfl rfl (pu_move rfl rfl) ?_
            first | refine g_pu rfl rfl rfl (pu_len rfl rfl) ?_ | refine g_pu rfl rfl rfl (pu_lenS rfl rfl) ?_
            first | refine g_pu rfl rfl rfl (pu_lss_t rfl rfl rfl (by omega)) ?_ | refine g_pu rfl rfl rfl (pu_lss_f rfl rfl rfl (by omega)) ?_ | refine g_pu rfl rfl rfl (pu_lss rfl rfl rfl) ?_
            refine g_nil ?_
            (repeat refine g_seq ?_)
            refine g_cond_f rfl (g_exit rfl ?_)
            (repeat refine g_seq ?_)
            refine g_region ?_
            refine g_pu rfl rfl rfl (pu_assign rfl rfl) ?_
            refine g_nil ?_
            exact g_ret1 rfl rfl (fun w' hm => ⟨(), trivial, rfl, hm.grows [] trivial rfl⟩)
end Go.Sx

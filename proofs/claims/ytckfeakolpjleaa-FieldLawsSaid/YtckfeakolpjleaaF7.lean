/-
  The field's powers. The numbers are below 2^256.
-/
import Derived.Test.YtckfeakolpjleaaF6
set_option linter.unusedVariables false
set_option linter.unusedSimpArgs false
namespace Go.Sx
open Go Go.Proofs Go.RowKit

/-- One byte's bits, the highest first. -/
def bitE (h x j : Nat) : Nat := h * 2 ^ j + x / 2 ^ (8 - j)
theorem bitE_0 {h x : Nat} (hx : x < 256) : bitE h x 0 = h := by unfold bitE; simp; omega
theorem bitE_8 (h x : Nat) : bitE h x 8 = h * 256 + x := by unfold bitE; simp
theorem bitE_step (h x : Nat) {j : Nat} (hj : j < 8) : bitE h x (j + 1) = 2 * bitE h x j + x / 2 ^ (7 - j) % 2 := by
  unfold bitE
  rw [show 8 - j = 7 - j + 1 by omega, show 8 - (j + 1) = 7 - j by omega, Nat.pow_succ 2 (7 - j), ← Nat.div_div_eq_div_mul, Nat.pow_succ, ← Nat.mul_assoc]
  omega
theorem sq_pow {v a E : Nat} (h : v % 57896044618658097711785492504343953926634992332820282019728792003956564819949 = a ^ E % 57896044618658097711785492504343953926634992332820282019728792003956564819949) : (v * v) % 57896044618658097711785492504343953926634992332820282019728792003956564819949 = a ^ (2 * E) % 57896044618658097711785492504343953926634992332820282019728792003956564819949 := by
  rw [mulmod h h, ← Nat.pow_add, show E + E = 2 * E by omega]
theorem sq_pow1 {v a E : Nat} (h : v % 57896044618658097711785492504343953926634992332820282019728792003956564819949 = a ^ E % 57896044618658097711785492504343953926634992332820282019728792003956564819949) : (v * a) % 57896044618658097711785492504343953926634992332820282019728792003956564819949 = a ^ (E + 1) % 57896044618658097711785492504343953926634992332820282019728792003956564819949 := by
  rw [mulmod h rfl, Nat.pow_succ]
theorem bit_and (x : BitVec 8) (s : Nat) : ((x >>> s &&& 1#8) = 1#8) ↔ x.toNat / 2 ^ s % 2 = 1 := by
  have e1 : (x >>> s &&& 1#8).toNat = x.toNat / 2 ^ s % 2 := by
    rw [BitVec.toNat_and, BitVec.toNat_ushiftRight, Nat.shiftRight_eq_div_pow, show (1#8).toNat = 2 ^ 1 - 1 from rfl, Nat.and_two_pow_sub_one_eq_mod]
  constructor
  · intro h; rw [← e1, h]; rfl
  · intro h; apply BitVec.eq_of_toNat_eq; rw [e1, h]; rfl

theorem Power_b (w : World) (a : Nat) (ha : a < 115792089237316195423570985008687907853269984665640564039457584007913129639936) {p : Option Addr} {n : Nat} (c : Nat) {l : List (BitVec 8)} (hby : By w p n l) :
    Spec Try.prog 12 #[.agg (el a).toArray, .slice p n c] w (σ := Unit) (fun _ => True) (fun _ => .agg (el (a ^ numB l % 57896044618658097711785492504343953926634992332820282019728792003956564819949)).toArray) Nob (fun _ => []) := by
  have hl := hby.len
  have hT : ∀ t c, mget ([] : List (Nat × Ck)) t = some c → False := fun t c h => by cases h
  refine enterR (l := [.agg (el a).toArray, .slice p n c]) 5 Try.func12 rfl rfl ?_
  (repeat refine r_seq ?_)
  refine r_region ?_
  refine r_lo [2] rfl rfl rfl rfl rfl (lo_box rfl rfl) (fun b2 hb2 => ?_)
  refine r_lo [4] rfl rfl rfl rfl rfl (lo_alloc rfl) (fun b4 hb4 => ?_)
  refine r_nil ?_
  (repeat refine r_seq ?_)
  refine r_region ?_
  refine r_call [] rfl rfl rfl rfl rfl rfl rfl (fun w' hm => Of_b w' 1#64) (fun _ _ => ?_)
  refine r_lo [5] rfl rfl rfl rfl rfl (lo_alloc rfl) (fun b5 hb5 => ?_)
  refine r_st rfl rfl rfl (st_storeL 5 (s := 4) (C := el 1) rfl rfl rfl rfl rfl rfl (oneCell_el _)) ?_
  refine r_nil ?_
  (repeat refine r_seq ?_)
  refine r_region ?_
  refine r_pu rfl rfl rfl rfl (pu_move rfl rfl) ?_
  refine r_call [11] rfl rfl rfl rfl rfl rfl rfl (fun w' hm => Backward_b w' p n c) (fun bb hbb => ?_)
  refine r_nil ?_
  (repeat refine r_seq ?_)
  refine r_block ?_
  refine r_sub (e' := [(2, .pointer (some ⟨b2, 0, none⟩)), (4, .pointer (some ⟨b4, 0, none⟩)), (5, .pointer (some ⟨b5, 0, none⟩)), (11, .func (.func 48) #[] #[.pointer (some ⟨bb, 0, none⟩)])])
    (M' := [(2, .pt b2 (.cells (el a).toArray 28 (0, 0))), (4, .pt b4 (.cells (qs [0#64, 0#64, 0#64, 0#64]).toArray 28 (0, 0))), (5, .pt b5 (.cells (el 1).toArray 28 (0, 0))), (11, .pt bb (.cells #[.slice p n c] 25 (0, 0)))]) ⟨rfl, rfl, rfl, rfl, trivial⟩ ⟨rfl, rfl, rfl, rfl, trivial⟩ ?_
  intro act w1 hs hm
  simp only [extR]
  have hrows : ∀ v t c', mget [(2, Ck.pt b2 (.cells (el a).toArray 28 (0, 0))), (4, .pt b4 (.cells (qs [0#64, 0#64, 0#64, 0#64]).toArray 28 (0, 0))), (5, .pt b5 (.cells (el v).toArray 28 (0, 0))), (11, .pt bb (.cells #[.slice p n c] 25 (0, 0)))] t = some c' → ∃ b cs E fz, c' = .pt b (.cells cs E fz) := by
    intro v t c' h
    rw [mget_cons, mget_cons, mget_cons, mget_cons] at h
    split at h
    · cases h; exact ⟨_, _, _, _, rfl⟩
    · split at h
      · cases h; exact ⟨_, _, _, _, rfl⟩
      · split at h
        · cases h; exact ⟨_, _, _, _, rfl⟩
        · split at h
          · cases h; exact ⟨_, _, _, _, rfl⟩
          · simp [mget] at h
  have h5of : ∀ {v : Nat} {W : World}, Mem w Nob [(2, Ck.pt b2 (.cells (el a).toArray 28 (0, 0))), (4, .pt b4 (.cells (qs [0#64, 0#64, 0#64, 0#64]).toArray 28 (0, 0))), (5, .pt b5 (.cells (el v).toArray 28 (0, 0))), (11, .pt bb (.cells #[.slice p n c] 25 (0, 0)))] W →
      b2 ≠ b5 ∧ bb ≠ b5 ∧ bb ≠ b2 ∧ w.heap.size ≤ b2 ∧ w.heap.size ≤ b5 ∧ w.heap.size ≤ bb := fun h =>
    ⟨fun e => h.apart 2 _ 5 _ rfl rfl (by decide) b2 rfl e, fun e => h.apart 11 _ 5 _ rfl rfl (by decide) bb rfl e, fun e => h.apart 11 _ 2 _ rfl rfl (by decide) bb rfl e,
      (h.above 2 _ rfl b2 rfl).resolve_right (fun h => h), (h.above 5 _ rfl b5 rfl).resolve_right (fun h => h), (h.above 11 _ rfl bb rfl).resolve_right (fun h => h)⟩
  refine wpIn_rangeFunc_ownF (α := Nat × BitVec 8) (gf := 48) (lb := #[.pointer (some ⟨bb, 0, none⟩)]) rfl (by decide) (hs.eval rfl) trivial enters_cal (encs := encB) (Kp := KpB w.heap.size bb) (S := fun xs => xs = back l) (Sp := fun _ => True) (N := l.length) (w0 := w1)
    (back_stops 4 w.heap.size w1 c hm.size (hm.holds 11 _ rfl) (hby.m (hm.sub (M' := []) (fun _ h => by cases h))) (fun b o e hL => by subst e; exact hby.rd.lt hL))
    (fun h k => h.trans k) (fun W ll o o' hle ho _ _ => ⟨⟨rfl, rfl, rfl, by simp, fun k hk => World.putObj_heap_other (by have := hm.size; omega)⟩, World.putObj_heap_other (by have := hm.below 11 _ rfl bb rfl; omega)⟩)
    (Below.refl _ _) (fun _ => rfl)
    (fun pre W => ∃ v, v < 115792089237316195423570985008687907853269984665640564039457584007913129639936 ∧ v % 57896044618658097711785492504343953926634992332820282019728792003956564819949 = a ^ hornB 0 pre % 57896044618658097711785492504343953926634992332820282019728792003956564819949 ∧ Mem w Nob [(2, Ck.pt b2 (.cells (el a).toArray 28 (0, 0))), (4, .pt b4 (.cells (qs [0#64, 0#64, 0#64, 0#64]).toArray 28 (0, 0))), (5, .pt b5 (.cells (el v).toArray 28 (0, 0))), (11, .pt bb (.cells #[.slice p n c] 25 (0, 0)))] W)
    (fun _ _ _ => False)
    (fun s W W' row hI hg hr => by
      obtain ⟨v, h1, h2, h3⟩ := hI
      exact ⟨v, h1, h2, h3.own (hrows v) hm.size hg hr⟩)
    (fun _ _ _ _ _ h _ _ => h) ⟨1, by decide, rfl, hm⟩
    (fun x => Act.put { tmps := ((#[12, 13] : Array Nat).zip (encB x)).foldl (fun t (p, v) => t.setIfInBounds p v) act.tmps, defers := [] } (some 7) (b8 x.2)) ?assign ?body ?done ?stop
  case assign =>
    intro ll x W K hK
    refine wpIn_region_lit ?_
    refine wpListIn_plain rfl fun K2 hK2 => ?_
    refine ⟨fun _ _ => trivial, ?_⟩
    rw [Oper.semAt_plain _ _ _ (notDefer_spec rfl)]
    have hev : Act.eval { tmps := ((#[12, 13] : Array Nat).zip (encB x)).foldl (fun t (p, v) => t.setIfInBounds p v) act.tmps, defers := [] } (.tmp 13) = b8 x.2 := by
      have hsz := hs.size
      have h13 : 13 < act.tmps.size := by rw [hsz]; decide
      simp [Act.eval, encB, Array.getElem?_setIfInBounds, h13]
    rw [run_asg rfl hev]
    exact hK2 _ _ (wpListIn_nil hK)
  case body =>
    rintro ll pre x W ⟨v, hv, hvE, hmW⟩ hlen
    obtain ⟨n25, nb5, nb2, a2, a5, ab⟩ := h5of hmW
    have hsz := hs.size
    have hs7 : SatD [] Try.f12.ntmps [(2, .pointer (some ⟨b2, 0, none⟩)), (5, .pointer (some ⟨b5, 0, none⟩)), (7, b8 x.2)] (Act.put { tmps := ((#[12, 13] : Array Nat).zip (encB x)).foldl (fun t (p, v) => t.setIfInBounds p v) act.tmps, defers := [] } (some 7) (b8 x.2)) := by
      refine ⟨by simp [Act.put, encB, hsz], rfl, fun i u hi => ?_⟩
      have g2 := hs.slot 2 _ rfl
      have g5 := hs.slot 5 _ rfl
      have h7 : 7 < act.tmps.size := by rw [hsz]; decide
      rw [get_cons, get_cons, get_cons] at hi
      split at hi
      · rename_i e; subst e; cases hi; simp [Act.put, encB, g2]
      · split at hi
        · rename_i e; subst e; cases hi; simp [Act.put, encB, g5]
        · split at hi
          · rename_i e; subst e; cases hi; simp [Act.put, encB, h7]
          · simp [get] at hi
    have hstart := Mem.start2 (w := W) (.pt b2 (.cells (el a).toArray 28 (0, 0))) (.pt b5 (.cells (el v).toArray 28 (0, 0))) (hmW.holds 2 _ rfl) trivial (fun j hj => hmW.below 2 _ rfl j hj) (hmW.holds 5 _ rfl) trivial (fun j hj => hmW.below 5 _ rfl j hj) (hmW.apart 2 _ 5 _ rfl rfl (by decide))
    have hx := x.2.isLt
    have hapD : ∀ j, (j = b2 ∨ j = b5) → w.heap.size ≤ j := fun j hj => by rcases hj with rfl | rfl <;> assumption
    refine r_to (ro := some ll) (N := Try.f12.ntmps) (Q := fun ex _ W' => ex = .normal ∧ ∃ v', v' < 115792089237316195423570985008687907853269984665640564039457584007913129639936 ∧ v' % 57896044618658097711785492504343953926634992332820282019728792003956564819949 = a ^ hornB 0 (pre ++ [x]) % 57896044618658097711785492504343953926634992332820282019728792003956564819949 ∧ Mem W (fun j => (j = b2) ∨ (j = b5)) [(0, .pt b2 (.cells (el a).toArray 28 (0, 0))), (1, .pt b5 (.cells (el v').toArray 28 (0, 0)))] W')
      hs7 hstart ?_ ?_
    · refine r_block ?_
      (repeat refine r_seq ?_)
      refine r_region ?_
      refine r_pu rfl rfl rfl rfl (pu_assign rfl rfl) ?_
      refine r_nil ?_
      refine r_block ?_
      refine r_loop (σ := Nat × Nat) (fun s => [(2, .pointer (some ⟨b2, 0, none⟩)), (5, .pointer (some ⟨b5, 0, none⟩)), (7, b8 x.2), (8, .int .i64 (7 - (s.1 : Int)))]) (fun s => [(0, .pt b2 (.cells (el a).toArray 28 (0, 0))), (1, .pt b5 (.cells (el s.2).toArray 28 (0, 0)))])
        (fun s => s.1 ≤ 8 ∧ s.2 < 115792089237316195423570985008687907853269984665640564039457584007913129639936 ∧ s.2 % 57896044618658097711785492504343953926634992332820282019728792003956564819949 = a ^ bitE (hornB 0 pre) x.2.toNat s.1 % 57896044618658097711785492504343953926634992332820282019728792003956564819949) (fun s => 8 - s.1) (0, v) ⟨rfl, rfl, rfl, rfl, trivial⟩ ⟨rfl, rfl, trivial⟩ ⟨Nat.zero_le _, hv, by rw [bitE_0 hx]; exact hvE⟩ ?_
      rintro ⟨j, u⟩ ⟨hj, hu, huE⟩
      have hj : j ≤ 8 := hj
      have hu : u < 115792089237316195423570985008687907853269984665640564039457584007913129639936 := hu
      have huE : u % 57896044618658097711785492504343953926634992332820282019728792003956564819949 = a ^ bitE (hornB 0 pre) x.2.toNat j % 57896044618658097711785492504343953926634992332820282019728792003956564819949 := huE
      (repeat refine r_seq ?_)
      refine r_region ?_
      refine r_pu rfl rfl rfl rfl (pu_move rfl rfl) ?_
      by_cases hj8 : j < 8
      · refine r_pu rfl rfl rfl rfl (pu_geq_t rfl rfl rfl (by omega)) ?_
        refine r_nil ?_
        (repeat refine r_seq ?_)
        refine r_cond_t rfl (r_skip ?_)
        (repeat refine r_seq ?_)
        refine r_block ?_
        (repeat refine r_seq ?_)
        refine r_region ?_
        refine r_pu rfl rfl rfl rfl (pu_loadW 1 (L := el u) rfl rfl rfl rfl) ?_
        refine r_pu rfl rfl rfl rfl (pu_loadW 1 (L := el u) rfl rfl rfl rfl) ?_
        refine r_call [] rfl rfl rfl rfl rfl rfl rfl (fun w' hm => mulE_b w' u u hu hu) (fun _ _ => ?_)
        refine r_st rfl rfl rfl (st_storeL 1 (s := 4) (C := el (mulN u u)) rfl rfl rfl rfl rfl rfl (oneCell_el _)) ?_
        refine r_nil ?_
        (repeat refine r_seq ?_)
        refine r_region ?_
        refine r_pu rfl rfl rfl rfl (pu_move rfl rfl) ?_
        refine r_pu rfl rfl rfl rfl (pu_move rfl rfl) ?_
        refine r_pu rfl rfl rfl rfl (pu_shr8 rfl rfl rfl (by omega)) ?_
        rw [show (7 - (j : Int)).toNat = 7 - j by omega]
        refine r_pu rfl rfl rfl rfl (pu_and8 (b := 1#8) rfl rfl rfl) ?_
        have hm1 := mulN_mod hu hu
        have hl1 := mulN_lt hu hu
        have hst := bitE_step (hornB 0 pre) x.2.toNat hj8
        have hb := bit_and x.2 (7 - j)
        by_cases hbit : x.2.toNat / 2 ^ (7 - j) % 2 = 1
        · refine r_pu rfl rfl rfl rfl (pu_eql8_t (b := 1#8) rfl rfl rfl (hb.2 hbit)) ?_
          refine r_nil ?_
          (repeat refine r_seq ?_)
          refine r_cond_t rfl ?_
          (repeat refine r_seq ?_)
          refine r_region ?_
          refine r_pu rfl rfl rfl rfl (pu_loadW 1 (L := el (mulN u u)) rfl rfl rfl rfl) ?_
          refine r_pu rfl rfl rfl rfl (pu_loadW 0 (L := el a) rfl rfl rfl rfl) ?_
          refine r_call [] rfl rfl rfl rfl rfl rfl rfl (fun w' hm => mulE_b w' _ a hl1 ha) (fun _ _ => ?_)
          refine r_st rfl rfl rfl (st_storeL 1 (s := 4) (C := el (mulN (mulN u u) a)) rfl rfl rfl rfl rfl rfl (oneCell_el _)) ?_
          refine r_nil ?_
          refine r_blk ?_
          (repeat refine r_seq ?_)
          refine r_region ?_
          refine r_pu rfl rfl rfl rfl (pu_move rfl rfl) ?_
          refine r_pu rfl rfl rfl rfl (pu_subI rfl rfl rfl (by omega)) ?_
          refine r_pu rfl rfl rfl rfl (pu_assign rfl rfl) ?_
          refine r_nil ?_
          refine r_round (j + 1, mulN (mulN u u) a) ⟨show j + 1 ≤ 8 from hj8, mulN_lt hl1 ha, ?_⟩ (show 8 - (j + 1) < 8 - j by omega) ⟨rfl, rfl, rfl, congrArg (fun z => some (Value.int .i64 z)) (show 7 - (j : Int) - 1 = 7 - ((j + 1 : Nat) : Int) by omega), trivial⟩ ⟨rfl, rfl, trivial⟩
          dsimp only
          rw [mulN_mod hl1 ha, hst, hbit]
          exact sq_pow1 (by rw [hm1]; exact sq_pow huE)
        · refine r_pu rfl rfl rfl rfl (pu_eql8_f (b := 1#8) rfl rfl rfl (fun h => hbit (hb.1 h))) ?_
          refine r_nil ?_
          (repeat refine r_seq ?_)
          refine r_cond_f rfl (r_skip ?_)
          refine r_blk ?_
          (repeat refine r_seq ?_)
          refine r_region ?_
          refine r_pu rfl rfl rfl rfl (pu_move rfl rfl) ?_
          refine r_pu rfl rfl rfl rfl (pu_subI rfl rfl rfl (by omega)) ?_
          refine r_pu rfl rfl rfl rfl (pu_assign rfl rfl) ?_
          refine r_nil ?_
          refine r_round (j + 1, mulN u u) ⟨show j + 1 ≤ 8 from hj8, hl1, ?_⟩ (show 8 - (j + 1) < 8 - j by omega) ⟨rfl, rfl, rfl, congrArg (fun z => some (Value.int .i64 z)) (show 7 - (j : Int) - 1 = 7 - ((j + 1 : Nat) : Int) by omega), trivial⟩ ⟨rfl, rfl, trivial⟩
          dsimp only
          rw [hm1, hst, show x.2.toNat / 2 ^ (7 - j) % 2 = 0 by omega, Nat.add_zero]
          exact sq_pow huE
      · refine r_pu rfl rfl rfl rfl (pu_geq_f rfl rfl rfl (by omega)) ?_
        refine r_nil ?_
        (repeat refine r_seq ?_)
        refine r_cond_f rfl (r_exit rfl ?_)
        have e8 : j = 8 := by omega
        subst e8
        refine r_blk ?_
        refine r_end fun a3 w3 hs3 hm3 => ⟨rfl, u, hu, ?_, hm3⟩
        rw [huE, bitE_8, hornB_snoc]
    · rintro ex a3 W' ⟨rfl, v', hv', hvE', hm3⟩
      have hsame : ∀ j, j < W.heap.size → ¬ (j = b2 ∨ j = b5) → W'.heap[j]? = W.heap[j]? := fun j hj hn => hm3.keep j hj hn
      have h2W' : W'.heap[b2]? = W.heap[b2]? := (hm3.holds 0 _ rfl).trans (hmW.holds 2 _ rfl).symm
      refine ⟨⟨hm3.size, fun j o hj ho => ?_⟩, ⟨⟨hm3.os, hm3.tape, hm3.output, hm3.size, fun j hj => hsame j (Nat.lt_of_lt_of_le hj hmW.size) (fun h => by have := hapD j h; omega)⟩, hsame bb (hmW.below 11 _ rfl bb rfl) (fun h => by rcases h with h | h; exact nb2 h; exact nb5 h)⟩, v', hv', hvE', ?_⟩
      · by_cases h2 : j = b2
        · subst h2; have := hmW.holds 2 _ rfl; simp only [Ck.holds] at this; rw [this] at hj; cases hj; cases ho
        · by_cases h5 : j = b5
          · subst h5; have := hmW.holds 5 _ rfl; simp only [Ck.holds] at this; rw [this] at hj; cases hj; cases ho
          · rw [hsame j (lt_of_some hj) (fun h => h.elim h2 h5)]; exact hj
      · refine (hmW.swap 5 _ (.pt b5 (.cells (el v').toArray 28 (0, 0))) rfl hm3.os hm3.tape hm3.output hm3.size (fun j hj hn => ?_) (hm3.holds 1 _ rfl) trivial (fun j hj => hm3.below 1 _ rfl j hj) (fun j hj => .inl hj)).sub (SubM.all (M' := [(2, Ck.pt b2 (.cells (el a).toArray 28 (0, 0))), (4, .pt b4 (.cells (qs [0#64, 0#64, 0#64, 0#64]).toArray 28 (0, 0))), (5, .pt b5 (.cells (el v').toArray 28 (0, 0))), (11, .pt bb (.cells #[.slice p n c] 25 (0, 0)))]) ⟨rfl, rfl, rfl, rfl, trivial⟩)
        by_cases h2 : j = b2
        · subst h2; exact h2W'
        · exact hsame j hj (fun h => h.elim h2 hn)
  case done =>
    intro D xs W hD hxs ⟨v, hv, hvE, hmW⟩ hDf
    subst hxs
    rw [hornB_num] at hvE
    have hmD := hmW.also 99 D (.deferred (some [])) hDf (Nat.le_trans hm.size hD) (fun s c' hsc hcb => by
      obtain ⟨b, cs, E, fz, rfl⟩ := hrows v s c' hsc
      have hh := hmW.holds s _ hsc
      simp only [Ck.holds] at hh
      have e1 : D = b := hcb
      rw [e1] at hDf
      rw [hDf] at hh
      cases hh)
    have hs2 : SatD [{ target := .collected D, args := #[] }] Try.f12.ntmps [(4, .pointer (some ⟨b4, 0, none⟩)), (5, .pointer (some ⟨b5, 0, none⟩))] { act with defers := { target := .collected D, args := #[] } :: act.defers } := by
      refine ⟨hs.size, by simp [hs.defers], fun i u hi => ?_⟩
      rw [get_cons, get_cons] at hi
      split at hi
      · rename_i e; subst e; cases hi; exact hs.slot 4 _ rfl
      · split at hi
        · rename_i e; subst e; cases hi; exact hs.slot 5 _ rfl
        · simp [get] at hi
    refine r_go hs2 (hmD.sub (SubM.all (M' := [(99, Ck.pt D (.deferred (some []))), (4, .pt b4 (.cells (qs [0#64, 0#64, 0#64, 0#64]).toArray 28 (0, 0))), (5, .pt b5 (.cells (el v).toArray 28 (0, 0)))]) ⟨rfl, rfl, rfl, trivial⟩)) ?_
    refine r_blk ?_
    (repeat refine r_seq ?_)
    refine r_region ?_
    refine r_pu rfl rfl rfl rfl (pu_loadW 5 (L := el v) rfl rfl rfl rfl) ?_
    refine r_call [] rfl rfl rfl rfl rfl rfl rfl (fun w' hm => Norm_b w' v hv) (fun _ _ => ?_)
    refine r_st rfl rfl rfl (st_storeL 4 (s := 4) (C := el (v % 57896044618658097711785492504343953926634992332820282019728792003956564819949)) rfl rfl rfl rfl rfl rfl (oneCell_el _)) ?_
    refine r_nil ?_
    refine r_ret fun a3 w3 hs3 hm3 => ?_
    show LeavesInM _ _ _ _ _ _ a3.defers _ _
    rw [hs3.defers]
    have hD3 := hm3.holds 99 _ rfl
    have h43 := hm3.holds 4 _ rfl
    simp only [Ck.holds] at hD3 h43
    have hne : b4 ≠ D := fun e => by rw [e] at h43; rw [hD3] at h43; cases h43
    refine ⟨by simp, .inl ⟨D, _, rfl, run_takeDeferred hD3, ?_⟩⟩
    have h44 : (w3.putObj D (.deferred none)).heap[b4]? = some (.cells (el (v % 57896044618658097711785492504343953926634992332820282019728792003956564819949)).toArray 28 (0, 0)) := (World.putObj_heap_other hne).trans h43
    have h5 := hs3.slot 4 _ rfl
    refine ⟨.agg (el (v % 57896044618658097711785492504343953926634992332820282019728792003956564819949)).toArray, ?_, (), trivial, by rw [hvE], ?_⟩
    · have h2 := run_loadVarL (P := Try.prog) (ty := 28) (L := el (v % 57896044618658097711785492504343953926634992332820282019728792003956564819949)) rfl h44
      have h6 : Try.f12.results = #[.cell 4 28] := rfl
      have h7 : a3.tmps.getD 4 undef = .pointer (some ⟨b4, 0, none⟩) := by simp [h5]
      simp only [Array.getD_eq_getD_getElem?] at h7
      simp [results, h6, h7, asAddr, h2]
    · have hg := hm3.grows [] (cs := []) trivial rfl
      refine ⟨hg.os, hg.tape, hg.output, by simpa using hg.size, fun j hj hn => ?_, fun _ h => (by cases h), fun _ h => (by cases h), fun _ h => (by cases h), fun _ h => (by cases h), List.Pairwise.nil⟩
      rw [World.putObj_heap_other (by have := (hm3.above 99 _ rfl D rfl).resolve_right (fun h => h); omega)]
      exact hg.keep j hj hn
  case stop =>
    intro D cd pre W _ _ h _
    exact h.elim
end Go.Sx

import Derived.Test.YtfbcmndhjoebbaaZdGFA
set_option linter.unusedVariables false
set_option linter.unusedSimpArgs false
/-
  A range over a slice's bytes backwards (slices.Backward), and the field's powers. The numbers are below 2^256.
-/
namespace Go.Sx
open Go Go.Proofs Go.RowKit

section
variable {P : Program} {N : Nat} {w0 : World} {D : Blocks} {e : List (Nat × Value)} {M : List (Nat × Ck)} {o : Oper}
theorem pu_makeFunc {f : FuncId} {x : Operand} {v : Value} (ho : o.op = .makeFunc (.func f) #[] #[x]) (hx : ev e x = some v) : Pu P N w0 D e M o (.func (.func f) #[] #[v]) := fun a w hs hm => by
  simp [execOp, ho, hs.eval hx, Instr.makeFunc]
theorem enters_cal {f : FuncId} [hc : Cal P f] (args : Array Value) (w : World) : (callFunc f args).run P w = .ok (.enter f args) w := by
  obtain ⟨g, h1, h2, h3⟩ := hc.h
  simp only [callFunc, Sem.run_bind, run_program, h1, Result.andThen_ok, h2, h3, Bool.false_eq_true, if_false]
  simp [mark]
end

/-- The places and bytes, the last first. -/
def back (l : List (BitVec 8)) : List (Nat × BitVec 8) := (l.zipIdx.map fun p => (p.2, p.1)).reverse
theorem back_take {l : List (BitVec 8)} {k : Nat} {x : BitVec 8} (h : l[k]? = some x) : back (l.take (k + 1)) = (k, x) :: back (l.take k) := by
  have hk := (List.getElem?_eq_some_iff.1 h).1
  unfold back
  rw [List.take_add_one, h]
  simp [List.zipIdx_append, Nat.min_eq_left (Nat.le_of_lt hk)]
theorem back_length (l : List (BitVec 8)) : (back l).length = l.length := by simp [back]
/-- Horner's way through the bytes. -/
def hornB : Nat → List (Nat × BitVec 8) → Nat
  | acc, [] => acc
  | acc, x :: r => hornB (acc * 256 + x.2.toNat) r
theorem hornB_back : ∀ {l : List (BitVec 8)} (k acc : Nat), k ≤ l.length → hornB acc (back (l.take k)) = acc * 256 ^ k + numB (l.take k)
  | l, 0, acc, _ => by simp [back, hornB, numB]
  | l, k + 1, acc, h => by
    have h1 : l[k]? = some l[k] := List.getElem?_eq_getElem (by omega)
    rw [back_take h1, numB_take h1, hornB, hornB_back k _ (by omega), Nat.add_mul, Nat.pow_succ, Nat.mul_assoc, Nat.mul_comm 256 (256 ^ k), Nat.mul_comm (256 ^ k) (l[k]).toNat]
    dsimp only
    omega
theorem hornB_num (l : List (BitVec 8)) : hornB 0 (back l) = numB l := by
  have := hornB_back (l := l) l.length 0 (Nat.le_refl _)
  rw [List.take_length] at this
  rw [this]; omega
theorem hornB_snoc : ∀ (xs : List (Nat × BitVec 8)) (acc : Nat) (x : Nat × BitVec 8), hornB acc (xs ++ [x]) = hornB acc xs * 256 + x.2.toNat
  | [], acc, x => rfl
  | y :: r, acc, x => by rw [List.cons_append, hornB, hornB_snoc r]; rfl

/-- The number that a place of the act's holds, and one. -/
def ixM (i : Nat) (a : Act) : Nat := match (a.tmps[i]? : Option Value) with | some (.int _ z) => (z + 1).toNat | _ => 0
theorem ixM_of {df : List Deferred} {N : Nat} {e : List (Nat × Value)} {a : Act} {i : Nat} {kd : IntKind} {z : Int} (h : SatD df N e a) (he : get e i = some (.int kd z)) : ixM i a = (z + 1).toNat := by
  unfold ixM
  rw [h.slot i _ he]
def encB (x : Nat × BitVec 8) : Array Value := #[.int .i64 (x.1 : Int), b8 x.2]
/-- What a round keeps: the old blocks, and the iterator's own. -/
def KpB (n0 bb : Nat) (A B : World) : Prop := Below n0 A B ∧ B.heap[bb]? = A.heap[bb]?
theorem KpB.trans {n0 bb : Nat} {A B C : World} (h : KpB n0 bb A B) (k : KpB n0 bb B C) : KpB n0 bb A C := ⟨h.1.trans k.1, k.2.trans h.2⟩
theorem KpB.refl (n0 bb : Nat) (A : World) : KpB n0 bb A A := ⟨Below.refl _ _, rfl⟩

theorem Backward_b (w : World) (p : Option Addr) (n c : Nat) : Spec Try.prog 111 #[.slice p n c] w (σ := Nat) (fun _ => True) (fun b => .func (.func 118) #[] #[.pointer (some ⟨b, 0, none⟩)]) Nob (fun b => [.pt b (.cells #[.slice p n c] 33 (0, 0))]) := by
  refine enter Try.func111 rfl rfl (Mem.start w) ?_
  (repeat refine g_seq ?_)
  refine g_region ?_
  refine g_lo [1] rfl rfl rfl rfl (lo_box rfl rfl) (fun b1 hb1 => ?_)
  refine g_pu rfl rfl rfl (pu_assign rfl rfl) ?_
  refine g_nil ?_
  (repeat refine g_seq ?_)
  refine g_region ?_
  refine g_pu rfl rfl rfl (pu_makeFunc rfl rfl) ?_
  refine g_pu rfl rfl rfl (pu_assign rfl rfl) ?_
  refine g_nil ?_
  exact g_ret1 rfl rfl (fun w' hm => ⟨b1, trivial, rfl, hm.grows [1] ⟨rfl, trivial⟩ rfl⟩)

theorem back_stops (m n0 : Nat) (w : World) {bb : Nat} {p : Option Addr} {n : Nat} (c : Nat) {l : List (BitVec 8)} (hn0 : n0 ≤ w.heap.size) (hbb : w.heap[bb]? = some (.cells #[.slice p n c] 33 (0, 0))) (ha : By w p n l) (hp : ∀ b o, p = some ⟨b, o, none⟩ → bs l ≠ [] → b < n0) :
    SeqStopsK (FW none) m Try.prog 118 #[.pointer (some ⟨bb, 0, none⟩)] encB (KpB n0 bb) (fun xs => xs = back l) (fun _ => True) l.length w := by
  intro ly J Jx W hW hJ hJx hY h0
  have hl := ha.len
  have hbig := ha.big
  have hbW : W.heap[bb]? = some (.cells #[.slice p n c] 33 (0, 0)) := (hW.block bb (lt_of_some hbb)).trans hbb
  have haW : By W p n l := ⟨ha.rd.keep fun b o e hL => hW.block b (Nat.lt_of_lt_of_le (hp b o e hL) hn0), ha.len, ha.big⟩
  have hcell : ∀ W', KpB n0 bb W W' → W'.cell? ⟨bb, 0, none⟩ = some (.slice p n c) := fun W' hk => by
    rw [cell_pt (hk.2.trans hbW)]; rfl
  have hby : ∀ W', KpB n0 bb W W' → By W' p n l := fun W' hk => ⟨haW.rd.keep fun b o e hL => hk.1.block b (hp b o e hL), ha.len, ha.big⟩
  show CallsIn (FW none) m Try.prog 118 #[.func (.yield ly) #[] #[], .pointer (some ⟨bb, 0, none⟩)] W _
  refine callsFW (enterR (l := [.func (.yield ly) #[] #[], .pointer (some ⟨bb, 0, none⟩)]) m Try.func118 rfl rfl ?_)
  (repeat refine r_seq ?_)
  refine r_region ?_
  refine r_pu rfl rfl rfl rfl (pu_old rfl rfl (hcell W (KpB.refl _ _ _)) (fun h => h)) ?_
  refine r_pu rfl rfl rfl rfl (pu_len rfl rfl) ?_
  refine r_pu rfl rfl rfl rfl (pu_subI rfl rfl rfl (by omega)) ?_
  refine r_pu rfl rfl rfl rfl (pu_assign rfl rfl) ?_
  refine r_nil ?_
  refine r_block ?_
  intro a w1 hs hm
  simp only [extR]
  have hk1 : KpB n0 bb W w1 := ⟨⟨hm.os, hm.tape, hm.output, hm.size, fun k hk => hm.keep k (Nat.lt_of_lt_of_le hk (Nat.le_trans hn0 hW.size)) (fun h => h)⟩, hm.keep bb (lt_of_some hbW) (fun h => h)⟩
  have hJ1 : J [] w1 := hJ [] W w1 none h0 ⟨hm.os, hm.tape, hm.output, hm.size, fun k hk _ => hm.keep k hk (fun h => h)⟩ (fun r e => by cases e)
  refine wpIn_loop (fun a w => ∃ (k : Nat) (pre : List (Nat × BitVec 8)), k ≤ n ∧ pre ++ back (l.take k) = back l ∧ SatD [] Try.f118.ntmps [(0, .func (.yield ly) #[] #[]), (1, .pointer (some ⟨bb, 0, none⟩)), (3, .int .i64 ((k : Int) - 1))] a ∧ J pre w ∧ KpB n0 bb W w)
    (fun a _ => ixM 3 a) ⟨n, [], Nat.le_refl _, by rw [← hl, List.take_length]; rfl, hs.sub (SubE.all (e' := [(0, .func (.yield ly) #[] #[]), (1, .pointer (some ⟨bb, 0, none⟩)), (3, .int .i64 ((n : Int) - 1))]) ⟨rfl, rfl, rfl, trivial⟩), hJ1, hk1⟩ ?_
  rintro a2 w2 ⟨k, pre, hk, hpre, hs2, hJ2, hK2⟩
  have hmu := ixM_of (i := 3) hs2 rfl
  refine r_from hs2 ?_
  (repeat refine r_seq ?_)
  refine r_region ?_
  refine r_pu rfl rfl rfl rfl (pu_move rfl rfl) ?_
  by_cases hk0 : k = 0
  · refine r_pu rfl rfl rfl rfl (pu_geq_f rfl rfl rfl (by omega)) ?_
    refine r_nil ?_
    (repeat refine r_seq ?_)
    refine r_cond_f rfl (r_exit rfl ?_)
    refine r_end fun a3 w3 hs3 hm3 => ?_
    subst hk0
    have hJ3 : J pre w3 := hJ pre w2 w3 none hJ2 ⟨hm3.os, hm3.tape, hm3.output, hm3.size, fun k hk _ => hm3.keep k hk (fun h => h)⟩ (fun r e => by cases e)
    rw [List.take_zero, show back [] = [] from rfl, List.append_nil] at hpre
    show LeavesInM _ _ _ _ _ _ a3.defers _ _
    rw [hs3.defers]
    exact ⟨_, results_none rfl _ _ _, ⟨_, rfl⟩, .inl ⟨pre, hpre, hJ3⟩⟩
  · refine r_pu rfl rfl rfl rfl (pu_geq_t rfl rfl rfl (by omega)) ?_
    refine r_nil ?_
    (repeat refine r_seq ?_)
    refine r_cond_t rfl (r_skip ?_)
    (repeat refine r_seq ?_)
    have h1 : l[k - 1]? = some l[k - 1] := List.getElem?_eq_getElem (by omega)
    generalize l[k - 1] = x at h1
    have hbt := back_take h1
    rw [show k - 1 + 1 = k by omega] at hbt
    have hlen : pre.length < l.length := by
      have := congrArg List.length hpre
      rw [List.length_append, back_length, back_length, List.length_take] at this
      omega
    have ha2 := hby w2 hK2
    refine r_block ?_
    (repeat refine r_seq ?_)
    refine r_region ?_
    refine r_pu rfl rfl rfl rfl (pu_move rfl rfl) ?_
    refine r_pu rfl rfl rfl rfl (pu_move rfl rfl) ?_
    refine r_pu rfl rfl rfl rfl (pu_old rfl rfl (hcell w2 hK2) (fun h => h)) ?_
    refine r_pu rfl rfl rfl rfl (pu_move rfl rfl) ?_
    refine r_pu rfl rfl rfl rfl (pu_atB (k - 1) (fun w' hm => ha2.m hm) rfl rfl rfl (by omega) (by omega)) ?_
    refine r_pu rfl rfl rfl rfl (pu_rdB (fun w' hm => ha2.m hm) rfl rfl h1) ?_
    refine r_yield (l := ly) (vs := [.int .i64 ((k : Int) - 1), b8 x]) (fun b w' => (b = true ∧ J (pre ++ [(k - 1, x)]) w' ∧ KpB n0 bb W w') ∨ (b = false ∧ Jx (pre ++ [(k - 1, x)]) w')) rfl rfl rfl rfl rfl rfl rfl (fun w3 hm3 => ⟨_, rfl, ?_⟩) ?_
    · have hJ3 : J pre w3 := hJ pre w2 w3 none hJ2 ⟨hm3.os, hm3.tape, hm3.output, hm3.size, fun k hk _ => hm3.keep k hk (fun h => h)⟩ (fun r e => by cases e)
      have hK3 : KpB n0 bb W w3 := hK2.trans ⟨⟨hm3.os, hm3.tape, hm3.output, hm3.size, fun k hk => hm3.keep k (Nat.lt_of_lt_of_le hk (Nat.le_trans (Nat.le_trans hn0 hW.size) hK2.1.size)) (fun h => h)⟩, hm3.keep bb (Nat.lt_of_lt_of_le (lt_of_some hbW) hK2.1.size) (fun h => h)⟩
      obtain ⟨fn, tmps, assign, body, hy, hR⟩ := hY pre (k - 1, x) w3 hJ3 hlen
      refine ⟨fn, tmps, assign, body, ?_, hR.mono ?_⟩
      · have e1 : encB (k - 1, x) = #[.int .i64 ((k : Int) - 1), b8 x] := by
          unfold encB
          congr 3
          simp only
          omega
        rw [← e1]
        exact hy
      · rintro en w' (⟨rfl, hj, hkp⟩ | ⟨rfl, hj⟩)
        · exact ⟨true, rfl, .inl ⟨rfl, hj, hK3.trans hkp⟩⟩
        · exact ⟨false, rfl, .inr ⟨rfl, hj⟩⟩
    · rintro b w4 (⟨rfl, hj, hkp⟩ | ⟨rfl, hj⟩)
      · refine r_pu rfl rfl rfl rfl (pu_not rfl rfl) ?_
        refine r_nil ?_
        (repeat refine r_seq ?_)
        refine r_cond_f rfl (r_skip ?_)
        refine r_blk ?_
        (repeat refine r_seq ?_)
        refine r_region ?_
        refine r_pu rfl rfl rfl rfl (pu_move rfl rfl) ?_
        refine r_pu rfl rfl rfl rfl (pu_subI rfl rfl rfl (by omega)) ?_
        refine r_pu rfl rfl rfl rfl (pu_assign rfl rfl) ?_
        refine r_nil ?_
        intro a5 w5 hs5 hm5
        simp only [extR]
        have hJ5 : J (pre ++ [(k - 1, x)]) w5 := hJ _ w4 w5 none hj ⟨hm5.os, hm5.tape, hm5.output, hm5.size, fun k hk _ => hm5.keep k hk (fun h => h)⟩ (fun r e => by cases e)
        have hK5 : KpB n0 bb W w5 := hkp.trans ⟨⟨hm5.os, hm5.tape, hm5.output, hm5.size, fun k hk => hm5.keep k (Nat.lt_of_lt_of_le hk (Nat.le_trans (Nat.le_trans hn0 hW.size) hkp.1.size)) (fun h => h)⟩, hm5.keep bb (Nat.lt_of_lt_of_le (lt_of_some hbW) hkp.1.size) (fun h => h)⟩
        have e3 : ((k : Int) - 1 - 1) = ((k - 1 : Nat) : Int) - 1 := by omega
        have hs6 : SatD [] Try.f118.ntmps [(0, .func (.yield ly) #[] #[]), (1, .pointer (some ⟨bb, 0, none⟩)), (3, .int .i64 (((k - 1 : Nat) : Int) - 1))] a5 := by
          rw [← e3]
          exact hs5.sub (SubE.all (e' := [(0, .func (.yield ly) #[] #[]), (1, .pointer (some ⟨bb, 0, none⟩)), (3, .int .i64 ((k : Int) - 1 - 1))]) ⟨rfl, rfl, rfl, trivial⟩)
        refine ⟨⟨k - 1, pre ++ [(k - 1, x)], by omega, by rw [← hpre, hbt, List.append_assoc]; rfl, hs6, hJ5, hK5⟩, ?_⟩
        have h7 := ixM_of (i := 3) hs6 rfl
        omega
      · refine r_pu rfl rfl rfl rfl (pu_not rfl rfl) ?_
        refine r_nil ?_
        (repeat refine r_seq ?_)
        refine r_cond_t rfl ?_
        refine r_ret fun a5 w5 hs5 hm5 => ?_
        have hJ5 : Jx (pre ++ [(k - 1, x)]) w5 := hJx _ w4 w5 none hj ⟨hm5.os, hm5.tape, hm5.output, hm5.size, fun k hk _ => hm5.keep k hk (fun h => h)⟩ (fun r e => by cases e)
        show LeavesInM _ _ _ _ _ _ a5.defers _ _
        rw [hs5.defers]
        exact ⟨_, results_none rfl _ _ _, ⟨_, rfl⟩, .inr ⟨_, trivial, hJ5⟩⟩
end Go.Sx

/-
  The field's powers. The numbers are below 2^256.
-/
namespace Go.Sx
open Go Go.Proofs Go.RowKit

/-- One byte's bits, the highest first. -/
def bitE (h x j : Nat) : Nat := h * 2 ^ j + x / 2 ^ (8 - j)
theorem bitE_0 {h x : Nat} (hx : x < 256) : bitE h x 0 = h := by unfold bitE; simp; omega
theorem bitE_8 (h x : Nat) : bitE h x 8 = h * 256 + x := by unfold bitE; simp
theorem bitE_step (h x : Nat) {j : Nat} (hj : j < 8) : bitE h x (j + 1) = 2 * bitE h x j + x / 2 ^ (7 - j) % 2 := by
  unfold bitE
  rw [show 8 - j = 7 - j + 1 by omega, show 8 - (j + 1) = 7 - j by omega, Nat.pow_succ 2 (7 - j), ← Nat.div_div_eq_div_mul, Nat.pow_succ, ← Nat.mul_assoc]
  omega
theorem sq_pow {v a E : Nat} (h : v % 57896044618658097711785492504343953926634992332820282019728792003956564819949 = a ^ E % 57896044618658097711785492504343953926634992332820282019728792003956564819949) : (v * v) % 57896044618658097711785492504343953926634992332820282019728792003956564819949 = a ^ (2 * E) % 57896044618658097711785492504343953926634992332820282019728792003956564819949 := by
  rw [mulmod h h, ← Nat.pow_add, show E + E = 2 * E by omega]
theorem sq_pow1 {v a E : Nat} (h : v % 57896044618658097711785492504343953926634992332820282019728792003956564819949 = a ^ E % 57896044618658097711785492504343953926634992332820282019728792003956564819949) : (v * a) % 57896044618658097711785492504343953926634992332820282019728792003956564819949 = a ^ (E + 1) % 57896044618658097711785492504343953926634992332820282019728792003956564819949 := by
  rw [mulmod h rfl, Nat.pow_succ]
theorem bit_and (x : BitVec 8) (s : Nat) : ((x >>> s &&& 1#8) = 1#8) ↔ x.toNat / 2 ^ s % 2 = 1 := by
  have e1 : (x >>> s &&& 1#8).toNat = x.toNat / 2 ^ s % 2 := by
    rw [BitVec.toNat_and, BitVec.toNat_ushiftRight, Nat.shiftRight_eq_div_pow, show (1#8).toNat = 2 ^ 1 - 1 from rfl, Nat.and_two_pow_sub_one_eq_mod]
  constructor
  · intro h; rw [← e1, h]; rfl
  · intro h; apply BitVec.eq_of_toNat_eq; rw [e1, h]; rfl

theorem Power_b (w : World) (a : Nat) (ha : a < 115792089237316195423570985008687907853269984665640564039457584007913129639936) {p : Option Addr} {n : Nat} (c : Nat) {l : List (BitVec 8)} (hby : By w p n l) :
    Spec Try.prog 98 #[.agg (el a).toArray, .slice p n c] w (σ := Unit) (fun _ => True) (fun _ => .agg (el (a ^ numB l % 57896044618658097711785492504343953926634992332820282019728792003956564819949)).toArray) Nob (fun _ => []) := by
  have hl := hby.len
  have hT : ∀ t c, mget ([] : List (Nat × Ck)) t = some c → False := fun t c h => by cases h
  refine enterR (l := [.agg (el a).toArray, .slice p n c]) 5 Try.func98 rfl rfl ?_
  (repeat refine r_seq ?_)
  refine r_region ?_
  refine r_lo [2] rfl rfl rfl rfl rfl (lo_box rfl rfl) (fun b2 hb2 => ?_)
  refine r_lo [4] rfl rfl rfl rfl rfl (lo_alloc rfl) (fun b4 hb4 => ?_)
  refine r_nil ?_
  (repeat refine r_seq ?_)
  refine r_region ?_
  refine r_call [] rfl rfl rfl rfl rfl rfl rfl (fun w' hm => Of_b w' 1#64) (fun _ _ => ?_)
  refine r_lo [5] rfl rfl rfl rfl rfl (lo_alloc rfl) (fun b5 hb5 => ?_)
  refine r_st rfl rfl rfl (st_storeL 5 (s := 4) (C := el 1) rfl rfl rfl rfl rfl rfl (oneCell_el _)) ?_
  refine r_nil ?_
  (repeat refine r_seq ?_)
  refine r_region ?_
  refine r_pu rfl rfl rfl rfl (pu_move rfl rfl) ?_
  refine r_call [11] rfl rfl rfl rfl rfl rfl rfl (fun w' hm => Backward_b w' p n c) (fun bb hbb => ?_)
  refine r_nil ?_
  (repeat refine r_seq ?_)
  refine r_block ?_
  refine r_sub (e' := [(2, .pointer (some ⟨b2, 0, none⟩)), (4, .pointer (some ⟨b4, 0, none⟩)), (5, .pointer (some ⟨b5, 0, none⟩)), (11, .func (.func 118) #[] #[.pointer (some ⟨bb, 0, none⟩)])])
    (M' := [(2, .pt b2 (.cells (el a).toArray 98 (0, 0))), (4, .pt b4 (.cells (qs [0#64, 0#64, 0#64, 0#64]).toArray 98 (0, 0))), (5, .pt b5 (.cells (el 1).toArray 98 (0, 0))), (11, .pt bb (.cells #[.slice p n c] 33 (0, 0)))]) ⟨rfl, rfl, rfl, rfl, trivial⟩ ⟨rfl, rfl, rfl, rfl, trivial⟩ ?_
  intro act w1 hs hm
  simp only [extR]
  have hrows : ∀ v t c', mget [(2, Ck.pt b2 (.cells (el a).toArray 98 (0, 0))), (4, .pt b4 (.cells (qs [0#64, 0#64, 0#64, 0#64]).toArray 98 (0, 0))), (5, .pt b5 (.cells (el v).toArray 98 (0, 0))), (11, .pt bb (.cells #[.slice p n c] 33 (0, 0)))] t = some c' → ∃ b cs E fz, c' = .pt b (.cells cs E fz) := by
    intro v t c' h
    rw [mget_cons, mget_cons, mget_cons, mget_cons] at h
    split at h
    · cases h; exact ⟨_, _, _, _, rfl⟩
    · split at h
      · cases h; exact ⟨_, _, _, _, rfl⟩
      · split at h
        · cases h; exact ⟨_, _, _, _, rfl⟩
        · split at h
          · cases h; exact ⟨_, _, _, _, rfl⟩
          · simp [mget] at h
  have h5of : ∀ {v : Nat} {W : World}, Mem w Nob [(2, Ck.pt b2 (.cells (el a).toArray 98 (0, 0))), (4, .pt b4 (.cells (qs [0#64, 0#64, 0#64, 0#64]).toArray 98 (0, 0))), (5, .pt b5 (.cells (el v).toArray 98 (0, 0))), (11, .pt bb (.cells #[.slice p n c] 33 (0, 0)))] W →
      b2 ≠ b5 ∧ bb ≠ b5 ∧ bb ≠ b2 ∧ w.heap.size ≤ b2 ∧ w.heap.size ≤ b5 ∧ w.heap.size ≤ bb := fun h =>
    ⟨fun e => h.apart 2 _ 5 _ rfl rfl (by decide) b2 rfl e, fun e => h.apart 11 _ 5 _ rfl rfl (by decide) bb rfl e, fun e => h.apart 11 _ 2 _ rfl rfl (by decide) bb rfl e,
      (h.above 2 _ rfl b2 rfl).resolve_right (fun h => h), (h.above 5 _ rfl b5 rfl).resolve_right (fun h => h), (h.above 11 _ rfl bb rfl).resolve_right (fun h => h)⟩
  refine wpIn_rangeFunc_ownF (α := Nat × BitVec 8) (gf := 118) (lb := #[.pointer (some ⟨bb, 0, none⟩)]) rfl (by decide) (hs.eval rfl) trivial enters_cal (encs := encB) (Kp := KpB w.heap.size bb) (S := fun xs => xs = back l) (Sp := fun _ => True) (N := l.length) (w0 := w1)
    (back_stops 4 w.heap.size w1 c hm.size (hm.holds 11 _ rfl) (hby.m (hm.sub (M' := []) (fun _ h => by cases h))) (fun b o e hL => by subst e; exact hby.rd.lt hL))
    (fun h k => h.trans k) (fun W ll o o' hle ho _ _ => ⟨⟨rfl, rfl, rfl, by simp, fun k hk => World.putObj_heap_other (by have := hm.size; omega)⟩, World.putObj_heap_other (by have := hm.below 11 _ rfl bb rfl; omega)⟩)
    (Below.refl _ _) (fun _ => rfl)
    (fun pre W => ∃ v, v < 115792089237316195423570985008687907853269984665640564039457584007913129639936 ∧ v % 57896044618658097711785492504343953926634992332820282019728792003956564819949 = a ^ hornB 0 pre % 57896044618658097711785492504343953926634992332820282019728792003956564819949 ∧ Mem w Nob [(2, Ck.pt b2 (.cells (el a).toArray 98 (0, 0))), (4, .pt b4 (.cells (qs [0#64, 0#64, 0#64, 0#64]).toArray 98 (0, 0))), (5, .pt b5 (.cells (el v).toArray 98 (0, 0))), (11, .pt bb (.cells #[.slice p n c] 33 (0, 0)))] W)
    (fun _ _ _ => False)
    (fun s W W' row hI hg hr => by
      obtain ⟨v, h1, h2, h3⟩ := hI
      exact ⟨v, h1, h2, h3.own (hrows v) hm.size hg hr⟩)
    (fun _ _ _ _ _ h _ _ => h) ⟨1, by decide, rfl, hm⟩
    (fun x => Act.put { tmps := ((#[12, 13] : Array Nat).zip (encB x)).foldl (fun t (p, v) => t.setIfInBounds p v) act.tmps, defers := [] } (some 7) (b8 x.2)) ?assign ?body ?done ?stop
  case assign =>
    intro ll x W K hK
    refine wpIn_region_lit ?_
    refine wpListIn_plain rfl fun K2 hK2 => ?_
    refine ⟨fun _ _ => trivial, ?_⟩
    rw [Oper.semAt_plain _ _ _ (notDefer_spec rfl)]
    have hev : Act.eval { tmps := ((#[12, 13] : Array Nat).zip (encB x)).foldl (fun t (p, v) => t.setIfInBounds p v) act.tmps, defers := [] } (.tmp 13) = b8 x.2 := by
      have hsz := hs.size
      have h13 : 13 < act.tmps.size := by rw [hsz]; decide
      simp [Act.eval, encB, Array.getElem?_setIfInBounds, h13]
    rw [run_asg rfl hev]
    exact hK2 _ _ (wpListIn_nil hK)
  case body =>
    rintro ll pre x W ⟨v, hv, hvE, hmW⟩ hlen
    obtain ⟨n25, nb5, nb2, a2, a5, ab⟩ := h5of hmW
    have hsz := hs.size
    have hs7 : SatD [] Try.f98.ntmps [(2, .pointer (some ⟨b2, 0, none⟩)), (5, .pointer (some ⟨b5, 0, none⟩)), (7, b8 x.2)] (Act.put { tmps := ((#[12, 13] : Array Nat).zip (encB x)).foldl (fun t (p, v) => t.setIfInBounds p v) act.tmps, defers := [] } (some 7) (b8 x.2)) := by
      refine ⟨by simp [Act.put, encB, hsz], rfl, fun i u hi => ?_⟩
      have g2 := hs.slot 2 _ rfl
      have g5 := hs.slot 5 _ rfl
      have h7 : 7 < act.tmps.size := by rw [hsz]; decide
      rw [get_cons, get_cons, get_cons] at hi
      split at hi
      · rename_i e; subst e; cases hi; simp [Act.put, encB, g2]
      · split at hi
        · rename_i e; subst e; cases hi; simp [Act.put, encB, g5]
        · split at hi
          · rename_i e; subst e; cases hi; simp [Act.put, encB, h7]
          · simp [get] at hi
    have hstart := Mem.start2 (w := W) (.pt b2 (.cells (el a).toArray 98 (0, 0))) (.pt b5 (.cells (el v).toArray 98 (0, 0))) (hmW.holds 2 _ rfl) trivial (fun j hj => hmW.below 2 _ rfl j hj) (hmW.holds 5 _ rfl) trivial (fun j hj => hmW.below 5 _ rfl j hj) (hmW.apart 2 _ 5 _ rfl rfl (by decide))
    have hx := x.2.isLt
    have hapD : ∀ j, (j = b2 ∨ j = b5) → w.heap.size ≤ j := fun j hj => by rcases hj with rfl | rfl <;> assumption
    refine r_to (ro := some ll) (N := Try.f98.ntmps) (Q := fun ex _ W' => ex = .normal ∧ ∃ v', v' < 115792089237316195423570985008687907853269984665640564039457584007913129639936 ∧ v' % 57896044618658097711785492504343953926634992332820282019728792003956564819949 = a ^ hornB 0 (pre ++ [x]) % 57896044618658097711785492504343953926634992332820282019728792003956564819949 ∧ Mem W (fun j => (j = b2) ∨ (j = b5)) [(0, .pt b2 (.cells (el a).toArray 98 (0, 0))), (1, .pt b5 (.cells (el v').toArray 98 (0, 0)))] W')
      hs7 hstart ?_ ?_
    · refine r_block ?_
      (repeat refine r_seq ?_)
      refine r_region ?_
      refine r_pu rfl rfl rfl rfl (pu_assign rfl rfl) ?_
      refine r_nil ?_
      refine r_block ?_
      refine r_loop (σ := Nat × Nat) (fun s => [(2, .pointer (some ⟨b2, 0, none⟩)), (5, .pointer (some ⟨b5, 0, none⟩)), (7, b8 x.2), (8, .int .i64 (7 - (s.1 : Int)))]) (fun s => [(0, .pt b2 (.cells (el a).toArray 98 (0, 0))), (1, .pt b5 (.cells (el s.2).toArray 98 (0, 0)))])
        (fun s => s.1 ≤ 8 ∧ s.2 < 115792089237316195423570985008687907853269984665640564039457584007913129639936 ∧ s.2 % 57896044618658097711785492504343953926634992332820282019728792003956564819949 = a ^ bitE (hornB 0 pre) x.2.toNat s.1 % 57896044618658097711785492504343953926634992332820282019728792003956564819949) (fun s => 8 - s.1) (0, v) ⟨rfl, rfl, rfl, rfl, trivial⟩ ⟨rfl, rfl, trivial⟩ ⟨Nat.zero_le _, hv, by rw [bitE_0 hx]; exact hvE⟩ ?_
      rintro ⟨j, u⟩ ⟨hj, hu, huE⟩
      have hj : j ≤ 8 := hj
      have hu : u < 115792089237316195423570985008687907853269984665640564039457584007913129639936 := hu
      have huE : u % 57896044618658097711785492504343953926634992332820282019728792003956564819949 = a ^ bitE (hornB 0 pre) x.2.toNat j % 57896044618658097711785492504343953926634992332820282019728792003956564819949 := huE
      (repeat refine r_seq ?_)
      refine r_region ?_
      refine r_pu rfl rfl rfl rfl (pu_move rfl rfl) ?_
      by_cases hj8 : j < 8
      · refine r_pu rfl rfl rfl rfl (pu_geq_t rfl rfl rfl (by omega)) ?_
        refine r_nil ?_
        (repeat refine r_seq ?_)
        refine r_cond_t rfl (r_skip ?_)
        (repeat refine r_seq ?_)
        refine r_block ?_
        (repeat refine r_seq ?_)
        refine r_region ?_
        refine r_pu rfl rfl rfl rfl (pu_loadW 1 (L := el u) rfl rfl rfl rfl) ?_
        refine r_pu rfl rfl rfl rfl (pu_loadW 1 (L := el u) rfl rfl rfl rfl) ?_
        refine r_call [] rfl rfl rfl rfl rfl rfl rfl (fun w' hm => mulE_b w' u u hu hu) (fun _ _ => ?_)
        refine r_st rfl rfl rfl (st_storeL 1 (s := 4) (C := el (mulN u u)) rfl rfl rfl rfl rfl rfl (oneCell_el _)) ?_
        refine r_nil ?_
        (repeat refine r_seq ?_)
        refine r_region ?_
        refine r_pu rfl rfl rfl rfl (pu_move rfl rfl) ?_
        refine r_pu rfl rfl rfl rfl (pu_move rfl rfl) ?_
        refine r_pu rfl rfl rfl rfl (pu_shr8 rfl rfl rfl (by omega)) ?_
        rw [show (7 - (j : Int)).toNat = 7 - j by omega]
        refine r_pu rfl rfl rfl rfl (pu_and8 (b := 1#8) rfl rfl rfl) ?_
        have hm1 := mulN_mod hu hu
        have hl1 := mulN_lt hu hu
        have hst := bitE_step (hornB 0 pre) x.2.toNat hj8
        have hb := bit_and x.2 (7 - j)
        by_cases hbit : x.2.toNat / 2 ^ (7 - j) % 2 = 1
        · refine r_pu rfl rfl rfl rfl (pu_eql8_t (b := 1#8) rfl rfl rfl (hb.2 hbit)) ?_
          refine r_nil ?_
          (repeat refine r_seq ?_)
          refine r_cond_t rfl ?_
          (repeat refine r_seq ?_)
          refine r_region ?_
          refine r_pu rfl rfl rfl rfl (pu_loadW 1 (L := el (mulN u u)) rfl rfl rfl rfl) ?_
          refine r_pu rfl rfl rfl rfl (pu_loadW 0 (L := el a) rfl rfl rfl rfl) ?_
          refine r_call [] rfl rfl rfl rfl rfl rfl rfl (fun w' hm => mulE_b w' _ a hl1 ha) (fun _ _ => ?_)
          refine r_st rfl rfl rfl (st_storeL 1 (s := 4) (C := el (mulN (mulN u u) a)) rfl rfl rfl rfl rfl rfl (oneCell_el _)) ?_
          refine r_nil ?_
          refine r_blk ?_
          (repeat refine r_seq ?_)
          refine r_region ?_
          refine r_pu rfl rfl rfl rfl (pu_move rfl rfl) ?_
          refine r_pu rfl rfl rfl rfl (pu_subI rfl rfl rfl (by omega)) ?_
          refine r_pu rfl rfl rfl rfl (pu_assign rfl rfl) ?_
          refine r_nil ?_
          refine r_round (j + 1, mulN (mulN u u) a) ⟨show j + 1 ≤ 8 from hj8, mulN_lt hl1 ha, ?_⟩ (show 8 - (j + 1) < 8 - j by omega) ⟨rfl, rfl, rfl, congrArg (fun z => some (Value.int .i64 z)) (show 7 - (j : Int) - 1 = 7 - ((j + 1 : Nat) : Int) by omega), trivial⟩ ⟨rfl, rfl, trivial⟩
          dsimp only
          rw [mulN_mod hl1 ha, hst, hbit]
          exact sq_pow1 (by rw [hm1]; exact sq_pow huE)
        · refine r_pu rfl rfl rfl rfl (pu_eql8_f (b := 1#8) rfl rfl rfl (fun h => hbit (hb.1 h))) ?_
          refine r_nil ?_
          (repeat refine r_seq ?_)
          refine r_cond_f rfl (r_skip ?_)
          refine r_blk ?_
          (repeat refine r_seq ?_)
          refine r_region ?_
          refine r_pu rfl rfl rfl rfl (pu_move rfl rfl) ?_
          refine r_pu rfl rfl rfl rfl (pu_subI rfl rfl rfl (by omega)) ?_
          refine r_pu rfl rfl rfl rfl (pu_assign rfl rfl) ?_
          refine r_nil ?_
          refine r_round (j + 1, mulN u u) ⟨show j + 1 ≤ 8 from hj8, hl1, ?_⟩ (show 8 - (j + 1) < 8 - j by omega) ⟨rfl, rfl, rfl, congrArg (fun z => some (Value.int .i64 z)) (show 7 - (j : Int) - 1 = 7 - ((j + 1 : Nat) : Int) by omega), trivial⟩ ⟨rfl, rfl, trivial⟩
          dsimp only
          rw [hm1, hst, show x.2.toNat / 2 ^ (7 - j) % 2 = 0 by omega, Nat.add_zero]
          exact sq_pow huE
      · refine r_pu rfl rfl rfl rfl (pu_geq_f rfl rfl rfl (by omega)) ?_
        refine r_nil ?_
        (repeat refine r_seq ?_)
        refine r_cond_f rfl (r_exit rfl ?_)
        have e8 : j = 8 := by omega
        subst e8
        refine r_blk ?_
        refine r_end fun a3 w3 hs3 hm3 => ⟨rfl, u, hu, ?_, hm3⟩
        rw [huE, bitE_8, hornB_snoc]
    · rintro ex a3 W' ⟨rfl, v', hv', hvE', hm3⟩
      have hsame : ∀ j, j < W.heap.size → ¬ (j = b2 ∨ j = b5) → W'.heap[j]? = W.heap[j]? := fun j hj hn => hm3.keep j hj hn
      have h2W' : W'.heap[b2]? = W.heap[b2]? := (hm3.holds 0 _ rfl).trans (hmW.holds 2 _ rfl).symm
      refine ⟨⟨hm3.size, fun j o hj ho => ?_⟩, ⟨⟨hm3.os, hm3.tape, hm3.output, hm3.size, fun j hj => hsame j (Nat.lt_of_lt_of_le hj hmW.size) (fun h => by have := hapD j h; omega)⟩, hsame bb (hmW.below 11 _ rfl bb rfl) (fun h => by rcases h with h | h; exact nb2 h; exact nb5 h)⟩, v', hv', hvE', ?_⟩
      · by_cases h2 : j = b2
        · subst h2; have := hmW.holds 2 _ rfl; simp only [Ck.holds] at this; rw [this] at hj; cases hj; cases ho
        · by_cases h5 : j = b5
          · subst h5; have := hmW.holds 5 _ rfl; simp only [Ck.holds] at this; rw [this] at hj; cases hj; cases ho
          · rw [hsame j (lt_of_some hj) (fun h => h.elim h2 h5)]; exact hj
      · refine (hmW.swap 5 _ (.pt b5 (.cells (el v').toArray 98 (0, 0))) rfl hm3.os hm3.tape hm3.output hm3.size (fun j hj hn => ?_) (hm3.holds 1 _ rfl) trivial (fun j hj => hm3.below 1 _ rfl j hj) (fun j hj => .inl hj)).sub (SubM.all (M' := [(2, Ck.pt b2 (.cells (el a).toArray 98 (0, 0))), (4, .pt b4 (.cells (qs [0#64, 0#64, 0#64, 0#64]).toArray 98 (0, 0))), (5, .pt b5 (.cells (el v').toArray 98 (0, 0))), (11, .pt bb (.cells #[.slice p n c] 33 (0, 0)))]) ⟨rfl, rfl, rfl, rfl, trivial⟩)
        by_cases h2 : j = b2
        · subst h2; exact h2W'
        · exact hsame j hj (fun h => h.elim h2 hn)
  case done =>
    intro D xs W hD hxs ⟨v, hv, hvE, hmW⟩ hDf
    subst hxs
    rw [hornB_num] at hvE
    have hmD := hmW.also 99 D (.deferred (some [])) hDf (Nat.le_trans hm.size hD) (fun s c' hsc hcb => by
      obtain ⟨b, cs, E, fz, rfl⟩ := hrows v s c' hsc
      have hh := hmW.holds s _ hsc
      simp only [Ck.holds] at hh
      have e1 : D = b := hcb
      rw [e1] at hDf
      rw [hDf] at hh
      cases hh)
    have hs2 : SatD [{ target := .collected D, args := #[] }] Try.f98.ntmps [(4, .pointer (some ⟨b4, 0, none⟩)), (5, .pointer (some ⟨b5, 0, none⟩))] { act with defers := { target := .collected D, args := #[] } :: act.defers } := by
      refine ⟨hs.size, by simp [hs.defers], fun i u hi => ?_⟩
      rw [get_cons, get_cons] at hi
      split at hi
      · rename_i e; subst e; cases hi; exact hs.slot 4 _ rfl
      · split at hi
        · rename_i e; subst e; cases hi; exact hs.slot 5 _ rfl
        · simp [get] at hi
    refine r_go hs2 (hmD.sub (SubM.all (M' := [(99, Ck.pt D (.deferred (some []))), (4, .pt b4 (.cells (qs [0#64, 0#64, 0#64, 0#64]).toArray 98 (0, 0))), (5, .pt b5 (.cells (el v).toArray 98 (0, 0)))]) ⟨rfl, rfl, rfl, trivial⟩)) ?_
    refine r_blk ?_
    (repeat refine r_seq ?_)
    refine r_region ?_
    refine r_pu rfl rfl rfl rfl (pu_loadW 5 (L := el v) rfl rfl rfl rfl) ?_
    refine r_call [] rfl rfl rfl rfl rfl rfl rfl (fun w' hm => Norm_b w' v hv) (fun _ _ => ?_)
    refine r_st rfl rfl rfl (st_storeL 4 (s := 4) (C := el (v % 57896044618658097711785492504343953926634992332820282019728792003956564819949)) rfl rfl rfl rfl rfl rfl (oneCell_el _)) ?_
    refine r_nil ?_
    refine r_ret fun a3 w3 hs3 hm3 => ?_
    show LeavesInM _ _ _ _ _ _ a3.defers _ _
    rw [hs3.defers]
    have hD3 := hm3.holds 99 _ rfl
    have h43 := hm3.holds 4 _ rfl
    simp only [Ck.holds] at hD3 h43
    have hne : b4 ≠ D := fun e => by rw [e] at h43; rw [hD3] at h43; cases h43
    refine ⟨by simp, .inl ⟨D, _, rfl, run_takeDeferred hD3, ?_⟩⟩
    have h44 : (w3.putObj D (.deferred none)).heap[b4]? = some (.cells (el (v % 57896044618658097711785492504343953926634992332820282019728792003956564819949)).toArray 98 (0, 0)) := (World.putObj_heap_other hne).trans h43
    have h5 := hs3.slot 4 _ rfl
    refine ⟨.agg (el (v % 57896044618658097711785492504343953926634992332820282019728792003956564819949)).toArray, ?_, (), trivial, by rw [hvE], ?_⟩
    · have h2 := run_loadVarL (P := Try.prog) (ty := 98) (L := el (v % 57896044618658097711785492504343953926634992332820282019728792003956564819949)) rfl h44
      have h6 : Try.f98.results = #[.cell 4 98] := rfl
      have h7 : a3.tmps.getD 4 undef = .pointer (some ⟨b4, 0, none⟩) := by simp [h5]
      simp only [Array.getD_eq_getD_getElem?] at h7
      simp [results, h6, h7, asAddr, h2]
    · have hg := hm3.grows [] (cs := []) trivial rfl
      refine ⟨hg.os, hg.tape, hg.output, by simpa using hg.size, fun j hj hn => ?_, fun _ h => (by cases h), fun _ h => (by cases h), fun _ h => (by cases h), fun _ h => (by cases h), List.Pairwise.nil⟩
      rw [World.putObj_heap_other (by have := (hm3.above 99 _ rfl D rfl).resolve_right (fun h => h); omega)]
      exact hg.keep j hj hn
  case stop =>
    intro D cd pre W _ _ h _
    exact h.elim
end Go.Sx

/-
  The document's numbers by eight digits: limbs and digits, differences, normal numbers. The numbers are below 2^256.
-/
namespace Go.Sx
open Go Go.Proofs

/-! ## Numbers by digits -/
section
variable {α : Type} (v : α → Nat) (B : Nat)
def numG : List α → Nat
  | [] => 0
  | a :: r => v a + B * numG r
variable {v B}
theorem numG_set (d : α) : ∀ (l : List α) (i : Nat) (x : α), i < l.length → numG v B (l.set i x) + B ^ i * v (l.getD i d) = numG v B l + B ^ i * v x
  | [], i, x, h => by simp at h
  | a :: r, 0, x, h => by
    simp only [List.set_cons_zero, numG, Nat.pow_zero, Nat.one_mul, List.getD_cons_zero]; omega
  | a :: r, i + 1, x, h => by
    have ih := numG_set d r i x (by simpa using h)
    simp only [List.set_cons_succ, numG, List.getD_cons_succ, Nat.pow_succ]
    have e1 : ∀ y, B ^ i * B * y = B * (B ^ i * y) := fun y => by rw [Nat.mul_comm (B ^ i), Nat.mul_assoc]
    have ih2 := congrArg (B * ·) ih
    simp only [Nat.mul_add] at ih2
    rw [e1, e1]
    omega
theorem numG_take (d : α) : ∀ (l : List α) (i : Nat), i < l.length → numG v B (l.take (i + 1)) = numG v B (l.take i) + B ^ i * v (l.getD i d)
  | [], i, h => by simp at h
  | a :: r, 0, h => by simp [numG]
  | a :: r, i + 1, h => by
    have ih := numG_take d r i (by simpa using h)
    simp only [List.take_succ_cons, numG, List.getD_cons_succ, Nat.pow_succ] at ih ⊢
    have e1 : ∀ y, B ^ i * B * y = B * (B ^ i * y) := fun y => by rw [Nat.mul_comm (B ^ i), Nat.mul_assoc]
    rw [e1, ih, Nat.mul_add]
    omega
theorem numG_split : ∀ (l : List α) (i : Nat), numG v B l = numG v B (l.take i) + B ^ i * numG v B (l.drop i)
  | [], i => by simp [numG]
  | a :: r, 0 => by simp [numG]
  | a :: r, i + 1 => by
    have ih := numG_split r i
    simp only [List.take_succ_cons, List.drop_succ_cons, numG, Nat.pow_succ]
    have e1 : ∀ y, B ^ i * B * y = B * (B ^ i * y) := fun y => by rw [Nat.mul_comm (B ^ i), Nat.mul_assoc]
    rw [e1, ih, Nat.mul_add]
    omega
theorem numG_lt (hB : 0 < B) : ∀ {l : List α}, (∀ a ∈ l, v a < B) → numG v B l < B ^ l.length
  | [], _ => by simp [numG]
  | a :: r, h => by
    have ih := numG_lt hB (l := r) (fun b hb => h b (List.mem_cons_of_mem _ hb))
    have ha := h a (by simp)
    rw [numG, List.length_cons, Nat.pow_succ]
    have : B * (numG v B r + 1) ≤ B * B ^ r.length := Nat.mul_le_mul_left _ ih
    rw [Nat.mul_add, Nat.mul_one] at this
    rw [Nat.mul_comm (B ^ r.length)]
    omega
theorem numG_digit (d : α) (hB : 0 < B) : ∀ {l : List α} {i : Nat}, (∀ a ∈ l, v a < B) → i < l.length → v (l.getD i d) = numG v B l / B ^ i % B
  | [], _, _, h => by simp at h
  | a :: r, 0, hs, h => by
    have ha := hs a (by simp)
    rw [List.getD_cons_zero, numG, Nat.pow_zero, Nat.div_one, Nat.add_mul_mod_self_left, Nat.mod_eq_of_lt ha]
  | a :: r, i + 1, hs, h => by
    have ha := hs a (by simp)
    rw [List.getD_cons_succ, numG_digit d hB (fun b hb => hs b (List.mem_cons_of_mem _ hb)) (by simpa using h), numG, Nat.pow_succ, Nat.mul_comm (B ^ i), ← Nat.div_div_eq_div_mul, Nat.add_mul_div_left _ _ hB, Nat.div_eq_of_lt ha, Nat.zero_add]
theorem numG_zero (d : α) (hd : v d = 0) : ∀ {l : List α}, (∀ k, v (l.getD k d) = 0) → numG v B l = 0
  | [], _ => rfl
  | a :: r, h => by
    have h0 : v a = 0 := h 0
    rw [numG, h0, numG_zero d hd (fun k => h (k + 1))]; omega
theorem numG_pos (d : α) (hB : 0 < B) : ∀ {l : List α} {i : Nat}, i < l.length → v (l.getD i d) ≠ 0 → numG v B l ≠ 0
  | [], _, h, _ => by simp at h
  | a :: r, 0, _, h => by
    rw [List.getD_cons_zero] at h
    rw [numG]; omega
  | a :: r, i + 1, hl, h => by
    rw [List.getD_cons_succ] at h
    have := numG_pos d hB (by simpa using hl) h
    rw [numG]
    have := Nat.mul_pos hB (Nat.pos_of_ne_zero this)
    omega
end

/-- A number's digits. -/
def digs : Nat → Nat → List (BitVec 32)
  | 0, _ => []
  | k + 1, n => BitVec.ofNat 32 n :: digs k (n / 4294967296)
def numD (l : List (BitVec 32)) : Nat := numG BitVec.toNat 4294967296 l
def numW (l : List (BitVec 64)) : Nat := numG BitVec.toNat 4294967296 l
theorem digs_length : ∀ k n, (digs k n).length = k
  | 0, _ => rfl
  | k + 1, n => by rw [digs, List.length_cons, digs_length]
theorem numD_digs : ∀ k n, n < 4294967296 ^ k → numD (digs k n) = n
  | 0, n, h => by simp at h; rw [h]; rfl
  | k + 1, n, h => by
    have ih := numD_digs k (n / 4294967296) (by rw [Nat.pow_succ] at h; exact (Nat.div_lt_iff_lt_mul (by omega)).2 h)
    unfold numD at ih ⊢
    rw [digs, numG, ih, BitVec.toNat_ofNat]
    omega
theorem digs_numD : ∀ l : List (BitVec 32), digs l.length (numD l) = l
  | [] => rfl
  | a :: r => by
    have ha := a.isLt
    have ih := digs_numD r
    unfold numD at ih ⊢
    rw [List.length_cons, digs, numG, show (a.toNat + 4294967296 * numG BitVec.toNat 4294967296 r) / 4294967296 = numG BitVec.toNat 4294967296 r by omega, ih]
    congr 1
    apply BitVec.eq_of_toNat_eq
    rw [BitVec.toNat_ofNat]
    omega
theorem digs_get : ∀ {k n i : Nat}, i < k → (digs k n)[i]? = some (BitVec.ofNat 32 (n / 4294967296 ^ i))
  | 0, _, _, h => by omega
  | k + 1, n, 0, h => by simp [digs]
  | k + 1, n, i + 1, h => by
    rw [digs, List.getElem?_cons_succ, digs_get (by omega), Nat.div_div_eq_div_mul, Nat.pow_succ, Nat.mul_comm]
theorem getDd {l : List (BitVec 32)} {i : Nat} (h : i < l.length) : l[i]? = some (l.getD i 0#32) := by
  rw [List.getD_eq_getElem?_getD, List.getElem?_eq_getElem h]; rfl
theorem numD8_lt {l : List (BitVec 32)} (h : l.length = 8) : numD l < 115792089237316195423570985008687907853269984665640564039457584007913129639936 := by
  have := numG_lt (v := BitVec.toNat) (B := 4294967296) (by decide) (l := l) (fun a _ => a.isLt)
  rw [h] at this
  exact this
/-- The document's number. -/
def dg (n : Nat) : List Value := ws (digs 8 n)
theorem dg_length (n : Nat) : (dg n).length = 8 := by rw [dg, ws_length, digs_length]
theorem dg_of {l : List (BitVec 32)} (h : l.length = 8) : ws l = dg (numD l) := by rw [dg, ← h, digs_numD]
theorem dg_num {n : Nat} (h : n < 115792089237316195423570985008687907853269984665640564039457584007913129639936) : numD (digs 8 n) = n := numD_digs 8 n h
theorem oneCell_dg (n : Nat) : ∀ u ∈ dg n, u.oneCell' = true := oneCell_ws _
theorem all_dg (n : Nat) : (dg n).all (kindIs .u32) = true := all_ws _
theorem ws_inj {l m : List (BitVec 32)} (h : ws l = ws m) : l = m := by
  unfold ws at h
  induction l generalizing m with
  | nil => cases m with
    | nil => rfl
    | cons y m => simp at h
  | cons x l ih => cases m with
    | nil => simp at h
    | cons y m =>
      simp only [List.map_cons, List.cons.injEq] at h
      rw [b32_inj h.1, ih h.2]
theorem dg_inj {n m : Nat} (hn : n < 115792089237316195423570985008687907853269984665640564039457584007913129639936) (hm : m < 115792089237316195423570985008687907853269984665640564039457584007913129639936) (h : dg n = dg m) : n = m := by
  rw [← dg_num hn, ← dg_num hm, ws_inj h]
theorem prime_b (w : World) : Spec Try.prog 82 #[] w (σ := Unit) (fun _ => True) (fun _ => .agg (dg 57896044618658097711785492504343953926634992332820282019728792003956564819949).toArray) Nob (fun _ => []) := by
  have hl : dg 57896044618658097711785492504343953926634992332820282019728792003956564819949 = ws [4294967277#32, 4294967295#32, 4294967295#32, 4294967295#32, 4294967295#32, 4294967295#32, 4294967295#32, 2147483647#32] := by rw [dg_of rfl]; congr 1
  rw [hl]
  refine enter Try.func82 rfl rfl (Mem.start w) ?_
  (repeat refine g_seq ?_)
  refine g_region ?_
  refine g_lo [0] rfl rfl rfl rfl (lo_alloc rfl) (fun b0 hb0 => ?_)
  refine g_nil ?_
  (repeat refine g_seq ?_)
  refine g_region ?_
  refine g_pu rfl rfl rfl (pu_buildA (cs := ws [4294967277#32, 4294967295#32, 4294967295#32, 4294967295#32, 4294967295#32, 4294967295#32, 4294967295#32, 2147483647#32]) rfl rfl rfl rfl rfl) ?_
  refine g_storeL 0 (s := 8) (C := ws [4294967277#32, 4294967295#32, 4294967295#32, 4294967295#32, 4294967295#32, 4294967295#32, 4294967295#32, 2147483647#32]) rfl rfl rfl rfl rfl rfl rfl rfl (oneCell_ws _) ?_
  refine g_nil ?_
  exact g_retL 0 (L := ws [4294967277#32, 4294967295#32, 4294967295#32, 4294967295#32, 4294967295#32, 4294967295#32, 4294967295#32, 2147483647#32]) rfl rfl rfl rfl (fun w' hm => ⟨(), trivial, rfl, hm.grows [] trivial rfl⟩)

theorem dstep {P V V' y s c c' x : Nat} (hset : V' = V + P * s) (h : s + y + c = x + 4294967296 * c') : V' + P * y + P * c = V + P * x + P * 4294967296 * c' := by
  have h2 : P * (s + y + c) = P * (x + 4294967296 * c') := by rw [h]
  rw [Nat.mul_add, Nat.mul_add, Nat.mul_add] at h2
  rw [Nat.mul_assoc]
  omega
theorem numD_setT {l : List (BitVec 32)} {i : Nat} (x : BitVec 32) (h : i < l.length) : numD ((l.set i x).take (i + 1)) = numD (l.take i) + 4294967296 ^ i * x.toNat := by
  unfold numD
  rw [numG_take 0#32 _ i (by rw [List.length_set]; omega), List.take_set_of_le (Nat.le_refl _)]
  congr 2
  rw [List.getD_eq_getElem?_getD, List.getElem?_set_self (by omega)]; rfl
/-- One digit's difference. -/
theorem minus_dig (x y : BitVec 32) (c : BitVec 64) (hc : c.toNat ≤ 1) : ∃ (t s : BitVec 64) (c' : BitVec 64), c'.toNat ≤ 1 ∧
    (decide ((x.setWidth 64).toNat < (y.setWidth 64 + c).toNat) = true → t = x.setWidth 64 + 4294967296#64 ∧ c' = 1#64) ∧ (decide ((x.setWidth 64).toNat < (y.setWidth 64 + c).toNat) = false → t = x.setWidth 64 ∧ c' = 0#64) ∧
    s = t - (y.setWidth 64 + c) ∧ (s.setWidth 32).toNat + y.toNat + c.toNat = x.toNat + 4294967296 * c'.toNat := by
  have hx := x.isLt
  have hy := y.isLt
  have e1 : (x.setWidth 64).toNat = x.toNat := by rw [BitVec.toNat_setWidth]; omega
  have e2 : (y.setWidth 64 + c).toNat = y.toNat + c.toNat := by rw [BitVec.toNat_add, BitVec.toNat_setWidth]; omega
  by_cases h : x.toNat < y.toNat + c.toNat
  · refine ⟨x.setWidth 64 + 4294967296#64, _, 1#64, by decide, fun _ => ⟨rfl, rfl⟩, fun h' => ?_, rfl, ?_⟩
    · rw [e1, e2, decide_eq_true h] at h'; cases h'
    · have e3 : (x.setWidth 64 + 4294967296#64).toNat = x.toNat + 4294967296 := by rw [BitVec.toNat_add, e1, show (4294967296#64).toNat = 4294967296 from rfl]; omega
      rw [BitVec.toNat_setWidth, BitVec.toNat_sub, e2, e3, show (1#64).toNat = 1 from rfl]
      omega
  · refine ⟨x.setWidth 64, _, 0#64, by decide, fun h' => ?_, fun _ => ⟨rfl, rfl⟩, rfl, ?_⟩
    · rw [e1, e2, decide_eq_false h] at h'; cases h'
    · rw [BitVec.toNat_setWidth, BitVec.toNat_sub, e2, e1, show (0#64).toNat = 0 from rfl]
      omega

theorem minus_b (w : World) (a b : Nat) (ha : a < 115792089237316195423570985008687907853269984665640564039457584007913129639936) (hb : b < 115792089237316195423570985008687907853269984665640564039457584007913129639936) : Spec Try.prog 81 #[.agg (dg a).toArray, .agg (dg b).toArray] w (σ := Unit) (fun _ => True) (fun _ => .tuple #[.agg (dg ((a + (115792089237316195423570985008687907853269984665640564039457584007913129639936 - b)) % 115792089237316195423570985008687907853269984665640564039457584007913129639936)).toArray, .bool (decide (a < b))]) Nob (fun _ => []) := by
  refine enter Try.func81 rfl rfl (Mem.start w) ?_
  have han := dg_num ha
  have hbn := dg_num hb
  have hal := digs_length 8 a
  have hbl := digs_length 8 b
  have hA : dg a = ws (digs 8 a) := rfl
  have hB : dg b = ws (digs 8 b) := rfl
  rw [hA, hB]
  generalize digs 8 a = A at *
  generalize digs 8 b = B at *
  (repeat refine g_seq ?_)
  refine g_region ?_
  refine g_lo [2] rfl rfl rfl rfl (lo_box rfl rfl) (fun b2 hb2 => ?_)
  refine g_lo [3] rfl rfl rfl rfl (lo_box rfl rfl) (fun b3 hb3 => ?_)
  refine g_lo [4] rfl rfl rfl rfl (lo_alloc rfl) (fun b4 hb4 => ?_)
  refine g_pu rfl rfl rfl (pu_assign rfl rfl) ?_
  refine g_nil ?_
  (repeat refine g_seq ?_)
  refine g_region ?_
  refine g_lo [6] rfl rfl rfl rfl (lo_alloc rfl) (fun b6 hb6 => ?_)
  refine g_nil ?_
  (repeat refine g_seq ?_)
  refine g_region ?_
  refine g_pu rfl rfl rfl (pu_assign (v := b64 0#64) rfl rfl) ?_
  refine g_nil ?_
  (repeat refine g_seq ?_)
  refine g_region ?_
  refine g_pu rfl rfl rfl (pu_assign rfl rfl) ?_
  refine g_nil ?_
  (repeat refine g_seq ?_)
  refine g_block (g_loop3 (fun (i : Nat) (m : List (BitVec 32)) (c : BitVec 64) => [(2, .pointer (some ⟨b2, 0, none⟩)), (3, .pointer (some ⟨b3, 0, none⟩)), (4, .pointer (some ⟨b4, 0, none⟩)), (6, .pointer (some ⟨b6, 0, none⟩)), (7, b64 c), (8, .int .i64 (i : Int))]) (fun i m c => [(2, .pt b2 (.cells (ws A).toArray 104 (0, 0))), (3, .pt b3 (.cells (ws B).toArray 104 (0, 0))), (4, .pt b4 (.cells (ws (List.replicate 8 0#32)).toArray 104 (0, 0))), (6, .pt b6 (.cells (ws m).toArray 104 (0, 0)))])
    (fun i m c => i ≤ 8 ∧ m.length = 8 ∧ c.toNat ≤ 1 ∧ numD (m.take i) + numD (B.take i) = numD (A.take i) + 4294967296 ^ i * c.toNat) (fun i m c => 8 - i) 0 (List.replicate 8 0#32) 0#64 ⟨rfl, rfl, rfl, rfl, rfl, rfl, trivial⟩ ⟨rfl, rfl, rfl, rfl, trivial⟩ ⟨by omega, rfl, by decide, rfl⟩ ?_)
  intro i m c ⟨hi, hm8, hc, hv⟩
  by_cases hi8 : i < 8
  · (repeat refine g_seq ?_)
    refine g_region ?_
    refine g_pu rfl rfl rfl (pu_move rfl rfl) ?_
    first | refine g_pu rfl rfl rfl (pu_lss_t rfl rfl rfl (by omega)) ?_ | refine g_pu rfl rfl rfl (pu_lss_f rfl rfl rfl (by omega)) ?_ | refine g_pu rfl rfl rfl (pu_lss rfl rfl rfl) ?_
    refine g_nil ?_
    (repeat refine g_seq ?_)
    refine g_cond_t rfl (g_skip ?_)
    have ga := getDd (l := A) (i := i) (by omega)
    have gb := getDd (l := B) (i := i) (by omega)
    have na : numD (A.take (i + 1)) = numD (A.take i) + 4294967296 ^ i * (A.getD i 0#32).toNat := numG_take 0#32 A i (by omega)
    have nb : numD (B.take (i + 1)) = numD (B.take i) + 4294967296 ^ i * (B.getD i 0#32).toNat := numG_take 0#32 B i (by omega)
    generalize A.getD i 0#32 = x at ga na
    generalize B.getD i 0#32 = y at gb nb
    obtain ⟨t, s, c', hc', ht1, ht0, hs, hsum⟩ := minus_dig x y c hc
    have st := dstep (numD_setT (l := m) (i := i) (s.setWidth 32) (by omega)) hsum
    (repeat refine g_seq ?_); refine g_block ?_
    (repeat refine g_seq ?_)
    refine g_region ?_
    refine g_pu rfl rfl rfl (pu_move rfl rfl) ?_
    refine g_pu rfl rfl rfl (pu_atA1 i rfl rfl rfl rfl hi8) ?_
    refine g_pu rfl rfl rfl (pu_load 3 (v := b32 y) rfl rfl rfl (ws_load gb)) ?_
    refine g_pu rfl rfl rfl (pu_conv32_64 rfl rfl) ?_
    refine g_pu rfl rfl rfl (pu_move rfl rfl) ?_
    refine g_pu rfl rfl rfl (pu_add64 rfl rfl rfl) ?_
    refine g_pu rfl rfl rfl (pu_assign rfl rfl) ?_
    refine g_nil ?_
    (repeat refine g_seq ?_)
    refine g_region ?_
    refine g_pu rfl rfl rfl (pu_move rfl rfl) ?_
    refine g_pu rfl rfl rfl (pu_atA1 i rfl rfl rfl rfl hi8) ?_
    refine g_pu rfl rfl rfl (pu_load 2 (v := b32 x) rfl rfl rfl (ws_load ga)) ?_
    refine g_pu rfl rfl rfl (pu_conv32_64 rfl rfl) ?_
    refine g_pu rfl rfl rfl (pu_assign rfl rfl) ?_
    refine g_nil ?_
    (repeat refine g_seq ?_)
    refine g_region ?_
    refine g_pu rfl rfl rfl (pu_assign (v := b64 0#64) rfl rfl) ?_
    refine g_nil ?_
    (repeat refine g_seq ?_)
    refine g_region ?_
    refine g_pu rfl rfl rfl (pu_move rfl rfl) ?_
    refine g_pu rfl rfl rfl (pu_move rfl rfl) ?_
    refine g_pu rfl rfl rfl (pu_lss rfl rfl rfl) ?_
    refine g_nil ?_
    refine g_join (σ := Unit) (fun _ => [(2, .pointer (some ⟨b2, 0, none⟩)), (3, .pointer (some ⟨b3, 0, none⟩)), (4, .pointer (some ⟨b4, 0, none⟩)), (6, .pointer (some ⟨b6, 0, none⟩)), (7, b64 c'), (8, .int .i64 (i : Int)), (9, b64 (y.setWidth 64 + c)), (10, b64 t)]) (fun _ => [(2, .pt b2 (.cells (ws A).toArray 104 (0, 0))), (3, .pt b3 (.cells (ws B).toArray 104 (0, 0))), (4, .pt b4 (.cells (ws (List.replicate 8 0#32)).toArray 104 (0, 0))), (6, .pt b6 (.cells (ws m).toArray 104 (0, 0)))]) (fun _ => True) ?_ ?_
    · refine g_cond (b := decide ((x.setWidth 64).toNat < (y.setWidth 64 + c).toNat)) (congrArg (fun z => some (Value.bool z)) (decide_eq_decide.2 Int.ofNat_lt)) (fun h => ?_) (fun h => ?_)
      · obtain ⟨rfl, rfl⟩ := ht1 h
        (repeat refine g_seq ?_)
        refine g_region ?_
        refine g_pu rfl rfl rfl (pu_move rfl rfl) ?_
        refine g_pu rfl rfl rfl (pu_add64 (b := 4294967296#64) rfl rfl rfl) ?_
        refine g_pu rfl rfl rfl (pu_assign rfl rfl) ?_
        refine g_nil ?_
        (repeat refine g_seq ?_)
        refine g_region ?_
        refine g_pu rfl rfl rfl (pu_assign (v := b64 1#64) rfl rfl) ?_
        refine g_nil ?_
        exact g_meet () trivial ⟨rfl, rfl, rfl, rfl, rfl, rfl, rfl, rfl, trivial⟩ ⟨rfl, rfl, rfl, rfl, trivial⟩
      · obtain ⟨rfl, rfl⟩ := ht0 h
        refine g_skip ?_
        exact g_meet () trivial ⟨rfl, rfl, rfl, rfl, rfl, rfl, rfl, rfl, trivial⟩ ⟨rfl, rfl, rfl, rfl, trivial⟩
    · intro _ _
      (repeat refine g_seq ?_)
      refine g_region ?_
      refine g_pu rfl rfl rfl (pu_move rfl rfl) ?_
      refine g_pu rfl rfl rfl (pu_move rfl rfl) ?_
      refine g_pu rfl rfl rfl (pu_move rfl rfl) ?_
      refine g_pu rfl rfl rfl (pu_sub64 rfl rfl rfl) ?_
      rw [← hs]
      refine g_pu rfl rfl rfl (pu_conv64_32 rfl rfl) ?_
      refine g_pu rfl rfl rfl (pu_atA1 i rfl rfl rfl rfl hi8) ?_
      refine g_store 6 (v := b32 (s.setWidth 32)) rfl rfl rfl rfl rfl rfl rfl (by rw [ws_length]; omega) ?_
      rw [ws_set]
      refine g_nil ?_
      refine g_blk ?_
      (repeat refine g_seq ?_)
      refine g_region ?_
      refine g_pu rfl rfl rfl (pu_move rfl rfl) ?_
      refine g_pu rfl rfl rfl (pu_addI rfl rfl rfl (by omega)) ?_
      refine g_pu rfl rfl rfl (pu_assign rfl rfl) ?_
      refine g_nil ?_
      refine g_round3 (i + 1) (m.set i (s.setWidth 32)) c' ⟨by omega, by rw [List.length_set, hm8], hc', ?_⟩ (by omega) ⟨rfl, rfl, rfl, rfl, rfl, rfl, trivial⟩ ⟨rfl, rfl, rfl, rfl, trivial⟩
      rw [na, nb, Nat.pow_succ]
      omega
  · (repeat refine g_seq ?_)
    refine g_region ?_
    refine g_pu rfl rfl rfl (pu_move rfl rfl) ?_
    first | refine g_pu rfl rfl rfl (pu_lss_t rfl rfl rfl (by omega)) ?_ | refine g_pu rfl rfl rfl (pu_lss_f rfl rfl rfl (by omega)) ?_ | refine g_pu rfl rfl rfl (pu_lss rfl rfl rfl) ?_
    refine g_nil ?_
    (repeat refine g_seq ?_)
    refine g_cond_f rfl (g_exit rfl ?_)
    have e1 : i = 8 := by omega
    subst e1
    rw [List.take_of_length_le (by omega), List.take_of_length_le (by omega), List.take_of_length_le (by omega), han, hbn, show 4294967296 ^ 8 = 115792089237316195423570985008687907853269984665640564039457584007913129639936 from rfl] at hv
    have hmlt := numD8_lt hm8
    have hR : dg ((a + (115792089237316195423570985008687907853269984665640564039457584007913129639936 - b)) % 115792089237316195423570985008687907853269984665640564039457584007913129639936) = ws m := by rw [dg_of hm8]; congr 1; omega
    have hml : (ws m).length = 8 := by rw [ws_length, hm8]
    rw [hR]
    have hce : decide (c = 1#64) = decide (a < b) := by
      apply decide_eq_decide.2
      constructor
      · intro h; rw [h, show (1#64).toNat = 1 from rfl] at hv; omega
      · intro h
        apply BitVec.eq_of_toNat_eq
        rw [show (1#64).toNat = 1 from rfl]
        omega
    (repeat refine g_seq ?_)
    refine g_region ?_
    refine g_pu rfl rfl rfl (pu_loadW 6 (L := ws m) rfl rfl rfl hml) ?_
    refine g_pu rfl rfl rfl (pu_move rfl rfl) ?_
    refine g_pu rfl rfl rfl (pu_eql64 (b := 1#64) rfl rfl rfl) ?_
    rw [hce]
    refine g_storeL 4 (s := 8) (C := ws m) rfl rfl rfl rfl rfl rfl hml rfl (oneCell_ws _) ?_
    refine g_pu rfl rfl rfl (pu_assign rfl rfl) ?_
    refine g_nil ?_
    exact g_retLT 4 (L := ws m) rfl hml rfl rfl rfl (fun w' hm => ⟨(), trivial, rfl, hm.grows [] trivial rfl⟩)

theorem RNorm_b (w : World) (a : Nat) (ha : a < 115792089237316195423570985008687907853269984665640564039457584007913129639936) : Spec Try.prog 62 #[.agg (dg a).toArray] w (σ := Unit) (fun _ => True) (fun _ => .agg (dg (a % 57896044618658097711785492504343953926634992332820282019728792003956564819949)).toArray) Nob (fun _ => []) := by
  refine enter Try.func62 rfl rfl (Mem.start w) ?_
  (repeat refine g_seq ?_)
  refine g_region ?_
  refine g_lo [1] rfl rfl rfl rfl (lo_box rfl rfl) (fun b1 hb1 => ?_)
  refine g_lo [2] rfl rfl rfl rfl (lo_alloc rfl) (fun b2 hb2 => ?_)
  refine g_nil ?_
  (repeat refine g_seq ?_)
  refine g_block (g_loop (σ := Nat) (fun m => [(1, .pointer (some ⟨b1, 0, none⟩)), (2, .pointer (some ⟨b2, 0, none⟩))]) (fun m => [(1, .pt b1 (.cells (dg m).toArray 104 (0, 0))), (2, .pt b2 (.cells (ws (List.replicate 8 0#32)).toArray 104 (0, 0)))])
    (fun m => m < 115792089237316195423570985008687907853269984665640564039457584007913129639936 ∧ m % 57896044618658097711785492504343953926634992332820282019728792003956564819949 = a % 57896044618658097711785492504343953926634992332820282019728792003956564819949) (fun m => m) a ⟨rfl, rfl, trivial⟩ ⟨rfl, rfl, trivial⟩ ⟨ha, rfl⟩ ?_)
  intro m ⟨hmq, hme⟩
  (repeat refine g_seq ?_)
  refine g_block ?_
  (repeat refine g_seq ?_)
  refine g_any (7, [5]) ?_
  refine a_pu 0 rfl rfl rfl rfl (pu_loadW 1 (L := dg m) rfl rfl rfl rfl) rfl rfl (by kernel_rfl) ?_
  refine a_pendA 6 3 3 104 ?_
  refine a_do 1 7 [] (does_call rfl rfl rfl rfl rfl (fun w' hm => prime_b w')) rfl rfl (by kernel_rfl) rfl rfl (by kernel_rfl) (by kernel_rfl) (by kernel_rfl) rfl (fun p hp => by simp only [List.mem_cons, List.not_mem_nil, or_false] at hp; subst hp; first | exact does_PA rfl rfl rfl rfl | exact does_PB rfl rfl rfl rfl rfl (by decide) (by decide) rfl rfl) ?_; rintro v_ cs_ ⟨_, _, rfl, rfl⟩
  refine a_do 2 8 [] (does_call rfl rfl rfl rfl rfl (fun w' hm => minus_b w' m 57896044618658097711785492504343953926634992332820282019728792003956564819949 hmq (by decide))) rfl rfl (by kernel_rfl) rfl rfl (by kernel_rfl) (by kernel_rfl) (by kernel_rfl) rfl (fun p hp => by simp only [List.mem_cons, List.not_mem_nil, or_false] at hp; subst hp; first | exact does_PA rfl rfl rfl rfl | exact does_PB rfl rfl rfl rfl rfl (by decide) (by decide) rfl rfl) ?_; rintro v_ cs_ ⟨_, _, rfl, rfl⟩
  refine a_pu 3 rfl rfl rfl rfl (pu_move rfl rfl) rfl rfl (by kernel_rfl) ?_
  refine a_pu 4 rfl rfl rfl rfl (pu_extract rfl rfl rfl) rfl rfl (by kernel_rfl) ?_
  first | refine a_mv 5 rfl rfl rfl rfl (fun _ => (pu_extract rfl rfl rfl)) rfl rfl rfl (by kernel_rfl) (by kernel_rfl) (by kernel_rfl) rfl ?_
  refine a_force _ (by kernel_rfl) rfl rfl rfl (by kernel_rfl) (by kernel_rfl) (by kernel_rfl) rfl (fun p hp => by simp only [List.mem_cons, List.not_mem_nil, or_false] at hp; subst hp; first | exact does_PA rfl rfl rfl rfl | exact does_PB rfl rfl rfl rfl rfl (by decide) (by decide) rfl rfl) ?_; rintro v_ cs_ ⟨b3, hb3, rfl, rfl⟩
  refine a_tail [7, 8] (by kernel_rfl) rfl rfl (by kernel_rfl) ?_
  refine g_storeL 3 (s := 8) (C := dg ((m + (115792089237316195423570985008687907853269984665640564039457584007913129639936 - 57896044618658097711785492504343953926634992332820282019728792003956564819949)) % 115792089237316195423570985008687907853269984665640564039457584007913129639936)) rfl rfl rfl rfl rfl rfl rfl rfl (oneCell_dg _) ?_
  refine g_pu rfl rfl rfl (pu_assign rfl rfl) ?_
  refine g_nil ?_
  by_cases hlt : m < 57896044618658097711785492504343953926634992332820282019728792003956564819949
  · rw [decide_eq_true hlt]
    (repeat refine g_seq ?_)
    refine g_region ?_
    refine g_pu rfl rfl rfl (pu_move rfl rfl) ?_
    refine g_nil ?_
    (repeat refine g_seq ?_)
    refine g_cond_t rfl ?_
    have hR : a % 57896044618658097711785492504343953926634992332820282019728792003956564819949 = m := by rw [← hme, Nat.mod_eq_of_lt hlt]
    rw [hR]
    (repeat refine g_seq ?_)
    refine g_region ?_
    refine g_pu rfl rfl rfl (pu_loadW 1 (L := dg m) rfl rfl rfl rfl) ?_
    refine g_storeL 2 (s := 8) (C := dg m) rfl rfl rfl rfl rfl rfl rfl rfl (oneCell_dg _) ?_
    refine g_nil ?_
    exact g_retL 2 (L := dg m) rfl rfl rfl rfl (fun w' hm => ⟨(), trivial, rfl, hm.grows [] trivial rfl⟩)
  · rw [decide_eq_false hlt]
    (repeat refine g_seq ?_)
    refine g_region ?_
    refine g_pu rfl rfl rfl (pu_move rfl rfl) ?_
    refine g_nil ?_
    (repeat refine g_seq ?_)
    refine g_cond_f rfl (g_skip ?_)
    have hd : (m + (115792089237316195423570985008687907853269984665640564039457584007913129639936 - 57896044618658097711785492504343953926634992332820282019728792003956564819949)) % 115792089237316195423570985008687907853269984665640564039457584007913129639936 = m - 57896044618658097711785492504343953926634992332820282019728792003956564819949 := by omega
    rw [hd]
    (repeat refine g_seq ?_)
    refine g_region ?_
    refine g_pu rfl rfl rfl (pu_loadW 3 (L := dg (m - 57896044618658097711785492504343953926634992332820282019728792003956564819949)) rfl rfl rfl rfl) ?_
    refine g_storeL 1 (s := 8) (C := dg (m - 57896044618658097711785492504343953926634992332820282019728792003956564819949)) rfl rfl rfl rfl rfl rfl rfl rfl (oneCell_dg _) ?_
    refine g_nil ?_
    refine g_blk ?_
    exact g_round (m - 57896044618658097711785492504343953926634992332820282019728792003956564819949) ⟨by omega, by omega⟩ (by omega) ⟨rfl, rfl, trivial⟩ ⟨rfl, rfl, trivial⟩
end Go.Sx

/-
  The document's sums, differences and products by eight digits. The numbers are below 2^256.
-/
namespace Go.Sx
open Go Go.Proofs

/-- All digits are below 2^32. -/
def Small (W : List (BitVec 64)) : Prop := ∀ a ∈ W, a.toNat < 4294967296
theorem Small.set {W : List (BitVec 64)} (h : Small W) {i : Nat} {x : BitVec 64} (hx : x.toNat < 4294967296) : Small (W.set i x) := fun a ha => by
  rcases List.mem_or_eq_of_mem_set ha with h1 | h1
  · exact h a h1
  · rw [h1]; exact hx
theorem Small.at {W : List (BitVec 64)} (h : Small W) (i : Nat) : (W.getD i 0#64).toNat < 4294967296 := by
  rw [List.getD_eq_getElem?_getD]
  cases hg : W[i]? with
  | none => decide
  | some x => exact h x (List.mem_of_getElem? hg)
theorem small_rep (k : Nat) : Small (List.replicate k 0#64) := fun a ha => by rw [List.eq_of_mem_replicate ha]; decide
theorem rem32 (x : BitVec 64) : (x % 4294967296#64).toNat = x.toNat % 4294967296 := by rw [BitVec.toNat_umod, show (4294967296#64).toNat = 4294967296 from rfl]
theorem numW_setT {l : List (BitVec 64)} {i : Nat} (x : BitVec 64) (h : i < l.length) : numW ((l.set i x).take (i + 1)) = numW (l.take i) + 4294967296 ^ i * x.toNat := by
  unfold numW
  rw [numG_take 0#64 _ i (by rw [List.length_set]; omega), List.take_set_of_le (Nat.le_refl _)]
  congr 2
  rw [List.getD_eq_getElem?_getD, List.getElem?_set_self (by omega)]; rfl
theorem numW_take {l : List (BitVec 64)} {i : Nat} (h : i < l.length) : numW (l.take (i + 1)) = numW (l.take i) + 4294967296 ^ i * (l.getD i 0#64).toNat := numG_take 0#64 l i h
theorem numD_take {l : List (BitVec 32)} {i : Nat} (h : i < l.length) : numD (l.take (i + 1)) = numD (l.take i) + 4294967296 ^ i * (l.getD i 0#32).toNat := numG_take 0#32 l i h
theorem numW_set {l : List (BitVec 64)} {i : Nat} (x : BitVec 64) (h : i < l.length) : numW (l.set i x) + 4294967296 ^ i * (l.getD i 0#64).toNat = numW l + 4294967296 ^ i * x.toNat := numG_set 0#64 l i x h
theorem numW_split (l : List (BitVec 64)) (i : Nat) : numW l = numW (l.take i) + 4294967296 ^ i * numW (l.drop i) := numG_split l i
theorem numW_zero {l : List (BitVec 64)} (h : ∀ k, l.getD k 0#64 = 0#64) : numW l = 0 := numG_zero 0#64 rfl (fun k => by rw [h k]; rfl)
theorem numW_lt {l : List (BitVec 64)} (h : Small l) : numW l < 4294967296 ^ l.length := numG_lt (by decide) h
theorem getD_drop (l : List (BitVec 64)) (i k : Nat) : (l.drop i).getD k 0#64 = l.getD (i + k) 0#64 := by
  rw [List.getD_eq_getElem?_getD, List.getD_eq_getElem?_getD, List.getElem?_drop]
theorem cstepW {P V V' x' t c' : Nat} (hset : V' = V + P * x') (h : x' + 4294967296 * c' = t) : V' + P * 4294967296 * c' = V + P * t := by
  have h2 : P * (x' + 4294967296 * c') = P * t := by rw [h]
  rw [Nat.mul_add] at h2
  rw [Nat.mul_assoc]
  omega
/-- A sum's low digit and carry. -/
theorem carry_eq (x : BitVec 64) : (x % 4294967296#64).toNat + 4294967296 * (x >>> 32).toNat = x.toNat := by
  rw [rem32, shr32']; omega

theorem high_b (w : World) (W : List (BitVec 64)) (hW : W.length = 17) : Spec Try.prog 100 #[.agg (qs W).toArray] w (σ := Unit) (fun _ => True) (fun _ => .bool (decide (numW (W.drop 8) ≠ 0))) Nob (fun _ => []) := by
  refine enter Try.func100 rfl rfl (Mem.start w) ?_
  (repeat refine g_seq ?_)
  refine g_region ?_
  refine g_lo [1] rfl rfl rfl rfl (lo_box rfl rfl) (fun b1 hb1 => ?_)
  refine g_pu rfl rfl rfl (pu_assign rfl rfl) ?_
  refine g_nil ?_
  (repeat refine g_seq ?_)
  refine g_region ?_
  refine g_pu rfl rfl rfl (pu_assign rfl rfl) ?_
  refine g_nil ?_
  (repeat refine g_seq ?_)
  refine g_block (g_loop (σ := Nat) (fun i => [(1, .pointer (some ⟨b1, 0, none⟩)), (3, .int .i64 (i : Int))]) (fun i => [(1, .pt b1 (.cells (qs W).toArray 138 (0, 0)))]) (fun i => 8 ≤ i ∧ i ≤ 17 ∧ ∀ k, 8 ≤ k → k < i → W.getD k 0#64 = 0#64) (fun i => 17 - i) 8 ⟨rfl, rfl, trivial⟩ ⟨rfl, trivial⟩ ⟨by omega, by omega, fun k h1 h2 => by omega⟩ ?_)
  intro i ⟨h8, hi, hz⟩
  by_cases hlt : i < 17
  · (repeat refine g_seq ?_)
    refine g_region ?_
    refine g_pu rfl rfl rfl (pu_move rfl rfl) ?_
    first | refine g_pu rfl rfl rfl (pu_lss_t rfl rfl rfl (by omega)) ?_ | refine g_pu rfl rfl rfl (pu_lss_f rfl rfl rfl (by omega)) ?_ | refine g_pu rfl rfl rfl (pu_lss rfl rfl rfl) ?_
    refine g_nil ?_
    (repeat refine g_seq ?_)
    refine g_cond_t rfl (g_skip ?_)
    have hg := getDq (l := W) (i := i) (by omega)
    generalize hx : W.getD i 0#64 = x at hg
    (repeat refine g_seq ?_)
    refine g_block ?_
    by_cases h0 : 0 < x.toNat
    · have hne : numW (W.drop 8) ≠ 0 := numG_pos 0#64 (by decide) (i := i - 8) (by rw [List.length_drop]; omega) (by rw [getD_drop, show 8 + (i - 8) = i by omega, hx]; omega)
      (repeat refine g_seq ?_)
      refine g_region ?_
      refine g_pu rfl rfl rfl (pu_move rfl rfl) ?_
      refine g_pu rfl rfl rfl (pu_atA1 i rfl rfl rfl rfl hlt) ?_
      refine g_pu rfl rfl rfl (pu_load 1 (v := b64 x) rfl rfl rfl (qs_load hg)) ?_
      refine g_pu rfl rfl rfl (pu_gtr_t rfl rfl rfl (by omega)) ?_
      refine g_nil ?_
      (repeat refine g_seq ?_)
      refine g_cond_t rfl ?_
      (repeat refine g_seq ?_)
      refine g_region ?_
      refine g_pu rfl rfl rfl (pu_assign rfl rfl) ?_
      refine g_nil ?_
      exact g_ret1 rfl rfl (fun w' hm => ⟨(), trivial, by rw [decide_eq_true hne], hm.grows [] trivial rfl⟩)
    · (repeat refine g_seq ?_)
      refine g_region ?_
      refine g_pu rfl rfl rfl (pu_move rfl rfl) ?_
      refine g_pu rfl rfl rfl (pu_atA1 i rfl rfl rfl rfl hlt) ?_
      refine g_pu rfl rfl rfl (pu_load 1 (v := b64 x) rfl rfl rfl (qs_load hg)) ?_
      refine g_pu rfl rfl rfl (pu_gtr_f rfl rfl rfl (by omega)) ?_
      refine g_nil ?_
      (repeat refine g_seq ?_)
      refine g_cond_f rfl (g_skip ?_)
      refine g_blk ?_
      (repeat refine g_seq ?_)
      refine g_region ?_
      refine g_pu rfl rfl rfl (pu_move rfl rfl) ?_
      refine g_pu rfl rfl rfl (pu_addI rfl rfl rfl (by omega)) ?_
      refine g_pu rfl rfl rfl (pu_assign rfl rfl) ?_
      refine g_nil ?_
      refine g_round (i + 1) ⟨by omega, by omega, fun k h1 h2 => ?_⟩ (by omega) ⟨rfl, rfl, trivial⟩ ⟨rfl, trivial⟩
      by_cases hk : k = i
      · rw [hk, hx]; apply BitVec.eq_of_toNat_eq; rw [show (0#64).toNat = 0 from rfl]; omega
      · exact hz k h1 (by omega)
  · (repeat refine g_seq ?_)
    refine g_region ?_
    refine g_pu rfl rfl rfl (pu_move rfl rfl) ?_
    first | refine g_pu rfl rfl rfl (pu_lss_t rfl rfl rfl (by omega)) ?_ | refine g_pu rfl rfl rfl (pu_lss_f rfl rfl rfl (by omega)) ?_ | refine g_pu rfl rfl rfl (pu_lss rfl rfl rfl) ?_
    refine g_nil ?_
    (repeat refine g_seq ?_)
    refine g_cond_f rfl (g_exit rfl ?_)
    have hne : numW (W.drop 8) = 0 := numW_zero fun k => by
      rw [getD_drop]
      by_cases hk : 8 + k < i
      · exact hz _ (by omega) hk
      · rw [List.getD_eq_getElem?_getD, List.getElem?_eq_none (by omega)]; rfl
    (repeat refine g_seq ?_)
    refine g_region ?_
    refine g_pu rfl rfl rfl (pu_assign rfl rfl) ?_
    refine g_nil ?_
    exact g_ret1 rfl rfl (fun w' hm => ⟨(), trivial, by rw [decide_eq_false (fun h => h hne)], hm.grows [] trivial rfl⟩)

theorem getD_rep (n k : Nat) : (List.replicate n 0#64).getD k 0#64 = 0#64 := by
  rw [List.getD_eq_getElem?_getD, List.getElem?_replicate]; split <;> rfl

theorem folded_b (w : World) (W : List (BitVec 64)) (hW : W.length = 17) (hs : Small W) : Spec Try.prog 84 #[.agg (qs W).toArray] w (σ := Unit) (fun _ => True) (fun _ => .agg (dg (numW W % 57896044618658097711785492504343953926634992332820282019728792003956564819949)).toArray) Nob (fun _ => []) := by
  refine enter Try.func84 rfl rfl (Mem.start w) ?_
  (repeat refine g_seq ?_)
  refine g_region ?_
  refine g_lo [1] rfl rfl rfl rfl (lo_box rfl rfl) (fun b1 hb1 => ?_)
  refine g_lo [2] rfl rfl rfl rfl (lo_alloc rfl) (fun b2 hb2 => ?_)
  refine g_nil ?_
  (repeat refine g_seq ?_)
  refine g_block (g_loop (σ := List (BitVec 64)) (fun V => [(1, .pointer (some ⟨b1, 0, none⟩)), (2, .pointer (some ⟨b2, 0, none⟩))]) (fun V => [(1, .pt b1 (.cells (qs V).toArray 138 (0, 0))), (2, .pt b2 (.cells (ws (List.replicate 8 0#32)).toArray 104 (0, 0)))])
    (fun V => V.length = 17 ∧ Small V ∧ numW V % 57896044618658097711785492504343953926634992332820282019728792003956564819949 = numW W % 57896044618658097711785492504343953926634992332820282019728792003956564819949) (fun V => numW V) W ⟨rfl, rfl, trivial⟩ ⟨rfl, rfl, trivial⟩ ⟨hW, hs, rfl⟩ ?_)
  intro V ⟨hV, hVs, hVe⟩
  have hql : (qs V).length = 17 := by rw [qs_length, hV]
  have hsp := numW_split V 8
  rw [show 4294967296 ^ 8 = 115792089237316195423570985008687907853269984665640564039457584007913129639936 from rfl] at hsp
  have hlo : numW (V.take 8) < 115792089237316195423570985008687907853269984665640564039457584007913129639936 := by
    have := numW_lt (l := V.take 8) (fun a ha => hVs a (List.mem_of_mem_take ha))
    rwa [List.length_take, hV] at this
  by_cases hh : numW (V.drop 8) = 0
  · (repeat refine g_seq ?_)
    refine g_region ?_
    refine g_pu rfl rfl rfl (pu_loadW 1 (L := qs V) rfl rfl rfl hql) ?_
    refine g_call [] rfl rfl rfl rfl rfl rfl (fun w' hm => high_b w' V hV) (fun _ _ => ?_)
    rw [decide_eq_false (fun h => h hh)]
    refine g_nil ?_
    (repeat refine g_seq ?_)
    refine g_cond_f rfl (g_exit rfl ?_)
    have hVlt : numW V < 115792089237316195423570985008687907853269984665640564039457584007913129639936 := by rw [hsp, hh]; omega
    have hfl := digs_length 8 (numW V)
    have hd : ∀ i, i < 8 → (digs 8 (numW V))[i]? = some (BitVec.ofNat 32 (numW V / 4294967296 ^ i)) := fun i hi => digs_get hi
    have hdig : ∀ i, i < 8 → (V.getD i 0#64).setWidth 32 = BitVec.ofNat 32 (numW V / 4294967296 ^ i) := fun i hi => by
      have h1 := numG_digit (v := BitVec.toNat) (B := 4294967296) 0#64 (by decide) hVs (show i < V.length by omega)
      apply BitVec.eq_of_toNat_eq
      rw [BitVec.toNat_setWidth, h1, BitVec.toNat_ofNat]
      show numW V / 4294967296 ^ i % 4294967296 % 2 ^ 32 = _
      omega
    rw [← hVe]
    have hdg : dg (numW V) = ws (digs 8 (numW V)) := rfl
    generalize hN : digs 8 (numW V) = full at *
    (repeat refine g_seq ?_)
    refine g_region ?_
    refine g_lo [6] rfl rfl rfl rfl (lo_alloc rfl) (fun b6 hb6 => ?_)
    refine g_nil ?_
    (repeat refine g_seq ?_)
    refine g_region ?_
    refine g_pu rfl rfl rfl (pu_assign rfl rfl) ?_
    refine g_nil ?_
    (repeat refine g_seq ?_)
    refine g_block (g_loop (σ := Nat) (fun (i : Nat) => [(1, .pointer (some ⟨b1, 0, none⟩)), (2, .pointer (some ⟨b2, 0, none⟩)), (6, .pointer (some ⟨b6, 0, none⟩)), (7, .int .i64 (i : Int))]) (fun i => [(1, .pt b1 (.cells (qs V).toArray 138 (0, 0))), (2, .pt b2 (.cells (ws (List.replicate 8 0#32)).toArray 104 (0, 0))), (6, .pt b6 (.cells (ws (fillW 0#32 full i)).toArray 104 (0, 0)))])
      (fun i => i ≤ 8) (fun i => 8 - i) 0 ⟨rfl, rfl, rfl, rfl, trivial⟩ ⟨rfl, rfl, by unfold fillW; rw [List.take_zero, hfl]; rfl, trivial⟩ (by omega) ?_)
    intro i hi
    by_cases hlt : i < 8
    · (repeat refine g_seq ?_)
      refine g_region ?_
      refine g_pu rfl rfl rfl (pu_move rfl rfl) ?_
      first | refine g_pu rfl rfl rfl (pu_lss_t rfl rfl rfl (by omega)) ?_ | refine g_pu rfl rfl rfl (pu_lss_f rfl rfl rfl (by omega)) ?_ | refine g_pu rfl rfl rfl (pu_lss rfl rfl rfl) ?_
      refine g_nil ?_
      (repeat refine g_seq ?_)
      refine g_cond_t rfl (g_skip ?_)
      have h1 := getDq (l := V) (i := i) (by omega)
      have h2 := hdig i hlt
      have h3 := hd i hlt
      generalize V.getD i 0#64 = x at h1 h2
      (repeat refine g_seq ?_); refine g_block ?_
      (repeat refine g_seq ?_)
      refine g_region ?_
      refine g_pu rfl rfl rfl (pu_move rfl rfl) ?_
      refine g_pu rfl rfl rfl (pu_move rfl rfl) ?_
      refine g_pu rfl rfl rfl (pu_atA1 i rfl rfl rfl rfl (by omega)) ?_
      refine g_pu rfl rfl rfl (pu_load 1 (v := b64 x) rfl rfl rfl (qs_load h1)) ?_
      refine g_pu rfl rfl rfl (pu_conv64_32 rfl rfl) ?_
      rw [h2]
      refine g_pu rfl rfl rfl (pu_atA1 i rfl rfl rfl rfl hlt) ?_
      refine g_store 6 (v := b32 (BitVec.ofNat 32 (numW V / 4294967296 ^ i))) rfl rfl rfl rfl rfl rfl rfl (by rw [ws_length, fillW_length]; omega) ?_
      rw [ws_set, fillW_set h3]
      refine g_nil ?_
      refine g_blk ?_
      (repeat refine g_seq ?_)
      refine g_region ?_
      refine g_pu rfl rfl rfl (pu_move rfl rfl) ?_
      refine g_pu rfl rfl rfl (pu_addI rfl rfl rfl (by omega)) ?_
      refine g_pu rfl rfl rfl (pu_assign rfl rfl) ?_
      refine g_nil ?_
      exact g_round (i + 1) (by omega) (by omega) ⟨rfl, rfl, rfl, rfl, trivial⟩ ⟨rfl, rfl, rfl, trivial⟩
    · (repeat refine g_seq ?_)
      refine g_region ?_
      refine g_pu rfl rfl rfl (pu_move rfl rfl) ?_
      first | refine g_pu rfl rfl rfl (pu_lss_t rfl rfl rfl (by omega)) ?_ | refine g_pu rfl rfl rfl (pu_lss_f rfl rfl rfl (by omega)) ?_ | refine g_pu rfl rfl rfl (pu_lss rfl rfl rfl) ?_
      refine g_nil ?_
      (repeat refine g_seq ?_)
      refine g_cond_f rfl (g_exit rfl ?_)
      have e1 : i = full.length := by omega
      rw [e1, fillW_end, ← hdg]
      (repeat refine g_seq ?_)
      refine g_region ?_
      refine g_pu rfl rfl rfl (pu_loadW 6 (L := dg (numW V)) rfl rfl rfl rfl) ?_
      refine g_call [] rfl rfl rfl rfl rfl rfl (fun w' hm => RNorm_b w' _ hVlt) (fun _ _ => ?_)
      refine g_storeL 2 (s := 8) (C := dg (numW V % 57896044618658097711785492504343953926634992332820282019728792003956564819949)) rfl rfl rfl rfl rfl rfl rfl rfl (oneCell_dg _) ?_
      refine g_nil ?_
      exact g_retL 2 (L := dg (numW V % 57896044618658097711785492504343953926634992332820282019728792003956564819949)) rfl rfl rfl rfl (fun w' hm => ⟨(), trivial, rfl, hm.grows [] trivial rfl⟩)
  · (repeat refine g_seq ?_)
    refine g_region ?_
    refine g_pu rfl rfl rfl (pu_loadW 1 (L := qs V) rfl rfl rfl hql) ?_
    refine g_call [] rfl rfl rfl rfl rfl rfl (fun w' hm => high_b w' V hV) (fun _ _ => ?_)
    rw [decide_eq_true hh]
    refine g_nil ?_
    (repeat refine g_seq ?_)
    refine g_cond_t rfl (g_skip ?_)
    (repeat refine g_seq ?_); refine g_block ?_
    (repeat refine g_seq ?_)
    refine g_region ?_
    refine g_lo [3] rfl rfl rfl rfl (lo_alloc rfl) (fun b3 hb3 => ?_)
    refine g_nil ?_
    (repeat refine g_seq ?_)
    refine g_region ?_
    refine g_pu rfl rfl rfl (pu_assign (v := b64 0#64) rfl rfl) ?_
    refine g_nil ?_
    (repeat refine g_seq ?_)
    refine g_region ?_
    refine g_pu rfl rfl rfl (pu_assign rfl rfl) ?_
    refine g_nil ?_
    (repeat refine g_seq ?_)
    refine g_block (g_loop3 (fun (i : Nat) (X : List (BitVec 64)) (c : BitVec 64) => [(1, .pointer (some ⟨b1, 0, none⟩)), (2, .pointer (some ⟨b2, 0, none⟩)), (3, .pointer (some ⟨b3, 0, none⟩)), (4, b64 c), (5, .int .i64 (i : Int))]) (fun i X c => [(1, .pt b1 (.cells (qs V).toArray 138 (0, 0))), (2, .pt b2 (.cells (ws (List.replicate 8 0#32)).toArray 104 (0, 0))), (3, .pt b3 (.cells (qs X).toArray 138 (0, 0)))])
      (fun i X c => i ≤ 9 ∧ X.length = 17 ∧ Small X ∧ (∀ k, i ≤ k → X.getD k 0#64 = 0#64) ∧ c.toNat ≤ 40 ∧ numW (X.take i) + 4294967296 ^ i * c.toNat = numW ((V.take 8).take i) + 38 * numW ((V.drop 8).take i)) (fun i _ _ => 9 - i) 0 (List.replicate 17 0#64) 0#64 ⟨rfl, rfl, rfl, rfl, rfl, trivial⟩ ⟨rfl, rfl, rfl, trivial⟩ ⟨by omega, rfl, small_rep 17, fun k _ => getD_rep 17 k, by decide, rfl⟩ ?_)
    intro i X c ⟨hi, hX, hXs, hXz, hc, hv⟩
    by_cases hlt : i < 9
    · (repeat refine g_seq ?_)
      refine g_region ?_
      refine g_pu rfl rfl rfl (pu_move rfl rfl) ?_
      first | refine g_pu rfl rfl rfl (pu_lss_t rfl rfl rfl (by omega)) ?_ | refine g_pu rfl rfl rfl (pu_lss_f rfl rfl rfl (by omega)) ?_ | refine g_pu rfl rfl rfl (pu_lss rfl rfl rfl) ?_
      refine g_nil ?_
      (repeat refine g_seq ?_)
      refine g_cond_t rfl (g_skip ?_)
      have gh := getDq (l := V) (i := i + 8) (by omega)
      have hhs := hVs.at (i + 8)
      have nh : numW ((V.drop 8).take (i + 1)) = numW ((V.drop 8).take i) + 4294967296 ^ i * (V.getD (i + 8) 0#64).toNat := by
        rw [numW_take (by rw [List.length_drop]; omega), getD_drop, Nat.add_comm 8]
      generalize V.getD (i + 8) 0#64 = y at gh hhs nh
      (repeat refine g_seq ?_); refine g_block ?_
      (repeat refine g_seq ?_)
      refine g_region ?_
      refine g_pu rfl rfl rfl (pu_move rfl rfl) ?_
      refine g_pu rfl rfl rfl (pu_lss rfl rfl rfl) ?_
      refine g_nil ?_
      refine g_join (σ := BitVec 64) (fun d => [(1, .pointer (some ⟨b1, 0, none⟩)), (2, .pointer (some ⟨b2, 0, none⟩)), (3, .pointer (some ⟨b3, 0, none⟩)), (4, b64 d), (5, .int .i64 (i : Int))]) (fun d => [(1, .pt b1 (.cells (qs V).toArray 138 (0, 0))), (2, .pt b2 (.cells (ws (List.replicate 8 0#32)).toArray 104 (0, 0))), (3, .pt b3 (.cells (qs X).toArray 138 (0, 0)))]) (fun d => d.toNat ≤ 40 + 4294967295 ∧ numW ((V.take 8).take (i + 1)) + 4294967296 ^ i * c.toNat = numW ((V.take 8).take i) + 4294967296 ^ i * d.toNat) ?_ ?_
      · by_cases h8 : i < 8
        · refine g_cond_t (congrArg (fun z => some (Value.bool z)) (decide_eq_true (by omega))) ?_
          have gl := getDq (l := V) (i := i) (by omega)
          have hls := hVs.at i
          have nl : numW ((V.take 8).take (i + 1)) = numW ((V.take 8).take i) + 4294967296 ^ i * (V.getD i 0#64).toNat := by
            rw [numW_take (by rw [List.length_take]; omega)]
            congr 3
            rw [List.getD_eq_getElem?_getD, List.getD_eq_getElem?_getD, List.getElem?_take, if_pos h8]
          generalize V.getD i 0#64 = x at gl hls nl
          (repeat refine g_seq ?_)
          refine g_region ?_
          refine g_pu rfl rfl rfl (pu_move rfl rfl) ?_
          refine g_pu rfl rfl rfl (pu_move rfl rfl) ?_
          refine g_pu rfl rfl rfl (pu_atA1 i rfl rfl rfl rfl (by omega)) ?_
          refine g_pu rfl rfl rfl (pu_load 1 (v := b64 x) rfl rfl rfl (qs_load gl)) ?_
          refine g_pu rfl rfl rfl (pu_add64 rfl rfl rfl) ?_
          refine g_pu rfl rfl rfl (pu_assign rfl rfl) ?_
          refine g_nil ?_
          have hd : (c + x).toNat = c.toNat + x.toNat := by rw [BitVec.toNat_add]; omega
          refine g_meet (c + x) ⟨by omega, ?_⟩ ⟨rfl, rfl, rfl, rfl, rfl, trivial⟩ ⟨rfl, rfl, rfl, trivial⟩
          rw [nl, hd, Nat.mul_add]
          omega
        · refine g_cond_f (congrArg (fun z => some (Value.bool z)) (decide_eq_false (by omega))) ?_
          refine g_skip ?_
          refine g_meet c ⟨by omega, ?_⟩ ⟨rfl, rfl, rfl, rfl, rfl, trivial⟩ ⟨rfl, rfl, rfl, trivial⟩
          rw [List.take_of_length_le (show (V.take 8).length ≤ i + 1 by rw [List.length_take]; omega), List.take_of_length_le (show (V.take 8).length ≤ i by rw [List.length_take]; omega)]
      · intro d ⟨hd, hdv⟩
        have h38 : (38#64 * y).toNat = 38 * y.toNat := by rw [BitVec.toNat_mul, show (38#64).toNat = 38 from rfl]; omega
        have hsum : (d + 38#64 * y).toNat = d.toNat + 38 * y.toNat := by rw [BitVec.toNat_add, h38]; omega
        have hce := carry_eq (d + 38#64 * y)
        have hrs : ((d + 38#64 * y) % 4294967296#64).toNat < 4294967296 := by rw [rem32]; omega
        have st := cstepW (numW_setT (l := X) (i := i) ((d + 38#64 * y) % 4294967296#64) (by omega)) hce
        have hc2 : ((d + 38#64 * y) >>> 32).toNat ≤ 40 := by rw [shr32', hsum]; omega
        rw [hsum] at st
        (repeat refine g_seq ?_)
        refine g_region ?_
        refine g_pu rfl rfl rfl (pu_move rfl rfl) ?_
        refine g_pu rfl rfl rfl (pu_move rfl rfl) ?_
        refine g_pu rfl rfl rfl (pu_addI rfl rfl rfl (by omega)) ?_
        refine g_pu rfl rfl rfl (pu_atA1 (i + 8) rfl rfl rfl (by omega) (by omega)) ?_
        refine g_pu rfl rfl rfl (pu_load 1 (v := b64 y) rfl rfl rfl (qs_load gh)) ?_
        refine g_pu rfl rfl rfl (pu_mul64 (a := 38#64) rfl rfl rfl) ?_
        refine g_pu rfl rfl rfl (pu_add64 rfl rfl rfl) ?_
        refine g_pu rfl rfl rfl (pu_assign rfl rfl) ?_
        refine g_nil ?_
        (repeat refine g_seq ?_)
        refine g_region ?_
        refine g_pu rfl rfl rfl (pu_move rfl rfl) ?_
        refine g_pu rfl rfl rfl (pu_move rfl rfl) ?_
        refine g_pu rfl rfl rfl (pu_rem64 (b := 4294967296#64) rfl rfl rfl (by decide)) ?_
        refine g_pu rfl rfl rfl (pu_atA1 i rfl rfl rfl rfl (by omega)) ?_
        refine g_store 3 (v := b64 ((d + 38#64 * y) % 4294967296#64)) rfl rfl rfl rfl rfl rfl rfl (by rw [qs_length]; omega) ?_
        rw [qs_set]
        refine g_nil ?_
        (repeat refine g_seq ?_)
        refine g_region ?_
        refine g_pu rfl rfl rfl (pu_move rfl rfl) ?_
        refine g_pu rfl rfl rfl (pu_shr64 rfl rfl rfl (by omega)) ?_
        refine g_pu rfl rfl rfl (pu_assign rfl rfl) ?_
        refine g_nil ?_
        refine g_blk ?_
        (repeat refine g_seq ?_)
        refine g_region ?_
        refine g_pu rfl rfl rfl (pu_move rfl rfl) ?_
        refine g_pu rfl rfl rfl (pu_addI rfl rfl rfl (by omega)) ?_
        refine g_pu rfl rfl rfl (pu_assign rfl rfl) ?_
        refine g_nil ?_
        refine g_round3 (i + 1) (X.set i ((d + 38#64 * y) % 4294967296#64)) ((d + 38#64 * y) >>> 32) ⟨by omega, by rw [List.length_set, hX], hXs.set hrs, fun k hk => by rw [getD_set _ _ _ _ (by omega)]; exact hXz k (by omega), hc2, ?_⟩ (by omega) ⟨rfl, rfl, rfl, rfl, rfl, trivial⟩ ⟨rfl, rfl, rfl, trivial⟩
        rw [Nat.pow_succ, st, nh, Nat.mul_add, Nat.mul_add]
        have e2 : 4294967296 ^ i * (38 * y.toNat) = 38 * (4294967296 ^ i * y.toNat) := by rw [Nat.mul_left_comm]
        rw [e2]
        omega
    · (repeat refine g_seq ?_)
      refine g_region ?_
      refine g_pu rfl rfl rfl (pu_move rfl rfl) ?_
      first | refine g_pu rfl rfl rfl (pu_lss_t rfl rfl rfl (by omega)) ?_ | refine g_pu rfl rfl rfl (pu_lss_f rfl rfl rfl (by omega)) ?_ | refine g_pu rfl rfl rfl (pu_lss rfl rfl rfl) ?_
      refine g_nil ?_
      (repeat refine g_seq ?_)
      refine g_cond_f rfl (g_exit rfl ?_)
      have e1 : i = 9 := by omega
      subst e1
      rw [List.take_of_length_le (show (V.take 8).length ≤ 9 by rw [List.length_take]; omega), List.take_of_length_le (show (V.drop 8).length ≤ 9 by rw [List.length_drop]; omega)] at hv
      have hz9 : numW ((X.set 9 c).drop 10) = 0 := numW_zero fun k => by
        rw [getD_drop, getD_set _ _ _ _ (by omega)]
        exact hXz _ (by omega)
      have hsp2 := numW_split (X.set 9 c) 10
      rw [hz9, numW_setT c (show 9 < X.length by omega), Nat.mul_zero, Nat.add_zero, hv] at hsp2
      have hql2 : (qs (X.set 9 c)).length = 17 := by rw [qs_length, List.length_set, hX]
      (repeat refine g_seq ?_)
      refine g_region ?_
      refine g_pu rfl rfl rfl (pu_move rfl rfl) ?_
      refine g_pu rfl rfl rfl (pu_atA1 9 rfl rfl rfl rfl (by omega)) ?_
      refine g_store 3 (v := b64 c) rfl rfl rfl rfl rfl rfl rfl (by rw [qs_length]; omega) ?_
      rw [qs_set]
      refine g_nil ?_
      (repeat refine g_seq ?_)
      refine g_region ?_
      refine g_pu rfl rfl rfl (pu_loadW 3 (L := qs (X.set 9 c)) rfl rfl rfl hql2) ?_
      refine g_storeL 1 (s := 17) (C := qs (X.set 9 c)) rfl rfl rfl rfl rfl rfl hql2 hql (oneCell_qs _) ?_
      refine g_nil ?_
      refine g_blk ?_
      exact g_round (X.set 9 c) ⟨by rw [List.length_set, hX], hXs.set (by omega), by omega⟩ (by omega) ⟨rfl, rfl, trivial⟩ ⟨rfl, rfl, trivial⟩

theorem RAdd_b (w : World) (a b : Nat) (ha : a < 115792089237316195423570985008687907853269984665640564039457584007913129639936) (hb : b < 115792089237316195423570985008687907853269984665640564039457584007913129639936) : Spec Try.prog 65 #[.agg (dg a).toArray, .agg (dg b).toArray] w (σ := Unit) (fun _ => True) (fun _ => .agg (dg ((a + b) % 57896044618658097711785492504343953926634992332820282019728792003956564819949)).toArray) Nob (fun _ => []) := by
  refine enter Try.func65 rfl rfl (Mem.start w) ?_
  have han := dg_num ha
  have hbn := dg_num hb
  have hal := digs_length 8 a
  have hbl := digs_length 8 b
  have hA : dg a = ws (digs 8 a) := rfl
  have hB : dg b = ws (digs 8 b) := rfl
  rw [hA, hB]
  generalize digs 8 a = A at *
  generalize digs 8 b = B at *
  (repeat refine g_seq ?_)
  refine g_region ?_
  refine g_lo [2] rfl rfl rfl rfl (lo_box rfl rfl) (fun b2 hb2 => ?_)
  refine g_lo [3] rfl rfl rfl rfl (lo_box rfl rfl) (fun b3 hb3 => ?_)
  refine g_lo [4] rfl rfl rfl rfl (lo_alloc rfl) (fun b4 hb4 => ?_)
  refine g_nil ?_
  (repeat refine g_seq ?_)
  refine g_region ?_
  refine g_lo [5] rfl rfl rfl rfl (lo_alloc rfl) (fun b5 hb5 => ?_)
  refine g_nil ?_
  (repeat refine g_seq ?_)
  refine g_region ?_
  refine g_pu rfl rfl rfl (pu_assign (v := b64 0#64) rfl rfl) ?_
  refine g_nil ?_
  (repeat refine g_seq ?_)
  refine g_region ?_
  refine g_pu rfl rfl rfl (pu_assign rfl rfl) ?_
  refine g_nil ?_
  (repeat refine g_seq ?_)
  refine g_block (g_loop3 (fun (i : Nat) (X : List (BitVec 64)) (c : BitVec 64) => [(2, .pointer (some ⟨b2, 0, none⟩)), (3, .pointer (some ⟨b3, 0, none⟩)), (4, .pointer (some ⟨b4, 0, none⟩)), (5, .pointer (some ⟨b5, 0, none⟩)), (6, b64 c), (7, .int .i64 (i : Int))]) (fun i X c => [(2, .pt b2 (.cells (ws A).toArray 104 (0, 0))), (3, .pt b3 (.cells (ws B).toArray 104 (0, 0))), (4, .pt b4 (.cells (ws (List.replicate 8 0#32)).toArray 104 (0, 0))), (5, .pt b5 (.cells (qs X).toArray 138 (0, 0)))])
    (fun i X c => i ≤ 8 ∧ X.length = 17 ∧ Small X ∧ (∀ k, i ≤ k → X.getD k 0#64 = 0#64) ∧ c.toNat ≤ 1 ∧ numW (X.take i) + 4294967296 ^ i * c.toNat = numD (A.take i) + numD (B.take i)) (fun i _ _ => 8 - i) 0 (List.replicate 17 0#64) 0#64 ⟨rfl, rfl, rfl, rfl, rfl, rfl, trivial⟩ ⟨rfl, rfl, rfl, rfl, trivial⟩ ⟨by omega, rfl, small_rep 17, fun k _ => getD_rep 17 k, by decide, rfl⟩ ?_)
  intro i X c ⟨hi, hX, hXs, hXz, hc, hv⟩
  by_cases hlt : i < 8
  · (repeat refine g_seq ?_)
    refine g_region ?_
    refine g_pu rfl rfl rfl (pu_move rfl rfl) ?_
    first | refine g_pu rfl rfl rfl (pu_lss_t rfl rfl rfl (by omega)) ?_ | refine g_pu rfl rfl rfl (pu_lss_f rfl rfl rfl (by omega)) ?_ | refine g_pu rfl rfl rfl (pu_lss rfl rfl rfl) ?_
    refine g_nil ?_
    (repeat refine g_seq ?_)
    refine g_cond_t rfl (g_skip ?_)
    have ga := getDd (l := A) (i := i) (by omega)
    have gb := getDd (l := B) (i := i) (by omega)
    have na := numD_take (l := A) (i := i) (by omega)
    have nb := numD_take (l := B) (i := i) (by omega)
    generalize A.getD i 0#32 = x at ga na
    generalize B.getD i 0#32 = y at gb nb
    have hx := x.isLt
    have hy := y.isLt
    have hsum : (c + x.setWidth 64 + y.setWidth 64).toNat = c.toNat + x.toNat + y.toNat := by
      rw [BitVec.toNat_add, BitVec.toNat_add, BitVec.toNat_setWidth, BitVec.toNat_setWidth]; omega
    have hce := carry_eq (c + x.setWidth 64 + y.setWidth 64)
    have hrs : ((c + x.setWidth 64 + y.setWidth 64) % 4294967296#64).toNat < 4294967296 := by rw [rem32]; omega
    have hc2 : ((c + x.setWidth 64 + y.setWidth 64) >>> 32).toNat ≤ 1 := by rw [shr32', hsum]; omega
    have st := cstepW (numW_setT (l := X) (i := i) ((c + x.setWidth 64 + y.setWidth 64) % 4294967296#64) (by omega)) hce
    rw [hsum] at st
    generalize hS : c + x.setWidth 64 + y.setWidth 64 = s at *
    (repeat refine g_seq ?_); refine g_block ?_
    (repeat refine g_seq ?_)
    refine g_any (12, []) ?_
    refine a_pu 0 rfl rfl rfl rfl (pu_move rfl rfl) rfl rfl (by kernel_rfl) ?_
    refine a_pu 1 rfl rfl rfl rfl (pu_move rfl rfl) rfl rfl (by kernel_rfl) ?_
    refine a_pu 2 rfl rfl rfl rfl (pu_atA1 i rfl rfl rfl rfl hlt) rfl rfl (by kernel_rfl) ?_
    refine a_pu 3 rfl rfl rfl rfl (pu_load 2 (v := b32 x) rfl rfl rfl (ws_load ga)) rfl rfl (by kernel_rfl) ?_
    refine a_pu 4 rfl rfl rfl rfl (pu_conv32_64 rfl rfl) rfl rfl (by kernel_rfl) ?_
    refine a_pu 5 rfl rfl rfl rfl (pu_add64 rfl rfl rfl) rfl rfl (by kernel_rfl) ?_
    refine a_pu 6 rfl rfl rfl rfl (pu_move rfl rfl) rfl rfl (by kernel_rfl) ?_
    refine a_pu 7 rfl rfl rfl rfl (pu_atA1 i rfl rfl rfl rfl hlt) rfl rfl (by kernel_rfl) ?_
    refine a_pu 8 rfl rfl rfl rfl (pu_load 3 (v := b32 y) rfl rfl rfl (ws_load gb)) rfl rfl (by kernel_rfl) ?_
    refine a_pu 9 rfl rfl rfl rfl (pu_conv32_64 rfl rfl) rfl rfl (by kernel_rfl) ?_
    refine a_pu 10 rfl rfl rfl rfl (pu_add64 rfl rfl rfl) rfl rfl (by kernel_rfl) ?_
    rw [hS]
    refine a_pu 11 rfl rfl rfl rfl (pu_assign rfl rfl) rfl rfl (by kernel_rfl) ?_
    refine a_done (by kernel_rfl) ?_
    (repeat refine g_seq ?_)
    refine g_region ?_
    refine g_pu rfl rfl rfl (pu_move rfl rfl) ?_
    refine g_pu rfl rfl rfl (pu_move rfl rfl) ?_
    refine g_pu rfl rfl rfl (pu_rem64 (b := 4294967296#64) rfl rfl rfl (by decide)) ?_
    refine g_pu rfl rfl rfl (pu_atA1 i rfl rfl rfl rfl (by omega)) ?_
    refine g_store 5 (v := b64 (s % 4294967296#64)) rfl rfl rfl rfl rfl rfl rfl (by rw [qs_length]; omega) ?_
    rw [qs_set]
    refine g_nil ?_
    (repeat refine g_seq ?_)
    refine g_region ?_
    refine g_pu rfl rfl rfl (pu_move rfl rfl) ?_
    refine g_pu rfl rfl rfl (pu_shr64 rfl rfl rfl (by omega)) ?_
    refine g_pu rfl rfl rfl (pu_assign rfl rfl) ?_
    refine g_nil ?_
    refine g_blk ?_
    (repeat refine g_seq ?_)
    refine g_region ?_
    refine g_pu rfl rfl rfl (pu_move rfl rfl) ?_
    refine g_pu rfl rfl rfl (pu_addI rfl rfl rfl (by omega)) ?_
    refine g_pu rfl rfl rfl (pu_assign rfl rfl) ?_
    refine g_nil ?_
    refine g_round3 (i + 1) (X.set i (s % 4294967296#64)) (s >>> 32) ⟨by omega, by rw [List.length_set, hX], hXs.set hrs, fun k hk => by rw [getD_set _ _ _ _ (by omega)]; exact hXz k (by omega), hc2, ?_⟩ (by omega) ⟨rfl, rfl, rfl, rfl, rfl, rfl, trivial⟩ ⟨rfl, rfl, rfl, rfl, trivial⟩
    rw [Nat.pow_succ, st, na, nb, Nat.mul_add, Nat.mul_add]
    omega
  · (repeat refine g_seq ?_)
    refine g_region ?_
    refine g_pu rfl rfl rfl (pu_move rfl rfl) ?_
    first | refine g_pu rfl rfl rfl (pu_lss_t rfl rfl rfl (by omega)) ?_ | refine g_pu rfl rfl rfl (pu_lss_f rfl rfl rfl (by omega)) ?_ | refine g_pu rfl rfl rfl (pu_lss rfl rfl rfl) ?_
    refine g_nil ?_
    (repeat refine g_seq ?_)
    refine g_cond_f rfl (g_exit rfl ?_)
    have e1 : i = 8 := by omega
    subst e1
    rw [List.take_of_length_le (show A.length ≤ 8 by omega), List.take_of_length_le (show B.length ≤ 8 by omega), han, hbn] at hv
    have hz9 : numW ((X.set 8 c).drop 9) = 0 := numW_zero fun k => by
      rw [getD_drop, getD_set _ _ _ _ (by omega)]
      exact hXz _ (by omega)
    have hsp2 := numW_split (X.set 8 c) 9
    rw [hz9, numW_setT c (show 8 < X.length by omega), Nat.mul_zero, Nat.add_zero, hv] at hsp2
    have hql2 : (qs (X.set 8 c)).length = 17 := by rw [qs_length, List.length_set, hX]
    rw [← hsp2]
    (repeat refine g_seq ?_)
    refine g_region ?_
    refine g_pu rfl rfl rfl (pu_move rfl rfl) ?_
    refine g_pu rfl rfl rfl (pu_atA1 8 rfl rfl rfl rfl (by omega)) ?_
    refine g_store 5 (v := b64 c) rfl rfl rfl rfl rfl rfl rfl (by rw [qs_length]; omega) ?_
    rw [qs_set]
    refine g_nil ?_
    (repeat refine g_seq ?_)
    refine g_region ?_
    refine g_pu rfl rfl rfl (pu_loadW 5 (L := qs (X.set 8 c)) rfl rfl rfl hql2) ?_
    refine g_call [] rfl rfl rfl rfl rfl rfl (fun w' hm => folded_b w' (X.set 8 c) (by rw [List.length_set, hX]) (hXs.set (by omega))) (fun _ _ => ?_)
    refine g_storeL 4 (s := 8) (C := dg (numW (X.set 8 c) % 57896044618658097711785492504343953926634992332820282019728792003956564819949)) rfl rfl rfl rfl rfl rfl rfl rfl (oneCell_dg _) ?_
    refine g_nil ?_
    exact g_retL 4 (L := dg (numW (X.set 8 c) % 57896044618658097711785492504343953926634992332820282019728792003956564819949)) rfl rfl rfl rfl (fun w' hm => ⟨(), trivial, rfl, hm.grows [] trivial rfl⟩)

theorem mul32_lt (x y : BitVec 32) : x.toNat * y.toNat ≤ 18446744065119617025 := Nat.mul_le_mul (show x.toNat ≤ 4294967295 by omega) (show y.toNat ≤ 4294967295 by omega)

theorem RMul_b (w : World) (a b : Nat) (ha : a < 115792089237316195423570985008687907853269984665640564039457584007913129639936) (hb : b < 115792089237316195423570985008687907853269984665640564039457584007913129639936) : Spec Try.prog 67 #[.agg (dg a).toArray, .agg (dg b).toArray] w (σ := Unit) (fun _ => True) (fun _ => .agg (dg ((a * b) % 57896044618658097711785492504343953926634992332820282019728792003956564819949)).toArray) Nob (fun _ => []) := by
  refine enter Try.func67 rfl rfl (Mem.start w) ?_
  have han := dg_num ha
  have hbn := dg_num hb
  have hal := digs_length 8 a
  have hbl := digs_length 8 b
  have hA : dg a = ws (digs 8 a) := rfl
  have hB : dg b = ws (digs 8 b) := rfl
  rw [hA, hB]
  generalize digs 8 a = A at *
  generalize digs 8 b = B at *
  (repeat refine g_seq ?_)
  refine g_region ?_
  refine g_lo [2] rfl rfl rfl rfl (lo_box rfl rfl) (fun b2 hb2 => ?_)
  refine g_lo [3] rfl rfl rfl rfl (lo_box rfl rfl) (fun b3 hb3 => ?_)
  refine g_lo [4] rfl rfl rfl rfl (lo_alloc rfl) (fun b4 hb4 => ?_)
  refine g_nil ?_
  (repeat refine g_seq ?_)
  refine g_region ?_
  refine g_lo [5] rfl rfl rfl rfl (lo_alloc rfl) (fun b5 hb5 => ?_)
  refine g_nil ?_
  (repeat refine g_seq ?_)
  refine g_region ?_
  refine g_pu rfl rfl rfl (pu_assign rfl rfl) ?_
  refine g_nil ?_
  (repeat refine g_seq ?_)
  refine g_block (g_loop2 (fun (i : Nat) (X : List (BitVec 64)) => [(2, .pointer (some ⟨b2, 0, none⟩)), (3, .pointer (some ⟨b3, 0, none⟩)), (4, .pointer (some ⟨b4, 0, none⟩)), (5, .pointer (some ⟨b5, 0, none⟩)), (6, .int .i64 (i : Int))]) (fun i X => [(2, .pt b2 (.cells (ws A).toArray 104 (0, 0))), (3, .pt b3 (.cells (ws B).toArray 104 (0, 0))), (4, .pt b4 (.cells (ws (List.replicate 8 0#32)).toArray 104 (0, 0))), (5, .pt b5 (.cells (qs X).toArray 138 (0, 0)))])
    (fun i X => i ≤ 8 ∧ X.length = 17 ∧ Small X ∧ (∀ k, i + 8 ≤ k → X.getD k 0#64 = 0#64) ∧ numW X = numD (A.take i) * b) (fun i _ => 8 - i) 0 (List.replicate 17 0#64) ⟨rfl, rfl, rfl, rfl, rfl, trivial⟩ ⟨rfl, rfl, rfl, rfl, trivial⟩ ⟨by omega, rfl, small_rep 17, fun k _ => getD_rep 17 k, by rw [numW_zero (getD_rep 17)]; simp [numD, numG]⟩ ?_)
  intro i X ⟨hi, hX, hXs, hXz, hv⟩
  by_cases hlt : i < 8
  · (repeat refine g_seq ?_)
    refine g_region ?_
    refine g_pu rfl rfl rfl (pu_move rfl rfl) ?_
    first | refine g_pu rfl rfl rfl (pu_lss_t rfl rfl rfl (by omega)) ?_ | refine g_pu rfl rfl rfl (pu_lss_f rfl rfl rfl (by omega)) ?_ | refine g_pu rfl rfl rfl (pu_lss rfl rfl rfl) ?_
    refine g_nil ?_
    (repeat refine g_seq ?_)
    refine g_cond_t rfl (g_skip ?_)
    have ga := getDd (l := A) (i := i) (by omega)
    have na := numD_take (l := A) (i := i) (by omega)
    generalize A.getD i 0#32 = x at ga na
    have hx := x.isLt
    (repeat refine g_seq ?_); refine g_block ?_
    (repeat refine g_seq ?_)
    refine g_region ?_
    refine g_pu rfl rfl rfl (pu_assign (v := b64 0#64) rfl rfl) ?_
    refine g_nil ?_
    (repeat refine g_seq ?_)
    refine g_region ?_
    refine g_pu rfl rfl rfl (pu_assign rfl rfl) ?_
    refine g_nil ?_
    (repeat refine g_seq ?_)
    refine g_block (g_loop3 (fun (j : Nat) (V : List (BitVec 64)) (c : BitVec 64) => [(2, .pointer (some ⟨b2, 0, none⟩)), (3, .pointer (some ⟨b3, 0, none⟩)), (4, .pointer (some ⟨b4, 0, none⟩)), (5, .pointer (some ⟨b5, 0, none⟩)), (6, .int .i64 (i : Int)), (7, b64 c), (8, .int .i64 (j : Int))]) (fun j V c => [(2, .pt b2 (.cells (ws A).toArray 104 (0, 0))), (3, .pt b3 (.cells (ws B).toArray 104 (0, 0))), (4, .pt b4 (.cells (ws (List.replicate 8 0#32)).toArray 104 (0, 0))), (5, .pt b5 (.cells (qs V).toArray 138 (0, 0)))])
      (fun j V c => j ≤ 8 ∧ V.length = 17 ∧ Small V ∧ (∀ k, i + 8 ≤ k → V.getD k 0#64 = 0#64) ∧ c.toNat < 4294967296 ∧ numW V + 4294967296 ^ (i + j) * c.toNat = numW X + 4294967296 ^ i * (x.toNat * numD (B.take j))) (fun j _ _ => 8 - j) 0 X 0#64 ⟨rfl, rfl, rfl, rfl, rfl, rfl, rfl, trivial⟩ ⟨rfl, rfl, rfl, rfl, trivial⟩ ⟨by omega, hX, hXs, hXz, by decide, by simp [numD, numG]⟩ ?_)
    intro j V c ⟨hj, hV, hVs, hVz, hc, hVv⟩
    by_cases hj8 : j < 8
    · (repeat refine g_seq ?_)
      refine g_region ?_
      refine g_pu rfl rfl rfl (pu_move rfl rfl) ?_
      first | refine g_pu rfl rfl rfl (pu_lss_t rfl rfl rfl (by omega)) ?_ | refine g_pu rfl rfl rfl (pu_lss_f rfl rfl rfl (by omega)) ?_ | refine g_pu rfl rfl rfl (pu_lss rfl rfl rfl) ?_
      refine g_nil ?_
      (repeat refine g_seq ?_)
      refine g_cond_t rfl (g_skip ?_)
      have gb := getDd (l := B) (i := j) (by omega)
      have nb := numD_take (l := B) (i := j) (by omega)
      generalize B.getD j 0#32 = y at gb nb
      have hy := y.isLt
      have gk := getDq (l := V) (i := i + j) (by omega)
      have hz := hVs.at (i + j)
      have ns := fun s => numW_set (l := V) (i := i + j) s (by omega)
      generalize V.getD (i + j) 0#64 = z at gk hz ns
      have hxy := mul32_lt x y
      have hp : (x.setWidth 64 * y.setWidth 64).toNat = x.toNat * y.toNat := by
        rw [BitVec.toNat_mul, BitVec.toNat_setWidth, BitVec.toNat_setWidth, Nat.mod_eq_of_lt (show x.toNat < 2 ^ 64 by omega), Nat.mod_eq_of_lt (show y.toNat < 2 ^ 64 by omega)]
        exact Nat.mod_eq_of_lt (by omega)
      have hsum : (c + z + x.setWidth 64 * y.setWidth 64).toNat = c.toNat + z.toNat + x.toNat * y.toNat := by
        rw [BitVec.toNat_add, BitVec.toNat_add, hp]; omega
      have hce := carry_eq (c + z + x.setWidth 64 * y.setWidth 64)
      have hrs : ((c + z + x.setWidth 64 * y.setWidth 64) % 4294967296#64).toNat < 4294967296 := by rw [rem32]; omega
      have hc2 : ((c + z + x.setWidth 64 * y.setWidth 64) >>> 32).toNat < 4294967296 := by rw [shr32']; have := (c + z + x.setWidth 64 * y.setWidth 64).isLt; omega
      have ns := ns ((c + z + x.setWidth 64 * y.setWidth 64) % 4294967296#64)
      rw [hsum] at hce
      generalize hS : c + z + x.setWidth 64 * y.setWidth 64 = s at *
      have st := congrArg (4294967296 ^ (i + j) * ·) hce
      simp only [Nat.mul_add] at st
      (repeat refine g_seq ?_); refine g_block ?_
      (repeat refine g_seq ?_)
      refine g_any (18, []) ?_
      refine a_pu 0 rfl rfl rfl rfl (pu_move rfl rfl) rfl rfl (by kernel_rfl) ?_
      refine a_pu 1 rfl rfl rfl rfl (pu_move rfl rfl) rfl rfl (by kernel_rfl) ?_
      refine a_pu 2 rfl rfl rfl rfl (pu_move rfl rfl) rfl rfl (by kernel_rfl) ?_
      refine a_pu 3 rfl rfl rfl rfl (pu_addI rfl rfl rfl (by omega)) rfl rfl (by kernel_rfl) ?_
      refine a_pu 4 rfl rfl rfl rfl (pu_atA1 (i + j) rfl rfl rfl (by omega) (by omega)) rfl rfl (by kernel_rfl) ?_
      refine a_pu 5 rfl rfl rfl rfl (pu_load 5 (v := b64 z) rfl rfl rfl (qs_load gk)) rfl rfl (by kernel_rfl) ?_
      refine a_pu 6 rfl rfl rfl rfl (pu_add64 rfl rfl rfl) rfl rfl (by kernel_rfl) ?_
      refine a_pu 7 rfl rfl rfl rfl (pu_move rfl rfl) rfl rfl (by kernel_rfl) ?_
      refine a_pu 8 rfl rfl rfl rfl (pu_atA1 i rfl rfl rfl rfl hlt) rfl rfl (by kernel_rfl) ?_
      refine a_pu 9 rfl rfl rfl rfl (pu_load 2 (v := b32 x) rfl rfl rfl (ws_load ga)) rfl rfl (by kernel_rfl) ?_
      refine a_pu 10 rfl rfl rfl rfl (pu_conv32_64 rfl rfl) rfl rfl (by kernel_rfl) ?_
      refine a_pu 11 rfl rfl rfl rfl (pu_move rfl rfl) rfl rfl (by kernel_rfl) ?_
      refine a_pu 12 rfl rfl rfl rfl (pu_atA1 j rfl rfl rfl rfl hj8) rfl rfl (by kernel_rfl) ?_
      refine a_pu 13 rfl rfl rfl rfl (pu_load 3 (v := b32 y) rfl rfl rfl (ws_load gb)) rfl rfl (by kernel_rfl) ?_
      refine a_pu 14 rfl rfl rfl rfl (pu_conv32_64 rfl rfl) rfl rfl (by kernel_rfl) ?_
      refine a_pu 15 rfl rfl rfl rfl (pu_mul64 rfl rfl rfl) rfl rfl (by kernel_rfl) ?_
      refine a_pu 16 rfl rfl rfl rfl (pu_add64 rfl rfl rfl) rfl rfl (by kernel_rfl) ?_
      rw [hS]
      refine a_pu 17 rfl rfl rfl rfl (pu_assign rfl rfl) rfl rfl (by kernel_rfl) ?_
      refine a_done (by kernel_rfl) ?_
      (repeat refine g_seq ?_)
      refine g_region ?_
      refine g_pu rfl rfl rfl (pu_move rfl rfl) ?_
      refine g_pu rfl rfl rfl (pu_move rfl rfl) ?_
      refine g_pu rfl rfl rfl (pu_addI rfl rfl rfl (by omega)) ?_
      refine g_pu rfl rfl rfl (pu_move rfl rfl) ?_
      refine g_pu rfl rfl rfl (pu_rem64 (b := 4294967296#64) rfl rfl rfl (by decide)) ?_
      refine g_pu rfl rfl rfl (pu_atA1 (i + j) rfl rfl rfl (by omega) (by omega)) ?_
      refine g_store 5 (v := b64 (s % 4294967296#64)) rfl rfl rfl rfl rfl rfl rfl (by rw [qs_length]; omega) ?_
      rw [qs_set]
      refine g_nil ?_
      (repeat refine g_seq ?_)
      refine g_region ?_
      refine g_pu rfl rfl rfl (pu_move rfl rfl) ?_
      refine g_pu rfl rfl rfl (pu_shr64 rfl rfl rfl (by omega)) ?_
      refine g_pu rfl rfl rfl (pu_assign rfl rfl) ?_
      refine g_nil ?_
      refine g_blk ?_
      (repeat refine g_seq ?_)
      refine g_region ?_
      refine g_pu rfl rfl rfl (pu_move rfl rfl) ?_
      refine g_pu rfl rfl rfl (pu_addI rfl rfl rfl (by omega)) ?_
      refine g_pu rfl rfl rfl (pu_assign rfl rfl) ?_
      refine g_nil ?_
      refine g_round3 (j + 1) (V.set (i + j) (s % 4294967296#64)) (s >>> 32) ⟨by omega, by rw [List.length_set, hV], hVs.set hrs, fun k hk => by rw [getD_set _ _ _ _ (by omega)]; exact hVz k hk, hc2, ?_⟩ (by omega) ⟨rfl, rfl, rfl, rfl, rfl, rfl, rfl, trivial⟩ ⟨rfl, rfl, rfl, rfl, trivial⟩
      rw [show i + (j + 1) = i + j + 1 by omega, Nat.pow_succ, nb, Nat.mul_add, Nat.mul_add, Nat.mul_assoc]
      have e1 : 4294967296 ^ i * (x.toNat * (4294967296 ^ j * y.toNat)) = 4294967296 ^ (i + j) * (x.toNat * y.toNat) := by
        rw [Nat.pow_add, Nat.mul_left_comm x.toNat, Nat.mul_assoc]
      rw [e1]
      omega
    · (repeat refine g_seq ?_)
      refine g_region ?_
      refine g_pu rfl rfl rfl (pu_move rfl rfl) ?_
      first | refine g_pu rfl rfl rfl (pu_lss_t rfl rfl rfl (by omega)) ?_ | refine g_pu rfl rfl rfl (pu_lss_f rfl rfl rfl (by omega)) ?_ | refine g_pu rfl rfl rfl (pu_lss rfl rfl rfl) ?_
      refine g_nil ?_
      (repeat refine g_seq ?_)
      refine g_cond_f rfl (g_exit rfl ?_)
      have e1 : j = 8 := by omega
      subst e1
      rw [List.take_of_length_le (show B.length ≤ 8 by omega), hbn] at hVv
      have ns := numW_set (l := V) (i := i + 8) c (by omega)
      rw [hVz (i + 8) (by omega), show (0#64).toNat = 0 from rfl, Nat.mul_zero] at ns
      (repeat refine g_seq ?_)
      refine g_region ?_
      refine g_pu rfl rfl rfl (pu_move rfl rfl) ?_
      refine g_pu rfl rfl rfl (pu_addI rfl rfl rfl (by omega)) ?_
      refine g_pu rfl rfl rfl (pu_move rfl rfl) ?_
      refine g_pu rfl rfl rfl (pu_atA1 (i + 8) rfl rfl rfl (by omega) (by omega)) ?_
      refine g_store 5 (v := b64 c) rfl rfl rfl rfl rfl rfl rfl (by rw [qs_length]; omega) ?_
      rw [qs_set]
      refine g_nil ?_
      refine g_blk ?_
      (repeat refine g_seq ?_)
      refine g_region ?_
      refine g_pu rfl rfl rfl (pu_move rfl rfl) ?_
      refine g_pu rfl rfl rfl (pu_addI rfl rfl rfl (by omega)) ?_
      refine g_pu rfl rfl rfl (pu_assign rfl rfl) ?_
      refine g_nil ?_
      refine g_round2 (i + 1) (V.set (i + 8) c) ⟨by omega, by rw [List.length_set, hV], hVs.set hc, fun k hk => by rw [getD_set _ _ _ _ (by omega)]; exact hVz k (by omega), ?_⟩ (by omega) ⟨rfl, rfl, rfl, rfl, rfl, trivial⟩ ⟨rfl, rfl, rfl, rfl, trivial⟩
      rw [na, Nat.add_mul, ← hv, Nat.mul_assoc]
      omega
  · (repeat refine g_seq ?_)
    refine g_region ?_
    refine g_pu rfl rfl rfl (pu_move rfl rfl) ?_
    first | refine g_pu rfl rfl rfl (pu_lss_t rfl rfl rfl (by omega)) ?_ | refine g_pu rfl rfl rfl (pu_lss_f rfl rfl rfl (by omega)) ?_ | refine g_pu rfl rfl rfl (pu_lss rfl rfl rfl) ?_
    refine g_nil ?_
    (repeat refine g_seq ?_)
    refine g_cond_f rfl (g_exit rfl ?_)
    have e1 : i = 8 := by omega
    subst e1
    rw [List.take_of_length_le (show A.length ≤ 8 by omega), han] at hv
    have hql : (qs X).length = 17 := by rw [qs_length, hX]
    rw [← hv]
    (repeat refine g_seq ?_)
    refine g_region ?_
    refine g_pu rfl rfl rfl (pu_loadW 5 (L := qs X) rfl rfl rfl hql) ?_
    refine g_call [] rfl rfl rfl rfl rfl rfl (fun w' hm => folded_b w' X hX hXs) (fun _ _ => ?_)
    refine g_storeL 4 (s := 8) (C := dg (numW X % 57896044618658097711785492504343953926634992332820282019728792003956564819949)) rfl rfl rfl rfl rfl rfl rfl rfl (oneCell_dg _) ?_
    refine g_nil ?_
    exact g_retL 4 (L := dg (numW X % 57896044618658097711785492504343953926634992332820282019728792003956564819949)) rfl rfl rfl rfl (fun w' hm => ⟨(), trivial, rfl, hm.grows [] trivial rfl⟩)

theorem RSub_b (w : World) (a b : Nat) (ha : a < 115792089237316195423570985008687907853269984665640564039457584007913129639936) (hb : b < 115792089237316195423570985008687907853269984665640564039457584007913129639936) : Spec Try.prog 66 #[.agg (dg a).toArray, .agg (dg b).toArray] w (σ := Unit) (fun _ => True) (fun _ => .agg (dg ((a + (57896044618658097711785492504343953926634992332820282019728792003956564819949 - b % 57896044618658097711785492504343953926634992332820282019728792003956564819949)) % 57896044618658097711785492504343953926634992332820282019728792003956564819949)).toArray) Nob (fun _ => []) := by
  refine enter Try.func66 rfl rfl (Mem.start w) ?_
  have hra : a % 57896044618658097711785492504343953926634992332820282019728792003956564819949 < 115792089237316195423570985008687907853269984665640564039457584007913129639936 := by omega
  have hrb : b % 57896044618658097711785492504343953926634992332820282019728792003956564819949 < 115792089237316195423570985008687907853269984665640564039457584007913129639936 := by omega
  have h38 : dg 38 = ws [38#32, 0#32, 0#32, 0#32, 0#32, 0#32, 0#32, 0#32] := by rw [dg_of rfl]; congr 1
  (repeat refine g_seq ?_)
  refine g_region ?_
  refine g_lo [2] rfl rfl rfl rfl (lo_box rfl rfl) (fun b2 hb2 => ?_)
  refine g_lo [3] rfl rfl rfl rfl (lo_box rfl rfl) (fun b3 hb3 => ?_)
  refine g_lo [4] rfl rfl rfl rfl (lo_alloc rfl) (fun b4 hb4 => ?_)
  refine g_nil ?_
  (repeat refine g_seq ?_)
  refine g_any (9, [7]) ?_
  refine a_pu 0 rfl rfl rfl rfl (pu_loadW 2 (L := dg a) rfl rfl rfl rfl) rfl rfl (by kernel_rfl) ?_
  refine a_pu 2 rfl rfl rfl rfl (pu_loadW 3 (L := dg b) rfl rfl rfl rfl) rfl rfl (by kernel_rfl) ?_
  refine a_pendA 8 5 5 104 ?_
  refine a_do 1 9 [] (does_call rfl rfl rfl rfl rfl (fun w' hm => RNorm_b w' a ha)) rfl rfl (by kernel_rfl) rfl rfl (by kernel_rfl) (by kernel_rfl) (by kernel_rfl) rfl (fun p hp => by simp only [List.mem_cons, List.not_mem_nil, or_false] at hp; subst hp; first | exact does_PA rfl rfl rfl rfl | exact does_PB rfl rfl rfl rfl rfl (by decide) (by decide) rfl rfl) ?_; rintro v_ cs_ ⟨_, _, rfl, rfl⟩
  refine a_do 3 11 [] (does_call rfl rfl rfl rfl rfl (fun w' hm => RNorm_b w' b hb)) rfl rfl (by kernel_rfl) rfl rfl (by kernel_rfl) (by kernel_rfl) (by kernel_rfl) rfl (fun p hp => by simp only [List.mem_cons, List.not_mem_nil, or_false] at hp; subst hp; first | exact does_PA rfl rfl rfl rfl | exact does_PB rfl rfl rfl rfl rfl (by decide) (by decide) rfl rfl) ?_; rintro v_ cs_ ⟨_, _, rfl, rfl⟩
  refine a_do 4 12 [] (does_call rfl rfl rfl rfl rfl (fun w' hm => minus_b w' _ _ hra hrb)) rfl rfl (by kernel_rfl) rfl rfl (by kernel_rfl) (by kernel_rfl) (by kernel_rfl) rfl (fun p hp => by simp only [List.mem_cons, List.not_mem_nil, or_false] at hp; subst hp; first | exact does_PA rfl rfl rfl rfl | exact does_PB rfl rfl rfl rfl rfl (by decide) (by decide) rfl rfl) ?_; rintro v_ cs_ ⟨_, _, rfl, rfl⟩
  refine a_pu 5 rfl rfl rfl rfl (pu_move rfl rfl) rfl rfl (by kernel_rfl) ?_
  refine a_pu 6 rfl rfl rfl rfl (pu_extract rfl rfl rfl) rfl rfl (by kernel_rfl) ?_
  first | refine a_mv 7 rfl rfl rfl rfl (fun _ => (pu_extract rfl rfl rfl)) rfl rfl rfl (by kernel_rfl) (by kernel_rfl) (by kernel_rfl) rfl ?_
  refine a_force _ (by kernel_rfl) rfl rfl rfl (by kernel_rfl) (by kernel_rfl) (by kernel_rfl) rfl (fun p hp => by simp only [List.mem_cons, List.not_mem_nil, or_false] at hp; subst hp; first | exact does_PA rfl rfl rfl rfl | exact does_PB rfl rfl rfl rfl rfl (by decide) (by decide) rfl rfl) ?_; rintro v_ cs_ ⟨b5, hb5, rfl, rfl⟩
  refine a_tail [9, 10] (by kernel_rfl) rfl rfl (by kernel_rfl) ?_
  refine g_storeL 5 (s := 8) (C := dg ((a % 57896044618658097711785492504343953926634992332820282019728792003956564819949 + (115792089237316195423570985008687907853269984665640564039457584007913129639936 - b % 57896044618658097711785492504343953926634992332820282019728792003956564819949)) % 115792089237316195423570985008687907853269984665640564039457584007913129639936)) rfl rfl rfl rfl rfl rfl rfl rfl (oneCell_dg _) ?_
  refine g_pu rfl rfl rfl (pu_assign rfl rfl) ?_
  refine g_nil ?_
  have hd1 : (a % 57896044618658097711785492504343953926634992332820282019728792003956564819949 + (115792089237316195423570985008687907853269984665640564039457584007913129639936 - b % 57896044618658097711785492504343953926634992332820282019728792003956564819949)) % 115792089237316195423570985008687907853269984665640564039457584007913129639936 < 115792089237316195423570985008687907853269984665640564039457584007913129639936 := by omega
  by_cases hlt : a % 57896044618658097711785492504343953926634992332820282019728792003956564819949 < b % 57896044618658097711785492504343953926634992332820282019728792003956564819949
  · rw [decide_eq_true hlt]
    have hR : (a + (57896044618658097711785492504343953926634992332820282019728792003956564819949 - b % 57896044618658097711785492504343953926634992332820282019728792003956564819949)) % 57896044618658097711785492504343953926634992332820282019728792003956564819949 = ((a % 57896044618658097711785492504343953926634992332820282019728792003956564819949 + (115792089237316195423570985008687907853269984665640564039457584007913129639936 - b % 57896044618658097711785492504343953926634992332820282019728792003956564819949)) % 115792089237316195423570985008687907853269984665640564039457584007913129639936 + (115792089237316195423570985008687907853269984665640564039457584007913129639936 - 38)) % 115792089237316195423570985008687907853269984665640564039457584007913129639936 % 57896044618658097711785492504343953926634992332820282019728792003956564819949 := by omega
    have hd2 : ((a % 57896044618658097711785492504343953926634992332820282019728792003956564819949 + (115792089237316195423570985008687907853269984665640564039457584007913129639936 - b % 57896044618658097711785492504343953926634992332820282019728792003956564819949)) % 115792089237316195423570985008687907853269984665640564039457584007913129639936 + (115792089237316195423570985008687907853269984665640564039457584007913129639936 - 38)) % 115792089237316195423570985008687907853269984665640564039457584007913129639936 < 115792089237316195423570985008687907853269984665640564039457584007913129639936 := by omega
    rw [hR]
    generalize (a % 57896044618658097711785492504343953926634992332820282019728792003956564819949 + (115792089237316195423570985008687907853269984665640564039457584007913129639936 - b % 57896044618658097711785492504343953926634992332820282019728792003956564819949)) % 115792089237316195423570985008687907853269984665640564039457584007913129639936 = d at *
    (repeat refine g_seq ?_)
    refine g_region ?_
    refine g_pu rfl rfl rfl (pu_move rfl rfl) ?_
    refine g_nil ?_
    (repeat refine g_seq ?_)
    refine g_cond_t rfl ?_
    (repeat refine g_seq ?_)
    refine g_region ?_
    refine g_pu rfl rfl rfl (pu_loadW 5 (L := dg d) rfl rfl rfl rfl) ?_
    refine g_pu rfl rfl rfl (pu_buildA' (cs := dg 38) rfl rfl (by rw [h38]; rfl)) ?_
    refine g_call [] rfl rfl rfl rfl rfl rfl (fun w' hm => minus_b w' d 38 hd1 (by decide)) (fun _ _ => ?_)
    refine g_pu rfl rfl rfl (pu_move rfl rfl) ?_
    refine g_pu rfl rfl rfl (pu_extract rfl rfl rfl) ?_
    refine g_pu rfl rfl rfl (pu_extract rfl rfl rfl) ?_
    refine g_storeL 5 (s := 8) (C := dg ((d + (115792089237316195423570985008687907853269984665640564039457584007913129639936 - 38)) % 115792089237316195423570985008687907853269984665640564039457584007913129639936)) rfl rfl rfl rfl rfl rfl rfl rfl (oneCell_dg _) ?_
    refine g_nil ?_
    (repeat refine g_seq ?_)
    refine g_region ?_
    refine g_pu rfl rfl rfl (pu_loadW 5 (L := dg ((d + (115792089237316195423570985008687907853269984665640564039457584007913129639936 - 38)) % 115792089237316195423570985008687907853269984665640564039457584007913129639936)) rfl rfl rfl rfl) ?_
    refine g_call [] rfl rfl rfl rfl rfl rfl (fun w' hm => RNorm_b w' _ hd2) (fun _ _ => ?_)
    refine g_storeL 4 (s := 8) (C := dg ((d + (115792089237316195423570985008687907853269984665640564039457584007913129639936 - 38)) % 115792089237316195423570985008687907853269984665640564039457584007913129639936 % 57896044618658097711785492504343953926634992332820282019728792003956564819949)) rfl rfl rfl rfl rfl rfl rfl rfl (oneCell_dg _) ?_
    refine g_nil ?_
    exact g_retL 4 (L := dg ((d + (115792089237316195423570985008687907853269984665640564039457584007913129639936 - 38)) % 115792089237316195423570985008687907853269984665640564039457584007913129639936 % 57896044618658097711785492504343953926634992332820282019728792003956564819949)) rfl rfl rfl rfl (fun w' hm => ⟨(), trivial, rfl, hm.grows [] trivial rfl⟩)
  · rw [decide_eq_false hlt]
    have hR : (a + (57896044618658097711785492504343953926634992332820282019728792003956564819949 - b % 57896044618658097711785492504343953926634992332820282019728792003956564819949)) % 57896044618658097711785492504343953926634992332820282019728792003956564819949 = (a % 57896044618658097711785492504343953926634992332820282019728792003956564819949 + (115792089237316195423570985008687907853269984665640564039457584007913129639936 - b % 57896044618658097711785492504343953926634992332820282019728792003956564819949)) % 115792089237316195423570985008687907853269984665640564039457584007913129639936 % 57896044618658097711785492504343953926634992332820282019728792003956564819949 := by omega
    rw [hR]
    generalize (a % 57896044618658097711785492504343953926634992332820282019728792003956564819949 + (115792089237316195423570985008687907853269984665640564039457584007913129639936 - b % 57896044618658097711785492504343953926634992332820282019728792003956564819949)) % 115792089237316195423570985008687907853269984665640564039457584007913129639936 = d at *
    (repeat refine g_seq ?_)
    refine g_region ?_
    refine g_pu rfl rfl rfl (pu_move rfl rfl) ?_
    refine g_nil ?_
    (repeat refine g_seq ?_)
    refine g_cond_f rfl (g_skip ?_)
    (repeat refine g_seq ?_)
    refine g_region ?_
    refine g_pu rfl rfl rfl (pu_loadW 5 (L := dg d) rfl rfl rfl rfl) ?_
    refine g_call [] rfl rfl rfl rfl rfl rfl (fun w' hm => RNorm_b w' _ hd1) (fun _ _ => ?_)
    refine g_storeL 4 (s := 8) (C := dg (d % 57896044618658097711785492504343953926634992332820282019728792003956564819949)) rfl rfl rfl rfl rfl rfl rfl rfl (oneCell_dg _) ?_
    refine g_nil ?_
    exact g_retL 4 (L := dg (d % 57896044618658097711785492504343953926634992332820282019728792003956564819949)) rfl rfl rfl rfl (fun w' hm => ⟨(), trivial, rfl, hm.grows [] trivial rfl⟩)
end Go.Sx

import Derived.Test.YtigcogjilfnpcaaGFA
set_option linter.unusedVariables false
set_option linter.unusedSimpArgs false
/-
  A range over a slice's bytes backwards (slices.Backward), and the field's powers. The numbers are below 2^256.
-/
namespace Go.Sx
open Go Go.Proofs Go.RowKit

section
variable {P : Program} {N : Nat} {w0 : World} {D : Blocks} {e : List (Nat × Value)} {M : List (Nat × Ck)} {o : Oper}
theorem pu_makeFunc {f : FuncId} {x : Operand} {v : Value} (ho : o.op = .makeFunc (.func f) #[] #[x]) (hx : ev e x = some v) : Pu P N w0 D e M o (.func (.func f) #[] #[v]) := fun a w hs hm => by
  simp [execOp, ho, hs.eval hx, Instr.makeFunc]
theorem enters_cal {f : FuncId} [hc : Cal P f] (args : Array Value) (w : World) : (callFunc f args).run P w = .ok (.enter f args) w := by
  obtain ⟨g, h1, h2, h3⟩ := hc.h
  simp only [callFunc, Sem.run_bind, run_program, h1, Result.andThen_ok, h2, h3, Bool.false_eq_true, if_false]
  simp [mark]
end

/-- The places and bytes, the last first. -/
def back (l : List (BitVec 8)) : List (Nat × BitVec 8) := (l.zipIdx.map fun p => (p.2, p.1)).reverse
theorem back_take {l : List (BitVec 8)} {k : Nat} {x : BitVec 8} (h : l[k]? = some x) : back (l.take (k + 1)) = (k, x) :: back (l.take k) := by
  have hk := (List.getElem?_eq_some_iff.1 h).1
  unfold back
  rw [List.take_add_one, h]
  simp [List.zipIdx_append, Nat.min_eq_left (Nat.le_of_lt hk)]
theorem back_length (l : List (BitVec 8)) : (back l).length = l.length := by simp [back]
/-- Horner's way through the bytes. -/
def hornB : Nat → List (Nat × BitVec 8) → Nat
  | acc, [] => acc
  | acc, x :: r => hornB (acc * 256 + x.2.toNat) r
theorem hornB_back : ∀ {l : List (BitVec 8)} (k acc : Nat), k ≤ l.length → hornB acc (back (l.take k)) = acc * 256 ^ k + numB (l.take k)
  | l, 0, acc, _ => by simp [back, hornB, numB]
  | l, k + 1, acc, h => by
    have h1 : l[k]? = some l[k] := List.getElem?_eq_getElem (by omega)
    rw [back_take h1, numB_take h1, hornB, hornB_back k _ (by omega), Nat.add_mul, Nat.pow_succ, Nat.mul_assoc, Nat.mul_comm 256 (256 ^ k), Nat.mul_comm (256 ^ k) (l[k]).toNat]
    dsimp only
    omega
theorem hornB_num (l : List (BitVec 8)) : hornB 0 (back l) = numB l := by
  have := hornB_back (l := l) l.length 0 (Nat.le_refl _)
  rw [List.take_length] at this
  rw [this]; omega
theorem hornB_snoc : ∀ (xs : List (Nat × BitVec 8)) (acc : Nat) (x : Nat × BitVec 8), hornB acc (xs ++ [x]) = hornB acc xs * 256 + x.2.toNat
  | [], acc, x => rfl
  | y :: r, acc, x => by rw [List.cons_append, hornB, hornB_snoc r]; rfl

/-- The number that a place of the act's holds, and one. -/
def ixM (i : Nat) (a : Act) : Nat := match (a.tmps[i]? : Option Value) with | some (.int _ z) => (z + 1).toNat | _ => 0
theorem ixM_of {df : List Deferred} {N : Nat} {e : List (Nat × Value)} {a : Act} {i : Nat} {kd : IntKind} {z : Int} (h : SatD df N e a) (he : get e i = some (.int kd z)) : ixM i a = (z + 1).toNat := by
  unfold ixM
  rw [h.slot i _ he]
def encB (x : Nat × BitVec 8) : Array Value := #[.int .i64 (x.1 : Int), b8 x.2]
/-- What a round keeps: the old blocks, and the iterator's own. -/
def KpB (n0 bb : Nat) (A B : World) : Prop := Below n0 A B ∧ B.heap[bb]? = A.heap[bb]?
theorem KpB.trans {n0 bb : Nat} {A B C : World} (h : KpB n0 bb A B) (k : KpB n0 bb B C) : KpB n0 bb A C := ⟨h.1.trans k.1, k.2.trans h.2⟩
theorem KpB.refl (n0 bb : Nat) (A : World) : KpB n0 bb A A := ⟨Below.refl _ _, rfl⟩

theorem Backward_b (w : World) (p : Option Addr) (n c : Nat) : Spec Try.prog 186 #[.slice p n c] w (σ := Nat) (fun _ => True) (fun b => .func (.func 189) #[] #[.pointer (some ⟨b, 0, none⟩)]) Nob (fun b => [.pt b (.cells #[.slice p n c] 26 (0, 0))]) := by
  refine enter Try.func186 rfl rfl (Mem.start w) ?_
  (repeat refine g_seq ?_)
  refine g_region ?_
  refine g_lo [1] rfl rfl rfl rfl (lo_box rfl rfl) (fun b1 hb1 => ?_)
  refine g_pu rfl rfl rfl (pu_assign rfl rfl) ?_
  refine g_nil ?_
  (repeat refine g_seq ?_)
  refine g_region ?_
  refine g_pu rfl rfl rfl (pu_makeFunc rfl rfl) ?_
  refine g_pu rfl rfl rfl (pu_assign rfl rfl) ?_
  refine g_nil ?_
  exact g_ret1 rfl rfl (fun w' hm => ⟨b1, trivial, rfl, hm.grows [1] ⟨rfl, trivial⟩ rfl⟩)

theorem back_stops (m n0 : Nat) (w : World) {bb : Nat} {p : Option Addr} {n : Nat} (c : Nat) {l : List (BitVec 8)} (hn0 : n0 ≤ w.heap.size) (hbb : w.heap[bb]? = some (.cells #[.slice p n c] 26 (0, 0))) (ha : By w p n l) (hp : ∀ b o, p = some ⟨b, o, none⟩ → bs l ≠ [] → b < n0) :
    SeqStopsK (FW none) m Try.prog 189 #[.pointer (some ⟨bb, 0, none⟩)] encB (KpB n0 bb) (fun xs => xs = back l) (fun _ => True) l.length w := by
  intro ly J Jx W hW hJ hJx hY h0
  have hl := ha.len
  have hbig := ha.big
  have hbW : W.heap[bb]? = some (.cells #[.slice p n c] 26 (0, 0)) := (hW.block bb (lt_of_some hbb)).trans hbb
  have haW : By W p n l := ⟨ha.rd.keep fun b o e hL => hW.block b (Nat.lt_of_lt_of_le (hp b o e hL) hn0), ha.len, ha.big⟩
  have hcell : ∀ W', KpB n0 bb W W' → W'.cell? ⟨bb, 0, none⟩ = some (.slice p n c) := fun W' hk => by
    rw [cell_pt (hk.2.trans hbW)]; rfl
  have hby : ∀ W', KpB n0 bb W W' → By W' p n l := fun W' hk => ⟨haW.rd.keep fun b o e hL => hk.1.block b (hp b o e hL), ha.len, ha.big⟩
  show CallsIn (FW none) m Try.prog 189 #[.func (.yield ly) #[] #[], .pointer (some ⟨bb, 0, none⟩)] W _
  refine callsFW (enterR (l := [.func (.yield ly) #[] #[], .pointer (some ⟨bb, 0, none⟩)]) m Try.func189 rfl rfl ?_)
  (repeat refine r_seq ?_)
  refine r_region ?_
  refine r_pu rfl rfl rfl rfl (pu_old rfl rfl (hcell W (KpB.refl _ _ _)) (fun h => h)) ?_
  refine r_pu rfl rfl rfl rfl (pu_len rfl rfl) ?_
  refine r_pu rfl rfl rfl rfl (pu_subI rfl rfl rfl (by omega)) ?_
  refine r_pu rfl rfl rfl rfl (pu_assign rfl rfl) ?_
  refine r_nil ?_
  refine r_block ?_
  intro a w1 hs hm
  simp only [extR]
  have hk1 : KpB n0 bb W w1 := ⟨⟨hm.os, hm.tape, hm.output, hm.size, fun k hk => hm.keep k (Nat.lt_of_lt_of_le hk (Nat.le_trans hn0 hW.size)) (fun h => h)⟩, hm.keep bb (lt_of_some hbW) (fun h => h)⟩
  have hJ1 : J [] w1 := hJ [] W w1 none h0 ⟨hm.os, hm.tape, hm.output, hm.size, fun k hk _ => hm.keep k hk (fun h => h)⟩ (fun r e => by cases e)
  refine wpIn_loop (fun a w => ∃ (k : Nat) (pre : List (Nat × BitVec 8)), k ≤ n ∧ pre ++ back (l.take k) = back l ∧ SatD [] Try.f189.ntmps [(0, .func (.yield ly) #[] #[]), (1, .pointer (some ⟨bb, 0, none⟩)), (3, .int .i64 ((k : Int) - 1))] a ∧ J pre w ∧ KpB n0 bb W w)
    (fun a _ => ixM 3 a) ⟨n, [], Nat.le_refl _, by rw [← hl, List.take_length]; rfl, hs.sub (SubE.all (e' := [(0, .func (.yield ly) #[] #[]), (1, .pointer (some ⟨bb, 0, none⟩)), (3, .int .i64 ((n : Int) - 1))]) ⟨rfl, rfl, rfl, trivial⟩), hJ1, hk1⟩ ?_
  rintro a2 w2 ⟨k, pre, hk, hpre, hs2, hJ2, hK2⟩
  have hmu := ixM_of (i := 3) hs2 rfl
  refine r_from hs2 ?_
  (repeat refine r_seq ?_)
  refine r_region ?_
  refine r_pu rfl rfl rfl rfl (pu_move rfl rfl) ?_
  by_cases hk0 : k = 0
  · refine r_pu rfl rfl rfl rfl (pu_geq_f rfl rfl rfl (by omega)) ?_
    refine r_nil ?_
    (repeat refine r_seq ?_)
    refine r_cond_f rfl (r_exit rfl ?_)
    refine r_end fun a3 w3 hs3 hm3 => ?_
    subst hk0
    have hJ3 : J pre w3 := hJ pre w2 w3 none hJ2 ⟨hm3.os, hm3.tape, hm3.output, hm3.size, fun k hk _ => hm3.keep k hk (fun h => h)⟩ (fun r e => by cases e)
    rw [List.take_zero, show back [] = [] from rfl, List.append_nil] at hpre
    show LeavesInM _ _ _ _ _ _ a3.defers _ _
    rw [hs3.defers]
    exact ⟨_, results_none rfl _ _ _, ⟨_, rfl⟩, .inl ⟨pre, hpre, hJ3⟩⟩
  · refine r_pu rfl rfl rfl rfl (pu_geq_t rfl rfl rfl (by omega)) ?_
    refine r_nil ?_
    (repeat refine r_seq ?_)
    refine r_cond_t rfl (r_skip ?_)
    (repeat refine r_seq ?_)
    have h1 : l[k - 1]? = some l[k - 1] := List.getElem?_eq_getElem (by omega)
    generalize l[k - 1] = x at h1
    have hbt := back_take h1
    rw [show k - 1 + 1 = k by omega] at hbt
    have hlen : pre.length < l.length := by
      have := congrArg List.length hpre
      rw [List.length_append, back_length, back_length, List.length_take] at this
      omega
    have ha2 := hby w2 hK2
    refine r_block ?_
    (repeat refine r_seq ?_)
    refine r_region ?_
    refine r_pu rfl rfl rfl rfl (pu_move rfl rfl) ?_
    refine r_pu rfl rfl rfl rfl (pu_move rfl rfl) ?_
    refine r_pu rfl rfl rfl rfl (pu_old rfl rfl (hcell w2 hK2) (fun h => h)) ?_
    refine r_pu rfl rfl rfl rfl (pu_move rfl rfl) ?_
    refine r_pu rfl rfl rfl rfl (pu_atB (k - 1) (fun w' hm => ha2.m hm) rfl rfl rfl (by omega) (by omega)) ?_
    refine r_pu rfl rfl rfl rfl (pu_rdB (fun w' hm => ha2.m hm) rfl rfl h1) ?_
    refine r_yield (l := ly) (vs := [.int .i64 ((k : Int) - 1), b8 x]) (fun b w' => (b = true ∧ J (pre ++ [(k - 1, x)]) w' ∧ KpB n0 bb W w') ∨ (b = false ∧ Jx (pre ++ [(k - 1, x)]) w')) rfl rfl rfl rfl rfl rfl rfl (fun w3 hm3 => ⟨_, rfl, ?_⟩) ?_
    · have hJ3 : J pre w3 := hJ pre w2 w3 none hJ2 ⟨hm3.os, hm3.tape, hm3.output, hm3.size, fun k hk _ => hm3.keep k hk (fun h => h)⟩ (fun r e => by cases e)
      have hK3 : KpB n0 bb W w3 := hK2.trans ⟨⟨hm3.os, hm3.tape, hm3.output, hm3.size, fun k hk => hm3.keep k (Nat.lt_of_lt_of_le hk (Nat.le_trans (Nat.le_trans hn0 hW.size) hK2.1.size)) (fun h => h)⟩, hm3.keep bb (Nat.lt_of_lt_of_le (lt_of_some hbW) hK2.1.size) (fun h => h)⟩
      obtain ⟨fn, tmps, assign, body, hy, hR⟩ := hY pre (k - 1, x) w3 hJ3 hlen
      refine ⟨fn, tmps, assign, body, ?_, hR.mono ?_⟩
      · have e1 : encB (k - 1, x) = #[.int .i64 ((k : Int) - 1), b8 x] := by
          unfold encB
          congr 3
          simp only
          omega
        rw [← e1]
        exact hy
      · rintro en w' (⟨rfl, hj, hkp⟩ | ⟨rfl, hj⟩)
        · exact ⟨true, rfl, .inl ⟨rfl, hj, hK3.trans hkp⟩⟩
        · exact ⟨false, rfl, .inr ⟨rfl, hj⟩⟩
    · rintro b w4 (⟨rfl, hj, hkp⟩ | ⟨rfl, hj⟩)
      · refine r_pu rfl rfl rfl rfl (pu_not rfl rfl) ?_
        refine r_nil ?_
        (repeat refine r_seq ?_)
        refine r_cond_f rfl (r_skip ?_)
        refine r_blk ?_
        (repeat refine r_seq ?_)
        refine r_region ?_
        refine r_pu rfl rfl rfl rfl (pu_move rfl rfl) ?_
        refine r_pu rfl rfl rfl rfl (pu_subI rfl rfl rfl (by omega)) ?_
        refine r_pu rfl rfl rfl rfl (pu_assign rfl rfl) ?_
        refine r_nil ?_
        intro a5 w5 hs5 hm5
        simp only [extR]
        have hJ5 : J (pre ++ [(k - 1, x)]) w5 := hJ _ w4 w5 none hj ⟨hm5.os, hm5.tape, hm5.output, hm5.size, fun k hk _ => hm5.keep k hk (fun h => h)⟩ (fun r e => by cases e)
        have hK5 : KpB n0 bb W w5 := hkp.trans ⟨⟨hm5.os, hm5.tape, hm5.output, hm5.size, fun k hk => hm5.keep k (Nat.lt_of_lt_of_le hk (Nat.le_trans (Nat.le_trans hn0 hW.size) hkp.1.size)) (fun h => h)⟩, hm5.keep bb (Nat.lt_of_lt_of_le (lt_of_some hbW) hkp.1.size) (fun h => h)⟩
        have e3 : ((k : Int) - 1 - 1) = ((k - 1 : Nat) : Int) - 1 := by omega
        have hs6 : SatD [] Try.f189.ntmps [(0, .func (.yield ly) #[] #[]), (1, .pointer (some ⟨bb, 0, none⟩)), (3, .int .i64 (((k - 1 : Nat) : Int) - 1))] a5 := by
          rw [← e3]
          exact hs5.sub (SubE.all (e' := [(0, .func (.yield ly) #[] #[]), (1, .pointer (some ⟨bb, 0, none⟩)), (3, .int .i64 ((k : Int) - 1 - 1))]) ⟨rfl, rfl, rfl, trivial⟩)
        refine ⟨⟨k - 1, pre ++ [(k - 1, x)], by omega, by rw [← hpre, hbt, List.append_assoc]; rfl, hs6, hJ5, hK5⟩, ?_⟩
        have h7 := ixM_of (i := 3) hs6 rfl
        omega
      · refine r_pu rfl rfl rfl rfl (pu_not rfl rfl) ?_
        refine r_nil ?_
        (repeat refine r_seq ?_)
        refine r_cond_t rfl ?_
        refine r_ret fun a5 w5 hs5 hm5 => ?_
        have hJ5 : Jx (pre ++ [(k - 1, x)]) w5 := hJx _ w4 w5 none hj ⟨hm5.os, hm5.tape, hm5.output, hm5.size, fun k hk _ => hm5.keep k hk (fun h => h)⟩ (fun r e => by cases e)
        show LeavesInM _ _ _ _ _ _ a5.defers _ _
        rw [hs5.defers]
        exact ⟨_, results_none rfl _ _ _, ⟨_, rfl⟩, .inr ⟨_, trivial, hJ5⟩⟩
end Go.Sx

/-
  The field's powers. The numbers are below 2^256.
-/
namespace Go.Sx
open Go Go.Proofs Go.RowKit

/-- One byte's bits, the highest first. -/
def bitE (h x j : Nat) : Nat := h * 2 ^ j + x / 2 ^ (8 - j)
theorem bitE_0 {h x : Nat} (hx : x < 256) : bitE h x 0 = h := by unfold bitE; simp; omega
theorem bitE_8 (h x : Nat) : bitE h x 8 = h * 256 + x := by unfold bitE; simp
theorem bitE_step (h x : Nat) {j : Nat} (hj : j < 8) : bitE h x (j + 1) = 2 * bitE h x j + x / 2 ^ (7 - j) % 2 := by
  unfold bitE
  rw [show 8 - j = 7 - j + 1 by omega, show 8 - (j + 1) = 7 - j by omega, Nat.pow_succ 2 (7 - j), ← Nat.div_div_eq_div_mul, Nat.pow_succ, ← Nat.mul_assoc]
  omega
theorem sq_pow {v a E : Nat} (h : v % 57896044618658097711785492504343953926634992332820282019728792003956564819949 = a ^ E % 57896044618658097711785492504343953926634992332820282019728792003956564819949) : (v * v) % 57896044618658097711785492504343953926634992332820282019728792003956564819949 = a ^ (2 * E) % 57896044618658097711785492504343953926634992332820282019728792003956564819949 := by
  rw [mulmod h h, ← Nat.pow_add, show E + E = 2 * E by omega]
theorem sq_pow1 {v a E : Nat} (h : v % 57896044618658097711785492504343953926634992332820282019728792003956564819949 = a ^ E % 57896044618658097711785492504343953926634992332820282019728792003956564819949) : (v * a) % 57896044618658097711785492504343953926634992332820282019728792003956564819949 = a ^ (E + 1) % 57896044618658097711785492504343953926634992332820282019728792003956564819949 := by
  rw [mulmod h rfl, Nat.pow_succ]
theorem bit_and (x : BitVec 8) (s : Nat) : ((x >>> s &&& 1#8) = 1#8) ↔ x.toNat / 2 ^ s % 2 = 1 := by
  have e1 : (x >>> s &&& 1#8).toNat = x.toNat / 2 ^ s % 2 := by
    rw [BitVec.toNat_and, BitVec.toNat_ushiftRight, Nat.shiftRight_eq_div_pow, show (1#8).toNat = 2 ^ 1 - 1 from rfl, Nat.and_two_pow_sub_one_eq_mod]
  constructor
  · intro h; rw [← e1, h]; rfl
  · intro h; apply BitVec.eq_of_toNat_eq; rw [e1, h]; rfl

theorem Power_b (w : World) (a : Nat) (ha : a < 115792089237316195423570985008687907853269984665640564039457584007913129639936) {p : Option Addr} {n : Nat} (c : Nat) {l : List (BitVec 8)} (hby : By w p n l) :
    Spec Try.prog 175 #[.agg (el a).toArray, .slice p n c] w (σ := Unit) (fun _ => True) (fun _ => .agg (el (a ^ numB l % 57896044618658097711785492504343953926634992332820282019728792003956564819949)).toArray) Nob (fun _ => []) := by
  have hl := hby.len
  have hT : ∀ t c, mget ([] : List (Nat × Ck)) t = some c → False := fun t c h => by cases h
  refine enterR (l := [.agg (el a).toArray, .slice p n c]) 5 Try.func175 rfl rfl ?_
  (repeat refine r_seq ?_)
  refine r_region ?_
  refine r_lo [2] rfl rfl rfl rfl rfl (lo_box rfl rfl) (fun b2 hb2 => ?_)
  refine r_lo [4] rfl rfl rfl rfl rfl (lo_alloc rfl) (fun b4 hb4 => ?_)
  refine r_nil ?_
  (repeat refine r_seq ?_)
  refine r_region ?_
  refine r_call [] rfl rfl rfl rfl rfl rfl rfl (fun w' hm => Of_b w' 1#64) (fun _ _ => ?_)
  refine r_lo [5] rfl rfl rfl rfl rfl (lo_alloc rfl) (fun b5 hb5 => ?_)
  refine r_st rfl rfl rfl (st_storeL 5 (s := 4) (C := el 1) rfl rfl rfl rfl rfl rfl (oneCell_el _)) ?_
  refine r_nil ?_
  (repeat refine r_seq ?_)
  refine r_region ?_
  refine r_pu rfl rfl rfl rfl (pu_move rfl rfl) ?_
  refine r_call [11] rfl rfl rfl rfl rfl rfl rfl (fun w' hm => Backward_b w' p n c) (fun bb hbb => ?_)
  refine r_nil ?_
  (repeat refine r_seq ?_)
  refine r_block ?_
  refine r_sub (e' := [(2, .pointer (some ⟨b2, 0, none⟩)), (4, .pointer (some ⟨b4, 0, none⟩)), (5, .pointer (some ⟨b5, 0, none⟩)), (11, .func (.func 189) #[] #[.pointer (some ⟨bb, 0, none⟩)])])
    (M' := [(2, .pt b2 (.cells (el a).toArray 132 (0, 0))), (4, .pt b4 (.cells (qs [0#64, 0#64, 0#64, 0#64]).toArray 132 (0, 0))), (5, .pt b5 (.cells (el 1).toArray 132 (0, 0))), (11, .pt bb (.cells #[.slice p n c] 26 (0, 0)))]) ⟨rfl, rfl, rfl, rfl, trivial⟩ ⟨rfl, rfl, rfl, rfl, trivial⟩ ?_
  intro act w1 hs hm
  simp only [extR]
  have hrows : ∀ v t c', mget [(2, Ck.pt b2 (.cells (el a).toArray 132 (0, 0))), (4, .pt b4 (.cells (qs [0#64, 0#64, 0#64, 0#64]).toArray 132 (0, 0))), (5, .pt b5 (.cells (el v).toArray 132 (0, 0))), (11, .pt bb (.cells #[.slice p n c] 26 (0, 0)))] t = some c' → ∃ b cs E fz, c' = .pt b (.cells cs E fz) := by
    intro v t c' h
    rw [mget_cons, mget_cons, mget_cons, mget_cons] at h
    split at h
    · cases h; exact ⟨_, _, _, _, rfl⟩
    · split at h
      · cases h; exact ⟨_, _, _, _, rfl⟩
      · split at h
        · cases h; exact ⟨_, _, _, _, rfl⟩
        · split at h
          · cases h; exact ⟨_, _, _, _, rfl⟩
          · simp [mget] at h
  have h5of : ∀ {v : Nat} {W : World}, Mem w Nob [(2, Ck.pt b2 (.cells (el a).toArray 132 (0, 0))), (4, .pt b4 (.cells (qs [0#64, 0#64, 0#64, 0#64]).toArray 132 (0, 0))), (5, .pt b5 (.cells (el v).toArray 132 (0, 0))), (11, .pt bb (.cells #[.slice p n c] 26 (0, 0)))] W →
      b2 ≠ b5 ∧ bb ≠ b5 ∧ bb ≠ b2 ∧ w.heap.size ≤ b2 ∧ w.heap.size ≤ b5 ∧ w.heap.size ≤ bb := fun h =>
    ⟨fun e => h.apart 2 _ 5 _ rfl rfl (by decide) b2 rfl e, fun e => h.apart 11 _ 5 _ rfl rfl (by decide) bb rfl e, fun e => h.apart 11 _ 2 _ rfl rfl (by decide) bb rfl e,
      (h.above 2 _ rfl b2 rfl).resolve_right (fun h => h), (h.above 5 _ rfl b5 rfl).resolve_right (fun h => h), (h.above 11 _ rfl bb rfl).resolve_right (fun h => h)⟩
  refine wpIn_rangeFunc_ownF (α := Nat × BitVec 8) (gf := 189) (lb := #[.pointer (some ⟨bb, 0, none⟩)]) rfl (by decide) (hs.eval rfl) trivial enters_cal (encs := encB) (Kp := KpB w.heap.size bb) (S := fun xs => xs = back l) (Sp := fun _ => True) (N := l.length) (w0 := w1)
    (back_stops 4 w.heap.size w1 c hm.size (hm.holds 11 _ rfl) (hby.m (hm.sub (M' := []) (fun _ h => by cases h))) (fun b o e hL => by subst e; exact hby.rd.lt hL))
    (fun h k => h.trans k) (fun W ll o o' hle ho _ _ => ⟨⟨rfl, rfl, rfl, by simp, fun k hk => World.putObj_heap_other (by have := hm.size; omega)⟩, World.putObj_heap_other (by have := hm.below 11 _ rfl bb rfl; omega)⟩)
    (Below.refl _ _) (fun _ => rfl)
    (fun pre W => ∃ v, v < 115792089237316195423570985008687907853269984665640564039457584007913129639936 ∧ v % 57896044618658097711785492504343953926634992332820282019728792003956564819949 = a ^ hornB 0 pre % 57896044618658097711785492504343953926634992332820282019728792003956564819949 ∧ Mem w Nob [(2, Ck.pt b2 (.cells (el a).toArray 132 (0, 0))), (4, .pt b4 (.cells (qs [0#64, 0#64, 0#64, 0#64]).toArray 132 (0, 0))), (5, .pt b5 (.cells (el v).toArray 132 (0, 0))), (11, .pt bb (.cells #[.slice p n c] 26 (0, 0)))] W)
    (fun _ _ _ => False)
    (fun s W W' row hI hg hr => by
      obtain ⟨v, h1, h2, h3⟩ := hI
      exact ⟨v, h1, h2, h3.own (hrows v) hm.size hg hr⟩)
    (fun _ _ _ _ _ h _ _ => h) ⟨1, by decide, rfl, hm⟩
    (fun x => Act.put { tmps := ((#[12, 13] : Array Nat).zip (encB x)).foldl (fun t (p, v) => t.setIfInBounds p v) act.tmps, defers := [] } (some 7) (b8 x.2)) ?assign ?body ?done ?stop
  case assign =>
    intro ll x W K hK
    refine wpIn_region_lit ?_
    refine wpListIn_plain rfl fun K2 hK2 => ?_
    refine ⟨fun _ _ => trivial, ?_⟩
    rw [Oper.semAt_plain _ _ _ (notDefer_spec rfl)]
    have hev : Act.eval { tmps := ((#[12, 13] : Array Nat).zip (encB x)).foldl (fun t (p, v) => t.setIfInBounds p v) act.tmps, defers := [] } (.tmp 13) = b8 x.2 := by
      have hsz := hs.size
      have h13 : 13 < act.tmps.size := by rw [hsz]; decide
      simp [Act.eval, encB, Array.getElem?_setIfInBounds, h13]
    rw [run_asg rfl hev]
    exact hK2 _ _ (wpListIn_nil hK)
  case body =>
    rintro ll pre x W ⟨v, hv, hvE, hmW⟩ hlen
    obtain ⟨n25, nb5, nb2, a2, a5, ab⟩ := h5of hmW
    have hsz := hs.size
    have hs7 : SatD [] Try.f175.ntmps [(2, .pointer (some ⟨b2, 0, none⟩)), (5, .pointer (some ⟨b5, 0, none⟩)), (7, b8 x.2)] (Act.put { tmps := ((#[12, 13] : Array Nat).zip (encB x)).foldl (fun t (p, v) => t.setIfInBounds p v) act.tmps, defers := [] } (some 7) (b8 x.2)) := by
      refine ⟨by simp [Act.put, encB, hsz], rfl, fun i u hi => ?_⟩
      have g2 := hs.slot 2 _ rfl
      have g5 := hs.slot 5 _ rfl
      have h7 : 7 < act.tmps.size := by rw [hsz]; decide
      rw [get_cons, get_cons, get_cons] at hi
      split at hi
      · rename_i e; subst e; cases hi; simp [Act.put, encB, g2]
      · split at hi
        · rename_i e; subst e; cases hi; simp [Act.put, encB, g5]
        · split at hi
          · rename_i e; subst e; cases hi; simp [Act.put, encB, h7]
          · simp [get] at hi
    have hstart := Mem.start2 (w := W) (.pt b2 (.cells (el a).toArray 132 (0, 0))) (.pt b5 (.cells (el v).toArray 132 (0, 0))) (hmW.holds 2 _ rfl) trivial (fun j hj => hmW.below 2 _ rfl j hj) (hmW.holds 5 _ rfl) trivial (fun j hj => hmW.below 5 _ rfl j hj) (hmW.apart 2 _ 5 _ rfl rfl (by decide))
    have hx := x.2.isLt
    have hapD : ∀ j, (j = b2 ∨ j = b5) → w.heap.size ≤ j := fun j hj => by rcases hj with rfl | rfl <;> assumption
    refine r_to (ro := some ll) (N := Try.f175.ntmps) (Q := fun ex _ W' => ex = .normal ∧ ∃ v', v' < 115792089237316195423570985008687907853269984665640564039457584007913129639936 ∧ v' % 57896044618658097711785492504343953926634992332820282019728792003956564819949 = a ^ hornB 0 (pre ++ [x]) % 57896044618658097711785492504343953926634992332820282019728792003956564819949 ∧ Mem W (fun j => (j = b2) ∨ (j = b5)) [(0, .pt b2 (.cells (el a).toArray 132 (0, 0))), (1, .pt b5 (.cells (el v').toArray 132 (0, 0)))] W')
      hs7 hstart ?_ ?_
    · refine r_block ?_
      (repeat refine r_seq ?_)
      refine r_region ?_
      refine r_pu rfl rfl rfl rfl (pu_assign rfl rfl) ?_
      refine r_nil ?_
      refine r_block ?_
      refine r_loop (σ := Nat × Nat) (fun s => [(2, .pointer (some ⟨b2, 0, none⟩)), (5, .pointer (some ⟨b5, 0, none⟩)), (7, b8 x.2), (8, .int .i64 (7 - (s.1 : Int)))]) (fun s => [(0, .pt b2 (.cells (el a).toArray 132 (0, 0))), (1, .pt b5 (.cells (el s.2).toArray 132 (0, 0)))])
        (fun s => s.1 ≤ 8 ∧ s.2 < 115792089237316195423570985008687907853269984665640564039457584007913129639936 ∧ s.2 % 57896044618658097711785492504343953926634992332820282019728792003956564819949 = a ^ bitE (hornB 0 pre) x.2.toNat s.1 % 57896044618658097711785492504343953926634992332820282019728792003956564819949) (fun s => 8 - s.1) (0, v) ⟨rfl, rfl, rfl, rfl, trivial⟩ ⟨rfl, rfl, trivial⟩ ⟨Nat.zero_le _, hv, by rw [bitE_0 hx]; exact hvE⟩ ?_
      rintro ⟨j, u⟩ ⟨hj, hu, huE⟩
      have hj : j ≤ 8 := hj
      have hu : u < 115792089237316195423570985008687907853269984665640564039457584007913129639936 := hu
      have huE : u % 57896044618658097711785492504343953926634992332820282019728792003956564819949 = a ^ bitE (hornB 0 pre) x.2.toNat j % 57896044618658097711785492504343953926634992332820282019728792003956564819949 := huE
      (repeat refine r_seq ?_)
      refine r_region ?_
      refine r_pu rfl rfl rfl rfl (pu_move rfl rfl) ?_
      by_cases hj8 : j < 8
      · refine r_pu rfl rfl rfl rfl (pu_geq_t rfl rfl rfl (by omega)) ?_
        refine r_nil ?_
        (repeat refine r_seq ?_)
        refine r_cond_t rfl (r_skip ?_)
        (repeat refine r_seq ?_)
        refine r_block ?_
        (repeat refine r_seq ?_)
        refine r_region ?_
        refine r_pu rfl rfl rfl rfl (pu_loadW 1 (L := el u) rfl rfl rfl rfl) ?_
        refine r_pu rfl rfl rfl rfl (pu_loadW 1 (L := el u) rfl rfl rfl rfl) ?_
        refine r_call [] rfl rfl rfl rfl rfl rfl rfl (fun w' hm => mulE_b w' u u hu hu) (fun _ _ => ?_)
        refine r_st rfl rfl rfl (st_storeL 1 (s := 4) (C := el (mulN u u)) rfl rfl rfl rfl rfl rfl (oneCell_el _)) ?_
        refine r_nil ?_
        (repeat refine r_seq ?_)
        refine r_region ?_
        refine r_pu rfl rfl rfl rfl (pu_move rfl rfl) ?_
        refine r_pu rfl rfl rfl rfl (pu_move rfl rfl) ?_
        refine r_pu rfl rfl rfl rfl (pu_shr8 rfl rfl rfl (by omega)) ?_
        rw [show (7 - (j : Int)).toNat = 7 - j by omega]
        refine r_pu rfl rfl rfl rfl (pu_and8 (b := 1#8) rfl rfl rfl) ?_
        have hm1 := mulN_mod hu hu
        have hl1 := mulN_lt hu hu
        have hst := bitE_step (hornB 0 pre) x.2.toNat hj8
        have hb := bit_and x.2 (7 - j)
        by_cases hbit : x.2.toNat / 2 ^ (7 - j) % 2 = 1
        · refine r_pu rfl rfl rfl rfl (pu_eql8_t (b := 1#8) rfl rfl rfl (hb.2 hbit)) ?_
          refine r_nil ?_
          (repeat refine r_seq ?_)
          refine r_cond_t rfl ?_
          (repeat refine r_seq ?_)
          refine r_region ?_
          refine r_pu rfl rfl rfl rfl (pu_loadW 1 (L := el (mulN u u)) rfl rfl rfl rfl) ?_
          refine r_pu rfl rfl rfl rfl (pu_loadW 0 (L := el a) rfl rfl rfl rfl) ?_
          refine r_call [] rfl rfl rfl rfl rfl rfl rfl (fun w' hm => mulE_b w' _ a hl1 ha) (fun _ _ => ?_)
          refine r_st rfl rfl rfl (st_storeL 1 (s := 4) (C := el (mulN (mulN u u) a)) rfl rfl rfl rfl rfl rfl (oneCell_el _)) ?_
          refine r_nil ?_
          refine r_blk ?_
          (repeat refine r_seq ?_)
          refine r_region ?_
          refine r_pu rfl rfl rfl rfl (pu_move rfl rfl) ?_
          refine r_pu rfl rfl rfl rfl (pu_subI rfl rfl rfl (by omega)) ?_
          refine r_pu rfl rfl rfl rfl (pu_assign rfl rfl) ?_
          refine r_nil ?_
          refine r_round (j + 1, mulN (mulN u u) a) ⟨show j + 1 ≤ 8 from hj8, mulN_lt hl1 ha, ?_⟩ (show 8 - (j + 1) < 8 - j by omega) ⟨rfl, rfl, rfl, congrArg (fun z => some (Value.int .i64 z)) (show 7 - (j : Int) - 1 = 7 - ((j + 1 : Nat) : Int) by omega), trivial⟩ ⟨rfl, rfl, trivial⟩
          dsimp only
          rw [mulN_mod hl1 ha, hst, hbit]
          exact sq_pow1 (by rw [hm1]; exact sq_pow huE)
        · refine r_pu rfl rfl rfl rfl (pu_eql8_f (b := 1#8) rfl rfl rfl (fun h => hbit (hb.1 h))) ?_
          refine r_nil ?_
          (repeat refine r_seq ?_)
          refine r_cond_f rfl (r_skip ?_)
          refine r_blk ?_
          (repeat refine r_seq ?_)
          refine r_region ?_
          refine r_pu rfl rfl rfl rfl (pu_move rfl rfl) ?_
          refine r_pu rfl rfl rfl rfl (pu_subI rfl rfl rfl (by omega)) ?_
          refine r_pu rfl rfl rfl rfl (pu_assign rfl rfl) ?_
          refine r_nil ?_
          refine r_round (j + 1, mulN u u) ⟨show j + 1 ≤ 8 from hj8, hl1, ?_⟩ (show 8 - (j + 1) < 8 - j by omega) ⟨rfl, rfl, rfl, congrArg (fun z => some (Value.int .i64 z)) (show 7 - (j : Int) - 1 = 7 - ((j + 1 : Nat) : Int) by omega), trivial⟩ ⟨rfl, rfl, trivial⟩
          dsimp only
          rw [hm1, hst, show x.2.toNat / 2 ^ (7 - j) % 2 = 0 by omega, Nat.add_zero]
          exact sq_pow huE
      · refine r_pu rfl rfl rfl rfl (pu_geq_f rfl rfl rfl (by omega)) ?_
        refine r_nil ?_
        (repeat refine r_seq ?_)
        refine r_cond_f rfl (r_exit rfl ?_)
        have e8 : j = 8 := by omega
        subst e8
        refine r_blk ?_
        refine r_end fun a3 w3 hs3 hm3 => ⟨rfl, u, hu, ?_, hm3⟩
        rw [huE, bitE_8, hornB_snoc]
    · rintro ex a3 W' ⟨rfl, v', hv', hvE', hm3⟩
      have hsame : ∀ j, j < W.heap.size → ¬ (j = b2 ∨ j = b5) → W'.heap[j]? = W.heap[j]? := fun j hj hn => hm3.keep j hj hn
      have h2W' : W'.heap[b2]? = W.heap[b2]? := (hm3.holds 0 _ rfl).trans (hmW.holds 2 _ rfl).symm
      refine ⟨⟨hm3.size, fun j o hj ho => ?_⟩, ⟨⟨hm3.os, hm3.tape, hm3.output, hm3.size, fun j hj => hsame j (Nat.lt_of_lt_of_le hj hmW.size) (fun h => by have := hapD j h; omega)⟩, hsame bb (hmW.below 11 _ rfl bb rfl) (fun h => by rcases h with h | h; exact nb2 h; exact nb5 h)⟩, v', hv', hvE', ?_⟩
      · by_cases h2 : j = b2
        · subst h2; have := hmW.holds 2 _ rfl; simp only [Ck.holds] at this; rw [this] at hj; cases hj; cases ho
        · by_cases h5 : j = b5
          · subst h5; have := hmW.holds 5 _ rfl; simp only [Ck.holds] at this; rw [this] at hj; cases hj; cases ho
          · rw [hsame j (lt_of_some hj) (fun h => h.elim h2 h5)]; exact hj
      · refine (hmW.swap 5 _ (.pt b5 (.cells (el v').toArray 132 (0, 0))) rfl hm3.os hm3.tape hm3.output hm3.size (fun j hj hn => ?_) (hm3.holds 1 _ rfl) trivial (fun j hj => hm3.below 1 _ rfl j hj) (fun j hj => .inl hj)).sub (SubM.all (M' := [(2, Ck.pt b2 (.cells (el a).toArray 132 (0, 0))), (4, .pt b4 (.cells (qs [0#64, 0#64, 0#64, 0#64]).toArray 132 (0, 0))), (5, .pt b5 (.cells (el v').toArray 132 (0, 0))), (11, .pt bb (.cells #[.slice p n c] 26 (0, 0)))]) ⟨rfl, rfl, rfl, rfl, trivial⟩)
        by_cases h2 : j = b2
        · subst h2; exact h2W'
        · exact hsame j hj (fun h => h.elim h2 hn)
  case done =>
    intro D xs W hD hxs ⟨v, hv, hvE, hmW⟩ hDf
    subst hxs
    rw [hornB_num] at hvE
    have hmD := hmW.also 99 D (.deferred (some [])) hDf (Nat.le_trans hm.size hD) (fun s c' hsc hcb => by
      obtain ⟨b, cs, E, fz, rfl⟩ := hrows v s c' hsc
      have hh := hmW.holds s _ hsc
      simp only [Ck.holds] at hh
      have e1 : D = b := hcb
      rw [e1] at hDf
      rw [hDf] at hh
      cases hh)
    have hs2 : SatD [{ target := .collected D, args := #[] }] Try.f175.ntmps [(4, .pointer (some ⟨b4, 0, none⟩)), (5, .pointer (some ⟨b5, 0, none⟩))] { act with defers := { target := .collected D, args := #[] } :: act.defers } := by
      refine ⟨hs.size, by simp [hs.defers], fun i u hi => ?_⟩
      rw [get_cons, get_cons] at hi
      split at hi
      · rename_i e; subst e; cases hi; exact hs.slot 4 _ rfl
      · split at hi
        · rename_i e; subst e; cases hi; exact hs.slot 5 _ rfl
        · simp [get] at hi
    refine r_go hs2 (hmD.sub (SubM.all (M' := [(99, Ck.pt D (.deferred (some []))), (4, .pt b4 (.cells (qs [0#64, 0#64, 0#64, 0#64]).toArray 132 (0, 0))), (5, .pt b5 (.cells (el v).toArray 132 (0, 0)))]) ⟨rfl, rfl, rfl, trivial⟩)) ?_
    refine r_blk ?_
    (repeat refine r_seq ?_)
    refine r_region ?_
    refine r_pu rfl rfl rfl rfl (pu_loadW 5 (L := el v) rfl rfl rfl rfl) ?_
    refine r_call [] rfl rfl rfl rfl rfl rfl rfl (fun w' hm => Norm_b w' v hv) (fun _ _ => ?_)
    refine r_st rfl rfl rfl (st_storeL 4 (s := 4) (C := el (v % 57896044618658097711785492504343953926634992332820282019728792003956564819949)) rfl rfl rfl rfl rfl rfl (oneCell_el _)) ?_
    refine r_nil ?_
    refine r_ret fun a3 w3 hs3 hm3 => ?_
    show LeavesInM _ _ _ _ _ _ a3.defers _ _
    rw [hs3.defers]
    have hD3 := hm3.holds 99 _ rfl
    have h43 := hm3.holds 4 _ rfl
    simp only [Ck.holds] at hD3 h43
    have hne : b4 ≠ D := fun e => by rw [e] at h43; rw [hD3] at h43; cases h43
    refine ⟨by simp, .inl ⟨D, _, rfl, run_takeDeferred hD3, ?_⟩⟩
    have h44 : (w3.putObj D (.deferred none)).heap[b4]? = some (.cells (el (v % 57896044618658097711785492504343953926634992332820282019728792003956564819949)).toArray 132 (0, 0)) := (World.putObj_heap_other hne).trans h43
    have h5 := hs3.slot 4 _ rfl
    refine ⟨.agg (el (v % 57896044618658097711785492504343953926634992332820282019728792003956564819949)).toArray, ?_, (), trivial, by rw [hvE], ?_⟩
    · have h2 := run_loadVarL (P := Try.prog) (ty := 132) (L := el (v % 57896044618658097711785492504343953926634992332820282019728792003956564819949)) rfl h44
      have h6 : Try.f175.results = #[.cell 4 132] := rfl
      have h7 : a3.tmps.getD 4 undef = .pointer (some ⟨b4, 0, none⟩) := by simp [h5]
      simp only [Array.getD_eq_getD_getElem?] at h7
      simp [results, h6, h7, asAddr, h2]
    · have hg := hm3.grows [] (cs := []) trivial rfl
      refine ⟨hg.os, hg.tape, hg.output, by simpa using hg.size, fun j hj hn => ?_, fun _ h => (by cases h), fun _ h => (by cases h), fun _ h => (by cases h), fun _ h => (by cases h), List.Pairwise.nil⟩
      rw [World.putObj_heap_other (by have := (hm3.above 99 _ rfl D rfl).resolve_right (fun h => h); omega)]
      exact hg.keep j hj hn
  case stop =>
    intro D cd pre W _ _ h _
    exact h.elim
end Go.Sx

/-
  The document's numbers by eight digits: limbs and digits, differences, normal numbers. The numbers are below 2^256.
-/
namespace Go.Sx
open Go Go.Proofs

/-! ## Numbers by digits -/
section
variable {α : Type} (v : α → Nat) (B : Nat)
def numG : List α → Nat
  | [] => 0
  | a :: r => v a + B * numG r
variable {v B}
theorem numG_set (d : α) : ∀ (l : List α) (i : Nat) (x : α), i < l.length → numG v B (l.set i x) + B ^ i * v (l.getD i d) = numG v B l + B ^ i * v x
  | [], i, x, h => by simp at h
  | a :: r, 0, x, h => by
    simp only [List.set_cons_zero, numG, Nat.pow_zero, Nat.one_mul, List.getD_cons_zero]; omega
  | a :: r, i + 1, x, h => by
    have ih := numG_set d r i x (by simpa using h)
    simp only [List.set_cons_succ, numG, List.getD_cons_succ, Nat.pow_succ]
    have e1 : ∀ y, B ^ i * B * y = B * (B ^ i * y) := fun y => by rw [Nat.mul_comm (B ^ i), Nat.mul_assoc]
    have ih2 := congrArg (B * ·) ih
    simp only [Nat.mul_add] at ih2
    rw [e1, e1]
    omega
theorem numG_take (d : α) : ∀ (l : List α) (i : Nat), i < l.length → numG v B (l.take (i + 1)) = numG v B (l.take i) + B ^ i * v (l.getD i d)
  | [], i, h => by simp at h
  | a :: r, 0, h => by simp [numG]
  | a :: r, i + 1, h => by
    have ih := numG_take d r i (by simpa using h)
    simp only [List.take_succ_cons, numG, List.getD_cons_succ, Nat.pow_succ] at ih ⊢
    have e1 : ∀ y, B ^ i * B * y = B * (B ^ i * y) := fun y => by rw [Nat.mul_comm (B ^ i), Nat.mul_assoc]
    rw [e1, ih, Nat.mul_add]
    omega
theorem numG_split : ∀ (l : List α) (i : Nat), numG v B l = numG v B (l.take i) + B ^ i * numG v B (l.drop i)
  | [], i => by simp [numG]
  | a :: r, 0 => by simp [numG]
  | a :: r, i + 1 => by
    have ih := numG_split r i
    simp only [List.take_succ_cons, List.drop_succ_cons, numG, Nat.pow_succ]
    have e1 : ∀ y, B ^ i * B * y = B * (B ^ i * y) := fun y => by rw [Nat.mul_comm (B ^ i), Nat.mul_assoc]
    rw [e1, ih, Nat.mul_add]
    omega
theorem numG_lt (hB : 0 < B) : ∀ {l : List α}, (∀ a ∈ l, v a < B) → numG v B l < B ^ l.length
  | [], _ => by simp [numG]
  | a :: r, h => by
    have ih := numG_lt hB (l := r) (fun b hb => h b (List.mem_cons_of_mem _ hb))
    have ha := h a (by simp)
    rw [numG, List.length_cons, Nat.pow_succ]
    have : B * (numG v B r + 1) ≤ B * B ^ r.length := Nat.mul_le_mul_left _ ih
    rw [Nat.mul_add, Nat.mul_one] at this
    rw [Nat.mul_comm (B ^ r.length)]
    omega
theorem numG_digit (d : α) (hB : 0 < B) : ∀ {l : List α} {i : Nat}, (∀ a ∈ l, v a < B) → i < l.length → v (l.getD i d) = numG v B l / B ^ i % B
  | [], _, _, h => by simp at h
  | a :: r, 0, hs, h => by
    have ha := hs a (by simp)
    rw [List.getD_cons_zero, numG, Nat.pow_zero, Nat.div_one, Nat.add_mul_mod_self_left, Nat.mod_eq_of_lt ha]
  | a :: r, i + 1, hs, h => by
    have ha := hs a (by simp)
    rw [List.getD_cons_succ, numG_digit d hB (fun b hb => hs b (List.mem_cons_of_mem _ hb)) (by simpa using h), numG, Nat.pow_succ, Nat.mul_comm (B ^ i), ← Nat.div_div_eq_div_mul, Nat.add_mul_div_left _ _ hB, Nat.div_eq_of_lt ha, Nat.zero_add]
theorem numG_zero (d : α) (hd : v d = 0) : ∀ {l : List α}, (∀ k, v (l.getD k d) = 0) → numG v B l = 0
  | [], _ => rfl
  | a :: r, h => by
    have h0 : v a = 0 := h 0
    rw [numG, h0, numG_zero d hd (fun k => h (k + 1))]; omega
theorem numG_pos (d : α) (hB : 0 < B) : ∀ {l : List α} {i : Nat}, i < l.length → v (l.getD i d) ≠ 0 → numG v B l ≠ 0
  | [], _, h, _ => by simp at h
  | a :: r, 0, _, h => by
    rw [List.getD_cons_zero] at h
    rw [numG]; omega
  | a :: r, i + 1, hl, h => by
    rw [List.getD_cons_succ] at h
    have := numG_pos d hB (by simpa using hl) h
    rw [numG]
    have := Nat.mul_pos hB (Nat.pos_of_ne_zero this)
    omega
end

/-- A number's digits. -/
def digs : Nat → Nat → List (BitVec 32)
  | 0, _ => []
  | k + 1, n => BitVec.ofNat 32 n :: digs k (n / 4294967296)
def numD (l : List (BitVec 32)) : Nat := numG BitVec.toNat 4294967296 l
def numW (l : List (BitVec 64)) : Nat := numG BitVec.toNat 4294967296 l
theorem digs_length : ∀ k n, (digs k n).length = k
  | 0, _ => rfl
  | k + 1, n => by rw [digs, List.length_cons, digs_length]
theorem numD_digs : ∀ k n, n < 4294967296 ^ k → numD (digs k n) = n
  | 0, n, h => by simp at h; rw [h]; rfl
  | k + 1, n, h => by
    have ih := numD_digs k (n / 4294967296) (by rw [Nat.pow_succ] at h; exact (Nat.div_lt_iff_lt_mul (by omega)).2 h)
    unfold numD at ih ⊢
    rw [digs, numG, ih, BitVec.toNat_ofNat]
    omega
theorem digs_numD : ∀ l : List (BitVec 32), digs l.length (numD l) = l
  | [] => rfl
  | a :: r => by
    have ha := a.isLt
    have ih := digs_numD r
    unfold numD at ih ⊢
    rw [List.length_cons, digs, numG, show (a.toNat + 4294967296 * numG BitVec.toNat 4294967296 r) / 4294967296 = numG BitVec.toNat 4294967296 r by omega, ih]
    congr 1
    apply BitVec.eq_of_toNat_eq
    rw [BitVec.toNat_ofNat]
    omega
theorem digs_get : ∀ {k n i : Nat}, i < k → (digs k n)[i]? = some (BitVec.ofNat 32 (n / 4294967296 ^ i))
  | 0, _, _, h => by omega
  | k + 1, n, 0, h => by simp [digs]
  | k + 1, n, i + 1, h => by
    rw [digs, List.getElem?_cons_succ, digs_get (by omega), Nat.div_div_eq_div_mul, Nat.pow_succ, Nat.mul_comm]
theorem limbs_get? {k n i : Nat} (h : i < k) : (limbs k n)[i]? = some (BitVec.ofNat 64 (n / 18446744073709551616 ^ i)) := by
  rw [← limbs_get h]; exact getDq (by rw [limbs_length]; exact h)
theorem getDd {l : List (BitVec 32)} {i : Nat} (h : i < l.length) : l[i]? = some (l.getD i 0#32) := by
  rw [List.getD_eq_getElem?_getD, List.getElem?_eq_getElem h]; rfl
theorem numD8_lt {l : List (BitVec 32)} (h : l.length = 8) : numD l < 115792089237316195423570985008687907853269984665640564039457584007913129639936 := by
  have := numG_lt (v := BitVec.toNat) (B := 4294967296) (by decide) (l := l) (fun a _ => a.isLt)
  rw [h] at this
  exact this
/-- The document's number. -/
def dg (n : Nat) : List Value := ws (digs 8 n)
theorem dg_length (n : Nat) : (dg n).length = 8 := by rw [dg, ws_length, digs_length]
theorem dg_of {l : List (BitVec 32)} (h : l.length = 8) : ws l = dg (numD l) := by rw [dg, ← h, digs_numD]
theorem dg_num {n : Nat} (h : n < 115792089237316195423570985008687907853269984665640564039457584007913129639936) : numD (digs 8 n) = n := numD_digs 8 n h
theorem oneCell_dg (n : Nat) : ∀ u ∈ dg n, u.oneCell' = true := oneCell_ws _
theorem all_dg (n : Nat) : (dg n).all (kindIs .u32) = true := all_ws _
theorem ws_inj {l m : List (BitVec 32)} (h : ws l = ws m) : l = m := by
  unfold ws at h
  induction l generalizing m with
  | nil => cases m with
    | nil => rfl
    | cons y m => simp at h
  | cons x l ih => cases m with
    | nil => simp at h
    | cons y m =>
      simp only [List.map_cons, List.cons.injEq] at h
      rw [b32_inj h.1, ih h.2]
theorem dg_inj {n m : Nat} (hn : n < 115792089237316195423570985008687907853269984665640564039457584007913129639936) (hm : m < 115792089237316195423570985008687907853269984665640564039457584007913129639936) (h : dg n = dg m) : n = m := by
  rw [← dg_num hn, ← dg_num hm, ws_inj h]
theorem q64_32 (i : Nat) : 18446744073709551616 ^ i = 4294967296 ^ (2 * i) := by rw [Nat.pow_mul]
theorem lo_dig (x : Nat) : ((BitVec.ofNat 64 x) % 4294967296#64).setWidth 32 = BitVec.ofNat 32 x := by
  apply BitVec.eq_of_toNat_eq
  rw [BitVec.toNat_setWidth, BitVec.toNat_umod, BitVec.toNat_ofNat, BitVec.toNat_ofNat, BitVec.toNat_ofNat, show (4294967296 % 2 ^ 64 : Nat) = 4294967296 from rfl]
  omega
theorem hi_dig (x : Nat) : ((BitVec.ofNat 64 x) >>> 32).setWidth 32 = BitVec.ofNat 32 (x / 4294967296) := by
  apply BitVec.eq_of_toNat_eq
  rw [BitVec.toNat_setWidth, shr32', BitVec.toNat_ofNat, BitVec.toNat_ofNat]
  omega
theorem of_digs (x : Nat) : (BitVec.ofNat 32 x).setWidth 64 + ((BitVec.ofNat 32 (x / 4294967296)).setWidth 64) <<< 32 = BitVec.ofNat 64 x := by
  apply BitVec.eq_of_toNat_eq
  rw [BitVec.toNat_add, BitVec.toNat_shiftLeft, BitVec.toNat_setWidth, BitVec.toNat_setWidth, BitVec.toNat_ofNat, BitVec.toNat_ofNat, BitVec.toNat_ofNat, Nat.shiftLeft_eq]
  omega




theorem dstep {P V V' y s c c' x : Nat} (hset : V' = V + P * s) (h : s + y + c = x + 4294967296 * c') : V' + P * y + P * c = V + P * x + P * 4294967296 * c' := by
  have h2 : P * (s + y + c) = P * (x + 4294967296 * c') := by rw [h]
  rw [Nat.mul_add, Nat.mul_add, Nat.mul_add] at h2
  rw [Nat.mul_assoc]
  omega
theorem numD_setT {l : List (BitVec 32)} {i : Nat} (x : BitVec 32) (h : i < l.length) : numD ((l.set i x).take (i + 1)) = numD (l.take i) + 4294967296 ^ i * x.toNat := by
  unfold numD
  rw [numG_take 0#32 _ i (by rw [List.length_set]; omega), List.take_set_of_le (Nat.le_refl _)]
  congr 2
  rw [List.getD_eq_getElem?_getD, List.getElem?_set_self (by omega)]; rfl
/-- One digit's difference. -/
theorem minus_dig (x y : BitVec 32) (c : BitVec 64) (hc : c.toNat ≤ 1) : ∃ (t s : BitVec 64) (c' : BitVec 64), c'.toNat ≤ 1 ∧
    (decide ((x.setWidth 64).toNat < (y.setWidth 64 + c).toNat) = true → t = x.setWidth 64 + 4294967296#64 ∧ c' = 1#64) ∧ (decide ((x.setWidth 64).toNat < (y.setWidth 64 + c).toNat) = false → t = x.setWidth 64 ∧ c' = 0#64) ∧
    s = t - (y.setWidth 64 + c) ∧ (s.setWidth 32).toNat + y.toNat + c.toNat = x.toNat + 4294967296 * c'.toNat := by
  have hx := x.isLt
  have hy := y.isLt
  have e1 : (x.setWidth 64).toNat = x.toNat := by rw [BitVec.toNat_setWidth]; omega
  have e2 : (y.setWidth 64 + c).toNat = y.toNat + c.toNat := by rw [BitVec.toNat_add, BitVec.toNat_setWidth]; omega
  by_cases h : x.toNat < y.toNat + c.toNat
  · refine ⟨x.setWidth 64 + 4294967296#64, _, 1#64, by decide, fun _ => ⟨rfl, rfl⟩, fun h' => ?_, rfl, ?_⟩
    · rw [e1, e2, decide_eq_true h] at h'; cases h'
    · have e3 : (x.setWidth 64 + 4294967296#64).toNat = x.toNat + 4294967296 := by rw [BitVec.toNat_add, e1, show (4294967296#64).toNat = 4294967296 from rfl]; omega
      rw [BitVec.toNat_setWidth, BitVec.toNat_sub, e2, e3, show (1#64).toNat = 1 from rfl]
      omega
  · refine ⟨x.setWidth 64, _, 0#64, by decide, fun h' => ?_, fun _ => ⟨rfl, rfl⟩, rfl, ?_⟩
    · rw [e1, e2, decide_eq_false h] at h'; cases h'
    · rw [BitVec.toNat_setWidth, BitVec.toNat_sub, e2, e1, show (0#64).toNat = 0 from rfl]
      omega


end Go.Sx

/-
  The document's sums, differences and products by eight digits. The numbers are below 2^256.
-/
namespace Go.Sx
open Go Go.Proofs

/-- All digits are below 2^32. -/
def Small (W : List (BitVec 64)) : Prop := ∀ a ∈ W, a.toNat < 4294967296
theorem Small.set {W : List (BitVec 64)} (h : Small W) {i : Nat} {x : BitVec 64} (hx : x.toNat < 4294967296) : Small (W.set i x) := fun a ha => by
  rcases List.mem_or_eq_of_mem_set ha with h1 | h1
  · exact h a h1
  · rw [h1]; exact hx
theorem Small.at {W : List (BitVec 64)} (h : Small W) (i : Nat) : (W.getD i 0#64).toNat < 4294967296 := by
  rw [List.getD_eq_getElem?_getD]
  cases hg : W[i]? with
  | none => decide
  | some x => exact h x (List.mem_of_getElem? hg)
theorem small_rep (k : Nat) : Small (List.replicate k 0#64) := fun a ha => by rw [List.eq_of_mem_replicate ha]; decide
theorem rem32 (x : BitVec 64) : (x % 4294967296#64).toNat = x.toNat % 4294967296 := by rw [BitVec.toNat_umod, show (4294967296#64).toNat = 4294967296 from rfl]
theorem numW_setT {l : List (BitVec 64)} {i : Nat} (x : BitVec 64) (h : i < l.length) : numW ((l.set i x).take (i + 1)) = numW (l.take i) + 4294967296 ^ i * x.toNat := by
  unfold numW
  rw [numG_take 0#64 _ i (by rw [List.length_set]; omega), List.take_set_of_le (Nat.le_refl _)]
  congr 2
  rw [List.getD_eq_getElem?_getD, List.getElem?_set_self (by omega)]; rfl
theorem numW_take {l : List (BitVec 64)} {i : Nat} (h : i < l.length) : numW (l.take (i + 1)) = numW (l.take i) + 4294967296 ^ i * (l.getD i 0#64).toNat := numG_take 0#64 l i h
theorem numD_take {l : List (BitVec 32)} {i : Nat} (h : i < l.length) : numD (l.take (i + 1)) = numD (l.take i) + 4294967296 ^ i * (l.getD i 0#32).toNat := numG_take 0#32 l i h
theorem numW_set {l : List (BitVec 64)} {i : Nat} (x : BitVec 64) (h : i < l.length) : numW (l.set i x) + 4294967296 ^ i * (l.getD i 0#64).toNat = numW l + 4294967296 ^ i * x.toNat := numG_set 0#64 l i x h
theorem numW_split (l : List (BitVec 64)) (i : Nat) : numW l = numW (l.take i) + 4294967296 ^ i * numW (l.drop i) := numG_split l i
theorem numW_zero {l : List (BitVec 64)} (h : ∀ k, l.getD k 0#64 = 0#64) : numW l = 0 := numG_zero 0#64 rfl (fun k => by rw [h k]; rfl)
theorem numW_lt {l : List (BitVec 64)} (h : Small l) : numW l < 4294967296 ^ l.length := numG_lt (by decide) h
theorem getD_drop (l : List (BitVec 64)) (i k : Nat) : (l.drop i).getD k 0#64 = l.getD (i + k) 0#64 := by
  rw [List.getD_eq_getElem?_getD, List.getD_eq_getElem?_getD, List.getElem?_drop]
theorem cstepW {P V V' x' t c' : Nat} (hset : V' = V + P * x') (h : x' + 4294967296 * c' = t) : V' + P * 4294967296 * c' = V + P * t := by
  have h2 : P * (x' + 4294967296 * c') = P * t := by rw [h]
  rw [Nat.mul_add] at h2
  rw [Nat.mul_assoc]
  omega
/-- A sum's low digit and carry. -/
theorem carry_eq (x : BitVec 64) : (x % 4294967296#64).toNat + 4294967296 * (x >>> 32).toNat = x.toNat := by
  rw [rem32, shr32']; omega


theorem zeros17 : Value.cells (.agg (qs (List.replicate 17 0#64)).toArray) = (qs (List.replicate 17 0#64)).toArray := rfl
theorem getD_rep (n k : Nat) : (List.replicate n 0#64).getD k 0#64 = 0#64 := by
  rw [List.getD_eq_getElem?_getD, List.getElem?_replicate]; split <;> rfl



theorem mul32_lt (x y : BitVec 32) : x.toNat * y.toNat ≤ 18446744065119617025 := Nat.mul_le_mul (show x.toNat ≤ 4294967295 by omega) (show y.toNat ≤ 4294967295 by omega)


end Go.Sx

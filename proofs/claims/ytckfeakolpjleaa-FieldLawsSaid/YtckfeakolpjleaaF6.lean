/-
  A range over a slice's bytes backwards (slices.Backward), and the field's powers. The numbers are below 2^256.
-/
import Derived.Test.YtckfeakolpjleaaFNum
import Derived.Test.YtckfeakolpjleaaSxRound
set_option linter.unusedVariables false
set_option linter.unusedSimpArgs false
namespace Go.Sx
open Go Go.Proofs Go.RowKit

section
variable {P : Program} {N : Nat} {w0 : World} {D : Blocks} {e : List (Nat × Value)} {M : List (Nat × Ck)} {o : Oper}
theorem pu_makeFunc {f : FuncId} {x : Operand} {v : Value} (ho : o.op = .makeFunc (.func f) #[] #[x]) (hx : ev e x = some v) : Pu P N w0 D e M o (.func (.func f) #[] #[v]) := fun a w hs hm => by
  simp [execOp, ho, hs.eval hx, Instr.makeFunc]
theorem enters_cal {f : FuncId} [hc : Cal P f] (args : Array Value) (w : World) : (callFunc f args).run P w = .ok (.enter f args) w := by
  obtain ⟨g, h1, h2, h3⟩ := hc.h
  simp only [callFunc, Sem.run_bind, run_program, h1, Result.andThen_ok, h2, h3, Bool.false_eq_true, if_false]
  simp [mark]
end

/-- The places and bytes, the last first. -/
def back (l : List (BitVec 8)) : List (Nat × BitVec 8) := (l.zipIdx.map fun p => (p.2, p.1)).reverse
theorem back_take {l : List (BitVec 8)} {k : Nat} {x : BitVec 8} (h : l[k]? = some x) : back (l.take (k + 1)) = (k, x) :: back (l.take k) := by
  have hk := (List.getElem?_eq_some_iff.1 h).1
  unfold back
  rw [List.take_add_one, h]
  simp [List.zipIdx_append, Nat.min_eq_left (Nat.le_of_lt hk)]
theorem back_length (l : List (BitVec 8)) : (back l).length = l.length := by simp [back]
/-- Horner's way through the bytes. -/
def hornB : Nat → List (Nat × BitVec 8) → Nat
  | acc, [] => acc
  | acc, x :: r => hornB (acc * 256 + x.2.toNat) r
theorem hornB_back : ∀ {l : List (BitVec 8)} (k acc : Nat), k ≤ l.length → hornB acc (back (l.take k)) = acc * 256 ^ k + numB (l.take k)
  | l, 0, acc, _ => by simp [back, hornB, numB]
  | l, k + 1, acc, h => by
    have h1 : l[k]? = some l[k] := List.getElem?_eq_getElem (by omega)
    rw [back_take h1, numB_take h1, hornB, hornB_back k _ (by omega), Nat.add_mul, Nat.pow_succ, Nat.mul_assoc, Nat.mul_comm 256 (256 ^ k), Nat.mul_comm (256 ^ k) (l[k]).toNat]
    dsimp only
    omega
theorem hornB_num (l : List (BitVec 8)) : hornB 0 (back l) = numB l := by
  have := hornB_back (l := l) l.length 0 (Nat.le_refl _)
  rw [List.take_length] at this
  rw [this]; omega
theorem hornB_snoc : ∀ (xs : List (Nat × BitVec 8)) (acc : Nat) (x : Nat × BitVec 8), hornB acc (xs ++ [x]) = hornB acc xs * 256 + x.2.toNat
  | [], acc, x => rfl
  | y :: r, acc, x => by rw [List.cons_append, hornB, hornB_snoc r]; rfl

/-- The number that a place of the act's holds, and one. -/
def ixM (i : Nat) (a : Act) : Nat := match (a.tmps[i]? : Option Value) with | some (.int _ z) => (z + 1).toNat | _ => 0
theorem ixM_of {df : List Deferred} {N : Nat} {e : List (Nat × Value)} {a : Act} {i : Nat} {kd : IntKind} {z : Int} (h : SatD df N e a) (he : get e i = some (.int kd z)) : ixM i a = (z + 1).toNat := by
  unfold ixM
  rw [h.slot i _ he]
def encB (x : Nat × BitVec 8) : Array Value := #[.int .i64 (x.1 : Int), b8 x.2]
/-- What a round keeps: the old blocks, and the iterator's own. -/
def KpB (n0 bb : Nat) (A B : World) : Prop := Below n0 A B ∧ B.heap[bb]? = A.heap[bb]?
theorem KpB.trans {n0 bb : Nat} {A B C : World} (h : KpB n0 bb A B) (k : KpB n0 bb B C) : KpB n0 bb A C := ⟨h.1.trans k.1, k.2.trans h.2⟩
theorem KpB.refl (n0 bb : Nat) (A : World) : KpB n0 bb A A := ⟨Below.refl _ _, rfl⟩

theorem Backward_b (w : World) (p : Option Addr) (n c : Nat) : Spec Try.prog 37 #[.slice p n c] w (σ := Nat) (fun _ => True) (fun b => .func (.func 48) #[] #[.pointer (some ⟨b, 0, none⟩)]) Nob (fun b => [.pt b (.cells #[.slice p n c] 25 (0, 0))]) := by
  refine enter Try.func37 rfl rfl (Mem.start w) ?_
  (repeat refine g_seq ?_)
  refine g_region ?_
  refine g_lo [1] rfl rfl rfl rfl (lo_box rfl rfl) (fun b1 hb1 => ?_)
  refine g_pu rfl rfl rfl (pu_assign rfl rfl) ?_
  refine g_nil ?_
  (repeat refine g_seq ?_)
  refine g_region ?_
  refine g_pu rfl rfl rfl (pu_makeFunc rfl rfl) ?_
  refine g_pu rfl rfl rfl (pu_assign rfl rfl) ?_
  refine g_nil ?_
  exact g_ret1 rfl rfl (fun w' hm => ⟨b1, trivial, rfl, hm.grows [1] ⟨rfl, trivial⟩ rfl⟩)

theorem back_stops (m n0 : Nat) (w : World) {bb : Nat} {p : Option Addr} {n : Nat} (c : Nat) {l : List (BitVec 8)} (hn0 : n0 ≤ w.heap.size) (hbb : w.heap[bb]? = some (.cells #[.slice p n c] 25 (0, 0))) (ha : By w p n l) (hp : ∀ b o, p = some ⟨b, o, none⟩ → bs l ≠ [] → b < n0) :
    SeqStopsK (FW none) m Try.prog 48 #[.pointer (some ⟨bb, 0, none⟩)] encB (KpB n0 bb) (fun xs => xs = back l) (fun _ => True) l.length w := by
  intro ly J Jx W hW hJ hJx hY h0
  have hl := ha.len
  have hbig := ha.big
  have hbW : W.heap[bb]? = some (.cells #[.slice p n c] 25 (0, 0)) := (hW.block bb (lt_of_some hbb)).trans hbb
  have haW : By W p n l := ⟨ha.rd.keep fun b o e hL => hW.block b (Nat.lt_of_lt_of_le (hp b o e hL) hn0), ha.len, ha.big⟩
  have hcell : ∀ W', KpB n0 bb W W' → W'.cell? ⟨bb, 0, none⟩ = some (.slice p n c) := fun W' hk => by
    rw [cell_pt (hk.2.trans hbW)]; rfl
  have hby : ∀ W', KpB n0 bb W W' → By W' p n l := fun W' hk => ⟨haW.rd.keep fun b o e hL => hk.1.block b (hp b o e hL), ha.len, ha.big⟩
  show CallsIn (FW none) m Try.prog 48 #[.func (.yield ly) #[] #[], .pointer (some ⟨bb, 0, none⟩)] W _
  refine callsFW (enterR (l := [.func (.yield ly) #[] #[], .pointer (some ⟨bb, 0, none⟩)]) m Try.func48 rfl rfl ?_)
  (repeat refine r_seq ?_)
  refine r_region ?_
  refine r_pu rfl rfl rfl rfl (pu_old rfl rfl (hcell W (KpB.refl _ _ _)) (fun h => h)) ?_
  refine r_pu rfl rfl rfl rfl (pu_len rfl rfl) ?_
  refine r_pu rfl rfl rfl rfl (pu_subI rfl rfl rfl (by omega)) ?_
  refine r_pu rfl rfl rfl rfl (pu_assign rfl rfl) ?_
  refine r_nil ?_
  refine r_block ?_
  intro a w1 hs hm
  simp only [extR]
  have hk1 : KpB n0 bb W w1 := ⟨⟨hm.os, hm.tape, hm.output, hm.size, fun k hk => hm.keep k (Nat.lt_of_lt_of_le hk (Nat.le_trans hn0 hW.size)) (fun h => h)⟩, hm.keep bb (lt_of_some hbW) (fun h => h)⟩
  have hJ1 : J [] w1 := hJ [] W w1 none h0 ⟨hm.os, hm.tape, hm.output, hm.size, fun k hk _ => hm.keep k hk (fun h => h)⟩ (fun r e => by cases e)
  refine wpIn_loop (fun a w => ∃ (k : Nat) (pre : List (Nat × BitVec 8)), k ≤ n ∧ pre ++ back (l.take k) = back l ∧ SatD [] Try.f48.ntmps [(0, .func (.yield ly) #[] #[]), (1, .pointer (some ⟨bb, 0, none⟩)), (3, .int .i64 ((k : Int) - 1))] a ∧ J pre w ∧ KpB n0 bb W w)
    (fun a _ => ixM 3 a) ⟨n, [], Nat.le_refl _, by rw [← hl, List.take_length]; rfl, hs.sub (SubE.all (e' := [(0, .func (.yield ly) #[] #[]), (1, .pointer (some ⟨bb, 0, none⟩)), (3, .int .i64 ((n : Int) - 1))]) ⟨rfl, rfl, rfl, trivial⟩), hJ1, hk1⟩ ?_
  rintro a2 w2 ⟨k, pre, hk, hpre, hs2, hJ2, hK2⟩
  have hmu := ixM_of (i := 3) hs2 rfl
  refine r_from hs2 ?_
  (repeat refine r_seq ?_)
  refine r_region ?_
  refine r_pu rfl rfl rfl rfl (pu_move rfl rfl) ?_
  by_cases hk0 : k = 0
  · refine r_pu rfl rfl rfl rfl (pu_geq_f rfl rfl rfl (by omega)) ?_
    refine r_nil ?_
    (repeat refine r_seq ?_)
    refine r_cond_f rfl (r_exit rfl ?_)
    refine r_end fun a3 w3 hs3 hm3 => ?_
    subst hk0
    have hJ3 : J pre w3 := hJ pre w2 w3 none hJ2 ⟨hm3.os, hm3.tape, hm3.output, hm3.size, fun k hk _ => hm3.keep k hk (fun h => h)⟩ (fun r e => by cases e)
    rw [List.take_zero, show back [] = [] from rfl, List.append_nil] at hpre
    show LeavesInM _ _ _ _ _ _ a3.defers _ _
    rw [hs3.defers]
    exact ⟨_, results_none rfl _ _ _, ⟨_, rfl⟩, .inl ⟨pre, hpre, hJ3⟩⟩
  · refine r_pu rfl rfl rfl rfl (pu_geq_t rfl rfl rfl (by omega)) ?_
    refine r_nil ?_
    (repeat refine r_seq ?_)
    refine r_cond_t rfl (r_skip ?_)
    (repeat refine r_seq ?_)
    have h1 : l[k - 1]? = some l[k - 1] := List.getElem?_eq_getElem (by omega)
    generalize l[k - 1] = x at h1
    have hbt := back_take h1
    rw [show k - 1 + 1 = k by omega] at hbt
    have hlen : pre.length < l.length := by
      have := congrArg List.length hpre
      rw [List.length_append, back_length, back_length, List.length_take] at this
      omega
    have ha2 := hby w2 hK2
    refine r_block ?_
    (repeat refine r_seq ?_)
    refine r_region ?_
    refine r_pu rfl rfl rfl rfl (pu_move rfl rfl) ?_
    refine r_pu rfl rfl rfl rfl (pu_move rfl rfl) ?_
    refine r_pu rfl rfl rfl rfl (pu_old rfl rfl (hcell w2 hK2) (fun h => h)) ?_
    refine r_pu rfl rfl rfl rfl (pu_move rfl rfl) ?_
    refine r_pu rfl rfl rfl rfl (pu_atB (k - 1) (fun w' hm => ha2.m hm) rfl rfl rfl (by omega) (by omega)) ?_
    refine r_pu rfl rfl rfl rfl (pu_rdB (fun w' hm => ha2.m hm) rfl rfl h1) ?_
    refine r_yield (l := ly) (vs := [.int .i64 ((k : Int) - 1), b8 x]) (fun b w' => (b = true ∧ J (pre ++ [(k - 1, x)]) w' ∧ KpB n0 bb W w') ∨ (b = false ∧ Jx (pre ++ [(k - 1, x)]) w')) rfl rfl rfl rfl rfl rfl rfl (fun w3 hm3 => ⟨_, rfl, ?_⟩) ?_
    · have hJ3 : J pre w3 := hJ pre w2 w3 none hJ2 ⟨hm3.os, hm3.tape, hm3.output, hm3.size, fun k hk _ => hm3.keep k hk (fun h => h)⟩ (fun r e => by cases e)
      have hK3 : KpB n0 bb W w3 := hK2.trans ⟨⟨hm3.os, hm3.tape, hm3.output, hm3.size, fun k hk => hm3.keep k (Nat.lt_of_lt_of_le hk (Nat.le_trans (Nat.le_trans hn0 hW.size) hK2.1.size)) (fun h => h)⟩, hm3.keep bb (Nat.lt_of_lt_of_le (lt_of_some hbW) hK2.1.size) (fun h => h)⟩
      obtain ⟨fn, tmps, assign, body, hy, hR⟩ := hY pre (k - 1, x) w3 hJ3 hlen
      refine ⟨fn, tmps, assign, body, ?_, hR.mono ?_⟩
      · have e1 : encB (k - 1, x) = #[.int .i64 ((k : Int) - 1), b8 x] := by
          unfold encB
          congr 3
          simp only
          omega
        rw [← e1]
        exact hy
      · rintro en w' (⟨rfl, hj, hkp⟩ | ⟨rfl, hj⟩)
        · exact ⟨true, rfl, .inl ⟨rfl, hj, hK3.trans hkp⟩⟩
        · exact ⟨false, rfl, .inr ⟨rfl, hj⟩⟩
    · rintro b w4 (⟨rfl, hj, hkp⟩ | ⟨rfl, hj⟩)
      · refine r_pu rfl rfl rfl rfl (pu_not rfl rfl) ?_
        refine r_nil ?_
        (repeat refine r_seq ?_)
        refine r_cond_f rfl (r_skip ?_)
        refine r_blk ?_
        (repeat refine r_seq ?_)
        refine r_region ?_
        refine r_pu rfl rfl rfl rfl (pu_move rfl rfl) ?_
        refine r_pu rfl rfl rfl rfl (pu_subI rfl rfl rfl (by omega)) ?_
        refine r_pu rfl rfl rfl rfl (pu_assign rfl rfl) ?_
        refine r_nil ?_
        intro a5 w5 hs5 hm5
        simp only [extR]
        have hJ5 : J (pre ++ [(k - 1, x)]) w5 := hJ _ w4 w5 none hj ⟨hm5.os, hm5.tape, hm5.output, hm5.size, fun k hk _ => hm5.keep k hk (fun h => h)⟩ (fun r e => by cases e)
        have hK5 : KpB n0 bb W w5 := hkp.trans ⟨⟨hm5.os, hm5.tape, hm5.output, hm5.size, fun k hk => hm5.keep k (Nat.lt_of_lt_of_le hk (Nat.le_trans (Nat.le_trans hn0 hW.size) hkp.1.size)) (fun h => h)⟩, hm5.keep bb (Nat.lt_of_lt_of_le (lt_of_some hbW) hkp.1.size) (fun h => h)⟩
        have e3 : ((k : Int) - 1 - 1) = ((k - 1 : Nat) : Int) - 1 := by omega
        have hs6 : SatD [] Try.f48.ntmps [(0, .func (.yield ly) #[] #[]), (1, .pointer (some ⟨bb, 0, none⟩)), (3, .int .i64 (((k - 1 : Nat) : Int) - 1))] a5 := by
          rw [← e3]
          exact hs5.sub (SubE.all (e' := [(0, .func (.yield ly) #[] #[]), (1, .pointer (some ⟨bb, 0, none⟩)), (3, .int .i64 ((k : Int) - 1 - 1))]) ⟨rfl, rfl, rfl, trivial⟩)
        refine ⟨⟨k - 1, pre ++ [(k - 1, x)], by omega, by rw [← hpre, hbt, List.append_assoc]; rfl, hs6, hJ5, hK5⟩, ?_⟩
        have h7 := ixM_of (i := 3) hs6 rfl
        omega
      · refine r_pu rfl rfl rfl rfl (pu_not rfl rfl) ?_
        refine r_nil ?_
        (repeat refine r_seq ?_)
        refine r_cond_t rfl ?_
        refine r_ret fun a5 w5 hs5 hm5 => ?_
        have hJ5 : Jx (pre ++ [(k - 1, x)]) w5 := hJx _ w4 w5 none hj ⟨hm5.os, hm5.tape, hm5.output, hm5.size, fun k hk _ => hm5.keep k hk (fun h => h)⟩ (fun r e => by cases e)
        show LeavesInM _ _ _ _ _ _ a5.defers _ _
        rw [hs5.defers]
        exact ⟨_, results_none rfl _ _ _, ⟨_, rfl⟩, .inr ⟨_, trivial, hJ5⟩⟩
end Go.Sx

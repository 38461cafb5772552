/-
  The flow of a hash: its cells, and what taking, writing and making one do to them. Conditions: what is written lies apart from the hash; all bytes together are at most 2^40.
-/
import Derived.Test.YtfnbedjnbofliaaS4
import Derived.Test.YtfnbedjnbofliaaSxOff
import Derived.Test.YtfnbedjnbofliaaC10
set_option linter.unusedVariables false
set_option linter.unusedSimpArgs false
namespace Go.Sx
open Go Go.Proofs

/-- The state behind k blocks. -/
def absN (s : List (BitVec 32)) (l : List (BitVec 8)) : Nat → List (BitVec 32)
  | 0 => s
  | k + 1 => cmp (absN s l k) ((l.drop (64 * k)).take 64)
theorem absN_length {s : List (BitVec 32)} (h : s.length = 8) (l : List (BitVec 8)) : ∀ k, (absN s l k).length = 8
  | 0 => h
  | k + 1 => cmp_length _ (absN_length h l k)
theorem absN_append {s : List (BitVec 32)} {l m : List (BitVec 8)} : ∀ {k : Nat}, 64 * k ≤ l.length → absN s (l ++ m) k = absN s l k
  | 0, _ => rfl
  | k + 1, h => by
    rw [absN, absN, absN_append (k := k) (by omega)]
    congr 1
    rw [List.drop_append_of_le_length (by omega), List.take_append_of_le_length (by simp; omega)]
theorem mem_flat {l : List (BitVec 8)} : ∀ {ls : List (List (BitVec 8))}, l ∈ ls → l.length ≤ ls.flatten.length
  | [], h => by simp at h
  | m :: r, h => by
    rw [List.flatten_cons, List.length_append]
    rcases List.mem_cons.1 h with rfl | h1
    · omega
    · have := mem_flat h1; omega
def flowS (L : List (BitVec 8)) : List (BitVec 32) := if L.length = 0 then List.replicate 8 0#32 else absN s0T L (L.length / 64)
theorem flowS_length (L : List (BitVec 8)) : (flowS L).length = 8 := by
  unfold flowS
  split
  · rfl
  · exact absN_length s0T_length _ _
def restL (L : List (BitVec 8)) : List (BitVec 8) := L.drop (64 * (L.length / 64))
theorem restL_length (L : List (BitVec 8)) : (restL L).length = L.length % 64 := by simp [restL]; omega

def flowC (st : List (BitVec 32)) (p : Option Addr) (n c z : Nat) : List Value := ws st ++ [.slice p n c, .int .i64 (z : Int)]
def hashC (L : List (BitVec 8)) (x : Ow) : List Value := flowC (flowS L) x.p (L.length % 64) x.c L.length
theorem flow_ex {st : List (BitVec 32)} (h : st.length = 8) : ∃ a b c d e f g i, st = [a, b, c, d, e, f, g, i] := by
  match st, h with
  | [a, b, c, d, e, f, g, i], _ => exact ⟨a, b, c, d, e, f, g, i, rfl⟩
theorem flowC_length {st : List (BitVec 32)} {p : Option Addr} {n c z : Nat} (h : st.length = 8) : (flowC st p n c z).length = 10 := by
  obtain ⟨a, b, c, d, e, f, g, i, rfl⟩ := flow_ex h; rfl
theorem flowC_8 {st : List (BitVec 32)} {p : Option Addr} {n c z : Nat} {J : List Value} (h : st.length = 8) : (flowC st p n c z ++ J).toArray[0 + 8]? = some (.slice p n c) := by
  obtain ⟨a, b, c, d, e, f, g, i, rfl⟩ := flow_ex h; rfl
theorem flowC_9 {st : List (BitVec 32)} {p : Option Addr} {n c z : Nat} {J : List Value} (h : st.length = 8) : (flowC st p n c z ++ J).toArray[0 + 9]? = some (.int .i64 (z : Int)) := by
  obtain ⟨a, b, c, d, e, f, g, i, rfl⟩ := flow_ex h; rfl
theorem flowC_set8 {st : List (BitVec 32)} {p p' : Option Addr} {n c n' c' z : Nat} {J : List Value} (h : st.length = 8) : (flowC st p n c z ++ J).set (0 + 8) (.slice p' n' c') = flowC st p' n' c' z ++ J := by
  obtain ⟨a, b, c, d, e, f, g, i, rfl⟩ := flow_ex h; rfl
theorem flowC_set9 {st : List (BitVec 32)} {p : Option Addr} {n c z z' : Nat} {J : List Value} (h : st.length = 8) : (flowC st p n c z ++ J).set (0 + 9) (.int .i64 (z' : Int)) = flowC st p n c z' ++ J := by
  obtain ⟨a, b, c, d, e, f, g, i, rfl⟩ := flow_ex h; rfl
theorem flowC_put {st st' : List (BitVec 32)} {p : Option Addr} {n c z : Nat} {J : List Value} (h : st.length = 8) : (flowC st p n c z ++ J).take (0 + 0) ++ ws st' ++ (flowC st p n c z ++ J).drop (0 + 0 + 8) = flowC st' p n c z ++ J := by
  obtain ⟨a, b, c, d, e, f, g, i, rfl⟩ := flow_ex h; simp [flowC, ws]
theorem flowC_st {st : List (BitVec 32)} {p : Option Addr} {n c z : Nat} {J : List Value} (h : st.length = 8) : (flowC st p n c z ++ J).toArray.extract (0 + 0) (0 + 0 + 8) = (ws st).toArray := by
  obtain ⟨a, b, c, d, e, f, g, i, rfl⟩ := flow_ex h; simp [flowC, ws]
theorem flowC_all {st : List (BitVec 32)} {p : Option Addr} {n c z : Nat} {J : List Value} (h : st.length = 8) : (flowC st p n c z ++ J).toArray.extract (0 + 0) (0 + 0 + 10) = (flowC st p n c z ++ []).toArray := by
  obtain ⟨a, b, c, d, e, f, g, i, rfl⟩ := flow_ex h; simp [flowC, ws]
theorem flowC_len {st : List (BitVec 32)} {p : Option Addr} {n c z : Nat} {J : List Value} (h : st.length = 8) : 10 ≤ (flowC st p n c z ++ J).length := by rw [List.length_append, flowC_length h]; omega

section
variable {P : Program} {N : Nat} {w0 : World} {D : Blocks} {e : List (Nat × Value)} {M : List (Nat × Ck)} {o : Oper}
theorem pu_loadE (tag : Nat) {t : TypeId} {x : Operand} {b off s : Nat} {c C : Array Value} {E : TypeId} {fz : Nat × Nat} [hu : Agg P t true] [hz : Siz P t s] (ho : o.op = .load t x) (hx : ev e x = some (.pointer (some ⟨b, off, none⟩)))
    (hM : mget M tag = some (.pt b (.cells c E fz))) (hl : off + s ≤ c.size) (hC : c.extract off (off + s) = C) : Pu P N w0 D e M o (.agg C) := by
  rw [← hC]; exact pu_loadA tag ho hx hM hl
end

theorem take_b (w : World) (bb : Nat) {E : TypeId} {J : List Value} {L S : List (BitVec 8)} (x : Ow) {q : Option Addr} {m : Nat} (d : Nat) (h : w.heap[bb]? = some (.cells (hashC L x ++ J).toArray E (0, 0))) (ho : OwnO 5 x.p x.c (bs (restL L)) w) (hne : ∀ j, At x.p j → ¬ j = bb) (hp : ∀ j, At x.p j → j < w.heap.size)
    (hS : By w q m S) (hq : ∀ b o, q = some ⟨b, o, none⟩ → ¬ (b = bb ∨ At x.p b)) (hm0 : 0 < m) (hm2 : m ≤ 140737488355200) (hbig : L.length + m ≤ 1152921504606846976) :
    Spec Try.prog 43 #[.pointer (some ⟨bb, 0, none⟩), .slice q m d] w (σ := Ow) (fun _ => True) (fun _ => .tuple #[]) (fun j => j = bb ∨ At x.p j) (fun y => [.pt bb (.cells (hashC (L ++ S) y ++ J).toArray E (0, 0)), y.ckO 5 (bs (restL (L ++ S)))]) := by
  obtain ⟨p, c⟩ := x
  refine enter Try.func43 rfl rfl (Mem.start2 (.pt bb (.cells (hashC L ⟨p, c⟩ ++ J).toArray E (0, 0))) (Ow.ckO 5 (bs (restL L)) ⟨p, c⟩) h trivial (fun j hj => by rw [show j = bb from hj]; exact lt_of_some h) ho OwnO.loc hp (fun j h1 h2 => hne j h2 h1)) ?_
  have hSl := hS.len
  have hst := flowS_length L
  have hTl : (L ++ S).length = L.length + m := by rw [List.length_append, hSl]
  have hal : ∀ T k, (absN s0T T k).length = 8 := fun T k => absN_length s0T_length T k
  have hrl := restL_length L
  (repeat refine g_seq ?_)
  refine g_region ?_
  refine g_pu rfl rfl rfl (pu_move rfl rfl) ?_
  refine g_pu rfl rfl rfl (pu_nil rfl rfl) ?_
  refine g_pu rfl rfl rfl (pu_fieldAddr (by decide) rfl rfl) ?_
  refine g_pu rfl rfl rfl (pu_load 0 rfl rfl rfl (flowC_9 hst)) ?_
  first | refine g_pu rfl rfl rfl (pu_eql_t rfl rfl rfl (by omega)) ?_ | refine g_pu rfl rfl rfl (pu_eql_f rfl rfl rfl (by omega)) ?_ | refine g_pu rfl rfl rfl (pu_eql rfl rfl rfl) ?_
  refine g_nil ?_
  refine g_join (σ := Unit) (fun _ => [(0, .pointer (some ⟨bb, 0, none⟩)), (1, .slice q m d)]) (fun _ => [(0, .pt bb (.cells (flowC (absN s0T (L ++ S) (L.length / 64)) p (L.length % 64) c L.length ++ J).toArray E (0, 0))), (1, Ow.ckO 5 (bs (restL L)) ⟨p, c⟩)]) (fun _ => True) ?_ (fun _ _ => ?_)
  · by_cases hL : L.length = 0
    · have e1 : L.length / 64 = 0 := by omega
      rw [e1]
      refine g_cond_t ?_ ?_
      · exact congrArg (fun b => some (Value.bool b)) (decide_eq_true (by omega))
      (repeat refine g_seq ?_)
      refine g_region ?_
      refine g_pu rfl rfl rfl (pu_move rfl rfl) ?_
      refine g_call [] rfl rfl rfl rfl rfl rfl (fun w' hm => Start_b w') (fun _ _ => ?_)
      refine g_pu rfl rfl rfl (pu_nil rfl rfl) ?_
      refine g_pu rfl rfl rfl (pu_fieldAddr (by decide) rfl rfl) ?_
      refine g_storeA 0 (s := 8) (C := ws s0T) rfl rfl rfl rfl rfl rfl (by rw [ws_length]; exact s0T_length) (oneCell_ws _) (by have := flowC_len (p := p) (n := L.length % 64) (c := c) (z := L.length) (J := J) hst; exact Nat.le_trans (by omega) this) ?_
      rw [show (hashC L ⟨p, c⟩ ++ J).take (0 + 0) ++ ws s0T ++ (hashC L ⟨p, c⟩ ++ J).drop (0 + 0 + 8) = flowC s0T p (L.length % 64) c L.length ++ J from flowC_put hst]
      refine g_nil ?_
      exact g_meet () trivial ⟨rfl, rfl, trivial⟩ ⟨rfl, rfl, trivial⟩
    · have e1 : flowS L = absN s0T (L ++ S) (L.length / 64) := by
        unfold flowS
        rw [if_neg hL, absN_append (by omega)]
      refine g_cond_f ?_ (g_skip ?_)
      · exact congrArg (fun b => some (Value.bool b)) (decide_eq_false (by omega))
      refine g_meet () trivial ⟨rfl, rfl, trivial⟩ ⟨?_, rfl, trivial⟩
      rw [← e1]
      rfl
  have hr0 : bs (restL L) ++ bs S = bs ((L ++ S).drop (64 * (L.length / 64))) := by
    rw [← bs_append, List.drop_append_of_le_length (by omega)]
    rfl
  (repeat refine g_seq ?_)
  refine g_region ?_
  refine g_pu rfl rfl rfl (pu_move rfl rfl) ?_
  refine g_pu rfl rfl rfl (pu_nil rfl rfl) ?_
  refine g_pu rfl rfl rfl (pu_fieldAddr (by decide) rfl rfl) ?_
  refine g_pu rfl rfl rfl (pu_load 0 rfl rfl rfl (flowC_9 (hal _ _))) ?_
  refine g_pu rfl rfl rfl (pu_move rfl rfl) ?_
  first | refine g_pu rfl rfl rfl (pu_len rfl rfl) ?_ | refine g_pu rfl rfl rfl (pu_lenS rfl rfl) ?_
  refine g_pu rfl rfl rfl (pu_addI rfl rfl rfl (by omega)) ?_
  refine g_pu rfl rfl rfl (pu_nil rfl rfl) ?_
  refine g_pu rfl rfl rfl (pu_fieldAddr (by decide) rfl rfl) ?_
  refine g_store 0 (v := .int .i64 (((L ++ S).length : Nat) : Int)) rfl rfl rfl rfl (congrArg (fun z => some (Value.int .i64 z)) (by omega)) rfl rfl (by have := flowC_len (p := p) (n := L.length % 64) (c := c) (z := L.length) (J := J) (hal (L ++ S) (L.length / 64)); omega) ?_
  rw [flowC_set9 (hal _ _)]
  refine g_nil ?_
  (repeat refine g_seq ?_)
  refine g_region ?_
  refine g_pu rfl rfl rfl (pu_move rfl rfl) ?_
  refine g_pu rfl rfl rfl (pu_move rfl rfl) ?_
  refine g_pu rfl rfl rfl (pu_nil rfl rfl) ?_
  refine g_pu rfl rfl rfl (pu_fieldAddr (by decide) rfl rfl) ?_
  refine g_pu rfl rfl rfl (pu_load 0 rfl rfl rfl (flowC_8 (hal _ _))) ?_
  refine g_pu rfl rfl rfl (pu_move rfl rfl) ?_
  refine g_appendO 1 (bs S) rfl rfl rfl rfl rfl rfl rfl rfl (by rw [bs_length, hrl]) (fun w' hm => (hS.mD hm hq).rd) (by rw [bs_length, hSl]) (oneCell_bs S) (by omega) (by omega) (fun p' c' => ?_)
  refine g_pu rfl rfl rfl (pu_nil rfl rfl) ?_
  refine g_pu rfl rfl rfl (pu_fieldAddr (by decide) rfl rfl) ?_
  refine g_store 0 (v := .slice p' (L.length % 64 + m) c') rfl rfl rfl rfl rfl rfl rfl (by have := flowC_len (p := p) (n := L.length % 64) (c := c) (z := (L ++ S).length) (J := J) (hal (L ++ S) (L.length / 64)); omega) ?_
  rw [flowC_set8 (hal _ _), hr0]
  refine g_nil ?_
  generalize L ++ S = T at hTl
  refine g_block (g_loop2 (fun (k : Nat) (y : Ow) => [(0, .pointer (some ⟨bb, 0, none⟩))]) (fun k y => [(0, .pt bb (.cells (flowC (absN s0T T k) y.p (T.length - 64 * k) y.c T.length ++ J).toArray E (0, 0))), (1, y.ckO 5 (bs (T.drop (64 * k))))]) (fun k _ => 64 * k ≤ T.length) (fun k _ => T.length - 64 * k) (L.length / 64) ⟨p', c'⟩ ⟨rfl, trivial⟩ ⟨by rw [show T.length - 64 * (L.length / 64) = L.length % 64 + m by omega]; rfl, rfl, trivial⟩ (by omega) ?_)
  intro k y hk
  have hdl : (T.drop (64 * k)).length = T.length - 64 * k := by rw [List.length_drop]
  by_cases hge : 64 ≤ T.length - 64 * k
  · refine g_know (φ := T.length - 64 * k ≤ y.c) (fun w' hm => by have := OwnO.le (hm.holds 1 _ rfl); rwa [bs_length, hdl] at this) (fun hyc => ?_)
    (repeat refine g_seq ?_)
    refine g_region ?_
    refine g_pu rfl rfl rfl (pu_move rfl rfl) ?_
    refine g_pu rfl rfl rfl (pu_nil rfl rfl) ?_
    refine g_pu rfl rfl rfl (pu_fieldAddr (by decide) rfl rfl) ?_
    refine g_pu rfl rfl rfl (pu_load 0 rfl rfl rfl (flowC_8 (hal _ _))) ?_
    first | refine g_pu rfl rfl rfl (pu_len rfl rfl) ?_ | refine g_pu rfl rfl rfl (pu_lenS rfl rfl) ?_
    first | refine g_pu rfl rfl rfl (pu_geq_t rfl rfl rfl (by omega)) ?_ | refine g_pu rfl rfl rfl (pu_geq_f rfl rfl rfl (by omega)) ?_ | refine g_pu rfl rfl rfl (pu_geq rfl rfl rfl) ?_
    refine g_nil ?_
    (repeat refine g_seq ?_)
    refine g_cond_t rfl (g_skip ?_)
    (repeat refine g_seq ?_); refine g_block ?_
    (repeat refine g_seq ?_)
    refine g_any (16, [13]) ?_
    refine a_pu 0 rfl rfl rfl rfl (pu_move rfl rfl) rfl rfl (by kernel_rfl) ?_
    refine a_pu 1 rfl rfl rfl rfl (pu_move rfl rfl) rfl rfl (by kernel_rfl) ?_
    refine a_pu 2 rfl rfl rfl rfl (pu_nil rfl rfl) rfl rfl (by kernel_rfl) ?_
    refine a_pu 3 rfl rfl rfl rfl (pu_fieldAddr (by decide) rfl rfl) rfl rfl (by kernel_rfl) ?_
    refine a_pu 4 rfl rfl rfl rfl (pu_loadE 0 rfl rfl rfl (by have := flowC_len (p := y.p) (n := T.length - 64 * k) (c := y.c) (z := T.length) (J := J) (hal T k); simp only [List.size_toArray]; omega) (flowC_st (hal T k))) rfl rfl (by kernel_rfl) ?_
    refine a_pu 5 rfl rfl rfl rfl (pu_move rfl rfl) rfl rfl (by kernel_rfl) ?_
    refine a_pu 6 rfl rfl rfl rfl (pu_nil rfl rfl) rfl rfl (by kernel_rfl) ?_
    refine a_pu 7 rfl rfl rfl rfl (pu_fieldAddr (by decide) rfl rfl) rfl rfl (by kernel_rfl) ?_
    refine a_pu 8 rfl rfl rfl rfl (pu_load 0 rfl rfl rfl (flowC_8 (hal _ _))) rfl rfl (by kernel_rfl) ?_
    refine a_pu 9 rfl rfl rfl rfl (pu_slice_h 64 rfl rfl rfl rfl (by omega)) rfl rfl (by kernel_rfl) ?_
    refine a_do 10 48 [] (does_call rfl rfl rfl rfl rfl (fun w' hm => Compress_b w' y.c (s := absN s0T T k) (l := (T.drop (64 * k)).take 64) ⟨by have h1 : RdV w' y.p (bs (T.drop (64 * k))) := OwnO.rd (hm.holds 1 _ rfl); rw [← bs_take]; exact h1.fst, by rw [List.length_take, hdl]; omega, by omega⟩ (hal T k))) rfl rfl (by kernel_rfl) rfl rfl (by kernel_rfl) (by kernel_rfl) (by kernel_rfl) rfl (fun p hp => by cases hp) ?_; rintro v_ cs_ ⟨_, _, rfl, rfl⟩
    refine a_pu 11 rfl rfl rfl rfl (pu_move rfl rfl) rfl rfl (by kernel_rfl) ?_
    refine a_pu 12 rfl rfl rfl rfl (pu_extract rfl rfl rfl) rfl rfl (by kernel_rfl) ?_
    first | refine a_mv 13 rfl rfl rfl rfl (fun _ => (pu_extract rfl rfl rfl)) rfl rfl rfl (by kernel_rfl) (by kernel_rfl) (by kernel_rfl) rfl ?_
    refine a_pu 14 rfl rfl rfl rfl (pu_nil rfl rfl) rfl rfl (by kernel_rfl) ?_
    refine a_pu 15 rfl rfl rfl rfl (pu_fieldAddr (by decide) rfl rfl) rfl rfl (by kernel_rfl) ?_
    refine a_tail [16] (by kernel_rfl) rfl rfl (by kernel_rfl) ?_
    refine g_storeA 0 (s := 8) (C := ws (absN s0T T (k + 1))) rfl rfl rfl rfl rfl rfl (by rw [ws_length, hal]) (oneCell_ws _) (by have := flowC_len (p := y.p) (n := T.length - 64 * k) (c := y.c) (z := T.length) (J := J) (hal T k); omega) ?_
    rw [flowC_put (hal T k)]
    refine g_nil ?_
    (repeat refine g_seq ?_)
    refine g_region ?_
    refine g_pu rfl rfl rfl (pu_move rfl rfl) ?_
    refine g_pu rfl rfl rfl (pu_move rfl rfl) ?_
    refine g_pu rfl rfl rfl (pu_nil rfl rfl) ?_
    refine g_pu rfl rfl rfl (pu_fieldAddr (by decide) rfl rfl) ?_
    refine g_pu rfl rfl rfl (pu_load 0 rfl rfl rfl (flowC_8 (hal _ _))) ?_
    refine g_pu rfl rfl rfl (pu_slice_l 64 rfl rfl rfl rfl (by omega)) ?_
    refine g_pu rfl rfl rfl (pu_nil rfl rfl) ?_
    refine g_pu rfl rfl rfl (pu_fieldAddr (by decide) rfl rfl) ?_
    refine g_store 0 (v := .slice (cutp y.p y.c 64 1) (T.length - 64 * k - 64) (y.c - 64)) rfl rfl rfl rfl rfl rfl rfl (by have := flowC_len (p := y.p) (n := T.length - 64 * k) (c := y.c) (z := T.length) (J := J) (hal T (k + 1)); omega) ?_
    rw [flowC_set8 (hal _ _)]
    refine g_nil ?_
    refine g_cutO 1 64 rfl (by rw [bs_length, hdl]; exact hge) ?_
    refine g_blk ?_
    refine g_round2 (k + 1) (⟨cutp y.p y.c 64 1, y.c - 64⟩ : Ow) (by omega) (by omega) ⟨rfl, trivial⟩ ⟨?_, ?_, trivial⟩
    · rw [show T.length - 64 * (k + 1) = T.length - 64 * k - 64 by omega]; rfl
    · rw [show bs (T.drop (64 * (k + 1))) = (bs (T.drop (64 * k))).drop 64 by rw [bs_drop, List.drop_drop]; congr 2]; rfl
  · (repeat refine g_seq ?_)
    refine g_region ?_
    refine g_pu rfl rfl rfl (pu_move rfl rfl) ?_
    refine g_pu rfl rfl rfl (pu_nil rfl rfl) ?_
    refine g_pu rfl rfl rfl (pu_fieldAddr (by decide) rfl rfl) ?_
    refine g_pu rfl rfl rfl (pu_load 0 rfl rfl rfl (flowC_8 (hal _ _))) ?_
    first | refine g_pu rfl rfl rfl (pu_len rfl rfl) ?_ | refine g_pu rfl rfl rfl (pu_lenS rfl rfl) ?_
    first | refine g_pu rfl rfl rfl (pu_geq_t rfl rfl rfl (by omega)) ?_ | refine g_pu rfl rfl rfl (pu_geq_f rfl rfl rfl (by omega)) ?_ | refine g_pu rfl rfl rfl (pu_geq rfl rfl rfl) ?_
    refine g_nil ?_
    (repeat refine g_seq ?_)
    refine g_cond_f rfl (g_exit rfl ?_)
    have e1 : k = T.length / 64 := by omega
    have e2 : T.length - 64 * k = T.length % 64 := by omega
    have e3 : flowS T = absN s0T T k := by unfold flowS; rw [if_neg (by omega), e1]
    refine g_end0 rfl (fun w' hm => ⟨y, trivial, rfl, ?_⟩)
    show Grows w _ [.pt bb (.cells (hashC T y ++ J).toArray E (0, 0)), y.ckO 5 (bs (restL T))] w'
    unfold hashC restL
    rw [e3, ← e2, ← e1]
    exact hm.grows [0, 1] ⟨rfl, rfl, trivial⟩ rfl

theorem Write_g (w : World) (bb : Nat) {E : TypeId} {J : List Value} {L : List (BitVec 8)} (x : Ow) {q : Option Addr} {m : Nat} (d : Nat) {LL : List Value} {ls : List (List (BitVec 8))} (h : w.heap[bb]? = some (.cells (hashC L x ++ J).toArray E (0, 0))) (ho : OwnO 5 x.p x.c (bs (restL L)) w) (hne : ∀ j, At x.p j → ¬ j = bb) (hp : ∀ j, At x.p j → j < w.heap.size)
    (hr : RdV w q LL) (hLL : LL.length = m) (hel : All2 (IsB Any w) LL ls) (hqd0 : 0 < m → ∀ b o, q = some ⟨b, o, none⟩ → ¬ (b = bb ∨ At x.p b)) (hSd : ∀ q m c, Value.slice q m c ∈ LL → 0 < m → ∀ j, At q j → ¬ (j = bb ∨ At x.p j)) (hm0 : m ≤ 9223372036854775807) (hsm : ∀ l ∈ ls, l.length ≤ 140737488355200) (hbig : L.length + ls.flatten.length ≤ 1152921504606846976) :
    Spec Try.prog 23 #[.pointer (some ⟨bb, 0, none⟩), .slice q m d] w (σ := Ow) (fun _ => True) (fun _ => .pointer (some ⟨bb, 0, none⟩)) (fun j => j = bb ∨ At x.p j) (fun y => [.pt bb (.cells (hashC (L ++ ls.flatten) y ++ J).toArray E (0, 0)), y.ckO 5 (bs (restL (L ++ ls.flatten)))]) := by
  refine enter Try.func23 rfl rfl (Mem.start2 (.pt bb (.cells (hashC L x ++ J).toArray E (0, 0))) (x.ckO 5 (bs (restL L))) h trivial (fun j hj => by rw [show j = bb from hj]; exact lt_of_some h) ho OwnO.loc hp (fun j h1 h2 => hne j h2 h1)) ?_
  have hlsl : ls.length = m := by rw [← hel.1, hLL]
  (repeat refine g_seq ?_)
  refine g_region ?_
  refine g_pu rfl rfl rfl (pu_assign rfl rfl) ?_
  refine g_nil ?_
  (repeat refine g_seq ?_)
  refine g_region ?_
  refine g_pu rfl rfl rfl (pu_move rfl rfl) ?_
  first | refine g_pu rfl rfl rfl (pu_len rfl rfl) ?_ | refine g_pu rfl rfl rfl (pu_lenS rfl rfl) ?_
  refine g_pu rfl rfl rfl (pu_move rfl rfl) ?_
  refine g_nil ?_
  refine g_block (g_loop2 (fun (i : Nat) (y : Ow) => [(0, .pointer (some ⟨bb, 0, none⟩)), (7, .slice q m d), (8, .int .i64 (m : Int)), (9, .int .i64 (i : Int))]) (fun i y => [(0, .pt bb (.cells (hashC (L ++ (ls.take i).flatten) y ++ J).toArray E (0, 0))), (1, y.ckO 5 (bs (restL (L ++ (ls.take i).flatten))))]) (fun i _ => i ≤ m) (fun i _ => m - i) 0 x ⟨rfl, rfl, rfl, rfl, trivial⟩ ⟨by simp; rfl, by simp; rfl, trivial⟩ (by omega) ?_)
  intro i y hi
  by_cases hlt : i < m
  · (repeat refine g_seq ?_)
    refine g_region ?_
    first | refine g_pu rfl rfl rfl (pu_lss_t rfl rfl rfl (by omega)) ?_ | refine g_pu rfl rfl rfl (pu_lss_f rfl rfl rfl (by omega)) ?_ | refine g_pu rfl rfl rfl (pu_lss rfl rfl rfl) ?_
    refine g_nil ?_
    (repeat refine g_seq ?_)
    refine g_cond_t rfl (g_skip ?_)
    obtain ⟨l, hl⟩ : ∃ l, ls[i]? = some l := ⟨_, List.getElem?_eq_getElem (by omega)⟩
    obtain ⟨v, hv⟩ : ∃ v, LL[i]? = some v := ⟨_, List.getElem?_eq_getElem (by omega)⟩
    obtain ⟨qi, mi, ci, rfl, hby, _⟩ := hel.2 i v l hv hl
    have hqd := hqd0 (by omega)
    have hft := flat_take hl
    have hfl := flat_le ls (i + 1)
    rw [hft, List.length_append, hby.len] at hfl
    (repeat refine g_seq ?_); refine g_block ?_
    (repeat refine g_seq ?_)
    refine g_region ?_
    refine g_pu rfl rfl rfl (pu_atM1 i (fun w' hm => hr.mem hm hqd) rfl rfl rfl rfl hlt (by omega)) ?_
    refine g_pu rfl rfl rfl (pu_rdM (fun w' hm => hr.mem hm hqd) rfl rfl hv) ?_
    refine g_pu rfl rfl rfl (pu_assign rfl rfl) ?_
    refine g_nil ?_
    by_cases hpos : 0 < mi
    · have hni := hSd qi mi ci (List.mem_of_getElem? hv) hpos
      have hbn : bs l ≠ [] := fun h3 => by
        have h4 : (bs l).length = 0 := by rw [h3]; rfl
        rw [bs_length, hby.len] at h4
        omega
      (repeat refine g_seq ?_)
      refine g_region ?_
      refine g_pu rfl rfl rfl (pu_move rfl rfl) ?_
      first | refine g_pu rfl rfl rfl (pu_len rfl rfl) ?_ | refine g_pu rfl rfl rfl (pu_lenS rfl rfl) ?_
      first | refine g_pu rfl rfl rfl (pu_gtr_t rfl rfl rfl (by omega)) ?_ | refine g_pu rfl rfl rfl (pu_gtr_f rfl rfl rfl (by omega)) ?_ | refine g_pu rfl rfl rfl (pu_gtr rfl rfl rfl) ?_
      refine g_nil ?_
      (repeat refine g_seq ?_)
      refine g_cond_t rfl ?_
      (repeat refine g_seq ?_)
      refine g_region ?_
      refine g_pu rfl rfl rfl (pu_move rfl rfl) ?_
      refine g_pu rfl rfl rfl (pu_nil rfl rfl) ?_
      refine g_pu rfl rfl rfl (pu_fieldAddr (by decide) rfl rfl) ?_
      refine g_pu rfl rfl rfl (pu_move rfl rfl) ?_
      refine g_callW [0, 1] [0, 1] rfl rfl rfl rfl rfl rfl (fun j hj => hj.elim (fun h => ⟨0, by simp, _, rfl, h⟩) (fun h => ⟨1, by simp, _, rfl, h⟩)) (fun w' hm => take_b w' bb y ci (hm.holds 0 _ rfl) (hm.holds 1 _ rfl) (fun j hj he => hm.apart 1 _ 0 _ rfl rfl (by decide) j hj he) (fun j hj => hm.below 1 _ rfl j hj) (hby.mD hm (fun b o e => hni b (by rw [e]; exact At.some.2 rfl))) (fun b o e hb => hb.elim (fun h1 => hni b (by rw [e]; exact At.some.2 rfl) (.inl h1)) (fun h1 => (hm.above 1 _ rfl b h1).elim (fun h2 => by have hb1 := hby.rd; rw [e] at hb1; exact absurd (hb1.lt hbn) (by omega)) (fun h2 => hni b (by rw [e]; exact At.some.2 rfl) h2))) hpos (by have := hsm l (List.mem_of_getElem? hl); have := hby.len; omega) (by rw [List.length_append]; omega)) (fun z _ => ?_)
      rw [List.append_assoc, ← hft]
      refine g_nil ?_
      refine g_blk ?_
      (repeat refine g_seq ?_)
      refine g_region ?_
      refine g_pu rfl rfl rfl (pu_addI rfl rfl rfl (by omega)) ?_
      refine g_pu rfl rfl rfl (pu_move rfl rfl) ?_
      refine g_nil ?_
      exact g_round2 (i + 1) z (by omega) (by omega) ⟨rfl, rfl, rfl, rfl, trivial⟩ ⟨rfl, rfl, trivial⟩
    · (repeat refine g_seq ?_)
      refine g_region ?_
      refine g_pu rfl rfl rfl (pu_move rfl rfl) ?_
      first | refine g_pu rfl rfl rfl (pu_len rfl rfl) ?_ | refine g_pu rfl rfl rfl (pu_lenS rfl rfl) ?_
      first | refine g_pu rfl rfl rfl (pu_gtr_t rfl rfl rfl (by omega)) ?_ | refine g_pu rfl rfl rfl (pu_gtr_f rfl rfl rfl (by omega)) ?_ | refine g_pu rfl rfl rfl (pu_gtr rfl rfl rfl) ?_
      refine g_nil ?_
      (repeat refine g_seq ?_)
      refine g_cond_f rfl (g_skip ?_)
      have hl0 : l = [] := List.eq_nil_of_length_eq_zero (by have := hby.len; omega)
      rw [hl0, List.append_nil] at hft
      rw [← hft]
      refine g_blk ?_
      (repeat refine g_seq ?_)
      refine g_region ?_
      refine g_pu rfl rfl rfl (pu_addI rfl rfl rfl (by omega)) ?_
      refine g_pu rfl rfl rfl (pu_move rfl rfl) ?_
      refine g_nil ?_
      exact g_round2 (i + 1) y (by omega) (by omega) ⟨rfl, rfl, rfl, rfl, trivial⟩ ⟨rfl, rfl, trivial⟩
  · (repeat refine g_seq ?_)
    refine g_region ?_
    first | refine g_pu rfl rfl rfl (pu_lss_t rfl rfl rfl (by omega)) ?_ | refine g_pu rfl rfl rfl (pu_lss_f rfl rfl rfl (by omega)) ?_ | refine g_pu rfl rfl rfl (pu_lss rfl rfl rfl) ?_
    refine g_nil ?_
    (repeat refine g_seq ?_)
    refine g_cond_f rfl (g_exit rfl ?_)
    (repeat refine g_seq ?_)
    refine g_region ?_
    refine g_pu rfl rfl rfl (pu_move rfl rfl) ?_
    refine g_pu rfl rfl rfl (pu_assign rfl rfl) ?_
    refine g_nil ?_
    have e1 : i = m := by omega
    subst e1
    rw [List.take_of_length_le (by omega)]
    exact g_ret1 rfl rfl (fun w' hm => ⟨y, trivial, rfl, hm.grows [0, 1] ⟨rfl, rfl, trivial⟩ rfl⟩)
theorem Write_b (w : World) (bb : Nat) {E : TypeId} {J : List Value} {L : List (BitVec 8)} (x : Ow) {q : Option Addr} {m : Nat} (d : Nat) {LL : List Value} {ls : List (List (BitVec 8))} (h : w.heap[bb]? = some (.cells (hashC L x ++ J).toArray E (0, 0))) (ho : OwnO 5 x.p x.c (bs (restL L)) w) (hne : ∀ j, At x.p j → ¬ j = bb) (hp : ∀ j, At x.p j → j < w.heap.size)
    (hr : RdV w q LL) (hLL : LL.length = m) (hel : All2 (IsB Any w) LL ls) (hqd0 : 0 < m → ∀ b o, q = some ⟨b, o, none⟩ → ¬ (b = bb ∨ At x.p b)) (hSd : ∀ q m c, Value.slice q m c ∈ LL → 0 < m → ∀ j, At q j → ¬ (j = bb ∨ At x.p j)) (hm0 : m ≤ 9223372036854775807) (hbig : L.length + ls.flatten.length ≤ 1099511627776) :
    Spec Try.prog 23 #[.pointer (some ⟨bb, 0, none⟩), .slice q m d] w (σ := Ow) (fun _ => True) (fun _ => .pointer (some ⟨bb, 0, none⟩)) (fun j => j = bb ∨ At x.p j) (fun y => [.pt bb (.cells (hashC (L ++ ls.flatten) y ++ J).toArray E (0, 0)), y.ckO 5 (bs (restL (L ++ ls.flatten)))]) :=
  Write_g w bb x d h ho hne hp hr hLL hel hqd0 hSd hm0 (fun l hl => by have := mem_flat hl; omega) (by omega)

theorem ShaNew_g (w : World) {q : Option Addr} {m : Nat} (d : Nat) {LL : List Value} {ls : List (List (BitVec 8))} (ha : ByL w q m LL ls) (hsm : ∀ l ∈ ls, l.length ≤ 140737488355200) (hbig : ls.flatten.length ≤ 1152921504606846976) :
    Spec Try.prog 54 #[.slice q m d] w (σ := Nat × Ow) (fun _ => True) (fun y => .pointer (some ⟨y.1, 0, none⟩)) Nob (fun y => [.pt y.1 (.cells (hashC ls.flatten y.2 ++ []).toArray 48 (0, 0)), y.2.ckO 5 (bs (restL ls.flatten))]) := by
  refine enter Try.func54 rfl rfl (Mem.start w) ?_
  have hlt1 : 0 < m → ∀ b o, q = some ⟨b, o, none⟩ → b < w.heap.size := fun h0 b o e => by
    have h1 := ha.rd
    rw [e] at h1
    exact h1.lt (fun h => by have h2 := ha.len; rw [h] at h2; simp at h2; omega)
  have hlt2 : ∀ q m c, Value.slice q m c ∈ LL → 0 < m → ∀ j, At q j → j < w.heap.size := fun q m c hv h0 j hj => by
    obtain ⟨i, hi⟩ := List.mem_iff_getElem?.1 hv
    obtain ⟨l, hl⟩ : ∃ l, ls[i]? = some l := ⟨_, List.getElem?_eq_getElem (by have := (List.getElem?_eq_some_iff.1 hi).1; have := ha.els.1; omega)⟩
    obtain ⟨q', m', c', he, hby, _⟩ := ha.els.2 i _ l hi hl
    cases he
    obtain ⟨b, o, e, _⟩ := hby.rd.place (by rw [bs_length, hby.len]; exact h0)
    rw [e] at hj
    obtain rfl := At.some.1 hj
    have h1 := hby.rd
    rw [e] at h1
    exact h1.lt (fun h => by have h4 : (bs l).length = 0 := by rw [h]; rfl
                             rw [bs_length, hby.len] at h4; omega)
  (repeat refine g_seq ?_)
  refine g_region ?_
  refine g_pu rfl rfl rfl (pu_assign rfl rfl) ?_
  refine g_nil ?_
  (repeat refine g_seq ?_)
  refine g_region ?_
  refine g_lo [3] rfl rfl rfl rfl (lo_alloc rfl) (fun b3 hb3 => ?_)
  refine g_pu rfl rfl rfl (pu_move rfl rfl) ?_
  refine g_nilO 103 5 rfl ?_
  refine g_callW [3, 103] [3, 103] rfl rfl rfl rfl rfl rfl (fun j hj => hj.elim (fun h => ⟨3, by simp, _, rfl, h⟩) (fun h => absurd h At.none)) (fun w' hm => Write_g w' b3 (L := []) (J := []) (ls := ls) ⟨none, 0⟩ d (hm.holds 3 _ rfl) (hm.holds 103 _ rfl) (fun j hj => absurd hj At.none) (fun j hj => absurd hj At.none) (ha.rd.mem0 hm) ha.len (ha.m hm).els (fun h0 b o e hb => hb.elim (fun h1 => by have := hlt1 h0 b o e; omega) (fun h1 => At.none h1)) (fun q m c hv h0 j hj hb => hb.elim (fun h1 => by have := hlt2 q m c hv h0 j hj; omega) (fun h1 => At.none h1)) (by have := ha.big; omega) hsm (by rw [List.length_nil]; omega)) (fun y _ => ?_)
  rw [List.nil_append]
  refine g_pu rfl rfl rfl (pu_assign rfl rfl) ?_
  refine g_nil ?_
  exact g_ret1 rfl rfl (fun w' hm => ⟨(b3, y), trivial, rfl, hm.grows [3, 103] ⟨rfl, rfl, trivial⟩ rfl⟩)
theorem ShaNew_b (w : World) {q : Option Addr} {m : Nat} (d : Nat) {LL : List Value} {ls : List (List (BitVec 8))} (ha : ByL w q m LL ls) (hbig : ls.flatten.length ≤ 1099511627776) :
    Spec Try.prog 54 #[.slice q m d] w (σ := Nat × Ow) (fun _ => True) (fun y => .pointer (some ⟨y.1, 0, none⟩)) Nob (fun y => [.pt y.1 (.cells (hashC ls.flatten y.2 ++ []).toArray 48 (0, 0)), y.2.ckO 5 (bs (restL ls.flatten))]) :=
  ShaNew_g w d ha (fun l hl => by have := mem_flat hl; omega) (by omega)
end Go.Sx

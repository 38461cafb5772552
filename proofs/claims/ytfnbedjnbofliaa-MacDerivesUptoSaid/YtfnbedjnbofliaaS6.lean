/-
  Sums: of a hash, of parts, and of the reference; a hash's twin. Conditions: all bytes together are at most 2^40.
-/
import Derived.Test.YtfnbedjnbofliaaS5
import Derived.Test.YtfnbedjnbofliaaS1
import Derived.Test.YtfnbedjnbofliaaC7
set_option linter.unusedVariables false
set_option linter.unusedSimpArgs false
namespace Go.Sx
open Go Go.Proofs

/-- The bytes of the words, the highest first. -/
def sumB (st : List (BitVec 32)) : List (BitVec 8) := (List.range 32).map fun k => ((st.getD (k / 4) 0#32) >>> (24 - 8 * (k % 4))).setWidth 8
theorem sumB_length (st : List (BitVec 32)) : (sumB st).length = 32 := by simp [sumB]
theorem sumB_get {st : List (BitVec 32)} {k : Nat} (h : k < 32) : (sumB st)[k]? = some (((st.getD (k / 4) 0#32) >>> (24 - 8 * (k % 4))).setWidth 8) := by simp [sumB, h]
def shaW (L : List (BitVec 8)) : List (BitVec 8) := L ++ padB L.length
theorem shaW_length (L : List (BitVec 8)) : (shaW L).length = L.length + noughts L.length + 9 := by simp [shaW, padB_length]; omega
theorem shaW_mod (L : List (BitVec 8)) : (shaW L).length % 64 = 0 := by rw [shaW_length]; unfold noughts; omega
def shaL (L : List (BitVec 8)) : List (BitVec 8) := sumB (absN s0T (shaW L) ((shaW L).length / 64))
theorem shaL_length (L : List (BitVec 8)) : (shaL L).length = 32 := sumB_length _

theorem put4_bytes (x : BitVec 32) : putE 2 4 (x.setWidth 64) = 0 ∧ putL 2 4 (x.setWidth 64) = [(x >>> 24).setWidth 8, (x >>> 16).setWidth 8, (x >>> 8).setWidth 8, x.setWidth 8] := by
  have hz : (x.setWidth 64) >>> (8 * (4 : Int).toNat) = 0#64 := by
    apply BitVec.eq_of_getLsbD_eq
    intro i hi
    rw [BitVec.getLsbD_ushiftRight, BitVec.getLsbD_setWidth]
    simp [BitVec.getLsbD_of_ge x (8 * (4 : Int).toNat + i) (show 32 ≤ 8 * (4 : Int).toNat + i by show 32 ≤ 8 * 4 + i; omega)]
  have hE : putE 2 4 (x.setWidth 64) = 0 := by
    unfold putE
    rw [if_neg (fun h => h ⟨.inr rfl, by omega, by omega⟩), if_neg (fun h => h hz)]
  refine ⟨hE, ?_⟩
  have hs : ∀ k, k ≤ 24 → ((x.setWidth 64) >>> k).setWidth 8 = (x >>> k).setWidth 8 := by
    intro k hk
    apply BitVec.eq_of_getLsbD_eq
    intro i hi
    simp only [BitVec.getLsbD_setWidth, BitVec.getLsbD_ushiftRight]
    simp [hi, show k + i < 64 by omega]
  unfold putL
  rw [if_pos hE, if_pos rfl]
  show [((x.setWidth 64) >>> (8 * 3)).setWidth 8, ((x.setWidth 64) >>> (8 * 2)).setWidth 8, ((x.setWidth 64) >>> (8 * 1)).setWidth 8, ((x.setWidth 64) >>> (8 * 0)).setWidth 8] = _
  rw [hs _ (by omega), hs _ (by omega), hs _ (by omega), hs _ (by omega)]
  simp

/-- Some bytes more are filled in. -/
theorem fillW_put {α : Type} {z : α} {full S : List α} {a n : Nat} (hS : S = (full.drop a).take n) (h : a + n ≤ full.length) : (fillW z full a).take a ++ S ++ (fillW z full a).drop (a + n) = fillW z full (a + n) := by
  subst hS
  unfold fillW
  have e : (full.take a).drop (a + n) = [] := List.drop_eq_nil_of_le (by simp; omega)
  rw [List.take_append_of_le_length (by simp; omega), List.take_take, Nat.min_self, List.drop_append, e, List.length_take, List.nil_append, List.drop_replicate, List.take_add]
  congr 2
  omega
theorem sumB_seg (st : List (BitVec 32)) {i : Nat} (h : i < 8) : putL 2 4 ((st.getD i 0#32).setWidth 64) = ((sumB st).drop (4 * i)).take 4 := by
  rw [(put4_bytes _).2]
  apply List.ext_getElem?
  intro j
  rw [List.getElem?_take]
  by_cases hj : j < 4
  · rw [if_pos hj, List.getElem?_drop, sumB_get (by omega), show (4 * i + j) / 4 = i by omega, show (4 * i + j) % 4 = j by omega]
    match j, hj with
    | 0, _ => rfl
    | 1, _ => rfl
    | 2, _ => rfl
    | 3, _ => simp
  · rw [if_neg hj, List.getElem?_eq_none (by simp; omega)]

theorem ShaLen_b (w : World) (bb : Nat) {E : TypeId} {J : List Value} {L : List (BitVec 8)} (x : Ow) (h : w.heap[bb]? = some (.cells (hashC L x ++ J).toArray E (0, 0))) :
    Spec Try.prog 21 #[.pointer (some ⟨bb, 0, none⟩)] w (σ := Unit) (fun _ => True) (fun _ => .int .i64 (L.length : Int)) Nob (fun _ => []) := by
  refine enter Try.func21 rfl rfl (Mem.start w) ?_
  have hr : RdV w (some ⟨bb, 0, none⟩) (hashC L x ++ J) := RdV.row (J := []) (by rw [List.append_nil]; exact h)
  have h9 : (hashC L x ++ J)[9]? = some (.int .i64 (L.length : Int)) := by
    have := flowC_9 (p := x.p) (n := L.length % 64) (c := x.c) (z := L.length) (J := J) (flowS_length L)
    rwa [List.getElem?_toArray] at this
  (repeat refine g_seq ?_)
  refine g_region ?_
  refine g_pu rfl rfl rfl (pu_assign rfl rfl) ?_
  refine g_nil ?_
  (repeat refine g_seq ?_)
  refine g_region ?_
  refine g_pu rfl rfl rfl (pu_move rfl rfl) ?_
  refine g_pu rfl rfl rfl (pu_nil rfl rfl) ?_
  refine g_pu rfl rfl rfl (pu_fieldAddr (by decide) rfl rfl) ?_
  refine g_pu rfl rfl rfl (pu_fieldAddr (by decide) rfl rfl) ?_
  refine g_pu rfl rfl rfl (pu_rdM (j := 9) (fun w' hm => hr.mem0 hm) rfl rfl h9) ?_
  refine g_pu rfl rfl rfl (pu_assign rfl rfl) ?_
  refine g_nil ?_
  exact g_ret1 rfl rfl (fun w' hm => ⟨(), trivial, rfl, hm.grows [] trivial rfl⟩)

theorem Twin_b (w : World) (bb : Nat) {E : TypeId} {J : List Value} {L : List (BitVec 8)} (x : Ow) (h : w.heap[bb]? = some (.cells (hashC L x ++ J).toArray E (0, 0))) (ho : RdV w x.p (bs (restL L))) (hbig : L.length ≤ 1152921504606846976) :
    Spec Try.prog 44 #[.pointer (some ⟨bb, 0, none⟩)] w (σ := Nat × Ow) (fun _ => True) (fun y => .pointer (some ⟨y.1, 0, none⟩)) Nob (fun y => [.pt y.1 (.cells (hashC L y.2 ++ []).toArray 48 (0, 0)), y.2.ckO 5 (bs (restL L))]) := by
  refine enter Try.func44 rfl rfl (Mem.start w) ?_
  have hst := flowS_length L
  have hrl := restL_length L
  have hr : RdV w (some ⟨bb, 0, none⟩) (hashC L x ++ J) := RdV.row (J := []) (by rw [List.append_nil]; exact h)
  have hlen := flowC_len (p := x.p) (n := L.length % 64) (c := x.c) (z := L.length) (J := J) hst
  have h8 : (hashC L x ++ J)[8]? = some (.slice x.p (L.length % 64) x.c) := by
    have := flowC_8 (p := x.p) (n := L.length % 64) (c := x.c) (z := L.length) (J := J) hst
    rwa [List.getElem?_toArray] at this
  have h10 : ((hashC L x ++ J).drop 0).take 10 = hashC L x ++ [] := by
    rw [List.drop_zero, List.take_append_of_le_length (by show 10 ≤ (flowC _ _ _ _ _).length; rw [flowC_length hst]; omega), List.take_of_length_le (by show (flowC _ _ _ _ _).length ≤ 10; rw [flowC_length hst]; omega), List.append_nil]
  (repeat refine g_seq ?_)
  refine g_region ?_
  refine g_pu rfl rfl rfl (pu_assign rfl rfl) ?_
  refine g_nil ?_
  (repeat refine g_seq ?_)
  refine g_region ?_
  refine g_pu rfl rfl rfl (pu_move rfl rfl) ?_
  refine g_pu rfl rfl rfl (pu_nil rfl rfl) ?_
  refine g_pu rfl rfl rfl (pu_fieldAddr (by decide) rfl rfl) ?_
  refine g_pu rfl rfl rfl (pu_rdMA (j := 0) (s := 10) (fun w' hm => hr.mem0 hm) rfl rfl (by omega) (by show 0 + 10 ≤ (flowC _ _ _ _ _ ++ J).length; omega)) ?_
  rw [h10]
  refine g_pu rfl rfl rfl (pu_buildS (cs := hashC L x ++ []) rfl rfl ((fill_one (C := hashC L x ++ []) (s := 10) rfl (by rw [List.append_nil]; exact flowC_length hst) (by decide)).trans (by simp; exact Nat.le_refl 10))) ?_
  refine g_lo [9] rfl rfl rfl rfl (lo_box rfl rfl) (fun b9 hb9 => ?_)
  refine g_pu rfl rfl rfl (pu_assign rfl rfl) ?_
  refine g_nil ?_
  (repeat refine g_seq ?_)
  refine g_region ?_
  refine g_pu rfl rfl rfl (pu_move rfl rfl) ?_
  refine g_lo [11] rfl rfl rfl rfl (lo_buildSlice0 rfl) (fun b11 hb11 => ?_)
  refine g_own 11 (L := []) (J := []) (c := 0) (s := 1) rfl (by simp) (by omega) ?_
  refine g_pu rfl rfl rfl (pu_move rfl rfl) ?_
  refine g_pu rfl rfl rfl (pu_nil rfl rfl) ?_
  refine g_pu rfl rfl rfl (pu_fieldAddr (by decide) rfl rfl) ?_
  refine g_pu rfl rfl rfl (pu_fieldAddr (by decide) rfl rfl) ?_
  refine g_pu rfl rfl rfl (pu_rdM (j := 8) (fun w' hm => hr.mem0 hm) rfl rfl h8) ?_
  refine g_append1 11 (bs (restL L)) rfl rfl rfl rfl rfl rfl rfl rfl rfl (fun w' hm => ho.mem0 hm) (by rw [bs_length, hrl]) (oneCell_bs _) (by omega) (by omega) (fun p' c' => ?_)
  rw [Nat.zero_add, List.nil_append]
  refine g_pu rfl rfl rfl (pu_nil rfl rfl) ?_
  refine g_pu rfl rfl rfl (pu_fieldAddr (by decide) rfl rfl) ?_
  refine g_pu rfl rfl rfl (pu_fieldAddr (by decide) rfl rfl) ?_
  refine g_store 9 (v := .slice p' (L.length % 64) c') rfl rfl rfl rfl rfl rfl rfl (by show 0 + 8 < (flowC _ _ _ _ _ ++ []).length; rw [List.append_nil, flowC_length hst]; omega) ?_
  have hset : List.set (hashC L x ++ []) (0 + 8) (Value.slice p' (L.length % 64) c') = hashC L (⟨p', c'⟩ : Ow) ++ [] := flowC_set8 hst
  rw [hset]
  refine g_nil ?_
  (repeat refine g_seq ?_)
  refine g_region ?_
  refine g_pu rfl rfl rfl (pu_move rfl rfl) ?_
  refine g_pu rfl rfl rfl (pu_assign rfl rfl) ?_
  refine g_nil ?_
  refine g_toO 11 rfl ?_
  exact g_ret1 rfl rfl (fun w' hm => ⟨(b9, ⟨p', c'⟩), trivial, rfl, hm.grows [9, 11] ⟨rfl, rfl, trivial⟩ rfl⟩)

theorem HashSum_b (w : World) (bb : Nat) {E : TypeId} {J : List Value} {L : List (BitVec 8)} (x : Ow) (h : w.heap[bb]? = some (.cells (hashC L x ++ J).toArray E (0, 0))) (ho : RdV w x.p (bs (restL L))) (hbig : L.length ≤ 36028797018963968) :
    Spec Try.prog 24 #[.pointer (some ⟨bb, 0, none⟩)] w (σ := Unit) (fun _ => True) (fun _ => .agg (bs (shaL L)).toArray) Nob (fun _ => []) := by
  refine enter Try.func24 rfl rfl (Mem.start w) ?_
  have hr : RdV w (some ⟨bb, 0, none⟩) (hashC L x ++ J) := RdV.row (J := []) (by rw [List.append_nil]; exact h)
  have h9 : (hashC L x ++ J)[9]? = some (.int .i64 (L.length : Int)) := by
    have := flowC_9 (p := x.p) (n := L.length % 64) (c := x.c) (z := L.length) (J := J) (flowS_length L)
    rwa [List.getElem?_toArray] at this
  have hpl := padB_length L.length
  have hno := noughts_lt L.length
  have hsl := shaL_length L
  (repeat refine g_seq ?_)
  refine g_region ?_
  refine g_lo [2] rfl rfl rfl rfl (lo_alloc rfl) (fun b2 hb2 => ?_)
  refine g_nil ?_
  (repeat refine g_seq ?_)
  refine g_region ?_
  refine g_pu rfl rfl rfl (pu_move rfl rfl) ?_
  refine g_call [10, 110] rfl rfl rfl rfl rfl rfl (fun w' hm => Twin_b w' bb x (hm.oldC h (fun h => h)) (ho.mem0 hm) (by omega)) (fun x10 _ => ?_)
  refine g_pu rfl rfl rfl (pu_assign rfl rfl) ?_
  refine g_nil ?_
  (repeat refine g_seq ?_)
  refine g_any (8, [0, 1, 2]) ?_
  first | refine a_mv 0 rfl rfl rfl rfl (fun _ => (pu_move rfl rfl)) rfl rfl rfl (by kernel_rfl) (by kernel_rfl) (by kernel_rfl) rfl ?_
  first | refine a_mv 1 rfl rfl rfl rfl (fun _ => (pu_nil rfl rfl)) rfl rfl rfl (by kernel_rfl) (by kernel_rfl) (by kernel_rfl) rfl ?_
  first | refine a_mv 2 rfl rfl rfl rfl (fun _ => (pu_fieldAddr (by decide) rfl rfl)) rfl rfl rfl (by kernel_rfl) (by kernel_rfl) (by kernel_rfl) rfl ?_
  refine a_pu 3 rfl rfl rfl rfl (pu_move rfl rfl) rfl rfl (by kernel_rfl) ?_
  refine a_pu 4 rfl rfl rfl rfl (pu_nil rfl rfl) rfl rfl (by kernel_rfl) ?_
  refine a_pu 5 rfl rfl rfl rfl (pu_fieldAddr (by decide) rfl rfl) rfl rfl (by kernel_rfl) ?_
  refine a_pu 6 rfl rfl rfl rfl (pu_fieldAddr (by decide) rfl rfl) rfl rfl (by kernel_rfl) ?_
  refine a_pu 7 rfl rfl rfl rfl (pu_rdM (j := 9) (fun w' hm => hr.mem0 hm) rfl rfl h9) rfl rfl (by kernel_rfl) ?_
  refine a_tail [8, 9] (by kernel_rfl) rfl rfl (by kernel_rfl) ?_
  refine g_call [19] rfl rfl rfl rfl rfl rfl (fun w' hm => shapad_b w' L.length (by omega)) (fun x19 _ => ?_)
  refine g_callW [10, 110] [10, 110] rfl rfl rfl rfl rfl rfl (fun j hj => hj.elim (fun h => ⟨10, by simp, _, rfl, h⟩) (fun h => ⟨110, by simp, _, rfl, h⟩)) (fun w' hm => take_b w' x10.1 x10.2 _ (hm.holds 10 _ rfl) (hm.holds 110 _ rfl) (fun j hj he => hm.apart 110 _ 10 _ rfl rfl (by decide) j hj he) (fun j hj => hm.below 110 _ rfl j hj) (By.ow 19 rfl hm rfl (by omega)) (fun b o e hb => by have hx : At x19.p b := (by rw [e]; exact At.some.2 rfl); exact hb.elim (fun h1 => hm.apart 19 _ 10 _ rfl rfl (by decide) b hx h1) (fun h1 => hm.apart 19 _ 110 _ rfl rfl (by decide) b hx h1)) (by omega) (by omega) (by omega)) (fun y _ => ?_)
  refine g_nil ?_
  (repeat refine g_seq ?_)
  refine g_region ?_
  refine g_lo [4] rfl rfl rfl rfl (lo_alloc rfl) (fun b4 hb4 => ?_)
  refine g_nil ?_
  have hst := flowS_length (L ++ padB L.length)
  have hfs : flowS (L ++ padB L.length) = absN s0T (shaW L) ((shaW L).length / 64) := by
    unfold flowS
    rw [if_neg (by rw [List.length_append, hpl]; omega)]
    rfl
  (repeat refine g_seq ?_)
  refine g_region ?_
  refine g_pu rfl rfl rfl (pu_move rfl rfl) ?_
  refine g_pu rfl rfl rfl (pu_nil rfl rfl) ?_
  refine g_pu rfl rfl rfl (pu_fieldAddr (by decide) rfl rfl) ?_
  refine g_pu rfl rfl rfl (pu_fieldAddr (by decide) rfl rfl) ?_
  refine g_pu rfl rfl rfl (pu_loadE 10 rfl rfl rfl (by have := flowC_len (p := y.p) (n := (L ++ padB L.length).length % 64) (c := y.c) (z := (L ++ padB L.length).length) (J := []) hst; exact Nat.le_trans (by omega) this) (flowC_st hst)) ?_
  refine g_pu rfl rfl rfl (pu_move rfl rfl) ?_
  refine g_nil ?_
  rw [hfs] at hst ⊢
  unfold shaL at hsl ⊢
  generalize absN s0T (shaW L) ((shaW L).length / 64) = st at hst hsl
  refine g_block (g_loop (σ := Nat) (fun i => [(2, .pointer (some ⟨b2, 0, none⟩)), (4, .pointer (some ⟨b4, 0, none⟩)), (25, .agg (ws st).toArray), (26, .int .i64 (i : Int))]) (fun i => [(2, .pt b2 (.cells (bs (List.replicate 32 0#8)).toArray 34 (0, 0))), (4, .pt b4 (.cells (bs (fillW 0#8 (sumB st) (4 * i))).toArray 34 (0, 0)))]) (fun i => i ≤ 8) (fun i => 8 - i) 0 ⟨rfl, rfl, rfl, rfl, trivial⟩ ⟨rfl, by rw [show fillW 0#8 (sumB st) (4 * 0) = List.replicate 32 0#8 by simp [fillW, hsl]]; rfl, trivial⟩ (by omega) ?_)
  intro i hi
  by_cases hlt : i < 8
  · (repeat refine g_seq ?_)
    refine g_region ?_
    first | refine g_pu rfl rfl rfl (pu_lss_t rfl rfl rfl (by omega)) ?_ | refine g_pu rfl rfl rfl (pu_lss_f rfl rfl rfl (by omega)) ?_ | refine g_pu rfl rfl rfl (pu_lss rfl rfl rfl) ?_
    refine g_nil ?_
    (repeat refine g_seq ?_)
    refine g_cond_t rfl (g_skip ?_)
    have hg : st[i]? = some (st.getD i 0#32) := getD_some (by omega)
    have hp4 := put4_bytes (st.getD i 0#32)
    have hseg := sumB_seg st hlt
    have hl4 : (putL 2 4 ((st.getD i 0#32).setWidth 64)).length = 4 := by rw [hp4.2]; rfl
    (repeat refine g_seq ?_); refine g_block ?_
    (repeat refine g_seq ?_)
    refine g_region ?_
    refine g_pu rfl rfl rfl (pu_move rfl rfl) ?_
    refine g_pu rfl rfl rfl (pu_indexA i rfl rfl rfl rfl hlt (by rw [List.getElem?_toArray]; exact ws_get hg)) ?_
    refine g_pu rfl rfl rfl (pu_assign rfl rfl) ?_
    refine g_pu rfl rfl rfl (pu_assign rfl rfl) ?_
    refine g_nil ?_
    (repeat refine g_seq ?_)
    refine g_region ?_
    refine g_pu rfl rfl rfl (pu_move rfl rfl) ?_
    refine g_pu rfl rfl rfl (pu_conv32_64 rfl rfl) ?_
    refine g_call [33] rfl rfl rfl rfl rfl rfl (fun w' hm => Put_b w' 2 4 ((st.getD i 0#32).setWidth 64)) (fun x33 _ => ?_)
    rw [hl4, hp4.1]
    refine g_pu rfl rfl rfl (pu_move rfl rfl) ?_
    refine g_pu rfl rfl rfl (pu_extract rfl rfl rfl) ?_
    refine g_pu rfl rfl rfl (pu_extract rfl rfl rfl) ?_
    refine g_pu rfl rfl rfl (pu_assign rfl rfl) ?_
    refine g_pu rfl rfl rfl (pu_assign rfl rfl) ?_
    refine g_nil ?_
    (repeat refine g_seq ?_)
    refine g_region ?_
    refine g_pu rfl rfl rfl (pu_move rfl rfl) ?_
    refine g_pu rfl rfl rfl (pu_mulI rfl rfl rfl (by omega)) ?_
    refine g_pu rfl rfl rfl (pu_sliceA_l (4 * i) rfl rfl rfl (by omega) (by omega)) ?_
    rw [cutp_some b4 0 32 (4 * i) (by omega)]
    refine g_pu rfl rfl rfl (pu_move rfl rfl) ?_
    refine g_copyF 4 (bs (putL 2 4 ((st.getD i 0#32).setWidth 64))) rfl rfl rfl rfl rfl rfl rfl (fun w' hm => Ow.rd (t := 33) rfl hm) (by rw [bs_length, hl4]) (by rw [bs_length, fillW_length, hsl]; omega) (oneCell_bs _) ?_
    refine g_nil ?_
    have hrow : (bs (fillW 0#8 (sumB st) (4 * i))).take (0 + 4 * i) ++ (bs (putL 2 4 ((st.getD i 0#32).setWidth 64))).take (Nat.min 4 (32 - 4 * i)) ++ (bs (fillW 0#8 (sumB st) (4 * i))).drop (0 + 4 * i + Nat.min 4 (32 - 4 * i)) = bs (fillW 0#8 (sumB st) (4 * (i + 1))) := by
      rw [show Nat.min 4 (32 - 4 * i) = 4 from Nat.min_eq_left (by omega), Nat.zero_add, bs_take, bs_take, bs_drop, ← bs_append, ← bs_append, List.take_of_length_le (l := putL 2 4 _) (by omega), fillW_put hseg (by omega)]
      rfl
    rw [hrow]
    refine g_blk ?_
    (repeat refine g_seq ?_)
    refine g_region ?_
    refine g_pu rfl rfl rfl (pu_addI rfl rfl rfl (by omega)) ?_
    refine g_pu rfl rfl rfl (pu_move rfl rfl) ?_
    refine g_nil ?_
    exact g_round (i + 1) (by omega) (by omega) ⟨rfl, rfl, rfl, rfl, trivial⟩ ⟨rfl, rfl, trivial⟩
  · (repeat refine g_seq ?_)
    refine g_region ?_
    first | refine g_pu rfl rfl rfl (pu_lss_t rfl rfl rfl (by omega)) ?_ | refine g_pu rfl rfl rfl (pu_lss_f rfl rfl rfl (by omega)) ?_ | refine g_pu rfl rfl rfl (pu_lss rfl rfl rfl) ?_
    refine g_nil ?_
    (repeat refine g_seq ?_)
    refine g_cond_f rfl (g_exit rfl ?_)
    have e : i = 8 := by omega
    subst e
    have hf : fillW 0#8 (sumB st) (4 * 8) = sumB st := by have := fillW_end 0#8 (sumB st); rwa [hsl] at this
    rw [hf]
    (repeat refine g_seq ?_)
    refine g_region ?_
    refine g_pu rfl rfl rfl (pu_loadW 4 (L := bs (sumB st)) rfl rfl rfl (by rw [bs_length, hsl])) ?_
    refine g_storeL 2 (C := bs (sumB st)) rfl rfl rfl rfl rfl rfl (by rw [bs_length, hsl]) (by simp [bs]) (oneCell_bs _) ?_
    refine g_nil ?_
    exact g_retL 2 (L := bs (sumB st)) rfl (by rw [bs_length, hsl]) rfl rfl (fun w' hm => ⟨(), trivial, rfl, hm.grows [] trivial rfl⟩)

theorem ShaSum_g (w : World) {q : Option Addr} {m : Nat} (d : Nat) {LL : List Value} {ls : List (List (BitVec 8))} (ha : ByL w q m LL ls) (hsm : ∀ l ∈ ls, l.length ≤ 140737488355200) (hbig : ls.flatten.length ≤ 36028797018963968) :
    Spec Try.prog 42 #[.slice q m d] w (σ := Unit) (fun _ => True) (fun _ => .agg (bs (shaL ls.flatten)).toArray) Nob (fun _ => []) := by
  refine enter Try.func42 rfl rfl (Mem.start w) ?_
  have hsl := shaL_length ls.flatten
  (repeat refine g_seq ?_)
  refine g_region ?_
  refine g_lo [2] rfl rfl rfl rfl (lo_alloc rfl) (fun b2 hb2 => ?_)
  refine g_nil ?_
  (repeat refine g_seq ?_)
  refine g_region ?_
  refine g_pu rfl rfl rfl (pu_move rfl rfl) ?_
  refine g_call [4, 104] rfl rfl rfl rfl rfl rfl (fun w' hm => ShaNew_g w' d (ha.m hm) hsm (by omega)) (fun x4 _ => ?_)
  refine g_call [] rfl rfl rfl rfl rfl rfl (fun w' hm => HashSum_b w' x4.1 x4.2 (hm.holds 4 _ rfl) (OwnO.rd (hm.holds 104 _ rfl)) hbig) (fun _ _ => ?_)
  refine g_storeL 2 (C := bs (shaL ls.flatten)) rfl rfl rfl rfl rfl rfl (by rw [bs_length, hsl]) (by simp) (oneCell_bs _) ?_
  refine g_nil ?_
  exact g_retL 2 (L := bs (shaL ls.flatten)) rfl (by rw [bs_length, hsl]) rfl rfl (fun w' hm => ⟨(), trivial, rfl, hm.grows [] trivial rfl⟩)
theorem ShaSum_b (w : World) {q : Option Addr} {m : Nat} (d : Nat) {LL : List Value} {ls : List (List (BitVec 8))} (ha : ByL w q m LL ls) (hbig : ls.flatten.length ≤ 549755813888) :
    Spec Try.prog 42 #[.slice q m d] w (σ := Unit) (fun _ => True) (fun _ => .agg (bs (shaL ls.flatten)).toArray) Nob (fun _ => []) :=
  ShaSum_g w d ha (fun l hl => by have := mem_flat hl; omega) (by omega)

theorem RSum_b (w : World) {q : Option Addr} {m : Nat} (d : Nat) {L : List (BitVec 8)} (ha : By w q m L) (hbig : m ≤ 140737488355200) :
    Spec Try.prog 38 #[.slice q m d] w (σ := Unit) (fun _ => True) (fun _ => .agg (bs (shaL L)).toArray) Nob (fun _ => []) := by
  refine enter Try.func38 rfl rfl (Mem.start w) ?_
  have hn := ha.len
  have hpl := padB_length m
  have hno := noughts_lt m
  have hsl := shaL_length L
  have hmod := shaW_mod L
  have hwl := shaW_length L
  have hal : ∀ T k, (absN s0T T k).length = 8 := fun T k => absN_length s0T_length T k
  (repeat refine g_seq ?_)
  refine g_region ?_
  refine g_lo [2] rfl rfl rfl rfl (lo_alloc rfl) (fun b2 hb2 => ?_)
  refine g_nil ?_
  (repeat refine g_seq ?_)
  refine g_region ?_
  refine g_pu rfl rfl rfl (pu_move rfl rfl) ?_
  refine g_call [9] rfl rfl rfl rfl rfl rfl (fun w' hm => Copy_b w' d (ha.m hm)) (fun x9 _ => ?_)
  refine g_pu rfl rfl rfl (pu_move rfl rfl) ?_
  first | refine g_pu rfl rfl rfl (pu_len rfl rfl) ?_ | refine g_pu rfl rfl rfl (pu_lenS rfl rfl) ?_
  refine g_call [12] rfl rfl rfl rfl rfl rfl (fun w' hm => padding_b w' m (by omega)) (fun x12 _ => ?_)
  refine g_append1 9 (bs (padB m)) rfl rfl rfl rfl rfl rfl rfl rfl (by rw [bs_length, hn]) (fun w' hm => Ow.rd (t := 12) rfl hm) (by rw [bs_length]) (oneCell_bs _) (by omega) (by omega) (fun p' c' => ?_)
  refine g_pu rfl rfl rfl (pu_assign rfl rfl) ?_
  refine g_nil ?_
  have hT : bs L ++ bs (padB m) = bs (shaW L) := by rw [← bs_append, ← hn]; rfl
  rw [hT, hpl]
  have hTl : m + (noughts m + 9) = (shaW L).length := by rw [hwl, hn]; omega
  rw [hTl]
  rw [hn] at hwl
  refine g_know (φ := (shaW L).length ≤ c') (fun w' hm => by have := Own.le (hm.holds 9 _ rfl); rwa [bs_length] at this) (fun hxc => ?_)
  (repeat refine g_seq ?_)
  refine g_region ?_
  refine g_call [] rfl rfl rfl rfl rfl rfl (fun w' hm => First_b w') (fun _ _ => ?_)
  refine g_lo [4] rfl rfl rfl rfl (lo_alloc rfl) (fun b4 hb4 => ?_)
  refine g_storeL 4 (C := ws s0T) rfl rfl rfl rfl rfl rfl rfl rfl (oneCell_ws _) ?_
  refine g_nil ?_
  (repeat refine g_seq ?_)
  refine g_region ?_
  refine g_pu rfl rfl rfl (pu_assign rfl rfl) ?_
  refine g_nil ?_
  unfold shaL at hsl ⊢
  generalize hTT : shaW L = T at hmod hwl hxc hsl
  (repeat refine g_seq ?_)
  refine g_block (g_loop (σ := Nat) (fun k => [(2, .pointer (some ⟨b2, 0, none⟩)), (3, .slice p' T.length c'), (4, .pointer (some ⟨b4, 0, none⟩)), (5, .int .i64 ((64 * k : Nat) : Int))]) (fun k => [(2, .pt b2 (.cells (bs (List.replicate 32 0#8)).toArray 34 (0, 0))), (4, .pt b4 (.cells (ws (absN s0T T k)).toArray 44 (0, 0))), (9, .fact (At p') (Own 5 1 p' c' (bs T)))]) (fun k => 64 * k ≤ T.length) (fun k => T.length - 64 * k) 0 ⟨rfl, rfl, rfl, rfl, trivial⟩ ⟨rfl, rfl, rfl, trivial⟩ (by omega) ?_)
  intro k hk
  have hdl : (T.drop (64 * k)).length = T.length - 64 * k := by rw [List.length_drop]
  by_cases hlt : 64 * k < T.length
  · (repeat refine g_seq ?_)
    refine g_region ?_
    refine g_pu rfl rfl rfl (pu_move rfl rfl) ?_
    refine g_pu rfl rfl rfl (pu_move rfl rfl) ?_
    first | refine g_pu rfl rfl rfl (pu_len rfl rfl) ?_ | refine g_pu rfl rfl rfl (pu_lenS rfl rfl) ?_
    first | refine g_pu rfl rfl rfl (pu_lss_t rfl rfl rfl (by omega)) ?_ | refine g_pu rfl rfl rfl (pu_lss_f rfl rfl rfl (by omega)) ?_ | refine g_pu rfl rfl rfl (pu_lss rfl rfl rfl) ?_
    refine g_nil ?_
    (repeat refine g_seq ?_)
    refine g_cond_t rfl (g_skip ?_)
    (repeat refine g_seq ?_); refine g_block ?_
    (repeat refine g_seq ?_)
    refine g_any (6, []) ?_
    refine a_pu 0 rfl rfl rfl rfl (pu_loadW 4 (L := ws (absN s0T T k)) rfl rfl rfl (by rw [ws_length, hal])) rfl rfl (by kernel_rfl) ?_
    refine a_pu 1 rfl rfl rfl rfl (pu_move rfl rfl) rfl rfl (by kernel_rfl) ?_
    refine a_pu 2 rfl rfl rfl rfl (pu_move rfl rfl) rfl rfl (by kernel_rfl) ?_
    refine a_pu 3 rfl rfl rfl rfl (pu_move rfl rfl) rfl rfl (by kernel_rfl) ?_
    refine a_pu 4 rfl rfl rfl rfl (pu_addI rfl rfl rfl (by omega)) rfl rfl (by kernel_rfl) ?_
    refine a_pu 5 rfl rfl rfl rfl (pu_slice_lh (64 * k) (64 * k + 64) rfl rfl rfl rfl rfl (by omega) (by omega) (by omega)) rfl rfl (by kernel_rfl) ?_
    rw [show 64 * k + 64 - 64 * k = 64 by omega]
    refine a_tail [6, 7] (by kernel_rfl) rfl rfl (by kernel_rfl) ?_
    refine g_call [] rfl rfl rfl rfl rfl rfl (fun w' hm => RCompress_b w' _ (s := absN s0T T k) (l := (T.drop (64 * k)).take 64) ⟨by have h1 : RdV w' p' (bs T) := Own.rd (hm.holds 9 _ rfl); have h2 := (h1.cut (l := 64 * k) (c := c') (by rw [bs_length]; exact hxc)).fst (n := 64); rwa [bs_drop, bs_take] at h2, by rw [List.length_take, hdl]; omega, by omega⟩ (hal T k)) (fun _ _ => ?_)
    refine g_storeL 4 (C := ws (absN s0T T (k + 1))) rfl rfl rfl rfl rfl rfl (by rw [ws_length, hal]) (by rw [ws_length, hal]) (oneCell_ws _) ?_
    refine g_nil ?_
    refine g_blk ?_
    (repeat refine g_seq ?_)
    refine g_region ?_
    refine g_pu rfl rfl rfl (pu_move rfl rfl) ?_
    refine g_pu rfl rfl rfl (pu_addI rfl rfl rfl (by omega)) ?_
    refine g_pu rfl rfl rfl (pu_assign rfl rfl) ?_
    refine g_nil ?_
    exact g_round (k + 1) (by omega) (by omega) ⟨rfl, rfl, rfl, congrArg (fun z => some (Value.int .i64 z)) (by omega), trivial⟩ ⟨rfl, rfl, rfl, trivial⟩
  · (repeat refine g_seq ?_)
    refine g_region ?_
    refine g_pu rfl rfl rfl (pu_move rfl rfl) ?_
    refine g_pu rfl rfl rfl (pu_move rfl rfl) ?_
    first | refine g_pu rfl rfl rfl (pu_len rfl rfl) ?_ | refine g_pu rfl rfl rfl (pu_lenS rfl rfl) ?_
    first | refine g_pu rfl rfl rfl (pu_lss_t rfl rfl rfl (by omega)) ?_ | refine g_pu rfl rfl rfl (pu_lss_f rfl rfl rfl (by omega)) ?_ | refine g_pu rfl rfl rfl (pu_lss rfl rfl rfl) ?_
    refine g_nil ?_
    (repeat refine g_seq ?_)
    refine g_cond_f rfl (g_exit rfl ?_)
    have hst := hal T (T.length / 64)
    have e1 : k = T.length / 64 := by omega
    rw [← e1] at hst hsl ⊢
    generalize absN s0T T k = st at hst hsl
    (repeat refine g_seq ?_)
    refine g_region ?_
    refine g_lo [6] rfl rfl rfl rfl (lo_alloc rfl) (fun b6 hb6 => ?_)
    refine g_nil ?_
    (repeat refine g_seq ?_)
    refine g_region ?_
    refine g_pu rfl rfl rfl (pu_assign rfl rfl) ?_
    refine g_nil ?_
    (repeat refine g_seq ?_)
    refine g_block (g_loop (σ := Nat) (fun i => [(2, .pointer (some ⟨b2, 0, none⟩)), (4, .pointer (some ⟨b4, 0, none⟩)), (6, .pointer (some ⟨b6, 0, none⟩)), (7, .int .i64 (i : Int))]) (fun i => [(2, .pt b2 (.cells (bs (List.replicate 32 0#8)).toArray 34 (0, 0))), (4, .pt b4 (.cells (ws st).toArray 44 (0, 0))), (6, .pt b6 (.cells (bs (fillW 0#8 (sumB st) i)).toArray 34 (0, 0)))]) (fun i => i ≤ 32) (fun i => 32 - i) 0 ⟨rfl, rfl, rfl, rfl, trivial⟩ ⟨rfl, rfl, by rw [show fillW 0#8 (sumB st) 0 = List.replicate 32 0#8 by simp [fillW, hsl]]; rfl, trivial⟩ (by omega) ?_)
    intro i hi
    by_cases hlt : i < 32
    · (repeat refine g_seq ?_)
      refine g_region ?_
      refine g_pu rfl rfl rfl (pu_move rfl rfl) ?_
      first | refine g_pu rfl rfl rfl (pu_lss_t rfl rfl rfl (by omega)) ?_ | refine g_pu rfl rfl rfl (pu_lss_f rfl rfl rfl (by omega)) ?_ | refine g_pu rfl rfl rfl (pu_lss rfl rfl rfl) ?_
      refine g_nil ?_
      (repeat refine g_seq ?_)
      refine g_cond_t rfl (g_skip ?_)
      have hg : st[i / 4]? = some (st.getD (i / 4) 0#32) := getD_some (by omega)
      have hsg := sumB_get (st := st) hlt
      (repeat refine g_seq ?_); refine g_block ?_
      (repeat refine g_seq ?_)
      refine g_region ?_
      refine g_pu rfl rfl rfl (pu_move rfl rfl) ?_
      refine g_pu rfl rfl rfl (pu_move rfl rfl) ?_
      refine g_pu rfl rfl rfl (pu_quoI rfl rfl rfl (by omega)) ?_
      refine g_pu rfl rfl rfl (pu_atA1 (i / 4) rfl rfl rfl (by omega) (by omega)) ?_
      refine g_pu rfl rfl rfl (pu_load 4 rfl rfl rfl (ws_load hg)) ?_
      refine g_pu rfl rfl rfl (pu_move rfl rfl) ?_
      refine g_pu rfl rfl rfl (pu_remI rfl rfl rfl (by omega)) ?_
      refine g_pu rfl rfl rfl (pu_mulI rfl rfl rfl (by omega)) ?_
      refine g_pu rfl rfl rfl (pu_subI rfl rfl rfl (by omega)) ?_
      refine g_pu rfl rfl rfl (pu_shr32 rfl rfl rfl (by omega)) ?_
      refine g_pu rfl rfl rfl (pu_conv32_8 rfl rfl) ?_
      refine g_pu rfl rfl rfl (pu_atA1 i rfl rfl rfl rfl (by omega)) ?_
      refine g_store 6 (v := b8 (((st.getD (i / 4) 0#32) >>> (24 - 8 * (i % 4))).setWidth 8)) rfl rfl rfl rfl (by rw [show ((24 : Int) - 8 * ((i : Int) % 4)).toNat = 24 - 8 * (i % 4) by omega]; rfl) rfl rfl (by rw [bs_length, fillW_length, hsl]; omega) ?_
      rw [bs_setW, fillW_set hsg]
      refine g_nil ?_
      refine g_blk ?_
      (repeat refine g_seq ?_)
      refine g_region ?_
      refine g_pu rfl rfl rfl (pu_move rfl rfl) ?_
      refine g_pu rfl rfl rfl (pu_addI rfl rfl rfl (by omega)) ?_
      refine g_pu rfl rfl rfl (pu_assign rfl rfl) ?_
      refine g_nil ?_
      exact g_round (i + 1) (by omega) (by omega) ⟨rfl, rfl, rfl, rfl, trivial⟩ ⟨rfl, rfl, rfl, trivial⟩
    · (repeat refine g_seq ?_)
      refine g_region ?_
      refine g_pu rfl rfl rfl (pu_move rfl rfl) ?_
      first | refine g_pu rfl rfl rfl (pu_lss_t rfl rfl rfl (by omega)) ?_ | refine g_pu rfl rfl rfl (pu_lss_f rfl rfl rfl (by omega)) ?_ | refine g_pu rfl rfl rfl (pu_lss rfl rfl rfl) ?_
      refine g_nil ?_
      (repeat refine g_seq ?_)
      refine g_cond_f rfl (g_exit rfl ?_)
      have e : i = 32 := by omega
      subst e
      have hf : fillW 0#8 (sumB st) 32 = sumB st := by have := fillW_end 0#8 (sumB st); rwa [hsl] at this
      rw [hf]
      (repeat refine g_seq ?_)
      refine g_region ?_
      refine g_pu rfl rfl rfl (pu_loadW 6 (L := bs (sumB st)) rfl rfl rfl (by rw [bs_length, hsl])) ?_
      refine g_storeL 2 (C := bs (sumB st)) rfl rfl rfl rfl rfl rfl (by rw [bs_length, hsl]) (by simp [bs]) (oneCell_bs _) ?_
      refine g_nil ?_
      exact g_retL 2 (L := bs (sumB st)) rfl (by rw [bs_length, hsl]) rfl rfl (fun w' hm => ⟨(), trivial, rfl, hm.grows [] trivial rfl⟩)
end Go.Sx

/-
  ShaLabels: a labelled hash is a hash that begins with its label, and writes and sums as the hash inside it does. Condition: at most 2^38 bytes together.
-/
import Derived.Test.YtieafkfdkhpffaaShaFlows
import Derived.Test.YtieafkfdkhpffaaSxStr
set_option linter.unusedVariables false
set_option linter.unusedSimpArgs false
namespace Go.Sx
open Go Go.Proofs

def lab (s : ByteArray) : List (BitVec 8) := BitVec.ofInt 8 (s.size : Int) :: bytesOf s
theorem lab_length (s : ByteArray) : (lab s).length = s.size + 1 := by simp [lab, bytesOf_length]

theorem Label_b (w : World) (s : ByteArray) (hs : s.size ≤ 255) :
    Spec Try.prog 34 #[Value.string s] w (σ := Nat × Ow) (fun _ => True) (fun y => .tuple #[.pointer (some ⟨y.1, 0, none⟩), .int .i64 0]) Nob (fun y => [.pt y.1 (.cells (hashC (lab s) y.2 ++ [Value.string s]).toArray 67 (0, 0)), y.2.ckO 5 (bs (restL (lab s)))]) := by
  refine enter Try.func34 rfl rfl (Mem.start w) ?_
  have hbl := bytesOf_length s
  (repeat refine g_seq ?_)
  refine g_region ?_
  refine g_pu rfl rfl rfl (pu_assign rfl rfl) ?_
  refine g_pu rfl rfl rfl (pu_assign rfl rfl) ?_
  refine g_nil ?_
  (repeat refine g_seq ?_)
  refine g_region ?_
  refine g_pu rfl rfl rfl (pu_move rfl rfl) ?_
  first | refine g_pu rfl rfl rfl (pu_len rfl rfl) ?_ | refine g_pu rfl rfl rfl (pu_lenS rfl rfl) ?_
  first | refine g_pu rfl rfl rfl (pu_gtr_t rfl rfl rfl (by omega)) ?_ | refine g_pu rfl rfl rfl (pu_gtr_f rfl rfl rfl (by omega)) ?_ | refine g_pu rfl rfl rfl (pu_gtr rfl rfl rfl) ?_
  refine g_nil ?_
  (repeat refine g_seq ?_)
  refine g_cond_f rfl (g_skip ?_)
  (repeat refine g_seq ?_)
  refine g_region ?_
  refine g_pu rfl rfl rfl (pu_move rfl rfl) ?_
  refine g_pu rfl rfl rfl (pu_buildS (cs := hashC [] ⟨none, 0⟩ ++ [Value.string s]) rfl rfl rfl) ?_
  refine g_lo [10] rfl rfl rfl rfl (lo_box rfl rfl) (fun b10 hb10 => ?_)
  refine g_pu rfl rfl rfl (pu_assign rfl rfl) ?_
  refine g_nil ?_
  refine g_nilO 110 5 rfl ?_
  (repeat refine g_seq ?_)
  refine g_region ?_
  refine g_pu rfl rfl rfl (pu_move rfl rfl) ?_
  refine g_pu rfl rfl rfl (pu_nil rfl rfl) ?_
  refine g_pu rfl rfl rfl (pu_fieldAddr (by decide) rfl rfl) ?_
  refine g_pu rfl rfl rfl (pu_move rfl rfl) ?_
  first | refine g_pu rfl rfl rfl (pu_len rfl rfl) ?_ | refine g_pu rfl rfl rfl (pu_lenS rfl rfl) ?_
  refine g_pu rfl rfl rfl (pu_convI_8 rfl rfl) ?_
  refine g_lo [17] rfl rfl rfl rfl (lo_buildSlice rfl rfl (by decide) (by decide) rfl rfl) (fun b17 hb17 => ?_)
  refine g_pu rfl rfl rfl (pu_move rfl rfl) ?_
  refine g_lo [19] rfl rfl rfl rfl (lo_bytesOf rfl rfl (by omega)) (fun x19 hx19 => ?_)
  refine g_lo [20] rfl rfl rfl rfl (lo_buildSlice rfl rfl (by decide) (by decide) rfl rfl) (fun b20 hb20 => ?_)
  refine g_callW [10, 110] [10, 110] rfl rfl rfl rfl rfl rfl (fun j hj => hj.elim (fun h => ⟨10, by simp, _, rfl, h⟩) (fun h => absurd h At.none)) (fun w' hm => Write_b w' b10 (L := []) (J := [Value.string s]) ⟨none, 0⟩ 2 (LL := [.slice (some ⟨b17, 0, none⟩) 1 1, .slice (some ⟨x19.1, 0, none⟩) s.size x19.2]) (ls := [[BitVec.ofInt 8 (s.size : Int)], bytesOf s]) (hm.holds 10 _ rfl) (hm.holds 110 _ rfl) (fun j hj => absurd hj At.none) (fun j hj => absurd hj At.none) (hm.rowA 20 rfl) rfl (All2.cons (IsB.full 17 rfl hm rfl (by omega)) (All2.cons ⟨_, _, _, rfl, By.row 19 rfl hm hbl (by omega), fun _ _ => trivial⟩ All2.nil)) (fun _ b o e hb => by cases e; exact hb.elim (fun h1 => hm.apart 20 _ 10 _ rfl rfl (by decide) _ rfl h1) (fun h1 => At.none h1)) (fun q m c hv _ j hj hb => (List.mem_cons.1 hv).elim (fun h0 => by cases h0; exact hb.elim (fun h1 => hm.apart 17 _ 10 _ rfl rfl (by decide) j (At.some.1 hj) h1) (fun h1 => At.none h1)) (fun h0 => by cases List.mem_singleton.1 h0; exact hb.elim (fun h1 => hm.apart 19 _ 10 _ rfl rfl (by decide) j (At.some.1 hj) h1) (fun h1 => At.none h1))) (by omega) (by rw [flat2, List.length_append, hbl]; simp only [List.length_cons, List.length_nil]; omega)) (fun y' _ => ?_)
  rw [flat2, List.nil_append]
  refine g_nil ?_
  (repeat refine g_seq ?_)
  refine g_region ?_
  refine g_pu rfl rfl rfl (pu_move rfl rfl) ?_
  refine g_pu rfl rfl rfl (pu_assign rfl rfl) ?_
  refine g_pu rfl rfl rfl (pu_assign rfl rfl) ?_
  refine g_nil ?_
  exact g_ret2 rfl rfl rfl (fun w' hm => ⟨(b10, y'), trivial, rfl, hm.grows [10, 110] ⟨rfl, rfl, trivial⟩ rfl⟩)
theorem Label_e (w : World) (s : ByteArray) (hs : ¬ s.size ≤ 255) :
    Spec Try.prog 34 #[Value.string s] w (σ := Unit) (fun _ => True) (fun _ => .tuple #[.pointer none, .int .i64 2]) Nob (fun _ => []) := by
  refine enter Try.func34 rfl rfl (Mem.start w) ?_
  (repeat refine g_seq ?_)
  refine g_region ?_
  refine g_pu rfl rfl rfl (pu_assign rfl rfl) ?_
  refine g_pu rfl rfl rfl (pu_assign rfl rfl) ?_
  refine g_nil ?_
  (repeat refine g_seq ?_)
  refine g_region ?_
  refine g_pu rfl rfl rfl (pu_move rfl rfl) ?_
  first | refine g_pu rfl rfl rfl (pu_len rfl rfl) ?_ | refine g_pu rfl rfl rfl (pu_lenS rfl rfl) ?_
  first | refine g_pu rfl rfl rfl (pu_gtr_t rfl rfl rfl (by omega)) ?_ | refine g_pu rfl rfl rfl (pu_gtr_f rfl rfl rfl (by omega)) ?_ | refine g_pu rfl rfl rfl (pu_gtr rfl rfl rfl) ?_
  refine g_nil ?_
  (repeat refine g_seq ?_)
  refine g_cond_t rfl ?_
  (repeat refine g_seq ?_)
  refine g_region ?_
  refine g_pu rfl rfl rfl (pu_assign rfl rfl) ?_
  refine g_pu rfl rfl rfl (pu_assign rfl rfl) ?_
  refine g_nil ?_
  exact g_ret2 rfl rfl rfl (fun w' hm => ⟨(), trivial, rfl, hm.grows [] trivial rfl⟩)

theorem LName_b (w : World) (bb : Nat) {E : TypeId} {L : List (BitVec 8)} (x : Ow) (s : ByteArray) (h : w.heap[bb]? = some (.cells (hashC L x ++ [Value.string s]).toArray E (0, 0))) :
    Spec Try.prog 35 #[.pointer (some ⟨bb, 0, none⟩)] w (σ := Unit) (fun _ => True) (fun _ => .string s) Nob (fun _ => []) := by
  refine enter Try.func35 rfl rfl (Mem.start w) ?_
  have hr : RdV w (some ⟨bb, 0, none⟩) (hashC L x ++ [Value.string s]) := RdV.row (J := []) (by rw [List.append_nil]; exact h)
  have h10 : (hashC L x ++ [Value.string s])[10]? = some (.string s) := by
    rw [List.getElem?_append_right (by show (flowC _ _ _ _ _).length ≤ 10; rw [flowC_length (flowS_length L)]; omega)]
    rw [show 10 - (hashC L x).length = 0 by show 10 - (flowC _ _ _ _ _).length = 0; rw [flowC_length (flowS_length L)]]
    rfl
  (repeat refine g_seq ?_)
  refine g_region ?_
  refine g_pu rfl rfl rfl (pu_assign rfl rfl) ?_
  refine g_nil ?_
  (repeat refine g_seq ?_)
  refine g_region ?_
  refine g_pu rfl rfl rfl (pu_move rfl rfl) ?_
  refine g_pu rfl rfl rfl (pu_nil rfl rfl) ?_
  refine g_pu rfl rfl rfl (pu_fieldAddr (by decide) rfl rfl) ?_
  refine g_pu rfl rfl rfl (pu_rdM (j := 10) (fun w' hm => hr.mem0 hm) rfl rfl h10) ?_
  refine g_pu rfl rfl rfl (pu_assign rfl rfl) ?_
  refine g_nil ?_
  exact g_ret1 rfl rfl (fun w' hm => ⟨(), trivial, rfl, hm.grows [] trivial rfl⟩)

theorem ShaLabels_spec (w : World) (s : ByteArray) {p : Option Addr} {n : Nat} (c : Nat) {L : List Value} {ls : List (List (BitVec 8))} (ha : ByL w p n L ls) (hlen : ls.flatten.length ≤ 137438953472) :
    Spec Try.prog 9 #[.string s, .slice p n c] w (σ := Unit) (fun _ => True) (fun _ => .bool true) Nob (fun _ => []) := by
  refine enter Try.func9 rfl rfl (Mem.start w) ?_
  have hbig := ha.big
  (repeat refine g_seq ?_)
  refine g_region ?_
  refine g_pu rfl rfl rfl (pu_assign rfl rfl) ?_
  refine g_nil ?_
  (repeat refine g_seq ?_)
  refine g_region ?_
  refine g_call [10, 110] rfl rfl rfl rfl rfl rfl (fun w' hm => Label_b w' _ (by decide)) (fun x10 _ => ?_)
  refine g_pu rfl rfl rfl (pu_move rfl rfl) ?_
  refine g_pu rfl rfl rfl (pu_extract rfl rfl rfl) ?_
  refine g_pu rfl rfl rfl (pu_extract rfl rfl rfl) ?_
  refine g_pu rfl rfl rfl (pu_assign rfl rfl) ?_
  refine g_pu rfl rfl rfl (pu_assign rfl rfl) ?_
  refine g_nil ?_
  (repeat refine g_seq ?_)
  refine g_region ?_
  refine g_pu rfl rfl rfl (pu_move rfl rfl) ?_
  first | refine g_pu rfl rfl rfl (pu_neq_t rfl rfl rfl (by omega)) ?_ | refine g_pu rfl rfl rfl (pu_neq_f rfl rfl rfl (by omega)) ?_ | refine g_pu rfl rfl rfl (pu_neq rfl rfl rfl) ?_
  refine g_pu rfl rfl rfl (pu_move rfl rfl) ?_
  first | refine g_pass rfl rfl rfl ?_ | refine g_pu rfl rfl rfl (pu_move rfl rfl) ?_
  refine g_pu rfl rfl rfl (pu_eqlP rfl rfl rfl) ?_
  first | refine g_pu rfl rfl rfl (pu_pick_t rfl rfl rfl) ?_ | refine g_pu rfl rfl rfl (pu_pick_f rfl rfl rfl) ?_
  refine g_pu rfl rfl rfl (pu_move rfl rfl) ?_
  first | refine g_pass rfl rfl rfl ?_ | refine g_pu rfl rfl rfl (pu_move rfl rfl) ?_
  first | refine g_pass rfl rfl rfl ?_ | refine g_pu rfl rfl rfl (pu_nil rfl rfl) ?_
  first | refine g_pass rfl rfl rfl ?_ | refine g_pu rfl rfl rfl (pu_fieldAddr (by decide) rfl rfl) ?_
  refine g_call [] rfl rfl rfl rfl rfl rfl (fun w' hm => ShaLen_b w' x10.1 (J := [Value.string _]) x10.2 (hm.holds 10 _ rfl)) (fun _ _ => ?_)
  refine g_pu rfl rfl rfl (pu_neq_f rfl rfl rfl (by rw [lab_length]; decide)) ?_
  first | refine g_pu rfl rfl rfl (pu_pick_t rfl rfl rfl) ?_ | refine g_pu rfl rfl rfl (pu_pick_f rfl rfl rfl) ?_
  refine g_pu rfl rfl rfl (pu_move rfl rfl) ?_
  first | refine g_pass rfl rfl rfl ?_ | refine g_pu rfl rfl rfl (pu_move rfl rfl) ?_
  refine g_call [] rfl rfl rfl rfl rfl rfl (fun w' hm => LName_b w' x10.1 x10.2 _ (hm.holds 10 _ rfl)) (fun _ _ => ?_)
  refine g_pu rfl rfl rfl (pu_neqS_f rfl rfl rfl rfl) ?_
  first | refine g_pu rfl rfl rfl (pu_pick_t rfl rfl rfl) ?_ | refine g_pu rfl rfl rfl (pu_pick_f rfl rfl rfl) ?_
  refine g_nil ?_
  (repeat refine g_seq ?_)
  refine g_cond_f rfl (g_skip ?_)
  by_cases hs : s.size ≤ 255
  · have hll := lab_length s
    (repeat refine g_seq ?_)
    refine g_region ?_
    refine g_pu rfl rfl rfl (pu_move rfl rfl) ?_
    refine g_call [33, 133] rfl rfl rfl rfl rfl rfl (fun w' hm => Label_b w' s hs) (fun x33 _ => ?_)
    refine g_pu rfl rfl rfl (pu_move rfl rfl) ?_
    refine g_pu rfl rfl rfl (pu_extract rfl rfl rfl) ?_
    refine g_pu rfl rfl rfl (pu_extract rfl rfl rfl) ?_
    refine g_pu rfl rfl rfl (pu_assign rfl rfl) ?_
    refine g_pu rfl rfl rfl (pu_assign rfl rfl) ?_
    refine g_nil ?_
    (repeat refine g_seq ?_)
    refine g_region ?_
    refine g_pu rfl rfl rfl (pu_move rfl rfl) ?_
    first | refine g_pu rfl rfl rfl (pu_len rfl rfl) ?_ | refine g_pu rfl rfl rfl (pu_lenS rfl rfl) ?_
    first | refine g_pu rfl rfl rfl (pu_gtr_t rfl rfl rfl (by omega)) ?_ | refine g_pu rfl rfl rfl (pu_gtr_f rfl rfl rfl (by omega)) ?_ | refine g_pu rfl rfl rfl (pu_gtr rfl rfl rfl) ?_
    refine g_nil ?_
    (repeat refine g_seq ?_)
    refine g_cond_f rfl (g_skip ?_)
    (repeat refine g_seq ?_)
    refine g_region ?_
    refine g_pu rfl rfl rfl (pu_move rfl rfl) ?_
    first | refine g_pu rfl rfl rfl (pu_neq_t rfl rfl rfl (by omega)) ?_ | refine g_pu rfl rfl rfl (pu_neq_f rfl rfl rfl (by omega)) ?_ | refine g_pu rfl rfl rfl (pu_neq rfl rfl rfl) ?_
    refine g_pu rfl rfl rfl (pu_move rfl rfl) ?_
    first | refine g_pass rfl rfl rfl ?_ | refine g_pu rfl rfl rfl (pu_move rfl rfl) ?_
    first | refine g_pass rfl rfl rfl ?_ | refine g_pu rfl rfl rfl (pu_eqlP rfl rfl rfl) ?_
    first | refine g_pu rfl rfl rfl (pu_pick_t rfl rfl rfl) ?_ | refine g_pu rfl rfl rfl (pu_pick_f rfl rfl rfl) ?_
    refine g_nil ?_
    (repeat refine g_seq ?_)
    refine g_cond_f rfl (g_skip ?_)
    (repeat refine g_seq ?_)
    refine g_any (4, [0, 1, 2]) ?_
    first | refine a_mv 0 rfl rfl rfl rfl (fun _ => (pu_move rfl rfl)) rfl rfl rfl (by kernel_rfl) (by kernel_rfl) (by kernel_rfl) rfl ?_
    first | refine a_mv 1 rfl rfl rfl rfl (fun _ => (pu_nil rfl rfl)) rfl rfl rfl (by kernel_rfl) (by kernel_rfl) (by kernel_rfl) rfl ?_
    first | refine a_mv 2 rfl rfl rfl rfl (fun _ => (pu_fieldAddr (by decide) rfl rfl)) rfl rfl rfl (by kernel_rfl) (by kernel_rfl) (by kernel_rfl) rfl ?_
    refine a_pu 3 rfl rfl rfl rfl (pu_move rfl rfl) rfl rfl (by kernel_rfl) ?_
    refine a_tail [4, 5] (by kernel_rfl) rfl rfl (by kernel_rfl) ?_
    refine g_call [55, 155] rfl rfl rfl rfl rfl rfl (fun w' hm => Copies_b w' c (ha.m hm)) (fun x55 h55 => ?_)
    refine g_callW [33, 133] [33, 133] rfl rfl rfl rfl rfl rfl (fun j hj => hj.elim (fun h => ⟨33, by simp, _, rfl, h⟩) (fun h => ⟨133, by simp, _, rfl, h⟩)) (fun w' hm => Write_b w' x33.1 (L := lab s) (J := [Value.string s]) x33.2 _ (LL := x55.L) (ls := ls) (hm.holds 33 _ rfl) (hm.holds 133 _ rfl) (fun j hj he => hm.apart 133 _ 33 _ rfl rfl (by decide) j hj he) (fun j hj => hm.below 133 _ rfl j hj) (Owl.by 55 155 rfl rfl hm h55.1 hbig).rd h55.1 (Owl.by 55 155 rfl rfl hm h55.1 hbig).els (fun _ b o e hb => by have hx : At x55.p b := (by rw [e]; exact At.some.2 rfl); exact hb.elim (fun h1 => hm.apart 55 _ 33 _ rfl rfl (by decide) b hx h1) (fun h1 => hm.apart 55 _ 133 _ rfl rfl (by decide) b hx h1)) (fun q m cc hv h0 j hj hb => by have hx : x55.S j := elsS (hm.holds 155 _ rfl) hv hj; exact hb.elim (fun h1 => hm.apart 155 _ 33 _ rfl rfl (by decide) j hx h1) (fun h1 => hm.apart 155 _ 133 _ rfl rfl (by decide) j hx h1)) (by omega) (by omega)) (fun y' _ => ?_)
    refine g_nil ?_
    (repeat refine g_seq ?_)
    refine g_region ?_
    refine g_pu rfl rfl rfl (pu_move rfl rfl) ?_
    first | refine g_pu rfl rfl rfl (pu_len rfl rfl) ?_ | refine g_pu rfl rfl rfl (pu_lenS rfl rfl) ?_
    refine g_pu rfl rfl rfl (pu_convI_8 rfl rfl) ?_
    refine g_lo [60] rfl rfl rfl rfl (lo_buildSlice rfl rfl (by decide) (by decide) rfl rfl) (fun b60 hb60 => ?_)
    refine g_pu rfl rfl rfl (pu_move rfl rfl) ?_
    refine g_own 60 (L := bs [BitVec.ofInt 8 (s.size : Int)]) (J := []) (c := 1) (s := 1) rfl (by simp [bs]) (by omega) ?_
    refine g_appendS 60 s rfl rfl rfl rfl rfl rfl rfl rfl (by omega) (fun p1 c1 => ?_)
    rw [← bs_append, show [BitVec.ofInt 8 (s.size : Int)] ++ bytesOf s = lab s from rfl]
    refine g_pu rfl rfl rfl (pu_assign rfl rfl) ?_
    refine g_nil ?_
    (repeat refine g_seq ?_)
    refine g_region ?_
    refine g_pu rfl rfl rfl (pu_move rfl rfl) ?_
    refine g_pu rfl rfl rfl (pu_move rfl rfl) ?_
    refine g_call [65] rfl rfl rfl rfl rfl rfl (fun w' hm => RJoin_b w' c (ha.m hm) (by omega)) (fun x65 _ => ?_)
    refine g_append1 60 (bs ls.flatten) rfl rfl rfl rfl rfl rfl rfl rfl (by rw [bs_length, hll]; omega) (fun w' hm => Ow.rd (t := 65) rfl hm) (by rw [bs_length]) (oneCell_bs _) (by omega) (by omega) (fun p2 c2 => ?_)
    rw [← bs_append]
    refine g_pu rfl rfl rfl (pu_assign rfl rfl) ?_
    refine g_nil ?_
    have hAl : (lab s ++ ls.flatten).length = 1 + s.size + ls.flatten.length := by rw [List.length_append, hll]; omega
    generalize lab s ++ ls.flatten = A at hAl
    (repeat refine g_seq ?_)
    refine g_region ?_
    refine g_pu rfl rfl rfl (pu_move rfl rfl) ?_
    refine g_lo [68] rfl rfl rfl rfl (lo_buildSlice rfl rfl (by decide) (by decide) rfl rfl) (fun b68 hb68 => ?_)
    refine g_call [69, 169] rfl rfl rfl rfl rfl rfl (fun w' hm => ShaNew_b w' _ (LL := [.slice p2 (1 + s.size + ls.flatten.length) c2]) (ls := [A]) ⟨hm.rowA 68 rfl, rfl, All2.cons ⟨_, _, _, rfl, By.own 60 rfl hm hAl (by omega), fun _ _ => trivial⟩ All2.nil, by omega⟩ (by rw [flat1]; omega)) (fun x69 _ => ?_)
    rw [flat1]
    refine g_pu rfl rfl rfl (pu_assign rfl rfl) ?_
    refine g_nil ?_
    (repeat refine g_seq ?_)
    refine g_any (44, []) ?_
    refine a_pu 0 rfl rfl rfl rfl (pu_move rfl rfl) rfl rfl (by kernel_rfl) ?_
    refine a_pu 1 rfl rfl rfl rfl (pu_nil rfl rfl) rfl rfl (by kernel_rfl) ?_
    refine a_pu 2 rfl rfl rfl rfl (pu_fieldAddr (by decide) rfl rfl) rfl rfl (by kernel_rfl) ?_
    refine a_pu 4 rfl rfl rfl rfl (pu_move rfl rfl) rfl rfl (by kernel_rfl) ?_
    refine a_do 3 73 [] (does_call rfl rfl rfl rfl rfl (fun w' hm => HashSum_b w' x33.1 (L := A) (J := [Value.string s]) y' (hm.holds 33 _ rfl) (OwnO.rd (hm.holds 133 _ rfl)) (by omega))) rfl rfl (by kernel_rfl) rfl rfl (by kernel_rfl) (by kernel_rfl) (by kernel_rfl) rfl (fun p hp => by cases hp) ?_; rintro v_ cs_ ⟨_, _, rfl, rfl⟩
    refine a_do 5 75 [] (does_call rfl rfl rfl rfl rfl (fun w' hm => RSum_b w' _ (L := A) (By.own 60 rfl hm hAl (by omega)) (by omega))) rfl rfl (by kernel_rfl) rfl rfl (by kernel_rfl) (by kernel_rfl) (by kernel_rfl) rfl (fun p hp => by cases hp) ?_; rintro v_ cs_ ⟨_, _, rfl, rfl⟩
    refine a_pu 6 rfl rfl rfl rfl (pu_eqlA_t rfl rfl rfl rfl (all_bs _) (by rw [bs_length, shaL_length])) rfl rfl (by kernel_rfl) ?_
    refine a_pu 7 rfl rfl rfl rfl (pu_move rfl rfl) rfl rfl (by kernel_rfl) ?_
    first | refine a_pass 8 rfl rfl rfl rfl rfl rfl (by kernel_rfl) ?_ | refine a_pu 8 rfl rfl rfl rfl (pu_move rfl rfl) rfl rfl (by kernel_rfl) ?_
    first | refine a_pass 9 rfl rfl rfl rfl rfl rfl (by kernel_rfl) ?_ | refine a_pu 9 rfl rfl rfl rfl (pu_nil rfl rfl) rfl rfl (by kernel_rfl) ?_
    first | refine a_pass 10 rfl rfl rfl rfl rfl rfl (by kernel_rfl) ?_ | refine a_pu 10 rfl rfl rfl rfl (pu_fieldAddr (by decide) rfl rfl) rfl rfl (by kernel_rfl) ?_
    first | refine a_pass 12 rfl rfl rfl rfl rfl rfl (by kernel_rfl) ?_ | refine a_pu 12 rfl rfl rfl rfl (pu_move rfl rfl) rfl rfl (by kernel_rfl) ?_
    first | refine a_pass 13 rfl rfl rfl rfl rfl rfl (by kernel_rfl) ?_ | refine a_pu 13 rfl rfl rfl rfl (pu_nil rfl rfl) rfl rfl (by kernel_rfl) ?_
    first | refine a_pass 14 rfl rfl rfl rfl rfl rfl (by kernel_rfl) ?_ | refine a_pu 14 rfl rfl rfl rfl (pu_fieldAddr (by decide) rfl rfl) rfl rfl (by kernel_rfl) ?_
    refine a_do 11 81 [] (does_call rfl rfl rfl rfl rfl (fun w' hm => HashSum_b w' x33.1 (L := A) (J := [Value.string s]) y' (hm.holds 33 _ rfl) (OwnO.rd (hm.holds 133 _ rfl)) (by omega))) rfl rfl (by kernel_rfl) rfl rfl (by kernel_rfl) (by kernel_rfl) (by kernel_rfl) rfl (fun p hp => by cases hp) ?_; rintro v_ cs_ ⟨_, _, rfl, rfl⟩
    refine a_do 15 85 [] (does_call rfl rfl rfl rfl rfl (fun w' hm => HashSum_b w' x33.1 (L := A) (J := [Value.string s]) y' (hm.holds 33 _ rfl) (OwnO.rd (hm.holds 133 _ rfl)) (by omega))) rfl rfl (by kernel_rfl) rfl rfl (by kernel_rfl) (by kernel_rfl) (by kernel_rfl) rfl (fun p hp => by cases hp) ?_; rintro v_ cs_ ⟨_, _, rfl, rfl⟩
    refine a_pu 16 rfl rfl rfl rfl (pu_eqlA_t rfl rfl rfl rfl (all_bs _) (by rw [bs_length, shaL_length])) rfl rfl (by kernel_rfl) ?_
    first | refine a_pu 17 rfl rfl rfl rfl (pu_pick_t rfl rfl rfl) rfl rfl (by kernel_rfl) ?_ | refine a_pu 17 rfl rfl rfl rfl (pu_pick_f rfl rfl rfl) rfl rfl (by kernel_rfl) ?_
    refine a_pu 18 rfl rfl rfl rfl (pu_move rfl rfl) rfl rfl (by kernel_rfl) ?_
    first | refine a_pass 19 rfl rfl rfl rfl rfl rfl (by kernel_rfl) ?_ | refine a_pu 19 rfl rfl rfl rfl (pu_move rfl rfl) rfl rfl (by kernel_rfl) ?_
    first | refine a_pass 20 rfl rfl rfl rfl rfl rfl (by kernel_rfl) ?_ | refine a_pu 20 rfl rfl rfl rfl (pu_nil rfl rfl) rfl rfl (by kernel_rfl) ?_
    first | refine a_pass 21 rfl rfl rfl rfl rfl rfl (by kernel_rfl) ?_ | refine a_pu 21 rfl rfl rfl rfl (pu_fieldAddr (by decide) rfl rfl) rfl rfl (by kernel_rfl) ?_
    first | refine a_pass 23 rfl rfl rfl rfl rfl rfl (by kernel_rfl) ?_ | refine a_pu 23 rfl rfl rfl rfl (pu_move rfl rfl) rfl rfl (by kernel_rfl) ?_
    first | refine a_pass 24 rfl rfl rfl rfl rfl rfl (by kernel_rfl) ?_ | refine a_pu 24 rfl rfl rfl rfl (pu_len rfl rfl) rfl rfl (by kernel_rfl) ?_ | refine a_pu 24 rfl rfl rfl rfl (pu_lenS rfl rfl) rfl rfl (by kernel_rfl) ?_
    refine a_do 22 92 [] (does_call rfl rfl rfl rfl rfl (fun w' hm => ShaLen_b w' x33.1 (L := A) (J := [Value.string s]) y' (hm.holds 33 _ rfl))) rfl rfl (by kernel_rfl) rfl rfl (by kernel_rfl) (by kernel_rfl) (by kernel_rfl) rfl (fun p hp => by cases hp) ?_; rintro v_ cs_ ⟨_, _, rfl, rfl⟩
    refine a_pu 25 rfl rfl rfl rfl (pu_eql_t rfl rfl rfl (by omega)) rfl rfl (by kernel_rfl) ?_
    first | refine a_pu 26 rfl rfl rfl rfl (pu_pick_t rfl rfl rfl) rfl rfl (by kernel_rfl) ?_ | refine a_pu 26 rfl rfl rfl rfl (pu_pick_f rfl rfl rfl) rfl rfl (by kernel_rfl) ?_
    refine a_pu 27 rfl rfl rfl rfl (pu_move rfl rfl) rfl rfl (by kernel_rfl) ?_
    first | refine a_pass 28 rfl rfl rfl rfl rfl rfl (by kernel_rfl) ?_ | refine a_pu 28 rfl rfl rfl rfl (pu_move rfl rfl) rfl rfl (by kernel_rfl) ?_
    first | refine a_pass 30 rfl rfl rfl rfl rfl rfl (by kernel_rfl) ?_ | refine a_pu 30 rfl rfl rfl rfl (pu_move rfl rfl) rfl rfl (by kernel_rfl) ?_
    refine a_do 29 99 [] (does_call rfl rfl rfl rfl rfl (fun w' hm => LName_b w' x33.1 (L := A) y' s (hm.holds 33 _ rfl))) rfl rfl (by kernel_rfl) rfl rfl (by kernel_rfl) (by kernel_rfl) (by kernel_rfl) rfl (fun p hp => by cases hp) ?_; rintro v_ cs_ ⟨_, _, rfl, rfl⟩
    refine a_pu 31 rfl rfl rfl rfl (pu_eqlS_t rfl rfl rfl rfl) rfl rfl (by kernel_rfl) ?_
    first | refine a_pu 32 rfl rfl rfl rfl (pu_pick_t rfl rfl rfl) rfl rfl (by kernel_rfl) ?_ | refine a_pu 32 rfl rfl rfl rfl (pu_pick_f rfl rfl rfl) rfl rfl (by kernel_rfl) ?_
    refine a_pu 33 rfl rfl rfl rfl (pu_move rfl rfl) rfl rfl (by kernel_rfl) ?_
    first | refine a_pass 34 rfl rfl rfl rfl rfl rfl (by kernel_rfl) ?_ | refine a_pu 34 rfl rfl rfl rfl (pu_move rfl rfl) rfl rfl (by kernel_rfl) ?_
    first | refine a_pass 35 rfl rfl rfl rfl rfl rfl (by kernel_rfl) ?_ | refine a_pu 35 rfl rfl rfl rfl (pu_nil rfl rfl) rfl rfl (by kernel_rfl) ?_
    first | refine a_pass 36 rfl rfl rfl rfl rfl rfl (by kernel_rfl) ?_ | refine a_pu 36 rfl rfl rfl rfl (pu_fieldAddr (by decide) rfl rfl) rfl rfl (by kernel_rfl) ?_
    first | refine a_pass 39 rfl rfl rfl rfl rfl rfl (by kernel_rfl) ?_ | refine a_pu 39 rfl rfl rfl rfl (pu_move rfl rfl) rfl rfl (by kernel_rfl) ?_
    refine a_do 37 107 [107, 207] (does_call rfl rfl rfl rfl rfl (fun w' hm => Twin_b w' x33.1 (L := A) (J := [Value.string s]) y' (hm.holds 33 _ rfl) (OwnO.rd (hm.holds 133 _ rfl)) (by omega))) rfl rfl (by kernel_rfl) rfl rfl (by kernel_rfl) (by kernel_rfl) (by kernel_rfl) rfl (fun p hp => by cases hp) ?_; rintro v_ cs_ ⟨x107, _, rfl, rfl⟩
    refine a_do 38 108 [] (does_call rfl rfl rfl rfl rfl (fun w' hm => HashSum_b w' x107.1 (L := A) (J := []) x107.2 (hm.holds 107 _ rfl) (OwnO.rd (hm.holds 207 _ rfl)) (by omega))) rfl rfl (by kernel_rfl) rfl rfl (by kernel_rfl) (by kernel_rfl) (by kernel_rfl) rfl (fun p hp => by cases hp) ?_; rintro v_ cs_ ⟨_, _, rfl, rfl⟩
    refine a_do 40 110 [] (does_call rfl rfl rfl rfl rfl (fun w' hm => HashSum_b w' x69.1 (L := A) (J := []) x69.2 (hm.holds 69 _ rfl) (OwnO.rd (hm.holds 169 _ rfl)) (by omega))) rfl rfl (by kernel_rfl) rfl rfl (by kernel_rfl) (by kernel_rfl) (by kernel_rfl) rfl (fun p hp => by cases hp) ?_; rintro v_ cs_ ⟨_, _, rfl, rfl⟩
    refine a_pu 41 rfl rfl rfl rfl (pu_eqlA_t rfl rfl rfl rfl (all_bs _) (by rw [bs_length, shaL_length])) rfl rfl (by kernel_rfl) ?_
    first | refine a_pu 42 rfl rfl rfl rfl (pu_pick_t rfl rfl rfl) rfl rfl (by kernel_rfl) ?_ | refine a_pu 42 rfl rfl rfl rfl (pu_pick_f rfl rfl rfl) rfl rfl (by kernel_rfl) ?_
    refine a_pu 43 rfl rfl rfl rfl (pu_assign rfl rfl) rfl rfl (by kernel_rfl) ?_
    refine a_done (by kernel_rfl) ?_
    exact g_ret1 rfl rfl (fun w' hm => ⟨(), trivial, rfl, hm.grows [] trivial rfl⟩)
  · (repeat refine g_seq ?_)
    refine g_region ?_
    refine g_pu rfl rfl rfl (pu_move rfl rfl) ?_
    refine g_call [] rfl rfl rfl rfl rfl rfl (fun w' hm => Label_e w' s hs) (fun _ _ => ?_)
    refine g_pu rfl rfl rfl (pu_move rfl rfl) ?_
    refine g_pu rfl rfl rfl (pu_extract rfl rfl rfl) ?_
    refine g_pu rfl rfl rfl (pu_extract rfl rfl rfl) ?_
    refine g_pu rfl rfl rfl (pu_assign rfl rfl) ?_
    refine g_pu rfl rfl rfl (pu_assign rfl rfl) ?_
    refine g_nil ?_
    (repeat refine g_seq ?_)
    refine g_region ?_
    refine g_pu rfl rfl rfl (pu_move rfl rfl) ?_
    first | refine g_pu rfl rfl rfl (pu_len rfl rfl) ?_ | refine g_pu rfl rfl rfl (pu_lenS rfl rfl) ?_
    first | refine g_pu rfl rfl rfl (pu_gtr_t rfl rfl rfl (by omega)) ?_ | refine g_pu rfl rfl rfl (pu_gtr_f rfl rfl rfl (by omega)) ?_ | refine g_pu rfl rfl rfl (pu_gtr rfl rfl rfl) ?_
    refine g_nil ?_
    (repeat refine g_seq ?_)
    refine g_cond_t rfl ?_
    (repeat refine g_seq ?_)
    refine g_region ?_
    refine g_pu rfl rfl rfl (pu_move rfl rfl) ?_
    first | refine g_pu rfl rfl rfl (pu_eql_t rfl rfl rfl (by omega)) ?_ | refine g_pu rfl rfl rfl (pu_eql_f rfl rfl rfl (by omega)) ?_ | refine g_pu rfl rfl rfl (pu_eql rfl rfl rfl) ?_
    refine g_pu rfl rfl rfl (pu_move rfl rfl) ?_
    first | refine g_pass rfl rfl rfl ?_ | refine g_pu rfl rfl rfl (pu_move rfl rfl) ?_
    first | refine g_pass rfl rfl rfl ?_ | refine g_pu rfl rfl rfl (pu_eqlP rfl rfl rfl) ?_
    first | refine g_pu rfl rfl rfl (pu_pick_t rfl rfl rfl) ?_ | refine g_pu rfl rfl rfl (pu_pick_f rfl rfl rfl) ?_
    refine g_pu rfl rfl rfl (pu_assign rfl rfl) ?_
    refine g_nil ?_
    exact g_ret1 rfl rfl (fun w' hm => ⟨(), trivial, rfl, hm.grows [] trivial rfl⟩)
end Go.Sx

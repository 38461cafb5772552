/-
  CodecKeeps: no call of codec changes or keeps what it is handed, and all answers are memory of their own. Condition: at most 2^20 bytes a list.
-/
import Derived.Test.YtmhleegjffdnkaaCodecCursors
import Derived.Test.YtmhleegjffdnkaaCodecPuts
import Derived.Test.YtmhleegjffdnkaaCHex
import Derived.Test.YtmhleegjffdnkaaCCut
import Derived.Test.YtmhleegjffdnkaaCOver
import Derived.Test.YtmhleegjffdnkaaCK
set_option linter.unusedVariables false
set_option linter.unusedSimpArgs false
namespace Go.Sx
open Go Go.Proofs

theorem cut_two (a : List (BitVec 8)) : cutV a [0, (a.length : Int)] = [[], a] := by
  have h := (cut_ok (l := a) (ns := [0, (a.length : Int)]) (by simp) (by simp [cutS])).2
  rw [h]
  simp [cutP]
/-- What the calls answer. -/
def ckL (a b : List (BitVec 8)) : List (List (BitVec 8)) := [a ++ b, a, xorV [a, b], a, padL a ((a.length : Int) + 5), takeV b 0 (b.length : Int)] ++ cutV a [0, (a.length : Int)]
theorem ckL_len (a b : List (BitVec 8)) : (ckL a b).length = 8 := by unfold ckL; rw [cut_two]; rfl
theorem xor2_le (a b : List (BitVec 8)) : (xorV [a, b]).length ≤ a.length := by
  show (if xorOk [a, b] then xorL a b else []).length ≤ _
  split
  · unfold xorL
    rw [List.length_zipWith]; omega
  · exact Nat.zero_le _
theorem pad5_le (a : List (BitVec 8)) : (padL a ((a.length : Int) + 5)).length ≤ a.length + 5 := by
  unfold padL
  split
  · rw [List.length_append, List.length_replicate]; omega
  · exact Nat.zero_le _
theorem take0_le (b : List (BitVec 8)) : (takeV b 0 (b.length : Int)).length ≤ b.length := by
  unfold takeV
  split <;> simp
theorem ckL_small {a b l : List (BitVec 8)} (ha : a.length ≤ 1048576) (hb : b.length ≤ 1048576) (h : l ∈ ckL a b) : l.length ≤ 4194304 := by
  have h1 := xor2_le a b
  have h2 := pad5_le a
  have h3 := take0_le b
  unfold ckL at h
  rw [cut_two] at h
  simp only [List.cons_append, List.nil_append, List.mem_cons, List.not_mem_nil, or_false] at h
  rcases h with rfl | rfl | rfl | rfl | rfl | rfl | rfl | rfl
  · rw [List.length_append]; omega
  all_goals first | omega | simp

theorem calls_b (w : World) {p q : Option Addr} {n m : Nat} (c d : Nat) {a b : List (BitVec 8)} (ha : By w p n a) (hb : By w q m b) (hc : n ≤ c) (hnb : n ≤ 1048576) (hmb : m ≤ 1048576) :
    Spec Try.prog 40 #[.slice p n c, .slice q m d] w (σ := Ow × List Otm) (fun s => conts s.2 = ckL a b) (fun s => s.1.sl s.2.length) Nob (fun s => [s.1.ck 22 1 (vals s.2), .fact (BSC s.2) (BagC 5 s.2)]) := by
  refine enter Try.func40 rfl rfl (Mem.start w) ?_
  have hal := ha.len
  have hbl := hb.len
  subst hal hbl
  have hx := xor2_le a b
  have hcl : ∀ {xs : List Otm}, conts xs = cutV a [0, (a.length : Int)] → xs.length = 2 := fun h => by
    have := congrArg List.length h
    rw [conts_length, cut_two] at this
    exact this
  (repeat refine g_seq ?_)
  refine g_region ?_
  refine g_pu rfl rfl rfl (pu_assign rfl rfl) ?_
  refine g_nil ?_
  (repeat refine g_seq ?_)
  refine g_region ?_
  refine g_pu rfl rfl rfl (pu_move rfl rfl) ?_
  refine g_pu rfl rfl rfl (pu_move rfl rfl) ?_
  refine g_lo [19] rfl rfl rfl rfl (lo_buildSlice rfl rfl (by decide) (by decide) rfl rfl) (fun b19 hb19 => ?_)
  refine g_call [20] rfl rfl rfl rfl rfl rfl (fun w' hm => Xor_b w' 2 (L := [.slice p a.length c, .slice q b.length d]) (ls := [a, b]) ⟨hm.rowA 19 rfl, rfl, All2.cons ⟨_, _, _, rfl, ha.m hm, fun _ _ => trivial⟩ (All2.cons ⟨_, _, _, rfl, hb.m hm, fun _ _ => trivial⟩ All2.nil), by omega⟩ (by omega)) (fun x20 _ => ?_)
  refine g_pu rfl rfl rfl (pu_move rfl rfl) ?_
  refine g_pu rfl rfl rfl (pu_extract rfl rfl rfl) ?_
  refine g_pu rfl rfl rfl (pu_extract rfl rfl rfl) ?_
  refine g_pu rfl rfl rfl (pu_assign rfl rfl) ?_
  refine g_pu rfl rfl rfl (pu_assign rfl rfl) ?_
  refine g_nil ?_
  (repeat refine g_seq ?_)
  refine g_region ?_
  refine g_pu rfl rfl rfl (pu_move rfl rfl) ?_
  refine g_pu rfl rfl rfl (pu_move rfl rfl) ?_
  first | refine g_pu rfl rfl rfl (pu_len rfl rfl) ?_ | refine g_pu rfl rfl rfl (pu_lenS rfl rfl) ?_
  refine g_lo [27] rfl rfl rfl rfl (lo_buildSlice rfl rfl (by decide) (by decide) rfl rfl) (fun b27 hb27 => ?_)
  refine g_call [28, 128] rfl rfl rfl rfl rfl rfl (fun w' hm => CutC_b w' c _ [0, (a.length : Int)] (ha.m hm) hc (hm.rowA 27 rfl) rfl (by decide)) (fun x28 h28 => ?_)
  refine g_pu rfl rfl rfl (pu_move rfl rfl) ?_
  refine g_pu rfl rfl rfl (pu_extract rfl rfl rfl) ?_
  refine g_pu rfl rfl rfl (pu_extract rfl rfl rfl) ?_
  refine g_pu rfl rfl rfl (pu_assign rfl rfl) ?_
  refine g_pu rfl rfl rfl (pu_assign rfl rfl) ?_
  refine g_nil ?_
  (repeat refine g_seq ?_)
  refine g_region ?_
  refine g_pu rfl rfl rfl (pu_move rfl rfl) ?_
  refine g_call [] rfl rfl rfl rfl rfl rfl (fun w' hm => Hex_b w' c (ha.m hm) (by omega)) (fun _ _ => ?_)
  refine g_call [34] rfl rfl rfl rfl rfl rfl (fun w' hm => Unhex_b w' (l := a) (by omega)) (fun x34 _ => ?_)
  refine g_pu rfl rfl rfl (pu_move rfl rfl) ?_
  refine g_pu rfl rfl rfl (pu_extract rfl rfl rfl) ?_
  refine g_pu rfl rfl rfl (pu_extract rfl rfl rfl) ?_
  refine g_pu rfl rfl rfl (pu_assign rfl rfl) ?_
  refine g_pu rfl rfl rfl (pu_assign rfl rfl) ?_
  refine g_nil ?_
  (repeat refine g_seq ?_)
  refine g_region ?_
  refine g_pu rfl rfl rfl (pu_move rfl rfl) ?_
  refine g_pu rfl rfl rfl (pu_move rfl rfl) ?_
  first | refine g_pu rfl rfl rfl (pu_len rfl rfl) ?_ | refine g_pu rfl rfl rfl (pu_lenS rfl rfl) ?_
  refine g_pu rfl rfl rfl (pu_addI rfl rfl rfl (by omega)) ?_
  refine g_call [42] rfl rfl rfl rfl rfl rfl (fun w' hm => Pad_spec w' _ _ c a ((a.length : Int) + 5) (ha.m hm).rd rfl (by omega)) (fun x42 _ => ?_)
  refine g_pu rfl rfl rfl (pu_move rfl rfl) ?_
  refine g_pu rfl rfl rfl (pu_extract rfl rfl rfl) ?_
  refine g_pu rfl rfl rfl (pu_extract rfl rfl rfl) ?_
  refine g_pu rfl rfl rfl (pu_assign rfl rfl) ?_
  refine g_pu rfl rfl rfl (pu_assign rfl rfl) ?_
  refine g_nil ?_
  (repeat refine g_seq ?_)
  refine g_region ?_
  refine g_pu rfl rfl rfl (pu_move rfl rfl) ?_
  refine g_call [47, 147] rfl rfl rfl rfl rfl rfl (fun w' hm => NewCursor_b w' d (hb.m hm)) (fun x47 _ => ?_)
  refine g_pu rfl rfl rfl (pu_move rfl rfl) ?_
  first | refine g_pu rfl rfl rfl (pu_len rfl rfl) ?_ | refine g_pu rfl rfl rfl (pu_lenS rfl rfl) ?_
  refine g_callW [47] [47, 50] rfl rfl rfl rfl rfl rfl (fun j hj => ⟨47, by simp, _, rfl, hj⟩) (fun w' hm => Take_b w' x47.1 (l := b) (b.length : Int) (hm.holds 47 _ rfl) (By.ow 147 rfl hm rfl (by omega)) (leC hm 147 rfl rfl) (apartD hm 147 47 rfl rfl (by decide)) (Nat.zero_le _)) (fun x50 _ => ?_)
  refine g_pu rfl rfl rfl (pu_move rfl rfl) ?_
  refine g_pu rfl rfl rfl (pu_extract rfl rfl rfl) ?_
  refine g_pu rfl rfl rfl (pu_extract rfl rfl rfl) ?_
  refine g_pu rfl rfl rfl (pu_assign rfl rfl) ?_
  refine g_pu rfl rfl rfl (pu_assign rfl rfl) ?_
  refine g_nil ?_
  (repeat refine g_seq ?_)
  refine g_region ?_
  refine g_pu rfl rfl rfl (pu_move rfl rfl) ?_
  refine g_pu rfl rfl rfl (pu_move rfl rfl) ?_
  refine g_lo [55] rfl rfl rfl rfl (lo_buildSlice rfl rfl (by decide) (by decide) rfl rfl) (fun b55 hb55 => ?_)
  refine g_call [56] rfl rfl rfl rfl rfl rfl (fun w' hm => Join_b w' 2 (L := [.slice p a.length c, .slice q b.length d]) (ls := [a, b]) ⟨hm.rowA 55 rfl, rfl, All2.cons ⟨_, _, _, rfl, ha.m hm, fun _ _ => trivial⟩ (All2.cons ⟨_, _, _, rfl, hb.m hm, fun _ _ => trivial⟩ All2.nil), by omega⟩ (by omega) (by simp; omega)) (fun x56 _ => ?_)
  rw [show [a, b].flatten = a ++ b by simp]
  refine g_pu rfl rfl rfl (pu_move rfl rfl) ?_
  refine g_lo [58] rfl rfl rfl rfl (lo_buildSlice rfl rfl (by decide) (by decide) rfl rfl) (fun b58 hb58 => ?_)
  refine g_call [59] rfl rfl rfl rfl rfl rfl (fun w' hm => Join_b w' 1 (L := [.slice p a.length c]) (ls := [a]) ⟨hm.rowA 58 rfl, rfl, All2.cons ⟨_, _, _, rfl, ha.m hm, fun _ _ => trivial⟩ All2.nil, by omega⟩ (by omega) (by simp; omega)) (fun x59 _ => ?_)
  rw [show [a].flatten = a by simp]
  refine g_pu rfl rfl rfl (pu_move rfl rfl) ?_
  refine g_pu rfl rfl rfl (pu_move rfl rfl) ?_
  refine g_pu rfl rfl rfl (pu_move rfl rfl) ?_
  refine g_pu rfl rfl rfl (pu_move rfl rfl) ?_
  refine g_lo [64] rfl rfl rfl rfl (lo_buildSlice rfl rfl (by decide) (by decide) rfl rfl) (fun b64 hb64 => ?_)
  refine g_own 64 (L := [x56.sl (a ++ b).length, x59.sl a.length, x20.sl (xorV [a, b]).length, x34.sl a.length, x42.sl (padL a ((a.length : Int) + 5)).length, x50.sl (takeV b 0 (b.length : Int)).length]) (J := []) (c := 6) (s := 1) rfl (by simp) (by omega) ?_
  refine g_pu rfl rfl rfl (pu_assign rfl rfl) ?_
  refine g_nil ?_
  (repeat refine g_seq ?_)
  refine g_region ?_
  refine g_pu rfl rfl rfl (pu_move rfl rfl) ?_
  refine g_pu rfl rfl rfl (pu_move rfl rfl) ?_
  refine g_append1 64 (vals x28.2) rfl rfl rfl rfl rfl rfl rfl rfl rfl (fun w' hm => Ow.rd (t := 28) rfl hm) (by rw [vals_length]) (oneCell_vals _) (by rw [hcl h28]; omega) (by rw [hcl h28]; omega) (fun p1 c1 => ?_)
  refine g_pu rfl rfl rfl (pu_assign rfl rfl) ?_
  refine g_nil ?_
  refine g_bagC [56, 59, 20, 34, 42, 50] 300 (xs := [(x56, a ++ b), (x59, a), (x20, xorV [a, b]), (x34, a), (x42, padL a ((a.length : Int) + 5)), (x50, takeV b 0 (b.length : Int))]) ⟨.inl rfl, rfl, .inl rfl, rfl, .inl rfl, rfl, .inl rfl, rfl, .inl rfl, rfl, .inl rfl, rfl, trivial⟩ rfl ?_
  refine g_bagJoin 300 128 (ys := x28.2) rfl rfl (by decide) rfl ?_
  refine g_ret1 rfl rfl (fun w' hm => ⟨(⟨p1, c1⟩, [(x56, a ++ b), (x59, a), (x20, xorV [a, b]), (x34, a), (x42, padL a ((a.length : Int) + 5)), (x50, takeV b 0 (b.length : Int))] ++ x28.2), by show conts (_ ++ _) = _; rw [conts_append, h28]; rfl, congrArg (fun k => Ending.returned (Value.slice p1 k c1)) (by rw [List.length_append]; rfl), hm.grows [64, 300] ⟨by rw [vals_append]; rfl, rfl, trivial⟩ rfl⟩)

/-- Two rows and three lists, with the first written over. -/
theorem By.pre (t : Nat) {w0 w : World} {D : Blocks} {M : List (Nat × Ck)} {b n : Nat} {E : TypeId} {l J : List (BitVec 8)} (hM : mget M t = some (.pt b (.cells (bs (l ++ J)).toArray E (0, 0)))) (hm : Mem w0 D M w) (hn : l.length = n) (hb : n ≤ 140737488355328) : By w (some ⟨b, 0, none⟩) n l := by
  have h : RdV w (some ⟨b, 0, none⟩) (bs (l ++ J)) := hm.rowA t hM
  have h2 := h.fst (n := n)
  rw [bs_take, List.take_left' hn] at h2
  exact ⟨h2, hn, hb⟩

theorem CodecKeeps_spec (w : World) {p q : Option Addr} {n m : Nat} (c d : Nat) {key b : List (BitVec 8)} (ha : By w p n key) (hb : By w q m b) (hnb : n ≤ 1048576) (hmb : m ≤ 1048576) :
    Spec Try.prog 11 #[.slice p n c, .slice q m d] w (σ := Unit) (fun _ => True) (fun _ => .bool true) Nob (fun _ => []) := by
  refine enter Try.func11 rfl rfl (Mem.start w) ?_
  have hal := ha.len
  have hbl := hb.len
  have hsa := spareL_length key 40
  have hsb := spareL_length b 40
  have hoa : (overL key n).length = n := by rw [overL_length, hal]
  have small : ∀ {X : List Otm} {k : List (BitVec 8)}, k.length ≤ 1048576 → conts X = ckL k b → (∀ x ∈ X, x.2.length ≤ 4194304) ∧ X.length = 8 := fun {X k} hk h => ⟨fun x hx => ckL_small (a := k) (b := b) hk (by omega) (by rw [← h]; exact List.mem_map.2 ⟨x, hx, rfl⟩), by have := congrArg List.length h; rw [conts_length, ckL_len] at this; exact this⟩
  (repeat refine g_seq ?_)
  refine g_region ?_
  refine g_pu rfl rfl rfl (pu_assign rfl rfl) ?_
  refine g_nil ?_
  (repeat refine g_seq ?_)
  refine g_region ?_
  refine g_call [] rfl rfl rfl rfl rfl rfl (fun w' hm => awake_b w') (fun _ _ => ?_)
  refine g_pu rfl rfl rfl (pu_not rfl rfl) ?_
  refine g_nil ?_
  (repeat refine g_seq ?_)
  refine g_cond_f rfl (g_skip ?_)
  (repeat refine g_seq ?_)
  refine g_region ?_
  refine g_pu rfl rfl rfl (pu_move rfl rfl) ?_
  refine g_call [18] rfl rfl rfl rfl rfl rfl (fun w' hm => Spare_b w' c (ha.m hm)) (fun x18 _ => ?_)
  refine g_pu rfl rfl rfl (pu_move rfl rfl) ?_
  refine g_pu rfl rfl rfl (pu_extract rfl rfl rfl) ?_
  refine g_pu rfl rfl rfl (pu_extract rfl rfl rfl) ?_
  refine g_pu rfl rfl rfl (pu_assign rfl rfl) ?_
  refine g_pu rfl rfl rfl (pu_assign rfl rfl) ?_
  refine g_nil ?_
  (repeat refine g_seq ?_)
  refine g_region ?_
  refine g_pu rfl rfl rfl (pu_move rfl rfl) ?_
  refine g_call [23] rfl rfl rfl rfl rfl rfl (fun w' hm => Spare_b w' d (hb.m hm)) (fun x23 _ => ?_)
  refine g_pu rfl rfl rfl (pu_move rfl rfl) ?_
  refine g_pu rfl rfl rfl (pu_extract rfl rfl rfl) ?_
  refine g_pu rfl rfl rfl (pu_extract rfl rfl rfl) ?_
  refine g_pu rfl rfl rfl (pu_assign rfl rfl) ?_
  refine g_pu rfl rfl rfl (pu_assign rfl rfl) ?_
  refine g_nil ?_
  (repeat refine g_seq ?_)
  refine g_region ?_
  refine g_pu rfl rfl rfl (pu_move rfl rfl) ?_
  refine g_pu rfl rfl rfl (pu_move rfl rfl) ?_
  refine g_call [28, 128] rfl rfl rfl rfl rfl rfl (fun w' hm => calls_b w' _ _ (By.spare 18 rfl hm hal (by omega)) (By.spare 23 rfl hm hbl (by omega)) (by omega) hnb hmb) (fun x28 h28 => ?_)
  refine g_pu rfl rfl rfl (pu_assign rfl rfl) ?_
  refine g_nil ?_
  obtain ⟨s28, l28⟩ := small (by omega) h28
  (repeat refine g_seq ?_)
  refine g_region ?_
  refine g_pu rfl rfl rfl (pu_move rfl rfl) ?_
  refine g_call [30, 130] rfl rfl rfl rfl rfl rfl (fun w' hm => Copies_b w' _ (BagC.byl 28 128 rfl rfl hm rfl (fun x hx => by have := s28 x hx; omega) (by omega))) (fun x30 h30 => ?_)
  refine g_pu rfl rfl rfl (pu_assign rfl rfl) ?_
  refine g_nil ?_
  (repeat refine g_seq ?_)
  refine g_region ?_
  refine g_pu rfl rfl rfl (pu_move rfl rfl) ?_
  refine g_pu rfl rfl rfl (pu_move rfl rfl) ?_
  refine g_call [33, 133] rfl rfl rfl rfl rfl rfl (fun w' hm => calls_b w' _ _ (By.spare 18 rfl hm hal (by omega)) (By.spare 23 rfl hm hbl (by omega)) (by omega) hnb hmb) (fun x33 h33 => ?_)
  refine g_pu rfl rfl rfl (pu_assign rfl rfl) ?_
  refine g_nil ?_
  obtain ⟨s33, l33⟩ := small (by omega) h33
  (repeat refine g_seq ?_)
  refine g_region ?_
  refine g_pu rfl rfl rfl (pu_move rfl rfl) ?_
  refine g_pu rfl rfl rfl (pu_move rfl rfl) ?_
  refine g_call [] rfl rfl rfl rfl rfl rfl (fun w' hm => Equals_b w' _ _ (BagC.byl 33 133 rfl rfl hm rfl (fun x hx => by have := s33 x hx; omega) (by omega)) (Owl.by 30 130 rfl rfl hm h30.1 (by omega))) (fun _ _ => ?_)
  refine g_as (t := 36) (u := .bool true) rfl (by rw [h33, h28]; simp) rfl ?_
  refine g_pu rfl rfl rfl (pu_not rfl rfl) ?_
  refine g_pu rfl rfl rfl (pu_move rfl rfl) ?_
  first | refine g_pass rfl rfl rfl ?_ | refine g_pu rfl rfl rfl (pu_move rfl rfl) ?_
  first | refine g_pass rfl rfl rfl ?_ | refine g_pu rfl rfl rfl (pu_move rfl rfl) ?_
  refine g_call [] rfl rfl rfl rfl rfl rfl (fun w' hm => Kept_b w' _ c (By.full 18 rfl hm (by rw [hsa, hal]) (by omega)) (ha.m hm)) (fun _ _ => ?_)
  first | refine g_pass rfl rfl rfl ?_ | refine g_pu rfl rfl rfl (pu_not rfl rfl) ?_
  first | refine g_pu rfl rfl rfl (pu_pick_t rfl rfl rfl) ?_ | refine g_pu rfl rfl rfl (pu_pick_f rfl rfl rfl) ?_
  refine g_pu rfl rfl rfl (pu_move rfl rfl) ?_
  first | refine g_pass rfl rfl rfl ?_ | refine g_pu rfl rfl rfl (pu_move rfl rfl) ?_
  first | refine g_pass rfl rfl rfl ?_ | refine g_pu rfl rfl rfl (pu_move rfl rfl) ?_
  refine g_call [] rfl rfl rfl rfl rfl rfl (fun w' hm => Kept_b w' _ d (By.full 23 rfl hm (by rw [hsb, hbl]) (by omega)) (hb.m hm)) (fun _ _ => ?_)
  first | refine g_pass rfl rfl rfl ?_ | refine g_pu rfl rfl rfl (pu_not rfl rfl) ?_
  first | refine g_pu rfl rfl rfl (pu_pick_t rfl rfl rfl) ?_ | refine g_pu rfl rfl rfl (pu_pick_f rfl rfl rfl) ?_
  refine g_pu rfl rfl rfl (pu_move rfl rfl) ?_
  first | refine g_pass rfl rfl rfl ?_ | refine g_pu rfl rfl rfl (pu_move rfl rfl) ?_
  first | refine g_pass rfl rfl rfl ?_ | refine g_pu rfl rfl rfl (pu_len rfl rfl) ?_ | refine g_pu rfl rfl rfl (pu_lenS rfl rfl) ?_
  first | refine g_pass rfl rfl rfl ?_ | refine g_pu rfl rfl rfl (pu_lss_t rfl rfl rfl (by omega)) ?_ | refine g_pu rfl rfl rfl (pu_lss_f rfl rfl rfl (by omega)) ?_ | refine g_pu rfl rfl rfl (pu_lss rfl rfl rfl) ?_
  first | refine g_pu rfl rfl rfl (pu_pick_t rfl rfl rfl) ?_ | refine g_pu rfl rfl rfl (pu_pick_f rfl rfl rfl) ?_
  refine g_nil ?_
  (repeat refine g_seq ?_)
  refine g_cond_f rfl (g_skip ?_)
  (repeat refine g_seq ?_)
  refine g_region ?_
  refine g_pu rfl rfl rfl (pu_move rfl rfl) ?_
  refine g_callW [18] [18] rfl rfl rfl rfl rfl rfl (fun j hj => ⟨18, by simp, _, rfl, hj⟩) (fun w' hm => OverP_b w' x18 (n + 40) (l := key) (hm.holds 18 _ rfl) hal (by omega)) (fun _ _ => ?_)
  refine g_nil ?_
  (repeat refine g_seq ?_)
  refine g_region ?_
  refine g_pu rfl rfl rfl (pu_move rfl rfl) ?_
  refine g_pu rfl rfl rfl (pu_move rfl rfl) ?_
  refine g_call [59, 159] rfl rfl rfl rfl rfl rfl (fun w' hm => calls_b w' _ _ (By.pre 18 rfl hm hoa (by omega)) (By.spare 23 rfl hm hbl (by omega)) (by omega) hnb hmb) (fun x59 h59 => ?_)
  refine g_pu rfl rfl rfl (pu_assign rfl rfl) ?_
  refine g_nil ?_
  obtain ⟨s59, l59⟩ := small (by omega) h59
  (repeat refine g_seq ?_)
  refine g_region ?_
  refine g_pu rfl rfl rfl (pu_move rfl rfl) ?_
  refine g_pu rfl rfl rfl (pu_move rfl rfl) ?_
  refine g_call [] rfl rfl rfl rfl rfl rfl (fun w' hm => Equals_b w' _ _ (BagC.byl 28 128 rfl rfl hm rfl (fun x hx => by have := s28 x hx; omega) (by omega)) (Owl.by 30 130 rfl rfl hm h30.1 (by omega))) (fun _ _ => ?_)
  refine g_as (t := 62) (u := .bool true) rfl (by simp) rfl ?_
  refine g_pu rfl rfl rfl (pu_not rfl rfl) ?_
  refine g_pu rfl rfl rfl (pu_move rfl rfl) ?_
  first | refine g_pass rfl rfl rfl ?_ | refine g_pu rfl rfl rfl (pu_move rfl rfl) ?_
  first | refine g_pass rfl rfl rfl ?_ | refine g_pu rfl rfl rfl (pu_move rfl rfl) ?_
  refine g_call [] rfl rfl rfl rfl rfl rfl (fun w' hm => Equals_b w' _ _ (BagC.byl 33 133 rfl rfl hm rfl (fun x hx => by have := s33 x hx; omega) (by omega)) (Owl.by 30 130 rfl rfl hm h30.1 (by omega))) (fun _ _ => ?_)
  refine g_as (t := 67) (u := .bool true) rfl (by rw [h33, h28]; simp) rfl ?_
  first | refine g_pass rfl rfl rfl ?_ | refine g_pu rfl rfl rfl (pu_not rfl rfl) ?_
  first | refine g_pu rfl rfl rfl (pu_pick_t rfl rfl rfl) ?_ | refine g_pu rfl rfl rfl (pu_pick_f rfl rfl rfl) ?_
  refine g_pu rfl rfl rfl (pu_move rfl rfl) ?_
  first | refine g_pass rfl rfl rfl ?_ | refine g_pu rfl rfl rfl (pu_move rfl rfl) ?_
  first | refine g_pass rfl rfl rfl ?_ | refine g_pu rfl rfl rfl (pu_move rfl rfl) ?_
  refine g_call [73] rfl rfl rfl rfl rfl rfl (fun w' hm => Copy_b w' _ (l := overL key n) (By.pre 18 rfl hm hoa (by omega))) (fun x73 _ => ?_)
  first | refine g_pass rfl rfl rfl ?_ | refine g_pu rfl rfl rfl (pu_move rfl rfl) ?_
  refine g_call [75] rfl rfl rfl rfl rfl rfl (fun w' hm => Copy_b w' _ (l := b) (By.spare 23 rfl hm hbl (by omega))) (fun x75 _ => ?_)
  refine g_call [76, 176] rfl rfl rfl rfl rfl rfl (fun w' hm => calls_b w' _ _ (By.ow 73 rfl hm hoa (by omega)) (By.ow 75 rfl hm hbl (by omega)) (leC hm 73 rfl hoa) hnb hmb) (fun x76 h76 => ?_)
  have hs76 := small (by omega) h76
  refine g_call [] rfl rfl rfl rfl rfl rfl (fun w' hm => Equals_b w' _ _ (BagC.byl 59 159 rfl rfl hm rfl (fun x hx => by have := s59 x hx; omega) (by omega)) (BagC.byl 76 176 rfl rfl hm rfl (fun x hx => by have := hs76.1 x hx; omega) (by have := hs76.2; omega))) (fun _ _ => ?_)
  refine g_as (t := 77) (u := .bool true) rfl (by rw [h59, h76]; simp) rfl ?_
  first | refine g_pass rfl rfl rfl ?_ | refine g_pu rfl rfl rfl (pu_not rfl rfl) ?_
  first | refine g_pu rfl rfl rfl (pu_pick_t rfl rfl rfl) ?_ | refine g_pu rfl rfl rfl (pu_pick_f rfl rfl rfl) ?_
  refine g_nil ?_
  (repeat refine g_seq ?_)
  refine g_cond_f rfl (g_skip ?_)
  have hol : (bs (overL key n ++ (List.range 40).map fun t => spareB (key.length + t))).length = n + 40 := by rw [bs_length, List.length_append, overL_length]; simp [hal]
  have hol2 : (bs (spareL b 40)).length = m + 40 := by rw [bs_length, hsb, hbl]
  refine g_know (φ := (∀ x ∈ x28.2, x.2.length ≤ x.1.c) ∧ (∀ x ∈ x33.2, x.2.length ≤ x.1.c) ∧ ∀ x ∈ x59.2, x.2.length ≤ x.1.c) (fun w' hm => ⟨BagC.le (E := 5) (hm.holds 128 _ rfl), BagC.le (E := 5) (hm.holds 133 _ rfl), BagC.le (E := 5) (hm.holds 159 _ rfl)⟩) (fun hcap => ?_)
  have h65 : ∀ {X : List Otm}, (∀ x ∈ X, x.2.length ≤ 4194304) → ∀ x ∈ X, x.2.length ≤ 140737488355200 := fun h x hx => by have := h x hx; omega
  (repeat refine g_seq ?_)
  refine g_region ?_
  refine g_pu rfl rfl rfl (pu_move rfl rfl) ?_
  refine g_pu rfl rfl rfl (pu_move rfl rfl) ?_
  refine g_lo [82] rfl rfl rfl rfl (lo_buildSlice rfl rfl (by decide) (by decide) rfl rfl) (fun b82 hb82 => ?_)
  refine g_own 82 (L := [.slice (some ⟨x18, 0, none⟩) (n + 40) (n + 40), .slice (some ⟨x23, 0, none⟩) (m + 40) (m + 40)]) (J := []) (c := 2) (s := 1) rfl (by simp) (by omega) ?_
  refine g_pu rfl rfl rfl (pu_assign rfl rfl) ?_
  refine g_nil ?_
  (repeat refine g_seq ?_)
  refine g_region ?_
  refine g_pu rfl rfl rfl (pu_move rfl rfl) ?_
  refine g_pu rfl rfl rfl (pu_move rfl rfl) ?_
  refine g_append1 82 (vals x28.2) rfl rfl rfl rfl rfl rfl rfl rfl rfl (fun w' hm => Ow.rd (t := 28) rfl hm) (by rw [vals_length]) (oneCell_vals _) (by omega) (by omega) (fun p1 c1 => ?_)
  refine g_pu rfl rfl rfl (pu_assign rfl rfl) ?_
  refine g_nil ?_
  (repeat refine g_seq ?_)
  refine g_region ?_
  refine g_pu rfl rfl rfl (pu_move rfl rfl) ?_
  refine g_pu rfl rfl rfl (pu_move rfl rfl) ?_
  refine g_append1 82 (vals x33.2) rfl rfl rfl rfl rfl rfl rfl rfl (by rw [List.length_append, vals_length]; rfl) (fun w' hm => Ow.rd (t := 33) rfl hm) (by rw [vals_length]) (oneCell_vals _) (by omega) (by omega) (fun p2 c2 => ?_)
  refine g_pu rfl rfl rfl (pu_assign rfl rfl) ?_
  refine g_nil ?_
  (repeat refine g_seq ?_)
  refine g_region ?_
  refine g_pu rfl rfl rfl (pu_move rfl rfl) ?_
  refine g_pu rfl rfl rfl (pu_move rfl rfl) ?_
  refine g_append1 82 (vals x59.2) rfl rfl rfl rfl rfl rfl rfl rfl (by rw [List.length_append, List.length_append, vals_length, vals_length]; rfl) (fun w' hm => Ow.rd (t := 59) rfl hm) (by rw [vals_length]) (oneCell_vals _) (by omega) (by omega) (fun p3 c3 => ?_)
  refine g_pu rfl rfl rfl (pu_assign rfl rfl) ?_
  refine g_nil ?_
  (repeat refine g_seq ?_)
  refine g_region ?_
  refine g_pu rfl rfl rfl (pu_move rfl rfl) ?_
  refine g_callW [18, 23, 128, 133, 159] [] rfl rfl rfl rfl rfl rfl (TgL.ch (TgL.row 18 0 (n + 40) rfl (Nat.le_of_eq hol.symm) (by omega) rfl (TgL.row 23 1 (m + 40) rfl (Nat.le_of_eq hol2.symm) (by omega) rfl (TgL.otm 128 2 rfl rfl (TgL.otm 133 (2 + x28.2.length) rfl rfl (TgL.otm 159 (2 + x28.2.length + x33.2.length) rfl rfl TgL.nil)))))) (fun w' hm => Apart_o hm (TgL.row 18 0 (n + 40) rfl (Nat.le_of_eq hol.symm) (by omega) rfl (TgL.row 23 1 (m + 40) rfl (Nat.le_of_eq hol2.symm) (by omega) rfl (TgL.otm 128 2 rfl rfl (TgL.otm 133 (2 + x28.2.length) rfl rfl (TgL.otm 159 (2 + x28.2.length + x33.2.length) rfl rfl TgL.nil))))) 82 _ rfl rfl (HxL.five (n1 := n + 40) (n2 := m + 40) ⟨⟨rfl, rfl, rfl, Nat.le_refl _, by omega⟩, ⟨rfl, rfl, rfl, Nat.le_refl _, by omega⟩, trivial⟩ ⟨hcap.1, h65 s28⟩ ⟨hcap.2.1, h65 s33⟩ ⟨hcap.2.2, h65 s59⟩) (by simp [vals_length]; omega) (by omega)) (fun _ _ => ?_)
  refine g_pu rfl rfl rfl (pu_assign rfl rfl) ?_
  refine g_nil ?_
  exact g_ret1 rfl rfl (fun w' hm => ⟨(), trivial, rfl, hm.grows [] trivial rfl⟩)
end Go.Sx

import Derived.Test.YtfbcmndhjoebbaaZdD5
import Derived.Test.YtfbcmndhjoebbaaZdYA
set_option linter.unusedVariables false
set_option linter.unusedSimpArgs false
/-
  DirMakes: nodes that are made have the names, numbers and keys that the document says, and their keys belong together. Condition: the seed is at most 2^47 - 4352 bytes, and the names fit memory.
-/
namespace Go.Sx
open Go Go.Proofs

theorem makeN_hok (seed : List (BitVec 8)) (ss : List ByteArray) : ∀ x ∈ (makeN seed ss).1, x.ok := by
  unfold makeN
  split
  · exact finN_ok seed ss
  · intro x hx; cases hx
theorem makeN_len (seed : List (BitVec 8)) (ss : List ByteArray) : (makeN seed ss).1.length ≤ 64 := by
  unfold makeN
  split
  · rename_i h
    have := (chkN_ok h).1
    rw [initN_length] at this
    show (finN seed ss).length ≤ 64
    rw [finN_length]; omega
  · exact Nat.zero_le _
theorem makeN_chk (seed : List (BitVec 8)) (ss : List ByteArray) : chkN (makeN seed ss).1 = 0 := by
  unfold makeN
  split
  · rename_i h
    show chkN (finN seed ss) = 0
    rw [chkN_fin, h]
  · exact chkN_0 (by simp) (fun x hx => by cases hx) (fun a b x y _ h => by simp at h)
theorem makeN_fit (seed : List (BitVec 8)) (ss : List ByteArray) : fitN (makeN seed ss).1 = (true, 0) := by
  rw [fitN_ok (makeN_chk seed ss)]
  congr 1
  rw [List.all_eq_true]
  unfold makeN
  split
  · intro x hx
    obtain ⟨p, _, rfl⟩ := List.mem_map.1 hx
    exact decide_eq_true (show xmV (pvN seed p.1) nine = xmV (pvN seed p.1) nine from rfl)
  · intro x hx; cases hx
theorem oneCell_strN (ss : List ByteArray) : ∀ u ∈ ss.map Value.string, u.oneCell' = true := fun u hu => by
  obtain ⟨s, _, rfl⟩ := List.mem_map.1 hu
  rfl

theorem DirMakes_spec (w : World) {p q : Option Addr} {n m : Nat} (c d : Nat) {seed : List (BitVec 8)} {ss : List ByteArray} (ha : By w p n seed) (hq : RdV w q (ss.map Value.string)) (hm' : ss.length = m) (hnb : n ≤ 140737488355136) (hmb : m ≤ 1599289640401) (hmd : m ≤ d) :
    Spec Try.prog 4 #[.slice p n c, .slice q m d] w (σ := Unit) (fun _ => True) (fun _ => .bool true) Nob (fun _ => []) := by
  refine enter Try.func4 rfl rfl (Mem.start w) ?_
  have hal := ha.len
  (repeat refine g_seq ?_)
  refine g_region ?_
  refine g_pu rfl rfl rfl (pu_assign rfl rfl) ?_
  refine g_nil ?_
  (repeat refine g_seq ?_)
  refine g_region ?_
  refine g_call [] rfl rfl rfl rfl rfl rfl (fun w' hm => awake09_b w') (fun _ _ => ?_)
  refine g_pu rfl rfl rfl (pu_not rfl rfl) ?_
  refine g_nil ?_
  (repeat refine g_seq ?_)
  refine g_cond_f rfl (g_skip ?_)
  refine g_seq ?_
  refine g_join (σ := Nat × List ByteArray) (fun x => [(0, .slice p n c), (1, .slice q x.1 d)]) (fun _ => []) (fun x => RdV w q (x.2.map Value.string) ∧ x.2.length = x.1 ∧ x.1 ≤ m) ?_ (fun x hx => ?_)
  · by_cases h8 : m > 8
    · by_cases h64 : m ≤ 64
      · (repeat refine g_seq ?_)
        refine g_region ?_
        refine g_pu rfl rfl rfl (pu_move rfl rfl) ?_
        first | refine g_pu rfl rfl rfl (pu_len rfl rfl) ?_ | refine g_pu rfl rfl rfl (pu_lenS rfl rfl) ?_
        refine g_pu rfl rfl rfl (pu_gtr_t rfl rfl rfl (by omega)) ?_
        refine g_pu rfl rfl rfl (pu_move rfl rfl) ?_
        first | refine g_pass rfl rfl rfl ?_ | refine g_pu rfl rfl rfl (pu_move rfl rfl) ?_
        first | refine g_pass rfl rfl rfl ?_ | refine g_pu rfl rfl rfl (pu_len rfl rfl) ?_ | refine g_pu rfl rfl rfl (pu_lenS rfl rfl) ?_
        refine g_pu rfl rfl rfl (pu_leq_t rfl rfl rfl (by omega)) ?_
        first | refine g_pu rfl rfl rfl (pu_pick_t rfl rfl rfl) ?_ | refine g_pu rfl rfl rfl (pu_pick_f rfl rfl rfl) ?_
        refine g_nil ?_
        (repeat refine g_seq ?_)
        refine g_cond_t rfl ?_
        (repeat refine g_seq ?_)
        refine g_region ?_
        refine g_pu rfl rfl rfl (pu_move rfl rfl) ?_
        refine g_pu rfl rfl rfl (pu_slice_h 8 rfl rfl rfl rfl (by omega)) ?_
        refine g_pu rfl rfl rfl (pu_assign rfl rfl) ?_
        refine g_nil ?_
        exact g_meet (8, ss.take 8) ⟨by rw [List.map_take]; exact hq.fst, by rw [List.length_take]; show min 8 ss.length = 8; omega, by show 8 ≤ m; omega⟩ ⟨rfl, rfl, trivial⟩ trivial
      · (repeat refine g_seq ?_)
        refine g_region ?_
        refine g_pu rfl rfl rfl (pu_move rfl rfl) ?_
        first | refine g_pu rfl rfl rfl (pu_len rfl rfl) ?_ | refine g_pu rfl rfl rfl (pu_lenS rfl rfl) ?_
        refine g_pu rfl rfl rfl (pu_gtr_t rfl rfl rfl (by omega)) ?_
        refine g_pu rfl rfl rfl (pu_move rfl rfl) ?_
        first | refine g_pass rfl rfl rfl ?_ | refine g_pu rfl rfl rfl (pu_move rfl rfl) ?_
        first | refine g_pass rfl rfl rfl ?_ | refine g_pu rfl rfl rfl (pu_len rfl rfl) ?_ | refine g_pu rfl rfl rfl (pu_lenS rfl rfl) ?_
        refine g_pu rfl rfl rfl (pu_leq_f rfl rfl rfl (by omega)) ?_
        first | refine g_pu rfl rfl rfl (pu_pick_t rfl rfl rfl) ?_ | refine g_pu rfl rfl rfl (pu_pick_f rfl rfl rfl) ?_
        refine g_nil ?_
        (repeat refine g_seq ?_)
        refine g_cond_f rfl (g_skip ?_)
        exact g_meet (m, ss) ⟨hq, hm', by show m ≤ m; omega⟩ ⟨rfl, rfl, trivial⟩ trivial
    · (repeat refine g_seq ?_)
      refine g_region ?_
      refine g_pu rfl rfl rfl (pu_move rfl rfl) ?_
      first | refine g_pu rfl rfl rfl (pu_len rfl rfl) ?_ | refine g_pu rfl rfl rfl (pu_lenS rfl rfl) ?_
      refine g_pu rfl rfl rfl (pu_gtr_f rfl rfl rfl (by omega)) ?_
      refine g_pu rfl rfl rfl (pu_move rfl rfl) ?_
      first | refine g_pass rfl rfl rfl ?_ | refine g_pu rfl rfl rfl (pu_move rfl rfl) ?_
      first | refine g_pass rfl rfl rfl ?_ | refine g_pu rfl rfl rfl (pu_len rfl rfl) ?_ | refine g_pu rfl rfl rfl (pu_lenS rfl rfl) ?_
      first | refine g_pass rfl rfl rfl ?_ | refine g_pu rfl rfl rfl (pu_leq_t rfl rfl rfl (by omega)) ?_ | refine g_pu rfl rfl rfl (pu_leq_f rfl rfl rfl (by omega)) ?_ | refine g_pu rfl rfl rfl (pu_leq rfl rfl rfl) ?_
      first | refine g_pu rfl rfl rfl (pu_pick_t rfl rfl rfl) ?_ | refine g_pu rfl rfl rfl (pu_pick_f rfl rfl rfl) ?_
      refine g_nil ?_
      (repeat refine g_seq ?_)
      refine g_cond_f rfl (g_skip ?_)
      exact g_meet (m, ss) ⟨hq, hm', by show m ≤ m; omega⟩ ⟨rfl, rfl, trivial⟩ trivial
  obtain ⟨m1, s1⟩ := x
  obtain ⟨h1, h2, h3⟩ := hx
  dsimp only at h1 h2 h3 ⊢
  have hml := makeN_len seed s1
  have hmo := makeN_hok seed s1
  have hmc := makeN_chk seed s1
  have hmf := makeN_fit seed s1
  have hsl : (s1.map Value.string).length = m1 := by rw [List.length_map, h2]
  (repeat refine g_seq ?_)
  refine g_region ?_
  refine g_pu rfl rfl rfl (pu_move rfl rfl) ?_
  refine g_call [25] rfl rfl rfl rfl rfl rfl (fun w' hm => Copy_b w' c (ha.m hm)) (fun x25 _ => ?_)
  refine g_lo [26] rfl rfl rfl rfl (lo_buildSlice0 rfl) (fun b26 hb26 => ?_)
  refine g_own 26 (L := []) (J := []) (c := 0) (s := 1) rfl (by simp) (by omega) ?_
  refine g_pu rfl rfl rfl (pu_move rfl rfl) ?_
  refine g_append1 26 (s1.map Value.string) rfl rfl rfl rfl rfl rfl rfl rfl rfl (fun w' hm => h1.mem0 hm) hsl (oneCell_strN s1) (by omega) (by omega) (fun p1 c1 => ?_)
  rw [Nat.zero_add, List.nil_append]
  refine g_call [29] rfl rfl rfl rfl rfl rfl (fun w' hm => DMake_b w' x25.c c1 (seed := seed) (ss := s1) (By.ow 25 rfl hm hal (by omega)) (Own.rd (hm.holds 26 _ rfl)) h2 hnb (by omega)) (fun x29 _ => ?_)
  refine g_pu rfl rfl rfl (pu_move rfl rfl) ?_
  refine g_pu rfl rfl rfl (pu_extract rfl rfl rfl) ?_
  refine g_pu rfl rfl rfl (pu_extract rfl rfl rfl) ?_
  refine g_pu rfl rfl rfl (pu_assign rfl rfl) ?_
  refine g_pu rfl rfl rfl (pu_assign rfl rfl) ?_
  refine g_nil ?_
  (repeat refine g_seq ?_)
  refine g_region ?_
  refine g_pu rfl rfl rfl (pu_move rfl rfl) ?_
  refine g_pu rfl rfl rfl (pu_move rfl rfl) ?_
  refine g_call [35] rfl rfl rfl rfl rfl rfl (fun w' hm => RDMake_b w' c d (seed := seed) (ss := s1) (ha.m hm) (h1.mem0 hm) h2 hnb (by omega)) (fun x35 _ => ?_)
  refine g_pu rfl rfl rfl (pu_move rfl rfl) ?_
  refine g_pu rfl rfl rfl (pu_extract rfl rfl rfl) ?_
  refine g_pu rfl rfl rfl (pu_extract rfl rfl rfl) ?_
  refine g_pu rfl rfl rfl (pu_assign rfl rfl) ?_
  refine g_pu rfl rfl rfl (pu_assign rfl rfl) ?_
  refine g_nil ?_
  generalize makeN seed s1 = K at hml hmo hmc hmf
  (repeat refine g_seq ?_)
  refine g_region ?_
  refine g_pu rfl rfl rfl (pu_move rfl rfl) ?_
  refine g_pu rfl rfl rfl (pu_move rfl rfl) ?_
  refine g_pu rfl rfl rfl (pu_neq_f rfl rfl rfl (fun h => h rfl)) ?_
  refine g_pu rfl rfl rfl (pu_move rfl rfl) ?_
  first | refine g_pass rfl rfl rfl ?_ | refine g_pu rfl rfl rfl (pu_move rfl rfl) ?_
  first | refine g_pass rfl rfl rfl ?_ | refine g_pu rfl rfl rfl (pu_move rfl rfl) ?_
  refine g_call [] rfl rfl rfl rfl rfl rfl (fun w' hm => DSame_b w' x29.c x35.c (hs := K.1) (Ow.rd (t := 29) rfl hm) (Ow.rd (t := 35) rfl hm) rfl hmo (by omega)) (fun _ _ => ?_)
  first | refine g_pass rfl rfl rfl ?_ | refine g_pu rfl rfl rfl (pu_not rfl rfl) ?_
  first | refine g_pu rfl rfl rfl (pu_pick_t rfl rfl rfl) ?_ | refine g_pu rfl rfl rfl (pu_pick_f rfl rfl rfl) ?_
  refine g_nil ?_
  (repeat refine g_seq ?_)
  refine g_cond_f rfl (g_skip ?_)
  (repeat refine g_seq ?_)
  refine g_region ?_
  refine g_pu rfl rfl rfl (pu_move rfl rfl) ?_
  refine g_call [] rfl rfl rfl rfl rfl rfl (fun w' hm => DFits_b w' x29.c (hs := K.1) (Ow.rd (t := 29) rfl hm) rfl hmo) (fun _ _ => ?_)
  rw [hmf]
  refine g_pu rfl rfl rfl (pu_move rfl rfl) ?_
  refine g_pu rfl rfl rfl (pu_extract rfl rfl rfl) ?_
  refine g_pu rfl rfl rfl (pu_extract rfl rfl rfl) ?_
  refine g_pu rfl rfl rfl (pu_assign rfl rfl) ?_
  refine g_pu rfl rfl rfl (pu_assign rfl rfl) ?_
  refine g_nil ?_
  (repeat refine g_seq ?_)
  refine g_region ?_
  refine g_pu rfl rfl rfl (pu_move rfl rfl) ?_
  refine g_pu rfl rfl rfl (pu_move rfl rfl) ?_
  first | refine g_pass rfl rfl rfl ?_ | refine g_pu rfl rfl rfl (pu_move rfl rfl) ?_
  refine g_pu rfl rfl rfl (pu_eql_t rfl rfl rfl rfl) ?_
  first | refine g_pu rfl rfl rfl (pu_pick_t rfl rfl rfl) ?_ | refine g_pu rfl rfl rfl (pu_pick_f rfl rfl rfl) ?_
  refine g_pu rfl rfl rfl (pu_move rfl rfl) ?_
  first | refine g_pass rfl rfl rfl ?_ | refine g_pu rfl rfl rfl (pu_move rfl rfl) ?_
  refine g_call [] rfl rfl rfl rfl rfl rfl (fun w' hm => DCheck_b w' x29.c (hs := K.1) (Ow.rd (t := 29) rfl hm) rfl hmo) (fun _ _ => ?_)
  rw [hmc]
  refine g_pu rfl rfl rfl (pu_eql_t rfl rfl rfl rfl) ?_
  first | refine g_pu rfl rfl rfl (pu_pick_t rfl rfl rfl) ?_ | refine g_pu rfl rfl rfl (pu_pick_f rfl rfl rfl) ?_
  refine g_pu rfl rfl rfl (pu_assign rfl rfl) ?_
  refine g_nil ?_
  exact g_ret1 rfl rfl (fun w' hm => ⟨(), trivial, rfl, hm.grows [] trivial rfl⟩)
end Go.Sx

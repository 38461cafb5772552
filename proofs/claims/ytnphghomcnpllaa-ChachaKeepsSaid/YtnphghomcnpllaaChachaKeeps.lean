/-
  ChachaKeeps: no call of chacha changes or keeps what it is handed, and all answers are memory of their own. No condition.
-/
import Derived.Test.YtnphghomcnpllaaChachaStreams
import Derived.Test.YtnphghomcnpllaaH8
import Derived.Test.YtnphghomcnpllaaCC
set_option linter.unusedVariables false
set_option linter.unusedSimpArgs false
namespace Go.Sx
open Go Go.Proofs

/-- What the calls answer. -/
def chL (key b : List (BitVec 8)) : List (List (BitVec 8)) :=
  [stL key 70, turnL key (b ++ b), turnL key b] ++ (if key.length = 32 then [streamL key 0 5, if 5 + b.length ≤ 65536 then xorL b (streamL key 5 b.length) else []] else [])
theorem chL_small {key b l : List (BitVec 8)} (h : l ∈ chL key b) : l.length ≤ 65536 := by
  have ht : ∀ all, (turnL key all).length ≤ 65536 := fun all => by
    by_cases h0 : turnE key all.length = 0
    · have h1 : turnL key all = xorL all (streamL key 0 all.length) := by unfold turnL; rw [if_pos h0]
      rw [h1, xorL_length (by rw [streamL_length])]
      unfold turnE at h0
      split at h0
      · cases h0
      · split at h0
        · cases h0
        · omega
    · have h1 : turnL key all = [] := by unfold turnL; rw [if_neg h0]
      rw [h1]; simp
  unfold chL at h
  rcases List.mem_append.1 h with h1 | h1
  · simp only [List.mem_cons, List.not_mem_nil, or_false] at h1
    rcases h1 with rfl | rfl | rfl
    · exact stL_length key 70
    · exact ht _
    · exact ht _
  · split at h1
    · simp only [List.mem_cons, List.not_mem_nil, or_false] at h1
      rcases h1 with rfl | rfl
      · rw [streamL_length]; omega
      · split
        · rw [xorL_length (by rw [streamL_length])]; omega
        · simp
    · simp at h1

theorem lists04_b (w : World) {p q : Option Addr} {n m : Nat} (c d : Nat) {key b : List (BitVec 8)} (ha : By w p n key) (hb : By w q m b) (hm2 : m ≤ 140737488351232) :
    Spec Try.prog 22 #[.slice p n c, .slice q m d] w (σ := Ow × List Otm) (fun s => conts s.2 = chL key b) (fun s => s.1.sl s.2.length) Nob (fun s => [s.1.ck 28 1 (vals s.2), .fact (BSC s.2) (BagC 5 s.2)]) := by
  refine enter Try.func22 rfl rfl (Mem.start w) ?_
  have hkl := ha.len
  have hbl := hb.len
  subst hbl
  (repeat refine g_seq ?_)
  refine g_region ?_
  refine g_pu rfl rfl rfl (pu_assign rfl rfl) ?_
  refine g_nil ?_
  (repeat refine g_seq ?_)
  refine g_region ?_
  refine g_pu rfl rfl rfl (pu_move rfl rfl) ?_
  refine g_call [20] rfl rfl rfl rfl rfl rfl (fun w' hm => Stream_b w' c 70 (ha.m hm)) (fun x20 _ => ?_)
  refine g_pu rfl rfl rfl (pu_move rfl rfl) ?_
  refine g_pu rfl rfl rfl (pu_extract rfl rfl rfl) ?_
  refine g_pu rfl rfl rfl (pu_extract rfl rfl rfl) ?_
  refine g_pu rfl rfl rfl (pu_assign rfl rfl) ?_
  refine g_pu rfl rfl rfl (pu_assign rfl rfl) ?_
  refine g_nil ?_
  (repeat refine g_seq ?_)
  refine g_region ?_
  refine g_pu rfl rfl rfl (pu_move rfl rfl) ?_
  refine g_pu rfl rfl rfl (pu_move rfl rfl) ?_
  refine g_pu rfl rfl rfl (pu_move rfl rfl) ?_
  refine g_lo [27] rfl rfl rfl rfl (lo_buildSlice rfl rfl (by decide) (by decide) rfl rfl) (fun b27 hb27 => ?_)
  refine g_call [28] rfl rfl rfl rfl rfl rfl (fun w' hm => Turn_b w' c 2 (L := [.slice q b.length d, .slice q b.length d]) (ls := [b, b]) (ha.m hm) ⟨hm.rowA 27 rfl, rfl, All2.cons ⟨_, _, _, rfl, hb.m hm, fun _ _ => trivial⟩ (All2.cons ⟨_, _, _, rfl, hb.m hm, fun _ _ => trivial⟩ All2.nil), by omega⟩ (by omega) (by simp; omega)) (fun x28 _ => ?_)
  rw [show [b, b].flatten = b ++ b by simp]
  refine g_pu rfl rfl rfl (pu_move rfl rfl) ?_
  refine g_pu rfl rfl rfl (pu_extract rfl rfl rfl) ?_
  refine g_pu rfl rfl rfl (pu_extract rfl rfl rfl) ?_
  refine g_pu rfl rfl rfl (pu_assign rfl rfl) ?_
  refine g_pu rfl rfl rfl (pu_assign rfl rfl) ?_
  refine g_nil ?_
  (repeat refine g_seq ?_)
  refine g_region ?_
  refine g_pu rfl rfl rfl (pu_move rfl rfl) ?_
  refine g_pu rfl rfl rfl (pu_move rfl rfl) ?_
  refine g_lo [34] rfl rfl rfl rfl (lo_buildSlice rfl rfl (by decide) (by decide) rfl rfl) (fun b34 hb34 => ?_)
  refine g_call [35] rfl rfl rfl rfl rfl rfl (fun w' hm => Turn_b w' c 1 (L := [.slice q b.length d]) (ls := [b]) (ha.m hm) ⟨hm.rowA 34 rfl, rfl, All2.cons ⟨_, _, _, rfl, hb.m hm, fun _ _ => trivial⟩ All2.nil, by omega⟩ (by omega) (by simp; omega)) (fun x35 _ => ?_)
  rw [show [b].flatten = b by simp]
  refine g_pu rfl rfl rfl (pu_move rfl rfl) ?_
  refine g_pu rfl rfl rfl (pu_extract rfl rfl rfl) ?_
  refine g_pu rfl rfl rfl (pu_extract rfl rfl rfl) ?_
  refine g_pu rfl rfl rfl (pu_assign rfl rfl) ?_
  refine g_pu rfl rfl rfl (pu_assign rfl rfl) ?_
  refine g_nil ?_
  by_cases h32 : n = 32
  · subst h32
    (repeat refine g_seq ?_)
    refine g_region ?_
    refine g_pu rfl rfl rfl (pu_move rfl rfl) ?_
    refine g_pu rfl rfl rfl (pu_move rfl rfl) ?_
    refine g_pu rfl rfl rfl (pu_move rfl rfl) ?_
    refine g_lo [41] rfl rfl rfl rfl (lo_buildSlice rfl rfl (by decide) (by decide) rfl rfl) (fun b41 hb41 => ?_)
    refine g_own 41 (L := [x20.sl (stL key 70).length, x28.sl (turnL key (b ++ b)).length, x35.sl (turnL key b).length]) (J := []) (c := 3) (s := 1) rfl (by simp) (by omega) ?_
    refine g_pu rfl rfl rfl (pu_assign rfl rfl) ?_
    refine g_nil ?_
    (repeat refine g_seq ?_)
    refine g_region ?_
    refine g_pu rfl rfl rfl (pu_move rfl rfl) ?_
    refine g_call [44] rfl rfl rfl rfl rfl rfl (fun w' hm => New_b w' c (ha.m hm)) (fun x44 _ => ?_)
    refine g_pu rfl rfl rfl (pu_move rfl rfl) ?_
    refine g_pu rfl rfl rfl (pu_extract rfl rfl rfl) ?_
    refine g_pu rfl rfl rfl (pu_extract rfl rfl rfl) ?_
    refine g_pu rfl rfl rfl (pu_assign rfl rfl) ?_
    refine g_pu rfl rfl rfl (pu_assign rfl rfl) ?_
    refine g_nil ?_
    refine g_know (φ := w.heap.size ≤ x44) (fun w' hm => (hm.above 44 _ rfl x44 rfl).resolve_right (fun h => h)) (fun hx44 => ?_)
    (repeat refine g_seq ?_)
    refine g_region ?_
    refine g_pu rfl rfl rfl (pu_move rfl rfl) ?_
    first | refine g_pu rfl rfl rfl (pu_eql_t rfl rfl rfl (by omega)) ?_ | refine g_pu rfl rfl rfl (pu_eql_f rfl rfl rfl (by omega)) ?_ | refine g_pu rfl rfl rfl (pu_eql rfl rfl rfl) ?_
    refine g_pu rfl rfl rfl (pu_move rfl rfl) ?_
    first | refine g_pass rfl rfl rfl ?_ | refine g_pu rfl rfl rfl (pu_move rfl rfl) ?_
    refine g_pu rfl rfl rfl (pu_neqP rfl rfl rfl) ?_
    first | refine g_pu rfl rfl rfl (pu_pick_t rfl rfl rfl) ?_ | refine g_pu rfl rfl rfl (pu_pick_f rfl rfl rfl) ?_
    refine g_nil ?_
    (repeat refine g_seq ?_)
    refine g_cond_t rfl ?_
    (repeat refine g_seq ?_)
    refine g_region ?_
    refine g_pu rfl rfl rfl (pu_move rfl rfl) ?_
    refine g_callW [44] [55, 44] rfl rfl rfl rfl rfl rfl (fun j hj => ⟨44, by simp, _, rfl, hj⟩) (fun w' hm => Next_b w' x44 0 5 (hm.holds 44 _ rfl) hkl (by omega)) (fun x55 _ => ?_)
    refine g_pu rfl rfl rfl (pu_move rfl rfl) ?_
    refine g_pu rfl rfl rfl (pu_extract rfl rfl rfl) ?_
    refine g_pu rfl rfl rfl (pu_extract rfl rfl rfl) ?_
    refine g_pu rfl rfl rfl (pu_assign rfl rfl) ?_
    refine g_pu rfl rfl rfl (pu_assign rfl rfl) ?_
    refine g_nil ?_
    have hcond : ∀ (w' : World) {M : List (Nat × Ck)}, Mem w Nob M w' → ∀ {bb : Nat}, By w' q b.length b → RdV w' (some ⟨bb, 0, none⟩) [.slice q b.length d] → ByL w' (some ⟨bb, 0, none⟩) 1 [.slice q b.length d] [b] := fun w' M hm bb h1 h2 => ⟨h2, rfl, All2.cons ⟨_, _, _, rfl, h1, fun _ _ => trivial⟩ All2.nil, by omega⟩
    have hq : ∀ j, 0 < b.length → At q j → ¬ j = x44 := fun j h0 hj e => by have := hb.lt h0 hj; omega
    by_cases hs : 5 + b.length ≤ 65536
    · have hch : chL key b = [stL key 70, turnL key (b ++ b), turnL key b, streamL key 0 5, xorL b (streamL key 5 b.length)] := by
        unfold chL
        rw [if_pos hkl, if_pos (by omega)]
        rfl
      have hxl : (xorL b (streamL key 5 b.length)).length = b.length := by rw [xorL_length (by rw [streamL_length])]
      (repeat refine g_seq ?_)
      refine g_region ?_
      refine g_pu rfl rfl rfl (pu_move rfl rfl) ?_
      refine g_pu rfl rfl rfl (pu_move rfl rfl) ?_
      refine g_lo [61] rfl rfl rfl rfl (lo_buildSlice rfl rfl (by decide) (by decide) rfl rfl) (fun b61 hb61 => ?_)
      refine g_callW [44] [62, 44] rfl rfl rfl rfl rfl rfl (fun j hj => ⟨44, by simp, _, rfl, hj⟩) (fun w' hm => FTurn_b w' x44 5 1 (L := [.slice q b.length d]) (ls := [b]) (hm.holds 44 _ rfl) hkl (hcond w' hm (hb.m hm) (hm.rowA 61 rfl)) (by omega) (by simp; omega) (fun _ b o e h => by cases e; exact hm.apart 61 _ 44 _ rfl rfl (by decide) _ rfl h) (fun q m c hv h0 j hj h => by cases List.mem_singleton.1 hv; exact hq j h0 hj h) (by simp; omega)) (fun x62 _ => ?_)
      rw [show [b].flatten = b by simp]
      refine g_pu rfl rfl rfl (pu_move rfl rfl) ?_
      refine g_pu rfl rfl rfl (pu_extract rfl rfl rfl) ?_
      refine g_pu rfl rfl rfl (pu_extract rfl rfl rfl) ?_
      refine g_pu rfl rfl rfl (pu_assign rfl rfl) ?_
      refine g_pu rfl rfl rfl (pu_assign rfl rfl) ?_
      refine g_nil ?_
      (repeat refine g_seq ?_)
      refine g_region ?_
      refine g_pu rfl rfl rfl (pu_move rfl rfl) ?_
      refine g_pu rfl rfl rfl (pu_move rfl rfl) ?_
      refine g_pu rfl rfl rfl (pu_move rfl rfl) ?_
      refine g_lo [68] rfl rfl rfl rfl (lo_buildSlice rfl rfl (by decide) (by decide) rfl rfl) (fun b68 hb68 => ?_)
      refine g_append1 41 [x55.sl 5, x62.sl b.length] rfl rfl rfl rfl rfl rfl rfl rfl rfl (fun w' hm => hm.rowA 68 rfl) rfl (fun u hu => by simp only [List.mem_cons, List.not_mem_nil, or_false] at hu; rcases hu with rfl | rfl <;> rfl) (by omega) (by omega) (fun p1 c1 => ?_)
      refine g_pu rfl rfl rfl (pu_assign rfl rfl) ?_
      refine g_nil ?_
      (repeat refine g_seq ?_)
      refine g_region ?_
      refine g_pu rfl rfl rfl (pu_move rfl rfl) ?_
      refine g_pu rfl rfl rfl (pu_assign rfl rfl) ?_
      refine g_nil ?_
      refine g_bagC [20, 28, 35, 55, 62] 300 (xs := [(x20, stL key 70), (x28, turnL key (b ++ b)), (x35, turnL key b), (x55, streamL key 0 5), (x62, xorL b (streamL key 5 b.length))]) ⟨.inl rfl, rfl, .inl rfl, rfl, .inl rfl, rfl, .inl rfl, rfl, .inl rfl, rfl, trivial⟩ rfl ?_
      refine g_ret1 rfl rfl (fun w' hm => ⟨(⟨p1, c1⟩, [(x20, stL key 70), (x28, turnL key (b ++ b)), (x35, turnL key b), (x55, streamL key 0 5), (x62, xorL b (streamL key 5 b.length))]), by rw [hch]; rfl, rfl, hm.grows [41, 300] ⟨?_, rfl, trivial⟩ rfl⟩)
      unfold vals
      simp only [List.map_cons, List.map_nil, streamL_length, hxl]
      rfl
    · have hch : chL key b = [stL key 70, turnL key (b ++ b), turnL key b, streamL key 0 5, []] := by
        unfold chL
        rw [if_pos hkl, if_neg (by omega)]
        rfl
      (repeat refine g_seq ?_)
      refine g_region ?_
      refine g_pu rfl rfl rfl (pu_move rfl rfl) ?_
      refine g_pu rfl rfl rfl (pu_move rfl rfl) ?_
      refine g_lo [61] rfl rfl rfl rfl (lo_buildSlice rfl rfl (by decide) (by decide) rfl rfl) (fun b61 hb61 => ?_)
      refine g_callW [44] [44] rfl rfl rfl rfl rfl rfl (fun j hj => ⟨44, by simp, _, rfl, hj⟩) (fun w' hm => FTurn_e w' x44 5 1 (L := [.slice q b.length d]) (ls := [b]) (hm.holds 44 _ rfl) hkl (hcond w' hm (hb.m hm) (hm.rowA 61 rfl)) (by omega) (by simp; omega) (fun _ b o e h => by cases e; exact hm.apart 61 _ 44 _ rfl rfl (by decide) _ rfl h) (fun q m c hv h0 j hj h => by cases List.mem_singleton.1 hv; exact hq j h0 hj h) (by omega) (by simp; omega)) (fun _ _ => ?_)
      refine g_pu rfl rfl rfl (pu_move rfl rfl) ?_
      refine g_pu rfl rfl rfl (pu_extract rfl rfl rfl) ?_
      refine g_pu rfl rfl rfl (pu_extract rfl rfl rfl) ?_
      refine g_pu rfl rfl rfl (pu_assign rfl rfl) ?_
      refine g_pu rfl rfl rfl (pu_assign rfl rfl) ?_
      refine g_nil ?_
      refine g_nilOwn 62 5 1 rfl ?_
      (repeat refine g_seq ?_)
      refine g_region ?_
      refine g_pu rfl rfl rfl (pu_move rfl rfl) ?_
      refine g_pu rfl rfl rfl (pu_move rfl rfl) ?_
      refine g_pu rfl rfl rfl (pu_move rfl rfl) ?_
      refine g_lo [68] rfl rfl rfl rfl (lo_buildSlice rfl rfl (by decide) (by decide) rfl rfl) (fun b68 hb68 => ?_)
      refine g_append1 41 [x55.sl 5, .slice none 0 0] rfl rfl rfl rfl rfl rfl rfl rfl rfl (fun w' hm => hm.rowA 68 rfl) rfl (fun u hu => by simp only [List.mem_cons, List.not_mem_nil, or_false] at hu; rcases hu with rfl | rfl <;> rfl) (by omega) (by omega) (fun p1 c1 => ?_)
      refine g_pu rfl rfl rfl (pu_assign rfl rfl) ?_
      refine g_nil ?_
      (repeat refine g_seq ?_)
      refine g_region ?_
      refine g_pu rfl rfl rfl (pu_move rfl rfl) ?_
      refine g_pu rfl rfl rfl (pu_assign rfl rfl) ?_
      refine g_nil ?_
      refine g_bagC [20, 28, 35, 55, 62] 300 (xs := [(x20, stL key 70), (x28, turnL key (b ++ b)), (x35, turnL key b), (x55, streamL key 0 5), (⟨none, 0⟩, [])]) ⟨.inl rfl, rfl, .inl rfl, rfl, .inl rfl, rfl, .inl rfl, rfl, .inl rfl, rfl, trivial⟩ rfl ?_
      refine g_ret1 rfl rfl (fun w' hm => ⟨(⟨p1, c1⟩, [(x20, stL key 70), (x28, turnL key (b ++ b)), (x35, turnL key b), (x55, streamL key 0 5), (⟨none, 0⟩, [])]), by rw [hch]; rfl, rfl, hm.grows [41, 300] ⟨?_, rfl, trivial⟩ rfl⟩)
      unfold vals
      simp only [List.map_cons, List.map_nil, streamL_length]
      rfl
  · have hch : chL key b = [stL key 70, turnL key (b ++ b), turnL key b] := by
      unfold chL
      rw [if_neg (by omega), List.append_nil]
    (repeat refine g_seq ?_)
    refine g_region ?_
    refine g_pu rfl rfl rfl (pu_move rfl rfl) ?_
    refine g_pu rfl rfl rfl (pu_move rfl rfl) ?_
    refine g_pu rfl rfl rfl (pu_move rfl rfl) ?_
    refine g_lo [41] rfl rfl rfl rfl (lo_buildSlice rfl rfl (by decide) (by decide) rfl rfl) (fun b41 hb41 => ?_)
    refine g_own 41 (L := [x20.sl (stL key 70).length, x28.sl (turnL key (b ++ b)).length, x35.sl (turnL key b).length]) (J := []) (c := 3) (s := 1) rfl (by simp) (by omega) ?_
    refine g_pu rfl rfl rfl (pu_assign rfl rfl) ?_
    refine g_nil ?_
    (repeat refine g_seq ?_)
    refine g_region ?_
    refine g_pu rfl rfl rfl (pu_move rfl rfl) ?_
    refine g_call [] rfl rfl rfl rfl rfl rfl (fun w' hm => New_e w' c h32) (fun _ _ => ?_)
    refine g_pu rfl rfl rfl (pu_move rfl rfl) ?_
    refine g_pu rfl rfl rfl (pu_extract rfl rfl rfl) ?_
    refine g_pu rfl rfl rfl (pu_extract rfl rfl rfl) ?_
    refine g_pu rfl rfl rfl (pu_assign rfl rfl) ?_
    refine g_pu rfl rfl rfl (pu_assign rfl rfl) ?_
    refine g_nil ?_
    (repeat refine g_seq ?_)
    refine g_region ?_
    refine g_pu rfl rfl rfl (pu_move rfl rfl) ?_
    first | refine g_pu rfl rfl rfl (pu_eql_t rfl rfl rfl (by omega)) ?_ | refine g_pu rfl rfl rfl (pu_eql_f rfl rfl rfl (by omega)) ?_ | refine g_pu rfl rfl rfl (pu_eql rfl rfl rfl) ?_
    refine g_pu rfl rfl rfl (pu_move rfl rfl) ?_
    first | refine g_pass rfl rfl rfl ?_ | refine g_pu rfl rfl rfl (pu_move rfl rfl) ?_
    refine g_pass rfl rfl rfl ?_
    first | refine g_pu rfl rfl rfl (pu_pick_t rfl rfl rfl) ?_ | refine g_pu rfl rfl rfl (pu_pick_f rfl rfl rfl) ?_
    refine g_nil ?_
    (repeat refine g_seq ?_)
    refine g_cond_f rfl (g_skip ?_)
    (repeat refine g_seq ?_)
    refine g_region ?_
    refine g_pu rfl rfl rfl (pu_move rfl rfl) ?_
    refine g_pu rfl rfl rfl (pu_assign rfl rfl) ?_
    refine g_nil ?_
    refine g_bagC [20, 28, 35] 300 (xs := [(x20, stL key 70), (x28, turnL key (b ++ b)), (x35, turnL key b)]) ⟨.inl rfl, rfl, .inl rfl, rfl, .inl rfl, rfl, trivial⟩ rfl ?_
    exact g_ret1 rfl rfl (fun w' hm => ⟨(⟨some ⟨b41, 0, none⟩, 3⟩, [(x20, stL key 70), (x28, turnL key (b ++ b)), (x35, turnL key b)]), by rw [hch]; rfl, rfl, hm.grows [41, 300] ⟨rfl, rfl, trivial⟩ rfl⟩)
theorem chL_len (key b : List (BitVec 8)) : (chL key b).length ≤ 5 := by
  unfold chL
  split <;> simp

theorem ChachaKeeps_spec (w : World) {p q : Option Addr} {n m : Nat} (c d : Nat) {key b : List (BitVec 8)} (ha : By w p n key) (hb : By w q m b) (hnb : n ≤ 140737488351232) (hmb : m ≤ 140737488351232) :
    Spec Try.prog 7 #[.slice p n c, .slice q m d] w (σ := Unit) (fun _ => True) (fun _ => .bool true) Nob (fun _ => []) := by
  refine enter Try.func7 rfl rfl (Mem.start w) ?_
  have hal := ha.len
  have hbl := hb.len
  have hsa := spareL_length key 40
  have hsb := spareL_length b 40
  have hcl := chL_len key b
  have small : ∀ {X : List Otm}, conts X = chL key b → (∀ x ∈ X, x.2.length ≤ 65536) ∧ X.length ≤ 5 := fun {X} h => ⟨fun x hx => chL_small (key := key) (b := b) (by rw [← h]; exact List.mem_map.2 ⟨x, hx, rfl⟩), by have := congrArg List.length h; rw [conts_length] at this; omega⟩
  (repeat refine g_seq ?_)
  refine g_region ?_
  refine g_pu rfl rfl rfl (pu_assign rfl rfl) ?_
  refine g_nil ?_
  (repeat refine g_seq ?_)
  refine g_region ?_
  refine g_call [] rfl rfl rfl rfl rfl rfl (fun w' hm => awake_b w') (fun _ _ => ?_)
  refine g_pu rfl rfl rfl (pu_not rfl rfl) ?_
  refine g_nil ?_
  (repeat refine g_seq ?_)
  refine g_cond_f rfl (g_skip ?_)
  (repeat refine g_seq ?_)
  refine g_region ?_
  refine g_pu rfl rfl rfl (pu_move rfl rfl) ?_
  refine g_call [17] rfl rfl rfl rfl rfl rfl (fun w' hm => Spare_b w' c (ha.m hm)) (fun x17 _ => ?_)
  refine g_pu rfl rfl rfl (pu_move rfl rfl) ?_
  refine g_pu rfl rfl rfl (pu_extract rfl rfl rfl) ?_
  refine g_pu rfl rfl rfl (pu_extract rfl rfl rfl) ?_
  refine g_pu rfl rfl rfl (pu_assign rfl rfl) ?_
  refine g_pu rfl rfl rfl (pu_assign rfl rfl) ?_
  refine g_nil ?_
  (repeat refine g_seq ?_)
  refine g_region ?_
  refine g_pu rfl rfl rfl (pu_move rfl rfl) ?_
  refine g_call [22] rfl rfl rfl rfl rfl rfl (fun w' hm => Spare_b w' d (hb.m hm)) (fun x22 _ => ?_)
  refine g_pu rfl rfl rfl (pu_move rfl rfl) ?_
  refine g_pu rfl rfl rfl (pu_extract rfl rfl rfl) ?_
  refine g_pu rfl rfl rfl (pu_extract rfl rfl rfl) ?_
  refine g_pu rfl rfl rfl (pu_assign rfl rfl) ?_
  refine g_pu rfl rfl rfl (pu_assign rfl rfl) ?_
  refine g_nil ?_
  (repeat refine g_seq ?_)
  refine g_region ?_
  refine g_pu rfl rfl rfl (pu_move rfl rfl) ?_
  refine g_pu rfl rfl rfl (pu_move rfl rfl) ?_
  refine g_call [27, 127] rfl rfl rfl rfl rfl rfl (fun w' hm => lists04_b w' _ _ (By.spare 17 rfl hm hal (by omega)) (By.spare 22 rfl hm hbl (by omega)) (by omega)) (fun x27 h27 => ?_)
  refine g_pu rfl rfl rfl (pu_assign rfl rfl) ?_
  refine g_nil ?_
  obtain ⟨s27, l27⟩ := small h27
  (repeat refine g_seq ?_)
  refine g_region ?_
  refine g_pu rfl rfl rfl (pu_move rfl rfl) ?_
  refine g_call [29, 129] rfl rfl rfl rfl rfl rfl (fun w' hm => Copies_b w' _ (BagC.byl 27 127 rfl rfl hm rfl (fun x hx => by have := s27 x hx; omega) (by omega))) (fun x29 h29 => ?_)
  refine g_pu rfl rfl rfl (pu_assign rfl rfl) ?_
  refine g_nil ?_
  (repeat refine g_seq ?_)
  refine g_region ?_
  refine g_pu rfl rfl rfl (pu_move rfl rfl) ?_
  refine g_pu rfl rfl rfl (pu_move rfl rfl) ?_
  refine g_call [32, 132] rfl rfl rfl rfl rfl rfl (fun w' hm => lists04_b w' _ _ (By.spare 17 rfl hm hal (by omega)) (By.spare 22 rfl hm hbl (by omega)) (by omega)) (fun x32 h32 => ?_)
  refine g_pu rfl rfl rfl (pu_assign rfl rfl) ?_
  refine g_nil ?_
  obtain ⟨s32, l32⟩ := small h32
  (repeat refine g_seq ?_)
  refine g_region ?_
  refine g_pu rfl rfl rfl (pu_move rfl rfl) ?_
  refine g_pu rfl rfl rfl (pu_move rfl rfl) ?_
  refine g_call [] rfl rfl rfl rfl rfl rfl (fun w' hm => Equals_b w' _ _ (BagC.byl 32 132 rfl rfl hm rfl (fun x hx => by have := s32 x hx; omega) (by omega)) (Owl.by 29 129 rfl rfl hm h29.1 (by omega))) (fun _ _ => ?_)
  refine g_as (t := 35) (u := .bool true) rfl (by rw [h32, h27]; simp) rfl ?_
  refine g_pu rfl rfl rfl (pu_not rfl rfl) ?_
  refine g_pu rfl rfl rfl (pu_move rfl rfl) ?_
  first | refine g_pass rfl rfl rfl ?_ | refine g_pu rfl rfl rfl (pu_move rfl rfl) ?_
  first | refine g_pass rfl rfl rfl ?_ | refine g_pu rfl rfl rfl (pu_move rfl rfl) ?_
  refine g_call [] rfl rfl rfl rfl rfl rfl (fun w' hm => Kept_b w' _ c (By.full 17 rfl hm (by rw [hsa, hal]) (by omega)) (ha.m hm)) (fun _ _ => ?_)
  first | refine g_pass rfl rfl rfl ?_ | refine g_pu rfl rfl rfl (pu_not rfl rfl) ?_
  first | refine g_pu rfl rfl rfl (pu_pick_t rfl rfl rfl) ?_ | refine g_pu rfl rfl rfl (pu_pick_f rfl rfl rfl) ?_
  refine g_pu rfl rfl rfl (pu_move rfl rfl) ?_
  first | refine g_pass rfl rfl rfl ?_ | refine g_pu rfl rfl rfl (pu_move rfl rfl) ?_
  first | refine g_pass rfl rfl rfl ?_ | refine g_pu rfl rfl rfl (pu_move rfl rfl) ?_
  refine g_call [] rfl rfl rfl rfl rfl rfl (fun w' hm => Kept_b w' _ d (By.full 22 rfl hm (by rw [hsb, hbl]) (by omega)) (hb.m hm)) (fun _ _ => ?_)
  first | refine g_pass rfl rfl rfl ?_ | refine g_pu rfl rfl rfl (pu_not rfl rfl) ?_
  first | refine g_pu rfl rfl rfl (pu_pick_t rfl rfl rfl) ?_ | refine g_pu rfl rfl rfl (pu_pick_f rfl rfl rfl) ?_
  refine g_nil ?_
  (repeat refine g_seq ?_)
  refine g_cond_f rfl (g_skip ?_)
  (repeat refine g_seq ?_)
  refine g_region ?_
  refine g_pu rfl rfl rfl (pu_move rfl rfl) ?_
  refine g_callW [17] [17] rfl rfl rfl rfl rfl rfl (fun j hj => ⟨17, by simp, _, rfl, hj⟩) (fun w' hm => OverP_b w' x17 (n + 40) (l := key) (hm.holds 17 _ rfl) hal (by omega)) (fun _ _ => ?_)
  refine g_nil ?_
  (repeat refine g_seq ?_)
  refine g_region ?_
  refine g_pu rfl rfl rfl (pu_move rfl rfl) ?_
  refine g_callW [22] [22] rfl rfl rfl rfl rfl rfl (fun j hj => ⟨22, by simp, _, rfl, hj⟩) (fun w' hm => OverP_b w' x22 (m + 40) (l := b) (hm.holds 22 _ rfl) hbl (by omega)) (fun _ _ => ?_)
  refine g_nil ?_
  (repeat refine g_seq ?_)
  refine g_region ?_
  refine g_pu rfl rfl rfl (pu_move rfl rfl) ?_
  refine g_call [54] rfl rfl rfl rfl rfl rfl (fun w' hm => Copy_b w' c (ha.m hm)) (fun x54 _ => ?_)
  refine g_pu rfl rfl rfl (pu_move rfl rfl) ?_
  refine g_call [56] rfl rfl rfl rfl rfl rfl (fun w' hm => Copy_b w' d (hb.m hm)) (fun x56 _ => ?_)
  refine g_call [57, 157] rfl rfl rfl rfl rfl rfl (fun w' hm => lists04_b w' _ _ (By.ow 54 rfl hm hal (by omega)) (By.ow 56 rfl hm hbl (by omega)) (by omega)) (fun x57 h57 => ?_)
  refine g_pu rfl rfl rfl (pu_assign rfl rfl) ?_
  refine g_nil ?_
  obtain ⟨s57, l57⟩ := small h57
  (repeat refine g_seq ?_)
  refine g_region ?_
  refine g_pu rfl rfl rfl (pu_move rfl rfl) ?_
  refine g_pu rfl rfl rfl (pu_move rfl rfl) ?_
  refine g_call [] rfl rfl rfl rfl rfl rfl (fun w' hm => Equals_b w' _ _ (BagC.byl 27 127 rfl rfl hm rfl (fun x hx => by have := s27 x hx; omega) (by omega)) (Owl.by 29 129 rfl rfl hm h29.1 (by omega))) (fun _ _ => ?_)
  refine g_as (t := 60) (u := .bool true) rfl (by simp) rfl ?_
  refine g_pu rfl rfl rfl (pu_not rfl rfl) ?_
  refine g_pu rfl rfl rfl (pu_move rfl rfl) ?_
  first | refine g_pass rfl rfl rfl ?_ | refine g_pu rfl rfl rfl (pu_move rfl rfl) ?_
  first | refine g_pass rfl rfl rfl ?_ | refine g_pu rfl rfl rfl (pu_move rfl rfl) ?_
  refine g_call [] rfl rfl rfl rfl rfl rfl (fun w' hm => Equals_b w' _ _ (BagC.byl 32 132 rfl rfl hm rfl (fun x hx => by have := s32 x hx; omega) (by omega)) (Owl.by 29 129 rfl rfl hm h29.1 (by omega))) (fun _ _ => ?_)
  refine g_as (t := 65) (u := .bool true) rfl (by rw [h32, h27]; simp) rfl ?_
  first | refine g_pass rfl rfl rfl ?_ | refine g_pu rfl rfl rfl (pu_not rfl rfl) ?_
  first | refine g_pu rfl rfl rfl (pu_pick_t rfl rfl rfl) ?_ | refine g_pu rfl rfl rfl (pu_pick_f rfl rfl rfl) ?_
  refine g_pu rfl rfl rfl (pu_move rfl rfl) ?_
  first | refine g_pass rfl rfl rfl ?_ | refine g_pu rfl rfl rfl (pu_move rfl rfl) ?_
  first | refine g_pass rfl rfl rfl ?_ | refine g_pu rfl rfl rfl (pu_move rfl rfl) ?_
  refine g_call [] rfl rfl rfl rfl rfl rfl (fun w' hm => Equals_b w' _ _ (BagC.byl 57 157 rfl rfl hm rfl (fun x hx => by have := s57 x hx; omega) (by omega)) (Owl.by 29 129 rfl rfl hm h29.1 (by omega))) (fun _ _ => ?_)
  refine g_as (t := 71) (u := .bool true) rfl (by rw [h57, h27]; simp) rfl ?_
  first | refine g_pass rfl rfl rfl ?_ | refine g_pu rfl rfl rfl (pu_not rfl rfl) ?_
  first | refine g_pu rfl rfl rfl (pu_pick_t rfl rfl rfl) ?_ | refine g_pu rfl rfl rfl (pu_pick_f rfl rfl rfl) ?_
  refine g_nil ?_
  (repeat refine g_seq ?_)
  refine g_cond_f rfl (g_skip ?_)
  have hol : (bs (overL key n ++ (List.range 40).map fun t => spareB (key.length + t))).length = n + 40 := by rw [bs_length, List.length_append, overL_length]; simp [hal]
  have hol2 : (bs (overL b m ++ (List.range 40).map fun t => spareB (b.length + t))).length = m + 40 := by rw [bs_length, List.length_append, overL_length]; simp [hbl]
  refine g_know (φ := (∀ x ∈ x27.2, x.2.length ≤ x.1.c) ∧ (∀ x ∈ x32.2, x.2.length ≤ x.1.c) ∧ ∀ x ∈ x57.2, x.2.length ≤ x.1.c) (fun w' hm => ⟨BagC.le (hm.holds 127 _ rfl), BagC.le (hm.holds 132 _ rfl), BagC.le (hm.holds 157 _ rfl)⟩) (fun hcap => ?_)
  have h65 : ∀ {X : List Otm}, (∀ x ∈ X, x.2.length ≤ 65536) → ∀ x ∈ X, x.2.length ≤ 140737488355200 := fun h x hx => by have := h x hx; omega
  (repeat refine g_seq ?_)
  refine g_region ?_
  refine g_pu rfl rfl rfl (pu_move rfl rfl) ?_
  refine g_pu rfl rfl rfl (pu_move rfl rfl) ?_
  refine g_lo [76] rfl rfl rfl rfl (lo_buildSlice rfl rfl (by decide) (by decide) rfl rfl) (fun b76 hb76 => ?_)
  refine g_own 76 (L := [.slice (some ⟨x17, 0, none⟩) (n + 40) (n + 40), .slice (some ⟨x22, 0, none⟩) (m + 40) (m + 40)]) (J := []) (c := 2) (s := 1) rfl (by simp) (by omega) ?_
  refine g_pu rfl rfl rfl (pu_move rfl rfl) ?_
  refine g_append1 76 (vals x27.2) rfl rfl rfl rfl rfl rfl rfl rfl rfl (fun w' hm => Ow.rd (t := 27) rfl hm) (by rw [vals_length]) (oneCell_vals _) (by omega) (by omega) (fun p1 c1 => ?_)
  refine g_pu rfl rfl rfl (pu_move rfl rfl) ?_
  refine g_append1 76 (vals x32.2) rfl rfl rfl rfl rfl rfl rfl rfl (by rw [List.length_append, vals_length]; rfl) (fun w' hm => Ow.rd (t := 32) rfl hm) (by rw [vals_length]) (oneCell_vals _) (by omega) (by omega) (fun p2 c2 => ?_)
  refine g_pu rfl rfl rfl (pu_move rfl rfl) ?_
  refine g_append1 76 (vals x57.2) rfl rfl rfl rfl rfl rfl rfl rfl (by rw [List.length_append, List.length_append, vals_length, vals_length]; rfl) (fun w' hm => Ow.rd (t := 57) rfl hm) (by rw [vals_length]) (oneCell_vals _) (by omega) (by omega) (fun p3 c3 => ?_)
  refine g_callW [17, 22, 127, 132, 157] [] rfl rfl rfl rfl rfl rfl (TgL.ch (TgL.row 17 0 (n + 40) rfl (Nat.le_of_eq hol.symm) (by omega) rfl (TgL.row 22 1 (m + 40) rfl (Nat.le_of_eq hol2.symm) (by omega) rfl (TgL.otm 127 2 rfl rfl (TgL.otm 132 (2 + x27.2.length) rfl rfl (TgL.otm 157 (2 + x27.2.length + x32.2.length) rfl rfl TgL.nil)))))) (fun w' hm => Apart_o hm (TgL.row 17 0 (n + 40) rfl (Nat.le_of_eq hol.symm) (by omega) rfl (TgL.row 22 1 (m + 40) rfl (Nat.le_of_eq hol2.symm) (by omega) rfl (TgL.otm 127 2 rfl rfl (TgL.otm 132 (2 + x27.2.length) rfl rfl (TgL.otm 157 (2 + x27.2.length + x32.2.length) rfl rfl TgL.nil))))) 76 _ rfl rfl (HxL.five (n1 := n + 40) (n2 := m + 40) ⟨⟨rfl, rfl, rfl, Nat.le_refl _, by omega⟩, ⟨rfl, rfl, rfl, Nat.le_refl _, by omega⟩, trivial⟩ ⟨hcap.1, h65 s27⟩ ⟨hcap.2.1, h65 s32⟩ ⟨hcap.2.2, h65 s57⟩) (by simp [vals_length]; omega) (by omega)) (fun _ _ => ?_)
  refine g_pu rfl rfl rfl (pu_assign rfl rfl) ?_
  refine g_nil ?_
  exact g_ret1 rfl rfl (fun w' hm => ⟨(), trivial, rfl, hm.grows [] trivial rfl⟩)
end Go.Sx

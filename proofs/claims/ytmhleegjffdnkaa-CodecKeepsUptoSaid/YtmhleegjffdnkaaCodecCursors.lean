/-
  CodecCursors: a cursor hands out the bytes in order, each once, and a refused call takes nothing. No condition.
-/
import Derived.Test.YtmhleegjffdnkaaC4
import Derived.Test.YtmhleegjffdnkaaC13
import Derived.Test.YtmhleegjffdnkaaCOver
import Derived.Test.YtmhleegjffdnkaaC7
import Derived.Test.YtmhleegjffdnkaaCodecPads
set_option linter.unusedVariables false
set_option linter.unusedSimpArgs false
namespace Go.Sx
open Go Go.Proofs

theorem apartD {w0 w : World} {D : Blocks} {M : List (Nat × Ck)} (hm : Mem w0 D M w) (t t' : Nat) {E : TypeId} {bb : Nat} {ob : Obj} {x : Ow} {s : Nat} {L : List Value} (h : mget M t = some (x.ck E s L)) (h' : mget M t' = some (.pt bb ob)) (hne : t ≠ t') : ∀ b o, x.p = some ⟨b, o, none⟩ → ¬ b = bb := fun b o e hb => by
  refine hm.apart t _ t' _ h h' hne b ?_ hb
  show At x.p b
  rw [e]; exact At.some.2 rfl
theorem leC {w0 w : World} {D : Blocks} {M : List (Nat × Ck)} (hm : Mem w0 D M w) (t : Nat) {E : TypeId} {x : Ow} {l : List (BitVec 8)} {n : Nat} (h : mget M t = some (x.ck E 1 (bs l))) (hn : l.length = n) : n ≤ x.c := by
  have := Own.le (hm.holds t _ h); rw [bs_length] at this; omega
theorem takeN_take {n t k : Nat} (h : t + k ≤ n) : takeN n t (k : Int) = t + k ∧ takeE n t (k : Int) = 0 := by
  have hE : takeE n t (k : Int) = 0 := by unfold takeE; rw [if_neg (by omega), if_neg (by omega)]
  exact ⟨by simp [takeN, hE], hE⟩
theorem CodecCursors_spec (w : World) {p q : Option Addr} {n m : Nat} (c d : Nat) {l : List (BitVec 8)} (ks : List (Int × Int)) (ha : By w p n l) (hcap : n ≤ c) (hq : RdV w q (ks.map cells2).flatten) (hm : ks.length = m) (hbm : m ≤ 9223372036854775807) :
    Spec Try.prog 7 #[.slice p n c, .slice q m d] w (σ := Unit) (fun _ => True) (fun _ => .bool true) Nob (fun _ => []) := by
  refine enter Try.func7 rfl rfl (Mem.start w) ?_
  have hn := ha.len
  have hbig := ha.big
  (repeat refine g_seq ?_)
  refine g_region ?_
  refine g_pu rfl rfl rfl (pu_assign rfl rfl) ?_
  refine g_nil ?_
  (repeat refine g_seq ?_)
  refine g_region ?_
  refine g_lo [19] rfl rfl rfl rfl (lo_buildSlice rfl rfl (by decide) (by decide) rfl rfl) (fun b19 hb19 => ?_)
  refine g_call [20, 120] rfl rfl rfl rfl rfl rfl (fun w' hm => NewCursor_b w' _ (l := [1#8, 2#8, 3#8]) (By.full 19 rfl hm rfl (by decide))) (fun x20 _ => ?_)
  refine g_pu rfl rfl rfl (pu_assign rfl rfl) ?_
  refine g_nil ?_
  (repeat refine g_seq ?_)
  refine g_region ?_
  refine g_pu rfl rfl rfl (pu_move rfl rfl) ?_
  refine g_callW [20] [20, 23] rfl rfl rfl rfl rfl rfl (fun j hj => ⟨20, by simp, _, rfl, hj⟩) (fun w' hm => Take_b w' x20.1 (l := [1#8, 2#8, 3#8]) 2 (hm.holds 20 _ rfl) (By.ow 120 rfl hm rfl (by decide)) (leC hm 120 rfl rfl) (apartD hm 120 20 rfl rfl (by decide)) (by decide)) (fun x23 _ => ?_)
  rw [show takeV [1#8, 2#8, 3#8] 0 2 = [1#8, 2#8] from by decide, show takeE 3 0 2 = 0 from by decide, show takeN 3 0 2 = 2 from by decide]
  refine g_pu rfl rfl rfl (pu_move rfl rfl) ?_
  refine g_pu rfl rfl rfl (pu_extract rfl rfl rfl) ?_
  refine g_pu rfl rfl rfl (pu_extract rfl rfl rfl) ?_
  refine g_pu rfl rfl rfl (pu_assign rfl rfl) ?_
  refine g_pu rfl rfl rfl (pu_assign rfl rfl) ?_
  refine g_nil ?_
  (repeat refine g_seq ?_)
  refine g_region ?_
  refine g_pu rfl rfl rfl (pu_move rfl rfl) ?_
  refine g_pu rfl rfl rfl (pu_move rfl rfl) ?_
  refine g_lo [28] rfl rfl rfl rfl (lo_buildSlice rfl rfl (by decide) (by decide) rfl rfl) (fun b28 hb28 => ?_)
  refine g_call [] rfl rfl rfl rfl rfl rfl (fun w' hm => told_spec w' _ _ _ _ _ _ _ _ [1#8, 2#8] [1#8, 2#8] (Ow.rd (t := 23) rfl hm) rfl (hm.rowA 28 rfl) rfl (by decide) (by decide)) (fun _ _ => ?_)
  refine g_pu rfl rfl rfl (pu_not rfl rfl) ?_
  refine g_pu rfl rfl rfl (pu_move rfl rfl) ?_
  first | refine g_pass rfl rfl rfl ?_ | refine g_pu rfl rfl rfl (pu_move rfl rfl) ?_
  refine g_callW [20] [20] rfl rfl rfl rfl rfl rfl (fun j hj => ⟨20, by simp, _, rfl, hj⟩) (fun w' hm => Left_b w' x20.1 (hm.holds 20 _ rfl) (by decide) (by decide)) (fun _ _ => ?_)
  first | refine g_pass rfl rfl rfl ?_ | refine g_pu rfl rfl rfl (pu_neq_t rfl rfl rfl (by omega)) ?_ | refine g_pu rfl rfl rfl (pu_neq_f rfl rfl rfl (by omega)) ?_ | refine g_pu rfl rfl rfl (pu_neq rfl rfl rfl) ?_
  first | refine g_pu rfl rfl rfl (pu_pick_t rfl rfl rfl) ?_ | refine g_pu rfl rfl rfl (pu_pick_f rfl rfl rfl) ?_
  refine g_nil ?_
  (repeat refine g_seq ?_)
  refine g_cond_f rfl (g_skip ?_)
  (repeat refine g_seq ?_)
  refine g_region ?_
  refine g_lo [8] rfl rfl rfl rfl (lo_alloc rfl) (fun q8 hb8 => ?_)
  refine g_nil ?_
  (repeat refine g_seq ?_)
  refine g_region ?_
  refine g_callW [8] [8] rfl rfl rfl rfl rfl rfl (fun j hj => ⟨8, by simp, _, rfl, hj⟩) (fun w' hm => Left_b w' q8 (p := none) (n := 0) (c := 0) (t := 0) (hm.holds 8 _ rfl) (by decide) (by decide)) (fun _ _ => ?_)
  first | refine g_pu rfl rfl rfl (pu_neq_t rfl rfl rfl (by omega)) ?_ | refine g_pu rfl rfl rfl (pu_neq_f rfl rfl rfl (by omega)) ?_ | refine g_pu rfl rfl rfl (pu_neq rfl rfl rfl) ?_
  refine g_pu rfl rfl rfl (pu_move rfl rfl) ?_
  refine g_callW [8] [8] rfl rfl rfl rfl rfl rfl (fun j hj => ⟨8, by simp, _, rfl, hj⟩) (fun w' hm => Done_b w' q8 (p := none) (n := 0) (c := 0) (t := 0) (hm.holds 8 _ rfl)) (fun _ _ => ?_)
  first | refine g_pass rfl rfl rfl ?_ | refine g_pu rfl rfl rfl (pu_neq_t rfl rfl rfl (by omega)) ?_ | refine g_pu rfl rfl rfl (pu_neq_f rfl rfl rfl (by omega)) ?_ | refine g_pu rfl rfl rfl (pu_neq rfl rfl rfl) ?_
  first | refine g_pu rfl rfl rfl (pu_pick_t rfl rfl rfl) ?_ | refine g_pu rfl rfl rfl (pu_pick_f rfl rfl rfl) ?_
  refine g_nil ?_
  (repeat refine g_seq ?_)
  refine g_cond_f rfl (g_skip ?_)
  (repeat refine g_seq ?_)
  refine g_region ?_
  refine g_pu rfl rfl rfl (pu_move rfl rfl) ?_
  refine g_call [43] rfl rfl rfl rfl rfl rfl (fun w' hm => Copy_b w' c (ha.m hm)) (fun x43 _ => ?_)
  refine g_pu rfl rfl rfl (pu_assign rfl rfl) ?_
  refine g_nil ?_
  (repeat refine g_seq ?_)
  refine g_region ?_
  refine g_pu rfl rfl rfl (pu_move rfl rfl) ?_
  refine g_call [45, 145] rfl rfl rfl rfl rfl rfl (fun w' hm => NewCursor_b w' _ (By.ow 43 rfl hm hn hbig)) (fun x45 _ => ?_)
  refine g_pu rfl rfl rfl (pu_assign rfl rfl) ?_
  refine g_nil ?_
  (repeat refine g_seq ?_)
  refine g_region ?_
  refine g_pu rfl rfl rfl (pu_move rfl rfl) ?_
  refine g_callW [43] [43] rfl rfl rfl rfl rfl rfl (fun j hj => ⟨43, by simp, _, rfl, hj⟩) (fun w' hm => Over_b w' x43 (hm.holds 43 _ rfl) (hm.below 43 _ rfl) hn hbig) (fun _ _ => ?_)
  refine g_nil ?_
  (repeat refine g_seq ?_)
  refine g_region ?_
  refine g_pu rfl rfl rfl (pu_assign rfl rfl) ?_
  refine g_nil ?_
  (repeat refine g_seq ?_)
  refine g_region ?_
  refine g_pu rfl rfl rfl (pu_move rfl rfl) ?_
  first | refine g_pu rfl rfl rfl (pu_len rfl rfl) ?_ | refine g_pu rfl rfl rfl (pu_lenS rfl rfl) ?_
  refine g_pu rfl rfl rfl (pu_move rfl rfl) ?_
  refine g_nil ?_
  refine g_block (g_loop2 (fun (i : Nat) (t : Nat) => [(0, .slice p n c), (5, .pointer (some ⟨x45.1, 0, none⟩)), (10, .int .i64 (t : Int)), (48, .slice q m d), (49, .int .i64 (m : Int)), (50, .int .i64 (i : Int))]) (fun i t => [(45, .pt x45.1 (.cells (curC x45.2.p n x45.2.c t).toArray 54 (0, 0))), (145, x45.2.ck 5 1 (bs l))]) (fun i t => i ≤ m ∧ t ≤ n) (fun i _ => m - i) 0 0 ⟨rfl, rfl, rfl, rfl, rfl, rfl, trivial⟩ ⟨rfl, rfl, trivial⟩ ⟨by omega, by omega⟩ ?_)
  intro i t ⟨hi, ht⟩
  by_cases hlt : i < m
  · (repeat refine g_seq ?_)
    refine g_region ?_
    first | refine g_pu rfl rfl rfl (pu_lss_t rfl rfl rfl (by omega)) ?_ | refine g_pu rfl rfl rfl (pu_lss_f rfl rfl rfl (by omega)) ?_ | refine g_pu rfl rfl rfl (pu_lss rfl rfl rfl) ?_
    refine g_nil ?_
    (repeat refine g_seq ?_)
    refine g_cond_t rfl (g_skip ?_)
    have hk : ks[i]? = some ks[i] := List.getElem?_eq_getElem (by omega)
    generalize ks[i] = kk at hk
    obtain ⟨o, z⟩ := kk
    have h3 : ∀ c ∈ ks.map cells2, c.length = 2 := by intro c hc; obtain ⟨_, _, rfl⟩ := List.mem_map.1 hc; rfl
    have hlen := flat_length (ks.map cells2) h3
    rw [List.length_map] at hlen
    have hcell : (((ks.map cells2).flatten.drop (i * 2)).take 2) = [.int .i64 o, .int .i64 z] := by
      apply List.ext_getElem?
      intro r
      rw [List.getElem?_take]
      split
      · rename_i hr
        rw [List.getElem?_drop, flat_getE _ h3 _ _ hr, List.getElem?_map, hk]
        rfl
      · rw [List.getElem?_eq_none (by simp; omega)]
    (repeat refine g_seq ?_); refine g_block ?_
    (repeat refine g_seq ?_)
    refine g_region ?_
    refine g_pu rfl rfl rfl (pu_atM i (fun w' hm' => hq.mem0 hm') rfl rfl rfl rfl hlt (by rw [hlen]; omega)) ?_
    refine g_pu rfl rfl rfl (pu_rdMA (fun w' hm' => hq.mem0 hm') rfl rfl (by omega) (by rw [hlen]; omega)) ?_
    refine g_as (t := 53) (u := .agg [.int .i64 o, .int .i64 z].toArray) rfl (by rw [hcell]) rfl ?_
    refine g_lo [12] rfl rfl rfl rfl (lo_alloc rfl) (fun b12 hb12 => ?_)
    refine g_storeW 12 (C := [.int .i64 o, .int .i64 z]) rfl rfl rfl rfl rfl rfl rfl (by simp [Value.oneCell']) ?_
    refine g_nil ?_
    refine g_seq ?_
    refine g_join (σ := Nat) (fun t' => [(0, .slice p n c), (5, .pointer (some ⟨x45.1, 0, none⟩)), (10, .int .i64 (t' : Int)), (48, .slice q m d), (49, .int .i64 (m : Int)), (50, .int .i64 (i : Int))]) (fun t' => [(45, .pt x45.1 (.cells (curC x45.2.p n x45.2.c t').toArray 54 (0, 0))), (145, x45.2.ck 5 1 (bs l))]) (fun t' => t' ≤ n) ?_ (fun t' ht' => ?_)
    · by_cases ho : o = 0
      · (repeat refine g_seq ?_)
        refine g_region ?_
        refine g_pu rfl rfl rfl (pu_fieldAddr (by decide) rfl rfl) ?_
        refine g_pu rfl rfl rfl (pu_load 12 rfl rfl rfl rfl) ?_
        refine g_pu rfl rfl rfl (pu_neq_f rfl rfl rfl (by omega)) ?_
        refine g_nil ?_
        (repeat refine g_seq ?_)
        refine g_cond_f rfl ?_
        (repeat refine g_seq ?_)
        refine g_region ?_
        refine g_pu rfl rfl rfl (pu_move rfl rfl) ?_
        refine g_pu rfl rfl rfl (pu_fieldAddr (by decide) rfl rfl) ?_
        refine g_pu rfl rfl rfl (pu_load 12 rfl rfl rfl rfl) ?_
        refine g_callW [45] [45, 94] rfl rfl rfl rfl rfl rfl (fun j hj => ⟨45, by simp, _, rfl, hj⟩) (fun w' hm => Take_b w' x45.1 (l := l) z (hm.holds 45 _ rfl) (By.ow 145 rfl hm hn hbig) (leC hm 145 rfl hn) (apartD hm 145 45 rfl rfl (by decide)) ht) (fun x94 _ => ?_)
        refine g_pu rfl rfl rfl (pu_move rfl rfl) ?_
        refine g_pu rfl rfl rfl (pu_extract rfl rfl rfl) ?_
        refine g_pu rfl rfl rfl (pu_extract rfl rfl rfl) ?_
        refine g_pu rfl rfl rfl (pu_assign rfl rfl) ?_
        refine g_pu rfl rfl rfl (pu_assign rfl rfl) ?_
        refine g_nil ?_
        (repeat refine g_seq ?_); refine g_block ?_
        by_cases hz : z < 0
        · have hE : takeE n t z = 1 := by simp [takeE, hz]
          have hV : takeV l t z = [] := by simp [takeV, hn, hE]
          have hN : takeN n t z = t := by simp [takeN, hE]
          rw [hE, hV, hN]
          (repeat refine g_seq ?_)
          refine g_region ?_
          refine g_pu rfl rfl rfl (pu_fieldAddr (by decide) rfl rfl) ?_
          refine g_pu rfl rfl rfl (pu_load 12 rfl rfl rfl rfl) ?_
          refine g_pu rfl rfl rfl (pu_lss_t rfl rfl rfl hz) ?_
          refine g_pu rfl rfl rfl (pu_assign rfl rfl) ?_
          refine g_nil ?_
          (repeat refine g_seq ?_)
          refine g_cond_t rfl ?_
          (repeat refine g_seq ?_)
          refine g_region ?_
          refine g_pu rfl rfl rfl (pu_move rfl rfl) ?_
          refine g_pu rfl rfl rfl (pu_move rfl rfl) ?_
          refine g_call [] rfl rfl rfl rfl rfl rfl (fun w' hm => told_spec w' _ _ _ _ _ _ _ _ [] [] (Ow.rd (t := 94) rfl hm) rfl (RdV.nil _ _) rfl (by decide) (by decide)) (fun _ _ => ?_)
          refine g_pu rfl rfl rfl (pu_not rfl rfl) ?_
          refine g_nil ?_
          (repeat refine g_seq ?_)
          refine g_cond_f rfl (g_skip ?_)
          refine g_blk ?_
          exact g_meet t ht ⟨rfl, rfl, rfl, rfl, rfl, rfl, trivial⟩ ⟨rfl, rfl, trivial⟩
        · (repeat refine g_seq ?_)
          refine g_region ?_
          refine g_pu rfl rfl rfl (pu_fieldAddr (by decide) rfl rfl) ?_
          refine g_pu rfl rfl rfl (pu_load 12 rfl rfl rfl rfl) ?_
          refine g_pu rfl rfl rfl (pu_lss_f rfl rfl rfl hz) ?_
          refine g_pu rfl rfl rfl (pu_assign rfl rfl) ?_
          refine g_nil ?_
          (repeat refine g_seq ?_)
          refine g_cond_f rfl ?_
          by_cases hz2 : z > ((n - t : Nat) : Int)
          · have hE : takeE n t z = 2 := by simp only [takeE, if_neg hz, if_pos hz2]
            have hV : takeV l t z = [] := by simp [takeV, hn, hE]
            have hN : takeN n t z = t := by simp [takeN, hE]
            rw [hE, hV, hN]
            (repeat refine g_seq ?_)
            refine g_region ?_
            refine g_pu rfl rfl rfl (pu_fieldAddr (by decide) rfl rfl) ?_
            refine g_pu rfl rfl rfl (pu_load 12 rfl rfl rfl rfl) ?_
            refine g_pu rfl rfl rfl (pu_move rfl rfl) ?_
            first | refine g_pu rfl rfl rfl (pu_len rfl rfl) ?_ | refine g_pu rfl rfl rfl (pu_lenS rfl rfl) ?_
            refine g_pu rfl rfl rfl (pu_move rfl rfl) ?_
            refine g_pu rfl rfl rfl (pu_subI rfl rfl rfl (by omega)) ?_
            refine g_pu rfl rfl rfl (pu_gtr_t rfl rfl rfl (by omega)) ?_
            refine g_pu rfl rfl rfl (pu_assign rfl rfl) ?_
            refine g_nil ?_
            (repeat refine g_seq ?_)
            refine g_cond_t rfl ?_
            (repeat refine g_seq ?_)
            refine g_region ?_
            refine g_pu rfl rfl rfl (pu_move rfl rfl) ?_
            refine g_pu rfl rfl rfl (pu_move rfl rfl) ?_
            refine g_call [] rfl rfl rfl rfl rfl rfl (fun w' hm => told_spec w' _ _ _ _ _ _ _ _ [] [] (Ow.rd (t := 94) rfl hm) rfl (RdV.nil _ _) rfl (by decide) (by decide)) (fun _ _ => ?_)
            refine g_pu rfl rfl rfl (pu_not rfl rfl) ?_
            refine g_nil ?_
            (repeat refine g_seq ?_)
            refine g_cond_f rfl (g_skip ?_)
            refine g_blk ?_
            exact g_meet t ht ⟨rfl, rfl, rfl, rfl, rfl, rfl, trivial⟩ ⟨rfl, rfl, trivial⟩
          · obtain ⟨k, rfl⟩ : ∃ k : Nat, z = (k : Int) := ⟨z.toNat, by omega⟩
            obtain ⟨hN, hE⟩ := takeN_take (n := n) (t := t) (k := k) (by omega)
            have hV : takeV l t (k : Int) = (l.drop t).take k := by simp [takeV, hn, hE]
            have hmid := (ha.cut hcap t).fst k (by omega)
            have hks : t + k - t = k := by omega
            have hkl : ((l.drop t).take k).length = k := hmid.len
            rw [hE, hV, hN, hkl]
            (repeat refine g_seq ?_)
            refine g_region ?_
            refine g_pu rfl rfl rfl (pu_fieldAddr (by decide) rfl rfl) ?_
            refine g_pu rfl rfl rfl (pu_load 12 rfl rfl rfl rfl) ?_
            refine g_pu rfl rfl rfl (pu_move rfl rfl) ?_
            first | refine g_pu rfl rfl rfl (pu_len rfl rfl) ?_ | refine g_pu rfl rfl rfl (pu_lenS rfl rfl) ?_
            refine g_pu rfl rfl rfl (pu_move rfl rfl) ?_
            refine g_pu rfl rfl rfl (pu_subI rfl rfl rfl (by omega)) ?_
            refine g_pu rfl rfl rfl (pu_gtr_f rfl rfl rfl (by omega)) ?_
            refine g_pu rfl rfl rfl (pu_assign rfl rfl) ?_
            refine g_nil ?_
            (repeat refine g_seq ?_)
            refine g_cond_f rfl ?_
            (repeat refine g_seq ?_)
            refine g_region ?_
            refine g_pu rfl rfl rfl (pu_move rfl rfl) ?_
            refine g_pu rfl rfl rfl (pu_move rfl rfl) ?_
            refine g_pu rfl rfl rfl (pu_move rfl rfl) ?_
            refine g_pu rfl rfl rfl (pu_move rfl rfl) ?_
            refine g_pu rfl rfl rfl (pu_move rfl rfl) ?_
            refine g_pu rfl rfl rfl (pu_fieldAddr (by decide) rfl rfl) ?_
            refine g_pu rfl rfl rfl (pu_load 12 rfl rfl rfl rfl) ?_
            refine g_pu rfl rfl rfl (pu_addI rfl rfl rfl (by omega)) ?_
            refine g_pu rfl rfl rfl (pu_slice_lh t (t + k) rfl rfl rfl rfl rfl (by omega) (by omega) (by omega)) ?_
            rw [hks]
            refine g_call [] rfl rfl rfl rfl rfl rfl (fun w' hm => told_spec w' _ _ _ _ _ _ _ _ ((l.drop t).take k) ((l.drop t).take k) (Ow.rd (t := 94) rfl hm) hkl (hmid.m hm).rd hkl (by omega) (by omega)) (fun _ _ => ?_)
            refine g_as (t := 106) (u := .bool true) rfl (by simp) rfl ?_
            refine g_pu rfl rfl rfl (pu_not rfl rfl) ?_
            refine g_nil ?_
            (repeat refine g_seq ?_)
            refine g_cond_f rfl (g_skip ?_)
            (repeat refine g_seq ?_)
            refine g_region ?_
            refine g_pu rfl rfl rfl (pu_move rfl rfl) ?_
            refine g_callW [94] [94] rfl rfl rfl rfl rfl rfl (fun j hj => ⟨94, by simp, _, rfl, hj⟩) (fun w' hm => Over_b w' x94 (hm.holds 94 _ rfl) (hm.below 94 _ rfl) hkl (by omega)) (fun _ _ => ?_)
            refine g_nil ?_
            (repeat refine g_seq ?_)
            refine g_region ?_
            refine g_pu rfl rfl rfl (pu_move rfl rfl) ?_
            refine g_pu rfl rfl rfl (pu_fieldAddr (by decide) rfl rfl) ?_
            refine g_pu rfl rfl rfl (pu_load 12 rfl rfl rfl rfl) ?_
            refine g_pu rfl rfl rfl (pu_addI rfl rfl rfl (by omega)) ?_
            refine g_pu rfl rfl rfl (pu_assign rfl rfl) ?_
            refine g_nil ?_
            refine g_blk ?_
            exact g_meet (t + k) (by omega) ⟨rfl, rfl, congrArg (fun z => some (Value.int .i64 z)) (by omega), rfl, rfl, rfl, trivial⟩ ⟨rfl, rfl, trivial⟩
      · (repeat refine g_seq ?_)
        refine g_region ?_
        refine g_pu rfl rfl rfl (pu_fieldAddr (by decide) rfl rfl) ?_
        refine g_pu rfl rfl rfl (pu_load 12 rfl rfl rfl rfl) ?_
        refine g_pu rfl rfl rfl (pu_neq_t rfl rfl rfl ho) ?_
        refine g_nil ?_
        (repeat refine g_seq ?_)
        refine g_cond_t rfl ?_
        (repeat refine g_seq ?_)
        refine g_region ?_
        refine g_pu rfl rfl rfl (pu_move rfl rfl) ?_
        refine g_pu rfl rfl rfl (pu_fieldAddr (by decide) rfl rfl) ?_
        refine g_pu rfl rfl rfl (pu_load 12 rfl rfl rfl rfl) ?_
        refine g_pu rfl rfl rfl (pu_fieldAddr (by decide) rfl rfl) ?_
        refine g_pu rfl rfl rfl (pu_load 12 rfl rfl rfl rfl) ?_
        refine g_callW [45] [45] rfl rfl rfl rfl rfl rfl (fun j hj => ⟨45, by simp, _, rfl, hj⟩) (fun w' hm => Number_b w' x45.1 (l := l) o z (hm.holds 45 _ rfl) (By.ow 145 rfl hm hn hbig) (apartD hm 145 45 rfl rfl (by decide)) ht) (fun _ _ => ?_)
        refine g_pu rfl rfl rfl (pu_move rfl rfl) ?_
        refine g_pu rfl rfl rfl (pu_extract rfl rfl rfl) ?_
        refine g_pu rfl rfl rfl (pu_extract rfl rfl rfl) ?_
        refine g_pu rfl rfl rfl (pu_assign rfl rfl) ?_
        refine g_pu rfl rfl rfl (pu_assign rfl rfl) ?_
        refine g_nil ?_
        (repeat refine g_seq ?_)
        refine g_region ?_
        refine g_pu rfl rfl rfl (pu_fieldAddr (by decide) rfl rfl) ?_
        refine g_pu rfl rfl rfl (pu_load 12 rfl rfl rfl rfl) ?_
        refine g_pu rfl rfl rfl (pu_move rfl rfl) ?_
        refine g_pu rfl rfl rfl (pu_move rfl rfl) ?_
        refine g_pu rfl rfl rfl (pu_fieldAddr (by decide) rfl rfl) ?_
        refine g_pu rfl rfl rfl (pu_load 12 rfl rfl rfl rfl) ?_
        refine g_call [] rfl rfl rfl rfl rfl rfl (fun w' hm => RGet_b w' o c t z (ha.m hm)) (fun _ _ => ?_)
        refine g_pu rfl rfl rfl (pu_move rfl rfl) ?_
        refine g_pu rfl rfl rfl (pu_extract rfl rfl rfl) ?_
        refine g_pu rfl rfl rfl (pu_extract rfl rfl rfl) ?_
        refine g_pu rfl rfl rfl (pu_assign rfl rfl) ?_
        refine g_pu rfl rfl rfl (pu_assign rfl rfl) ?_
        refine g_nil ?_
        (repeat refine g_seq ?_)
        refine g_region ?_
        refine g_pu rfl rfl rfl (pu_move rfl rfl) ?_
        refine g_pu rfl rfl rfl (pu_move rfl rfl) ?_
        first | refine g_pu rfl rfl rfl (pu_neq64_t rfl rfl rfl (by first | assumption | decide)) ?_ | refine g_pu rfl rfl rfl (pu_neq64_f rfl rfl rfl (by first | rfl | assumption | decide)) ?_ | refine g_pu rfl rfl rfl (pu_neq64 rfl rfl rfl) ?_
        refine g_pu rfl rfl rfl (pu_move rfl rfl) ?_
        first | refine g_pass rfl rfl rfl ?_ | refine g_pu rfl rfl rfl (pu_move rfl rfl) ?_
        first | refine g_pass rfl rfl rfl ?_ | refine g_pu rfl rfl rfl (pu_move rfl rfl) ?_
        first | refine g_pass rfl rfl rfl ?_ | refine g_pu rfl rfl rfl (pu_neq_t rfl rfl rfl (by omega)) ?_ | refine g_pu rfl rfl rfl (pu_neq_f rfl rfl rfl (by omega)) ?_ | refine g_pu rfl rfl rfl (pu_neq rfl rfl rfl) ?_
        first | refine g_pu rfl rfl rfl (pu_pick_t rfl rfl rfl) ?_ | refine g_pu rfl rfl rfl (pu_pick_f rfl rfl rfl) ?_
        refine g_nil ?_
        (repeat refine g_seq ?_)
        refine g_cond_f rfl (g_skip ?_)
        by_cases hE : getE o n t z = 0
        · have hN : numN o n t z = t + z.toNat := by simp [numN, hE]
          have hz : 1 ≤ z ∧ z ≤ 8 ∧ t + z.toNat ≤ n := by
            unfold getE at hE
            split at hE
            · omega
            · rename_i h1
              have h2 : ShapeOk o z := by
                by_cases h3 : ShapeOk o z
                · exact h3
                · exact absurd (Or.inl h3) h1
              split at hE
              · omega
              · exact ⟨h2.2.1, h2.2.2, by omega⟩
          rw [hN]
          (repeat refine g_seq ?_)
          refine g_region ?_
          refine g_pu rfl rfl rfl (pu_move rfl rfl) ?_
          refine g_pu rfl rfl rfl (pu_eql_t rfl rfl rfl hE) ?_
          refine g_nil ?_
          (repeat refine g_seq ?_)
          refine g_cond_t rfl ?_
          (repeat refine g_seq ?_)
          refine g_region ?_
          refine g_pu rfl rfl rfl (pu_move rfl rfl) ?_
          refine g_pu rfl rfl rfl (pu_fieldAddr (by decide) rfl rfl) ?_
          refine g_pu rfl rfl rfl (pu_load 12 rfl rfl rfl rfl) ?_
          refine g_pu rfl rfl rfl (pu_addI rfl rfl rfl (by omega)) ?_
          refine g_pu rfl rfl rfl (pu_assign rfl rfl) ?_
          refine g_nil ?_
          exact g_meet (t + z.toNat) hz.2.2 ⟨rfl, rfl, congrArg (fun z => some (Value.int .i64 z)) (by omega), rfl, rfl, rfl, trivial⟩ ⟨rfl, rfl, trivial⟩
        · have hN : numN o n t z = t := by simp [numN, hE]
          rw [hN]
          (repeat refine g_seq ?_)
          refine g_region ?_
          refine g_pu rfl rfl rfl (pu_move rfl rfl) ?_
          refine g_pu rfl rfl rfl (pu_eql_f rfl rfl rfl hE) ?_
          refine g_nil ?_
          (repeat refine g_seq ?_)
          refine g_cond_f rfl (g_skip ?_)
          exact g_meet t ht ⟨rfl, rfl, rfl, rfl, rfl, rfl, trivial⟩ ⟨rfl, rfl, trivial⟩
    · (repeat refine g_seq ?_)
      refine g_region ?_
      refine g_pu rfl rfl rfl (pu_move rfl rfl) ?_
      refine g_callW [45] [45] rfl rfl rfl rfl rfl rfl (fun j hj => ⟨45, by simp, _, rfl, hj⟩) (fun w' hm => Done_b w' x45.1 (hm.holds 45 _ rfl)) (fun _ _ => ?_)
      refine g_pu rfl rfl rfl (pu_move rfl rfl) ?_
      first | refine g_pu rfl rfl rfl (pu_neq_t rfl rfl rfl (by omega)) ?_ | refine g_pu rfl rfl rfl (pu_neq_f rfl rfl rfl (by omega)) ?_ | refine g_pu rfl rfl rfl (pu_neq rfl rfl rfl) ?_
      refine g_pu rfl rfl rfl (pu_move rfl rfl) ?_
      first | refine g_pass rfl rfl rfl ?_ | refine g_pu rfl rfl rfl (pu_move rfl rfl) ?_
      refine g_callW [45] [45] rfl rfl rfl rfl rfl rfl (fun j hj => ⟨45, by simp, _, rfl, hj⟩) (fun w' hm => Left_b w' x45.1 (hm.holds 45 _ rfl) hbig ht') (fun _ _ => ?_)
      first | refine g_pass rfl rfl rfl ?_ | refine g_pu rfl rfl rfl (pu_move rfl rfl) ?_
      first | refine g_pass rfl rfl rfl ?_ | refine g_pu rfl rfl rfl (pu_len rfl rfl) ?_ | refine g_pu rfl rfl rfl (pu_lenS rfl rfl) ?_
      first | refine g_pass rfl rfl rfl ?_ | refine g_pu rfl rfl rfl (pu_move rfl rfl) ?_
      first | refine g_pass rfl rfl rfl ?_ | refine g_pu rfl rfl rfl (pu_subI rfl rfl rfl (by omega)) ?_
      refine g_pu rfl rfl rfl (pu_neq_f rfl rfl rfl (by omega)) ?_
      first | refine g_pu rfl rfl rfl (pu_pick_t rfl rfl rfl) ?_ | refine g_pu rfl rfl rfl (pu_pick_f rfl rfl rfl) ?_
      refine g_nil ?_
      (repeat refine g_seq ?_)
      refine g_cond_f rfl (g_skip ?_)
      refine g_blk ?_
      (repeat refine g_seq ?_)
      refine g_region ?_
      refine g_pu rfl rfl rfl (pu_addI rfl rfl rfl (by omega)) ?_
      refine g_pu rfl rfl rfl (pu_move rfl rfl) ?_
      refine g_nil ?_
      exact g_round2 (i + 1) t' ⟨by omega, ht'⟩ (by omega) ⟨rfl, rfl, rfl, rfl, rfl, rfl, trivial⟩ ⟨rfl, rfl, trivial⟩
  · (repeat refine g_seq ?_)
    refine g_region ?_
    first | refine g_pu rfl rfl rfl (pu_lss_t rfl rfl rfl (by omega)) ?_ | refine g_pu rfl rfl rfl (pu_lss_f rfl rfl rfl (by omega)) ?_ | refine g_pu rfl rfl rfl (pu_lss rfl rfl rfl) ?_
    refine g_nil ?_
    (repeat refine g_seq ?_)
    refine g_cond_f rfl (g_exit rfl ?_)
    (repeat refine g_seq ?_)
    refine g_region ?_
    refine g_pu rfl rfl rfl (pu_assign rfl rfl) ?_
    refine g_nil ?_
    exact g_ret1 rfl rfl (fun w' hm => ⟨(), trivial, rfl, hm.grows [] trivial rfl⟩)
end Go.Sx

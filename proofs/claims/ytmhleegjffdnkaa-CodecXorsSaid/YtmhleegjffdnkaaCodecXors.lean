/-
  CodecXors: any number of lists are turned by one another place by place, and with the answer among them all come to noughts. No condition.
-/
import Derived.Test.YtmhleegjffdnkaaC6
import Derived.Test.YtmhleegjffdnkaaCodecPads
set_option linter.unusedVariables false
set_option linter.unusedSimpArgs false
namespace Go.Sx
open Go Go.Proofs

theorem xor_length {l : List (BitVec 8)} : ∀ {r : List (List (BitVec 8))}, r.all (fun m => m.length == l.length) = true → (r.foldl xorL l).length = l.length := by
  suffices h : ∀ (r : List (List (BitVec 8))) (a : List (BitVec 8)), r.all (fun m => m.length == a.length) = true → (r.foldl xorL a).length = a.length from fun {r} hr => h r l hr
  intro r
  induction r with
  | nil => intro a _; rfl
  | cons m r ih =>
    intro a h
    simp only [List.all_cons, Bool.and_eq_true, beq_iff_eq] at h
    simp only [List.foldl_cons]
    have hm := xorL_length h.1
    rw [ih (xorL a m) (by rw [hm]; exact h.2), hm]
theorem xorL_self (a : List (BitVec 8)) : xorL a a = List.replicate a.length 0#8 := by
  induction a with
  | nil => rfl
  | cons x a ih => simp only [xorL, List.zipWith_cons_cons, BitVec.xor_self, List.length_cons, List.replicate_succ] at ih ⊢; rw [ih]
/-- The plain law. -/
theorem xor_back {ls : List (List (BitVec 8))} (h : xorOk ls = true) : xorOk (ls ++ [xorV ls]) = true ∧ xorV (ls ++ [xorV ls]) = List.replicate (xorV ls).length 0#8 := by
  cases ls with
  | nil => exact ⟨rfl, rfl⟩
  | cons l r =>
    have hv : xorV (l :: r) = r.foldl xorL l := by simp [xorV, h]
    have hl : (r.foldl xorL l).length = l.length := xor_length h
    have hok : xorOk (l :: (r ++ [r.foldl xorL l])) = true := by
      simp only [xorOk, List.all_append, List.all_cons, List.all_nil, Bool.and_true, Bool.and_eq_true]
      exact ⟨h, by simp [hl]⟩
    rw [hv, List.cons_append]
    refine ⟨hok, ?_⟩
    simp only [xorV, hok, if_true, List.foldl_append, List.foldl_cons, List.foldl_nil]
    exact xorL_self _

theorem CodecXors_spec (w : World) {p : Option Addr} {n : Nat} (c : Nat) {L : List Value} {ls : List (List (BitVec 8))} (ha : ByL w p n L ls) (hc : n ≤ c) (hbig : n * 24 ≤ 140737488351232) :
    Spec Try.prog 5 #[.slice p n c] w (σ := Unit) (fun _ => True) (fun _ => .bool true) Nob (fun _ => []) := by
  refine enter Try.func5 rfl rfl (Mem.start w) ?_
  have hn := ha.len
  have hln := ha.lenL
  have hvl : (xorV ls).length ≤ 140737488355328 := by
    cases ls with
    | nil => simp [xorV]
    | cons l r =>
      obtain ⟨q, m, cc, hL, hq⟩ := ha.at (i := 0) (l := l) rfl
      have := hq.len
      have := hq.big
      by_cases h : xorOk (l :: r) = true
      · rw [show xorV (l :: r) = r.foldl xorL l from by simp [xorV, h], xor_length h]; omega
      · simp [xorV, h]
  (repeat refine g_seq ?_)
  refine g_region ?_
  refine g_pu rfl rfl rfl (pu_assign rfl rfl) ?_
  refine g_nil ?_
  (repeat refine g_seq ?_)
  refine g_region ?_
  refine g_lo [9] rfl rfl rfl rfl (lo_buildSlice rfl rfl (by decide) (by decide) rfl rfl) (fun b9 hb9 => ?_)
  refine g_lo [10] rfl rfl rfl rfl (lo_buildSlice rfl rfl (by decide) (by decide) rfl rfl) (fun b10 hb10 => ?_)
  refine g_lo [11] rfl rfl rfl rfl (lo_buildSlice rfl rfl (by decide) (by decide) rfl rfl) (fun b11 hb11 => ?_)
  refine g_call [12] rfl rfl rfl rfl rfl rfl (fun w' hm => Xor_b w' _ (L := [.slice (some ⟨b9, 0, none⟩) 2 2, .slice (some ⟨b10, 0, none⟩) 2 2]) (ls := [[1#8, 2#8], [3#8, 2#8]]) ⟨hm.rowA 11 rfl, rfl, All2.cons (IsB.full 9 rfl hm rfl (by omega)) (All2.cons (IsB.full 10 rfl hm rfl (by omega)) All2.nil), by omega⟩ (by omega)) (fun x12 _ => ?_)
  rw [show xorV [[1#8, 2#8], [3#8, 2#8]] = [2#8, 0#8] from by decide, show xorE [[1#8, 2#8], [3#8, 2#8]] = 0 from by decide]
  refine g_pu rfl rfl rfl (pu_move rfl rfl) ?_
  refine g_pu rfl rfl rfl (pu_extract rfl rfl rfl) ?_
  refine g_pu rfl rfl rfl (pu_extract rfl rfl rfl) ?_
  refine g_pu rfl rfl rfl (pu_assign rfl rfl) ?_
  refine g_pu rfl rfl rfl (pu_assign rfl rfl) ?_
  refine g_nil ?_
  (repeat refine g_seq ?_)
  refine g_region ?_
  refine g_pu rfl rfl rfl (pu_move rfl rfl) ?_
  first | refine g_pu rfl rfl rfl (pu_neq_t rfl rfl rfl (by omega)) ?_ | refine g_pu rfl rfl rfl (pu_neq_f rfl rfl rfl (by omega)) ?_ | refine g_pu rfl rfl rfl (pu_neq rfl rfl rfl) ?_
  refine g_pu rfl rfl rfl (pu_move rfl rfl) ?_
  first | refine g_pass rfl rfl rfl ?_ | refine g_pu rfl rfl rfl (pu_move rfl rfl) ?_
  refine g_lo [19] rfl rfl rfl rfl (lo_buildSlice rfl rfl (by decide) (by decide) rfl rfl) (fun b19 hb19 => ?_)
  refine g_call [] rfl rfl rfl rfl rfl rfl (fun w' hm => Equal_b w' _ _ (a := [2#8, 0#8]) (b := [2#8, 0#8]) (By.ow 12 rfl hm rfl (by decide)) (By.full 19 rfl hm rfl (by decide))) (fun _ _ => ?_)
  first | refine g_pass rfl rfl rfl ?_ | refine g_pu rfl rfl rfl (pu_not rfl rfl) ?_
  first | refine g_pu rfl rfl rfl (pu_pick_t rfl rfl rfl) ?_ | refine g_pu rfl rfl rfl (pu_pick_f rfl rfl rfl) ?_
  refine g_nil ?_
  (repeat refine g_seq ?_)
  refine g_cond_f rfl (g_skip ?_)
  (repeat refine g_seq ?_)
  refine g_region ?_
  refine g_pu rfl rfl rfl (pu_move rfl rfl) ?_
  refine g_call [25, 125] rfl rfl rfl rfl rfl rfl (fun w' hm => Copies_b w' c (ha.m hm)) (fun x25 h25 => ?_)
  refine g_call [26] rfl rfl rfl rfl rfl rfl (fun w' hm => Xor_b w' _ (Owl.by 25 125 rfl rfl hm h25.1 ha.big) (by rw [← h25.1]; exact Owl.le 25 rfl hm)) (fun x26 _ => ?_)
  refine g_pu rfl rfl rfl (pu_move rfl rfl) ?_
  refine g_pu rfl rfl rfl (pu_extract rfl rfl rfl) ?_
  refine g_pu rfl rfl rfl (pu_extract rfl rfl rfl) ?_
  refine g_pu rfl rfl rfl (pu_assign rfl rfl) ?_
  refine g_pu rfl rfl rfl (pu_assign rfl rfl) ?_
  refine g_nil ?_
  (repeat refine g_seq ?_)
  refine g_region ?_
  refine g_pu rfl rfl rfl (pu_move rfl rfl) ?_
  refine g_call [31] rfl rfl rfl rfl rfl rfl (fun w' hm => RXor_b w' c (ha.m hm)) (fun x31 _ => ?_)
  refine g_pu rfl rfl rfl (pu_move rfl rfl) ?_
  refine g_pu rfl rfl rfl (pu_extract rfl rfl rfl) ?_
  refine g_pu rfl rfl rfl (pu_extract rfl rfl rfl) ?_
  refine g_pu rfl rfl rfl (pu_assign rfl rfl) ?_
  refine g_pu rfl rfl rfl (pu_assign rfl rfl) ?_
  refine g_nil ?_
  (repeat refine g_seq ?_)
  refine g_region ?_
  refine g_pu rfl rfl rfl (pu_move rfl rfl) ?_
  refine g_pu rfl rfl rfl (pu_move rfl rfl) ?_
  refine g_pu rfl rfl rfl (pu_move rfl rfl) ?_
  refine g_pu rfl rfl rfl (pu_move rfl rfl) ?_
  refine g_call [] rfl rfl rfl rfl rfl rfl (fun w' hm => told_spec w' _ _ _ _ _ _ _ _ (xorV ls) (xorV ls) (Ow.rd (t := 26) rfl hm) rfl (Ow.rd (t := 31) rfl hm) rfl hvl hvl) (fun _ _ => ?_)
  refine g_as (t := 38) (u := .bool true) rfl (by simp) rfl ?_
  refine g_pu rfl rfl rfl (pu_not rfl rfl) ?_
  refine g_nil ?_
  (repeat refine g_seq ?_)
  refine g_cond_f rfl (g_skip ?_)
  by_cases hok : xorOk ls = true
  · have hE : xorE ls = 0 := by simp [xorE, hok]
    obtain ⟨hok2, hV2⟩ := xor_back hok
    have hE2 : xorE (ls ++ [xorV ls]) = 0 := by simp [xorE, hok2]
    rw [hE]
    (repeat refine g_seq ?_)
    refine g_region ?_
    refine g_pu rfl rfl rfl (pu_move rfl rfl) ?_
    first | refine g_pu rfl rfl rfl (pu_neq_t rfl rfl rfl (by omega)) ?_ | refine g_pu rfl rfl rfl (pu_neq_f rfl rfl rfl (by omega)) ?_ | refine g_pu rfl rfl rfl (pu_neq rfl rfl rfl) ?_
    refine g_nil ?_
    (repeat refine g_seq ?_)
    refine g_cond_f rfl (g_skip ?_)
    (repeat refine g_seq ?_)
    refine g_region ?_
    refine g_pu rfl rfl rfl (pu_move rfl rfl) ?_
    refine g_call [44, 144] rfl rfl rfl rfl rfl rfl (fun w' hm => Copies_b w' c (ha.m hm)) (fun x44 h44 => ?_)
    refine g_pu rfl rfl rfl (pu_move rfl rfl) ?_
    refine g_lo [46] rfl rfl rfl rfl (lo_buildSlice rfl rfl (by decide) (by decide) rfl rfl) (fun b46 hb46 => ?_)
    refine g_append1 44 [x26.sl (xorV ls).length] rfl rfl rfl rfl rfl rfl rfl rfl h44.1 (fun w' hm => hm.row 46 (J := []) rfl) rfl (fun u hu => by obtain rfl := List.mem_singleton.1 hu; rfl) (by omega) (by omega) (fun p' c' => ?_)
    refine g_call [48] rfl rfl rfl rfl rfl rfl (fun w' hm => Xor_b w' _ (L := x44.L ++ [x26.sl (xorV ls).length]) (ls := ls ++ [xorV ls]) ⟨Own.rd (hm.holds 44 _ rfl), by simp [h44.1], All2.append ((hm.holds 144 _ rfl : All2 (IsB x44.S w') x44.L ls).imp fun _ _ hx => hx.imp fun _ _ => trivial) (All2.cons (IsB.own 26 rfl hm rfl hvl) All2.nil), by omega⟩ (by have := Own.le (hm.holds 44 _ rfl); simp [h44.1] at this; exact this)) (fun x48 _ => ?_)
    rw [hE2, hV2]
    refine g_pu rfl rfl rfl (pu_move rfl rfl) ?_
    refine g_pu rfl rfl rfl (pu_extract rfl rfl rfl) ?_
    refine g_pu rfl rfl rfl (pu_extract rfl rfl rfl) ?_
    refine g_pu rfl rfl rfl (pu_assign rfl rfl) ?_
    refine g_pu rfl rfl rfl (pu_assign rfl rfl) ?_
    refine g_nil ?_
    (repeat refine g_seq ?_)
    refine g_region ?_
    refine g_pu rfl rfl rfl (pu_move rfl rfl) ?_
    first | refine g_pu rfl rfl rfl (pu_eql_t rfl rfl rfl (by omega)) ?_ | refine g_pu rfl rfl rfl (pu_eql_f rfl rfl rfl (by omega)) ?_ | refine g_pu rfl rfl rfl (pu_eql rfl rfl rfl) ?_
    refine g_pu rfl rfl rfl (pu_move rfl rfl) ?_
    first | refine g_pass rfl rfl rfl ?_ | refine g_pu rfl rfl rfl (pu_move rfl rfl) ?_
    first | refine g_pass rfl rfl rfl ?_ | refine g_pu rfl rfl rfl (pu_move rfl rfl) ?_
    first | refine g_pass rfl rfl rfl ?_ | refine g_pu rfl rfl rfl (pu_len rfl rfl) ?_ | refine g_pu rfl rfl rfl (pu_lenS rfl rfl) ?_
    refine g_lo [57] rfl rfl rfl rfl (lo_make (n := (xorV ls).length) (c := (xorV ls).length) rfl rfl rfl (by omega) (by omega) (by omega) rfl) (fun b57 hb57 => ?_)
    refine g_call [] rfl rfl rfl rfl rfl rfl (fun w' hm => Equal_b w' _ _ (a := List.replicate (xorV ls).length 0#8) (b := List.replicate (xorV ls).length 0#8) (By.ow 48 rfl hm rfl (by simpa using hvl)) ⟨hm.rowA 57 (by simp only [bs, List.map_replicate]; rfl), by simp, hvl⟩) (fun _ _ => ?_)
    refine g_as (t := 58) (u := .bool true) rfl (by simp) rfl ?_
    first | refine g_pu rfl rfl rfl (pu_pick_t rfl rfl rfl) ?_ | refine g_pu rfl rfl rfl (pu_pick_f rfl rfl rfl) ?_
    refine g_pu rfl rfl rfl (pu_assign rfl rfl) ?_
    refine g_nil ?_
    exact g_ret1 rfl rfl (fun w' hm => ⟨(), trivial, rfl, hm.grows [] trivial rfl⟩)
  · have hE : xorE ls = 2 := by simp [xorE, hok]
    rw [hE]
    (repeat refine g_seq ?_)
    refine g_region ?_
    refine g_pu rfl rfl rfl (pu_move rfl rfl) ?_
    first | refine g_pu rfl rfl rfl (pu_neq_t rfl rfl rfl (by omega)) ?_ | refine g_pu rfl rfl rfl (pu_neq_f rfl rfl rfl (by omega)) ?_ | refine g_pu rfl rfl rfl (pu_neq rfl rfl rfl) ?_
    refine g_nil ?_
    (repeat refine g_seq ?_)
    refine g_cond_t rfl ?_
    (repeat refine g_seq ?_)
    refine g_region ?_
    refine g_pu rfl rfl rfl (pu_assign rfl rfl) ?_
    refine g_nil ?_
    exact g_ret1 rfl rfl (fun w' hm => ⟨(), trivial, rfl, hm.grows [] trivial rfl⟩)
end Go.Sx
